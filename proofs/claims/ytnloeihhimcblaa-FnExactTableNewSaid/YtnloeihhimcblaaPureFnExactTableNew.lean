/- What the law FnExactTableNew computes is the answer true, for all arguments within the bounds that the statement's own reading gives. No other condition. -/
import Derived.OpenShut
import Derived.Test.YtnloeihhimcblaaQFnExactTableNewx6
namespace Go.Proofs.Ytnloeihhimcblaa.Pure
open Go.RowKit Go.Proofs.Ytnloeihhimcblaa.QFnExactTableNew Go.Proofs.YtnloeihhimcblaaW.PrintWords Go.Proofs.YtnloeihhimcblaaW.PrintLast
set_option linter.unusedVariables false
set_option linter.unusedSimpArgs false
def laws_FnExactTableNew.Pure : Prop := ∀ (a0_0 : Int) (a0_1 : Int) (a0_2 : Int) (a0_3 : Int) (a0_4 : Int) (a0_5 : Int), (Lit.int .i64 a0_0).wf = true → (Lit.int .i64 a0_1).wf = true → (Lit.int .i64 a0_2).wf = true → (Lit.int .i64 a0_3).wf = true → (Lit.int .i64 a0_4).wf = true → (Lit.int .i64 a0_5).wf = true → ∃ k, laws_FnExactTableNew.f k a0_0 a0_1 a0_2 a0_3 a0_4 a0_5 = some true
theorem w1 {i : Nat} (h : i < 9223372036854775807) : wrap64 ((i : Int) + 1) = ((i + 1 : Nat) : Int) := by unfold wrap64; omega
theorem rd_nat (xs : List Int) (i : Nat) : rd xs (i : Int) = xs.getD i 0 := by simp [rd]
theorem getD_lt (xs : List Int) (i : Nat) (h : i < xs.length) : xs.getD i 0 = xs[i] := by simp [List.getD, List.getElem?_eq_getElem h]
theorem drop_cons (xs : List Int) (i : Nat) (h : i < xs.length) : xs.drop i = xs.getD i 0 :: xs.drop (i + 1) := by rw [getD_lt xs i h]; exact List.drop_eq_getElem_cons h
theorem set_take {x l : List Int} {i : Nat} (hi : i < l.length) (hx : x.length = l.length) (ht : x.take i = l.take i) : (x.set i (l.getD i 0)).take (i + 1) = l.take (i + 1) := by
  apply List.ext_getElem?
  intro j
  have hj := congrArg (fun z => z[j]?) ht
  simp only [List.getElem?_take] at hj ⊢
  by_cases h1 : j < i + 1
  · rw [if_pos h1, if_pos h1, List.getElem?_set]
    by_cases h2 : i = j
    · subst h2
      rw [if_pos rfl, if_pos (by omega), List.getElem?_eq_getElem hi, getD_lt l i hi]
    · rw [if_neg h2]
      rw [if_pos (by omega), if_pos (by omega)] at hj
      exact hj
  · rw [if_neg h1, if_neg h1]
/-- A loop that copies a slice, each element by a function of its own. -/
theorem copy_gen {α β : Type} (F : Nat → List α → List β → Int → Option (List β)) (c : α → β) (x0 : List α) (K : Nat)
    (step : ∀ (k i : Nat) (x3 : List β) (h : i < x0.length), x3.length = x0.length → K ≤ k → F (k + 1) x0 x3 (i : Int) = F k x0 (x3.set i (c x0[i])) ((i + 1 : Nat) : Int))
    (last : ∀ (k : Nat) (x3 : List β), F (k + 1) x0 x3 (x0.length : Int) = some x3) :
    ∀ (d k i : Nat) (x3 : List β), x0.length - i = d → i ≤ x0.length → x3.length = x0.length → x3.take i = (x0.map c).take i → d + K < k → F k x0 x3 (i : Int) = some (x0.map c) := by
  intro d
  induction d with
  | zero =>
    intro k i x3 hd hi hx ht hk
    obtain ⟨k, rfl⟩ : ∃ m, k = m + 1 := ⟨k - 1, by omega⟩
    have e : i = x0.length := by omega
    subst e
    rw [last]
    rw [List.take_of_length_le (by omega), List.take_of_length_le (by simp)] at ht
    rw [ht]
  | succ d ih =>
    intro k i x3 hd hi hx ht hk
    obtain ⟨k, rfl⟩ : ∃ m, k = m + 1 := ⟨k - 1, by omega⟩
    have h : i < x0.length := by omega
    rw [step k i x3 h hx (by omega)]
    refine ih k (i + 1) _ (by omega) (by omega) (by simpa using hx) ?_ (by omega)
    apply List.ext_getElem?
    intro j
    have hj := congrArg (fun z => z[j]?) ht
    simp only [List.getElem?_take] at hj ⊢
    by_cases h1 : j < i + 1
    · rw [if_pos h1, if_pos h1, List.getElem?_set]
      by_cases h2 : i = j
      · subst h2
        rw [if_pos rfl, if_pos (by omega)]
        simp [h]
      · rw [if_neg h2]
        rw [if_pos (by omega), if_pos (by omega)] at hj
        exact hj
    · rw [if_neg h1, if_neg h1]
/-- A loop that looks at two equal slices. -/
theorem same_gen {β : Type} (G : Nat → List β → List β → Int → Option Bool) (x : List β) (K : Nat)
    (step : ∀ (k i : Nat) (h : i < x.length), K ≤ k → G (k + 1) x x (i : Int) = G k x x ((i + 1 : Nat) : Int))
    (last : ∀ (k : Nat), G (k + 1) x x (x.length : Int) = some true) :
    ∀ (d k i : Nat), x.length - i = d → i ≤ x.length → d + K < k → G k x x (i : Int) = some true := by
  intro d
  induction d with
  | zero =>
    intro k i hd hi hk
    obtain ⟨k, rfl⟩ : ∃ m, k = m + 1 := ⟨k - 1, by omega⟩
    have e : i = x.length := by omega
    subst e
    exact last k
  | succ d ih =>
    intro k i hd hi hk
    obtain ⟨k, rfl⟩ : ∃ m, k = m + 1 := ⟨k - 1, by omega⟩
    rw [step k i (by omega) (by omega)]
    exact ih k (i + 1) (by omega) (by omega) (by omega)
theorem eqInt_l0 (a b : List Int) (hab : a.length = b.length) (hn : a.length ≤ 4611686018427387904) : ∀ (d k i : Nat), a.length - i = d → i ≤ a.length → d < k → laws_eqIntS.l0 k a b (i : Int) = some (decide (a.drop i = b.drop i)) := by
  intro d
  induction d with
  | zero =>
    intro k i hd hi hk
    obtain ⟨k, rfl⟩ : ∃ m, k = m + 1 := ⟨k - 1, by omega⟩
    simp only [laws_eqIntS.l0]
    rw [if_neg (by omega), List.drop_eq_nil_of_le (by omega), List.drop_eq_nil_of_le (by omega)]
    simp
  | succ d ih =>
    intro k i hd hi hk
    obtain ⟨k, rfl⟩ : ∃ m, k = m + 1 := ⟨k - 1, by omega⟩
    simp only [laws_eqIntS.l0]
    rw [if_pos (by omega), if_pos (by omega), if_pos (by omega), rd_nat, rd_nat, drop_cons a i (by omega), drop_cons b i (by omega)]
    by_cases h : a.getD i 0 = b.getD i 0
    · rw [if_pos h, w1 (by omega), ih k (i + 1) (by omega) (by omega) (by omega), h]
      simp
    · rw [if_neg h]
      simp only [List.cons.injEq, h, false_and, decide_false]
theorem eqInt_some (a b : List Int) (hn : a.length ≤ 4611686018427387904) {k : Nat} (hk : a.length < k) : laws_eqIntS.f k a b = some (decide (a = b)) := by
  unfold laws_eqIntS.f
  by_cases h : a.length = b.length
  · rw [if_pos (by omega)]
    have := eqInt_l0 a b h hn a.length k 0 (by omega) (by omega) hk
    simpa using this
  · rw [if_neg (by omega)]
    have : a ≠ b := fun e => h (by rw [e])
    simp [this]
theorem eqInt_same (a : List Int) (hn : a.length ≤ 4611686018427387904) {k : Nat} (hk : a.length < k) : laws_eqIntS.f k a a = some true := by
  rw [eqInt_some a a hn hk]; simp
theorem rdT_i (xs : List S84) (i : Nat) (h : i < xs.length) : rd_T84 xs (i : Int) = xs[i] := by simp [rd_T84, List.getElem?_eq_getElem h]
theorem rdN_i (xs : List S37) (i : Nat) (h : i < xs.length) : rd_T37 xs (i : Int) = xs[i] := by simp [rd_T37, List.getElem?_eq_getElem h]
theorem eqThing1_same (a b c : Int) : laws_eqThing.f a b c a b c = some true := by simp [laws_eqThing.f]
theorem eqThing_same (x : List S84) (hn : x.length ≤ 4611686018427387904) {k : Nat} (hk : x.length < k) : laws_eqThingS.f k x x = some true := by
  unfold laws_eqThingS.f
  rw [if_pos rfl]
  refine same_gen laws_eqThingS.l0 x 0 ?_ ?_ x.length k 0 (by omega) (by omega) (by omega)
  · intro k i h _
    have c1 : (i : Int) < (x.length : Int) := by omega
    have c2 : (0 : Int) ≤ (i : Int) := by omega
    rw [laws_eqThingS.l0, if_pos c1, if_pos c2, if_pos c1, eqThing1_same, Option.bind_some, if_pos rfl, w1 (by omega)]
  · intro k
    rw [laws_eqThingS.l0, if_neg (Int.lt_irrefl _)]
theorem eqNode1_same (b0 b1 b2 b3 b4 b5 b6 b7 : Int) (l8 : List Int) (b9 b10 : Int) (l11 : List S84) (l12 : List Int) (h8 : l8.length ≤ 1048576) (h11 : l11.length ≤ 1048576) (h12 : l12.length ≤ 1048576) {k : Nat} (hk : 1048576 < k) :
    laws_eqNode.f k b0 b1 b2 b3 b4 b5 b6 b7 l8 b9 b10 l11 l12 b0 b1 b2 b3 b4 b5 b6 b7 l8 b9 b10 l11 l12 = some true := by
  unfold laws_eqNode.f
  rw [if_pos rfl, if_pos rfl, if_pos rfl, if_pos rfl, if_pos rfl, if_pos rfl, if_pos rfl, if_pos rfl, eqInt_same l8 (by omega) (by omega), Option.bind_some, if_pos rfl, if_pos rfl, if_pos rfl, eqThing_same l11 (by omega) (by omega), Option.bind_some, if_pos rfl, eqInt_same l12 (by omega) (by omega), Option.bind_some, if_pos rfl]
theorem eqNodeS_same (x : List S37) (hl : x.length ≤ 1048576) (hf : ∀ y ∈ x, y.f8.length ≤ 1048576 ∧ y.f11.length ≤ 1048576 ∧ y.f12.length ≤ 1048576) {k : Nat} (hk : 2097154 < k) : laws_eqNodeS.f k x x = some true := by
  unfold laws_eqNodeS.f
  rw [if_pos rfl]
  refine same_gen laws_eqNodeS.l0 x 1048577 ?_ ?_ x.length k 0 (by omega) (by omega) (by omega)
  · intro k i h hk
    have c1 : (i : Int) < (x.length : Int) := by omega
    have c2 : (0 : Int) ≤ (i : Int) := by omega
    have g := hf x[i] (List.getElem_mem _)
    rw [laws_eqNodeS.l0, if_pos c1, if_pos c2, if_pos c1, rdN_i x i h, eqNode1_same _ _ _ _ _ _ _ _ _ _ _ _ _ g.1 g.2.1 g.2.2 (by omega), Option.bind_some, if_pos rfl, w1 (by omega)]
  · intro k
    rw [laws_eqNodeS.l0, if_neg (Int.lt_irrefl _)]
theorem within_some (a l h : Int) : spec_l1In.f a l h = some (decide (l ≤ a ∧ a ≤ h)) := by
  unfold spec_l1In.f; by_cases g : a ≥ l
  · rw [if_pos g]; congr 1; simp; omega
  · rw [if_neg g]; congr 1; simp; omega
def ConfIn (a b c d e f : Int) : Prop := (2 ≤ a ∧ a ≤ 12) ∧ (8 ≤ b ∧ b ≤ 16) ∧ (2 ≤ c ∧ c ≤ 8) ∧ (1 ≤ d ∧ d ≤ 8) ∧ (1 ≤ e ∧ e ≤ 16) ∧ (1 ≤ f ∧ f ≤ 4)
instance (a b c d e f : Int) : Decidable (ConfIn a b c d e f) := by unfold ConfIn; infer_instance
theorem conf_some (a b c d e f : Int) : spec_ConfOk.f a b c d e f = some (decide (ConfIn a b c d e f)) := by
  unfold spec_ConfOk.f
  simp only [within_some, Option.bind_some, decide_eq_true_eq]
  unfold ConfIn
  by_cases h1 : 2 ≤ a ∧ a ≤ 12
  · rw [if_pos h1]
    by_cases h2 : 8 ≤ b ∧ b ≤ 16
    · rw [if_pos h2]
      by_cases h3 : 2 ≤ c ∧ c ≤ 8
      · rw [if_pos h3]
        by_cases h4 : 1 ≤ d ∧ d ≤ 8
        · rw [if_pos h4]
          by_cases h5 : 1 ≤ e ∧ e ≤ 16
          · rw [if_pos h5]; congr 1; simp [h1, h2, h3, h4, h5]
          · rw [if_neg h5]; congr 1; simp [h1, h2, h3, h4, h5]
        · rw [if_neg h4]; congr 1; simp [h1, h2, h3, h4]
      · rw [if_neg h3]; congr 1; simp [h1, h2, h3]
    · rw [if_neg h2]; congr 1; simp [h1, h2]
  · rw [if_neg h1]; congr 1; simp [h1]
def marksInt (m n : Nat) : List Int := (List.range n).map fun j => (((m + j : Nat) : Int))
theorem marksInt_length (m n : Nat) : (marksInt m n).length = n := by simp [marksInt]
theorem marksInt_getD (m n i : Nat) (h : i < n) : (marksInt m n).getD i 0 = (((m + i : Nat) : Int)) := by simp [marksInt, List.getD, h]
theorem markInt_l0 (m n : Nat) (hn : m + n ≤ 4611686018427387904) : ∀ (d k i : Nat) (x : List Int), n - i = d → i ≤ n → d < k → x.length = n → x.take i = (marksInt m n).take i → laws_markIntS.l0 k x ((m + i : Nat) : Int) (i : Int) = some (((m + n : Nat) : Int), marksInt m n) := by
  intro d
  induction d with
  | zero =>
    intro k i x hd hi hk hx ht
    obtain ⟨k, rfl⟩ : ∃ m, k = m + 1 := ⟨k - 1, by omega⟩
    simp only [laws_markIntS.l0]
    rw [if_neg (by omega)]
    rw [List.take_of_length_le (by omega), List.take_of_length_le (by rw [marksInt_length]; omega)] at ht
    rw [ht, show m + i = m + n by omega]
  | succ d ih =>
    intro k i x hd hi hk hx ht
    obtain ⟨k, rfl⟩ : ∃ m, k = m + 1 := ⟨k - 1, by omega⟩
    simp only [laws_markIntS.l0]
    rw [if_pos (by omega), if_pos (by omega), w1 (by omega), w1 (by omega)]
    have := ih k (i + 1) (x.set i (((m + i : Nat) : Int))) (by omega) (by omega) (by omega) (by simpa using hx) (by
      rw [← marksInt_getD m n i (by omega)]
      exact set_take (by rw [marksInt_length]; omega) (by rw [marksInt_length]; exact hx) ht)
    rw [Int.toNat_natCast]
    exact this
theorem markInt_some (x : List Int) (m : Nat) (hn : m + x.length ≤ 4611686018427387904) {k : Nat} (hk : x.length < k) : laws_markIntS.f k x (m : Int) = some (((m + x.length : Nat) : Int), marksInt m x.length) := by
  unfold laws_markIntS.f
  exact markInt_l0 m x.length hn x.length k 0 x (by omega) (by omega) hk rfl rfl
theorem heldInt_l0 (m n : Nat) (hn : m + n ≤ 4611686018427387904) : ∀ (d k i : Nat), n - i = d → i ≤ n → d < k → laws_heldIntS.l0 k (marksInt m n) ((m + i : Nat) : Int) (i : Int) = some ((m + n : Nat) : Int) := by
  intro d
  induction d with
  | zero =>
    intro k i hd hi hk
    obtain ⟨k, rfl⟩ : ∃ m, k = m + 1 := ⟨k - 1, by omega⟩
    simp only [laws_heldIntS.l0]
    rw [if_neg (by rw [marksInt_length]; omega), show m + i = m + n by omega]
  | succ d ih =>
    intro k i hd hi hk
    obtain ⟨k, rfl⟩ : ∃ m, k = m + 1 := ⟨k - 1, by omega⟩
    simp only [laws_heldIntS.l0]
    rw [if_pos (by rw [marksInt_length]; omega), if_pos (by omega), rd_nat, marksInt_getD m n i (by omega), if_pos rfl, w1 (by omega), w1 (by omega)]
    exact ih k (i + 1) (by omega) (by omega) (by omega)
theorem heldInt_some (m n : Nat) (hn : m + n ≤ 4611686018427387904) {k : Nat} (hk : n < k) : laws_heldIntS.f k (marksInt m n) (m : Int) = some ((m + n : Nat) : Int) := by
  unfold laws_heldIntS.f
  exact heldInt_l0 m n hn n k 0 (by omega) (by omega) hk
theorem markInt_one (x : List Int) (hn : x.length ≤ 4611686018427387) {k : Nat} (hk : x.length < k) : laws_markIntS.f k x 1 = some (((1 + x.length : Nat) : Int), marksInt 1 x.length) := markInt_some x 1 (by omega) hk
theorem heldInt_one (n : Nat) (hn : n ≤ 4611686018427387) {k : Nat} (hk : n < k) : laws_heldIntS.f k (marksInt 1 n) 1 = some ((1 + n : Nat) : Int) := heldInt_some 1 n (by omega) hk
theorem rdT_at (pre t : List S84) (y : S84) : rd_T84 (pre ++ y :: t) ((pre.length : Nat) : Int) = y := by
  simp [rd_T84]
theorem rdN_at (pre t : List S37) (y : S37) : rd_T37 (pre ++ y :: t) ((pre.length : Nat) : Int) = y := by
  simp [rd_T37]
theorem set_at {α : Type} (pre t : List α) (y z : α) : (pre ++ y :: t).set (((pre.length : Nat) : Int)).toNat z = pre ++ z :: t := by
  simp
def marksTh (m : Nat) : List S84 → List S84
  | [] => []
  | _ :: t => ⟨(m : Int), ((m + 1 : Nat) : Int), ((m + 1 + 1 : Nat) : Int)⟩ :: marksTh (m + 3) t
theorem marksTh_length : ∀ (l : List S84) (m : Nat), (marksTh m l).length = l.length
  | [], _ => rfl
  | _ :: t, m => by simp [marksTh, marksTh_length t]
theorem idx_ok (a b : Nat) (k : Nat) (h : b + 1 < k + 1) : ((a : Nat) : Int) < ((a + (b + 1) : Nat) : Int) ∧ (0 : Int) ≤ (a : Int) ∧ b < k := by omega
theorem w_step (m n : Nat) (h : m + n ≤ 4611686018427387904) : wrap64 ((m : Int) + 1) = ((m + 1 : Nat) : Int) := w1 (by omega)
theorem markTh_go : ∀ (rest pre : List S84) (k m : Nat), rest.length < k → m + 3 * rest.length ≤ 4611686018427387000 → pre.length + rest.length ≤ 4611686018427387000 →
    laws_markThingS.l0 k (pre ++ rest) (m : Int) ((pre.length : Nat) : Int) = some (((m + 3 * rest.length : Nat) : Int), pre ++ marksTh m rest)
  | [], pre, k, m, hk, hm, hp => by
    obtain ⟨k, rfl⟩ : ∃ z, k = z + 1 := ⟨k - 1, by simp at hk; omega⟩
    simp only [laws_markThingS.l0, List.append_nil]
    rw [if_neg (Int.lt_irrefl _)]
    simp [marksTh]
  | y :: t, pre, k, m, hk, hm, hp => by
    cases k with
    | zero => simp at hk
    | succ k =>
    rw [List.length_cons] at hk hm hp
    obtain ⟨i1, i2, i3⟩ := idx_ok pre.length t.length k hk
    simp only [laws_markThingS.l0, rdT_at, set_at, Option.bind_some, List.length_append, List.length_cons]
    have e1 : wrap64 ((m : Int) + 1) = ((m + 1 : Nat) : Int) := w1 (by omega)
    have e2 : wrap64 (((m + 1 : Nat) : Int) + 1) = ((m + 1 + 1 : Nat) : Int) := w1 (by omega)
    have e3 : wrap64 (((m + 1 + 1 : Nat) : Int) + 1) = ((m + 3 : Nat) : Int) := w1 (by omega)
    have e4 : wrap64 (((pre.length : Nat) : Int) + 1) = ((pre.length + 1 : Nat) : Int) := w1 (by omega)
    rw [if_pos i1, if_pos i2, e1, e2, e3, e4]
    have := markTh_go t (pre ++ [⟨(m : Int), ((m + 1 : Nat) : Int), ((m + 1 + 1 : Nat) : Int)⟩]) k (m + 3) i3 (by omega) (by rw [List.length_append, List.length_singleton]; omega)
    rw [List.length_append, List.length_singleton, List.append_assoc, List.append_assoc] at this
    rw [show m + 3 * (t.length + 1) = m + 3 + 3 * t.length by omega]
    exact this
theorem markTh_some (x : List S84) (m : Nat) (hm : m + 3 * x.length ≤ 4611686018427387000) {k : Nat} (hk : x.length < k) : laws_markThingS.f k x (m : Int) = some (((m + 3 * x.length : Nat) : Int), marksTh m x) := by
  unfold laws_markThingS.f
  exact markTh_go x [] k m hk hm (by simp; omega)
theorem heldTh_go : ∀ (rest pre : List S84) (k m : Nat), rest.length < k → m + 3 * rest.length ≤ 4611686018427387000 → pre.length + rest.length ≤ 4611686018427387000 →
    laws_heldThingS.l0 k (pre ++ marksTh m rest) (m : Int) ((pre.length : Nat) : Int) = some ((m + 3 * rest.length : Nat) : Int)
  | [], pre, k, m, hk, hm, hp => by
    obtain ⟨k, rfl⟩ : ∃ z, k = z + 1 := ⟨k - 1, by simp at hk; omega⟩
    simp only [laws_heldThingS.l0, marksTh, List.append_nil]
    rw [if_neg (Int.lt_irrefl _)]
    simp [marksTh]
  | y :: t, pre, k, m, hk, hm, hp => by
    cases k with
    | zero => simp at hk
    | succ k =>
    rw [List.length_cons] at hk hm hp
    obtain ⟨i1, i2, i3⟩ := idx_ok pre.length t.length k hk
    simp only [laws_heldThingS.l0, marksTh, rdT_at, List.length_append, List.length_cons, marksTh_length]
    have e1 : wrap64 ((m : Int) + 1) = ((m + 1 : Nat) : Int) := w1 (by omega)
    have e2 : wrap64 (((m + 1 : Nat) : Int) + 1) = ((m + 1 + 1 : Nat) : Int) := w1 (by omega)
    have e3 : wrap64 (((m + 1 + 1 : Nat) : Int) + 1) = ((m + 3 : Nat) : Int) := w1 (by omega)
    have e4 : wrap64 (((pre.length : Nat) : Int) + 1) = ((pre.length + 1 : Nat) : Int) := w1 (by omega)
    rw [if_pos i1, if_pos i2, e1, e2, e3, e4]
    simp only [↓reduceIte]
    have := heldTh_go t (pre ++ [⟨(m : Int), ((m + 1 : Nat) : Int), ((m + 1 + 1 : Nat) : Int)⟩]) k (m + 3) i3 (by omega) (by rw [List.length_append, List.length_singleton]; omega)
    rw [List.length_append, List.length_singleton, List.append_assoc] at this
    rw [show m + 3 * (t.length + 1) = m + 3 + 3 * t.length by omega]
    exact this
theorem heldTh_some (x : List S84) (m : Nat) (hm : m + 3 * x.length ≤ 4611686018427387000) {k : Nat} (hk : x.length < k) : laws_heldThingS.f k (marksTh m x) (m : Int) = some ((m + 3 * x.length : Nat) : Int) := by
  unfold laws_heldThingS.f
  exact heldTh_go x [] k m hk hm (by simp; omega)
/-- How many marks a node takes. -/
def nmk (y : S37) : Nat := 10 + y.f8.length + 3 * y.f11.length + y.f12.length
def tot : List S37 → Nat
  | [] => 0
  | y :: t => nmk y + tot t
def mk1 (m : Nat) (y : S37) : S37 := ⟨(m : Int), ((m + 1 : Nat) : Int), ((m + 2 : Nat) : Int), ((m + 3 : Nat) : Int), ((m + 4 : Nat) : Int), ((m + 5 : Nat) : Int), ((m + 6 : Nat) : Int), ((m + 7 : Nat) : Int), marksInt (m + 8) y.f8.length, ((m + 8 + y.f8.length : Nat) : Int), ((m + 8 + y.f8.length + 1 : Nat) : Int), marksTh (m + 8 + y.f8.length + 2) y.f11, marksInt (m + 8 + y.f8.length + 2 + 3 * y.f11.length) y.f12.length⟩
def mkL (m : Nat) : List S37 → List S37
  | [] => []
  | y :: t => mk1 m y :: mkL (m + nmk y) t
theorem mkL_length : ∀ (l : List S37) (m : Nat), (mkL m l).length = l.length
  | [], _ => rfl
  | _ :: t, m => by simp [mkL, mkL_length t]
theorem nmk_eq (m : Nat) (y : S37) : m + 8 + y.f8.length + 2 + 3 * y.f11.length + y.f12.length = m + nmk y := by unfold nmk; omega
theorem node_bounds (m a b c T : Nat) (h : m + (10 + a + 3 * b + c + T) ≤ 4611686018427387000) : m + 10 ≤ 4611686018427387000 ∧ m + 8 + a ≤ 4611686018427387000 ∧ m + 8 + a + 2 ≤ 4611686018427387000 ∧ m + 8 + a + 2 + 3 * b ≤ 4611686018427387000 ∧ m + 8 + a + 2 + 3 * b + c ≤ 4611686018427387000 ∧ m + (10 + a + 3 * b + c) + T ≤ 4611686018427387000 := by omega
theorem w1' {i : Nat} (h : i ≤ 4611686018427387000) : wrap64 ((i : Int) + 1) = ((i + 1 : Nat) : Int) := w1 (by omega)
theorem le_weak {a b c : Nat} (h : a + b ≤ c) : a ≤ c := by omega
theorem eights (m : Nat) (h : m + 10 ≤ 4611686018427387000) : wrap64 ((m : Int) + 1) = ((m + 1 : Nat) : Int) ∧ wrap64 (((m + 1 : Nat) : Int) + 1) = ((m + 2 : Nat) : Int) ∧ wrap64 (((m + 2 : Nat) : Int) + 1) = ((m + 3 : Nat) : Int) ∧ wrap64 (((m + 3 : Nat) : Int) + 1) = ((m + 4 : Nat) : Int) ∧ wrap64 (((m + 4 : Nat) : Int) + 1) = ((m + 5 : Nat) : Int) ∧ wrap64 (((m + 5 : Nat) : Int) + 1) = ((m + 6 : Nat) : Int) ∧ wrap64 (((m + 6 : Nat) : Int) + 1) = ((m + 7 : Nat) : Int) ∧ wrap64 (((m + 7 : Nat) : Int) + 1) = ((m + 8 : Nat) : Int) := by
  refine ⟨w1' (by omega), w1' (by omega), w1' (by omega), w1' (by omega), w1' (by omega), w1' (by omega), w1' (by omega), w1' (by omega)⟩
def Few (k : Nat) (y : S37) : Prop := y.f8.length < k ∧ y.f11.length < k ∧ y.f12.length < k
theorem no_neg : ∀ z : Nat, ¬ ((z : Nat) : Int) < 0 := fun z => by omega
theorem markN_go (K : Nat) : ∀ (rest pre : List S37) (k m : Nat), (∀ y, y ∈ rest → Few K y) → rest.length + K < k → m + tot rest ≤ 4611686018427387000 → pre.length + rest.length ≤ 4611686018427387000 →
    laws_markNodeS.l0 k (pre ++ rest) (m : Int) ((pre.length : Nat) : Int) = some (((m + tot rest : Nat) : Int), pre ++ mkL m rest)
  | [], pre, k, m, hf, hk, hm, hp => by
    obtain ⟨k, rfl⟩ : ∃ z, k = z + 1 := ⟨k - 1, by omega⟩
    simp only [laws_markNodeS.l0, List.append_nil]
    rw [if_neg (Int.lt_irrefl _)]
    simp [mkL, tot]
  | y :: t, pre, k, m, hf, hk, hm, hp => by
    cases k with
    | zero => exact absurd hk (Nat.not_lt_zero _)
    | succ k =>
    rw [List.length_cons] at hk hp
    have hk2 : t.length + 1 < k + 1 := by omega
    have hk3 : K < k := by omega
    have hk4 : t.length + K < k := by omega
    have hp3 : pre.length + 1 + t.length ≤ 4611686018427387000 := by omega
    obtain ⟨i1, i2, -⟩ := idx_ok pre.length t.length k hk2
    have hm' : m + (10 + y.f8.length + 3 * y.f11.length + y.f12.length + tot t) ≤ 4611686018427387000 := hm
    obtain ⟨b1, b2, b3, b4, b5, b6⟩ := node_bounds m y.f8.length y.f11.length y.f12.length (tot t) hm'
    obtain ⟨g1, g2, g3⟩ := hf y List.mem_cons_self
    obtain ⟨e1, e2, e3, e4, e5, e6, e7, e8⟩ := eights m b1
    have e9 : wrap64 (((m + 8 + y.f8.length : Nat) : Int) + 1) = ((m + 8 + y.f8.length + 1 : Nat) : Int) := w1' b2
    have e10 : wrap64 (((m + 8 + y.f8.length + 1 : Nat) : Int) + 1) = ((m + 8 + y.f8.length + 2 : Nat) : Int) := w1' (Nat.le_of_succ_le b3)
    have e11 : wrap64 (((pre.length : Nat) : Int) + 1) = ((pre.length + 1 : Nat) : Int) := w1' (le_weak hp)
    have f1 := markInt_some y.f8 (m + 8) (Nat.le_trans b2 (by decide)) (k := k) (Nat.lt_trans g1 hk3)
    have f2 := markTh_some y.f11 (m + 8 + y.f8.length + 2) b4 (k := k) (Nat.lt_trans g2 hk3)
    have f3 := markInt_some y.f12 (m + 8 + y.f8.length + 2 + 3 * y.f11.length) (Nat.le_trans b5 (by decide)) (k := k) (Nat.lt_trans g3 hk3)
    simp only [laws_markNodeS.l0, rdN_at, List.length_append, List.length_cons]
    rw [if_pos i1, if_pos i2, e1, e2, e3, e4, e5, e6, e7, e8, f1, Option.bind_some]
    simp only [e9, e10, f2, Option.bind_some, f3, set_at, e11, nmk_eq]
    have := markN_go K t (pre ++ [mk1 m y]) k (m + nmk y) (fun z hz => hf z (List.mem_cons_of_mem _ hz)) hk4 b6 (by rw [List.length_append, List.length_singleton]; exact hp3)
    rw [List.length_append, List.length_singleton, List.append_assoc, List.append_assoc] at this
    rw [show m + tot (y :: t) = m + nmk y + tot t from (Nat.add_assoc _ _ _).symm]
    exact this
theorem heldN_go (K : Nat) : ∀ (rest pre : List S37) (k m : Nat), (∀ y, y ∈ rest → Few K y) → rest.length + K < k → m + tot rest ≤ 4611686018427387000 → pre.length + rest.length ≤ 4611686018427387000 →
    laws_heldNodeS.l0 k (pre ++ mkL m rest) (m : Int) ((pre.length : Nat) : Int) = some ((m + tot rest : Nat) : Int)
  | [], pre, k, m, hf, hk, hm, hp => by
    obtain ⟨k, rfl⟩ : ∃ z, k = z + 1 := ⟨k - 1, by omega⟩
    simp only [laws_heldNodeS.l0, mkL, List.append_nil]
    rw [if_neg (Int.lt_irrefl _)]
    simp [mkL, tot]
  | y :: t, pre, k, m, hf, hk, hm, hp => by
    cases k with
    | zero => exact absurd hk (Nat.not_lt_zero _)
    | succ k =>
    rw [List.length_cons] at hk hp
    have hk2 : t.length + 1 < k + 1 := by omega
    have hk3 : K < k := by omega
    have hk4 : t.length + K < k := by omega
    have hp3 : pre.length + 1 + t.length ≤ 4611686018427387000 := by omega
    obtain ⟨i1, i2, -⟩ := idx_ok pre.length t.length k hk2
    have hm' : m + (10 + y.f8.length + 3 * y.f11.length + y.f12.length + tot t) ≤ 4611686018427387000 := hm
    obtain ⟨b1, b2, b3, b4, b5, b6⟩ := node_bounds m y.f8.length y.f11.length y.f12.length (tot t) hm'
    obtain ⟨g1, g2, g3⟩ := hf y List.mem_cons_self
    obtain ⟨e1, e2, e3, e4, e5, e6, e7, e8⟩ := eights m b1
    have e9 : wrap64 (((m + 8 + y.f8.length : Nat) : Int) + 1) = ((m + 8 + y.f8.length + 1 : Nat) : Int) := w1' b2
    have e10 : wrap64 (((m + 8 + y.f8.length + 1 : Nat) : Int) + 1) = ((m + 8 + y.f8.length + 2 : Nat) : Int) := w1' (Nat.le_of_succ_le b3)
    have e11 : wrap64 (((pre.length : Nat) : Int) + 1) = ((pre.length + 1 : Nat) : Int) := w1' (le_weak hp)
    have f1 := heldInt_some (m + 8) y.f8.length (Nat.le_trans b2 (by decide)) (k := k) (Nat.lt_trans g1 hk3)
    have f2 := heldTh_some y.f11 (m + 8 + y.f8.length + 2) b4 (k := k) (Nat.lt_trans g2 hk3)
    have f3 := heldInt_some (m + 8 + y.f8.length + 2 + 3 * y.f11.length) y.f12.length (Nat.le_trans b5 (by decide)) (k := k) (Nat.lt_trans g3 hk3)
    have n1 := no_neg
    simp only [laws_heldNodeS.l0, mkL, rdN_at, List.length_append, List.length_cons, mkL_length]
    rw [if_pos i1, if_pos i2, e1, e2, e3, e4, e5, e6, e7, e8]
    simp only [mk1, ↓reduceIte, f1, Option.bind_some, n1, e9, e10, f2, f3, e11, nmk_eq]
    have := heldN_go K t (pre ++ [mk1 m y]) k (m + nmk y) (fun z hz => hf z (List.mem_cons_of_mem _ hz)) hk4 b6 (by rw [List.length_append, List.length_singleton]; exact hp3)
    rw [List.length_append, List.length_singleton, List.append_assoc] at this
    rw [show m + tot (y :: t) = m + nmk y + tot t from (Nat.add_assoc _ _ _).symm]
    exact this
theorem tot_le : ∀ (l : List S37) (K : Nat), (∀ y, y ∈ l → Few K y) → tot l ≤ l.length * (10 + 5 * K)
  | [], _, _ => Nat.zero_le _
  | y :: t, K, h => by
    have h1 := tot_le t K (fun z hz => h z (List.mem_cons_of_mem _ hz))
    obtain ⟨g1, g2, g3⟩ := h y List.mem_cons_self
    have h2 : nmk y ≤ 10 + 5 * K := by unfold nmk; omega
    rw [List.length_cons, Nat.succ_mul]
    show nmk y + tot t ≤ _
    omega
theorem tot_small (l : List S37) (hl : l.length ≤ 1048576) (h : ∀ y, y ∈ l → Few 1048577 y) : 1 + tot l ≤ 4611686018427387000 := by
  have h1 := tot_le l 1048577 h
  have h2 : l.length * (10 + 5 * 1048577) ≤ 1048576 * (10 + 5 * 1048577) := Nat.mul_le_mul_right _ hl
  have h3 : 1048576 * (10 + 5 * 1048577) + 1 ≤ 4611686018427387000 := by decide
  omega
theorem markN_some (l : List S37) (hl : l.length ≤ 1048576) (h : ∀ y, y ∈ l → Few 1048577 y) {k : Nat} (hk : 2097153 < k) : laws_markNodeS.f k l 1 = some (((1 + tot l : Nat) : Int), mkL 1 l) := by
  unfold laws_markNodeS.f
  exact markN_go 1048577 l [] k 1 h (by omega) (tot_small l hl h) (by simp; omega)
theorem heldN_some (l : List S37) (hl : l.length ≤ 1048576) (h : ∀ y, y ∈ l → Few 1048577 y) {k : Nat} (hk : 2097153 < k) : laws_heldNodeS.f k (mkL 1 l) 1 = some ((1 + tot l : Nat) : Int) := by
  unfold laws_heldNodeS.f
  exact heldN_go 1048577 l [] k 1 h (by omega) (tot_small l hl h) (by simp; omega)
def n1 : S37 := ⟨0, 1, 0, 0, 0, 0, 0, 0, [], 0, 0, [], []⟩
theorem spec_l0 (a b c d e f : Int) (h : ConfIn a b c d e f) : ∀ (j k i : Nat) (x : List S37), c.toNat - i = j → i ≤ c.toNat → j < k → x.length = i → x = List.replicate i n1 →
    spec_TableNew.l0 k x (i : Int) a b c d e f = some (List.replicate c.toNat n1) := by
  have hc := h.2.2.1
  intro j
  induction j with
  | zero =>
    intro k i x hj hi hk hx he
    obtain ⟨k, rfl⟩ : ∃ m, k = m + 1 := ⟨k - 1, by omega⟩
    simp only [spec_TableNew.l0]
    rw [if_neg (by omega), he, show i = c.toNat by omega]
  | succ j ih =>
    intro k i x hj hi hk hx he
    obtain ⟨k, rfl⟩ : ∃ m, k = m + 1 := ⟨k - 1, by omega⟩
    simp only [spec_TableNew.l0]
    have s0 : spec_NodeNew.f 1 = some (0, 1, 0, 0, 0, 0, 0, 0, [], 0, 0, [], []) := rfl
    rw [if_pos (by omega), conf_some, Option.bind_some, decide_eq_true h, if_pos rfl, s0, Option.bind_some, if_pos (by omega), w1 (by omega)]
    refine ih k (i + 1) _ (by omega) (by omega) (by omega) (by simp [hx]) ?_
    rw [he, List.replicate_succ']
    rfl
theorem spec_out (a b c d e f : Int) (h : ¬ ConfIn a b c d e f) (k : Nat) : spec_TableNew.f (k + 1) a b c d e f = some [] := by
  unfold spec_TableNew.f
  simp only [spec_TableNew.l0]
  by_cases c0 : (0 : Int) < c
  · rw [if_pos c0, conf_some, Option.bind_some, decide_eq_false h, if_neg (by decide)]
  · rw [if_neg c0]
theorem table_both (a b c d e f : Int) (k : Nat) (hk : 20 < k) : ∃ l : List S37, spec_TableNew.f k a b c d e f = some l ∧ impl_TableNew.f a b c d e f = some l ∧ l.length ≤ 8 ∧ ∀ y, y ∈ l → y = n1 := by
  have ic : impl_ConfOk.f a b c d e f = some (decide (ConfIn a b c d e f)) := conf_some a b c d e f
  by_cases h : ConfIn a b c d e f
  · have hc := h.2.2.1
    refine ⟨List.replicate c.toNat n1, ?_, ?_, by rw [List.length_replicate]; omega, fun y hy => List.eq_of_mem_replicate hy⟩
    · unfold spec_TableNew.f
      exact spec_l0 a b c d e f h c.toNat k 0 [] (by omega) (by omega) (by omega) rfl rfl
    · unfold impl_TableNew.f
      rw [ic, Option.bind_some, decide_eq_true h, if_pos rfl, if_pos (by omega)]
      rfl
  · obtain ⟨k, rfl⟩ : ∃ m, k = m + 1 := ⟨k - 1, by omega⟩
    refine ⟨[], spec_out a b c d e f h k, ?_, by simp, by simp⟩
    unfold impl_TableNew.f
    rw [ic, Option.bind_some, decide_eq_false h, if_neg (by decide)]
theorem FnExactTableNew : laws_FnExactTableNew.Pure := by
  intro a b c d e f _ _ _ _ _ _
  obtain ⟨k, hk⟩ : ∃ k : Nat, 4000000 < k := ⟨_, Nat.lt_succ_self _⟩
  refine ⟨k, ?_⟩
  obtain ⟨l, e1, e2, hl, hm⟩ := table_both a b c d e f k (by omega)
  have tc : laws_toConf.f a b c d e f = some (a, b, c, d, e, f) := rfl
  have hf : ∀ y ∈ l, y.f8.length ≤ 1048576 ∧ y.f11.length ≤ 1048576 ∧ y.f12.length ≤ 1048576 := by
    intro y hy
    rw [hm y hy]
    simp [n1]
  have hF : ∀ y, y ∈ l → Few 1048577 y := fun y hy => ⟨by have := hf y hy; omega, by have := hf y hy; omega, by have := hf y hy; omega⟩
  have hn : ¬ (((1 + tot l : Nat) : Int)) < 0 := by omega
  unfold laws_FnExactTableNew.f
  simp only [tc, Option.bind_some, e1, e2, eqNodeS_same l (by omega) hf (show 2097154 < k by omega), ↓reduceIte, markN_some l (by omega) hF (show 2097153 < k by omega), heldN_some l (by omega) hF (show 2097153 < k by omega), hn]
end Go.Proofs.Ytnloeihhimcblaa.Pure
