/- What the law FnExactNodeOk computes is the answer true, for all arguments within the bounds that the statement's own reading gives. No other condition. -/
import Derived.OpenShut
import Derived.Test.YtnloeihhimcblaaQFnExactNodeOkx14
namespace Go.Proofs.Ytnloeihhimcblaa.Pure
open Go.RowKit Go.Proofs.Ytnloeihhimcblaa.QFnExactNodeOk Go.Proofs.YtnloeihhimcblaaW.PrintWords Go.Proofs.YtnloeihhimcblaaW.PrintLast
set_option linter.unusedVariables false
set_option linter.unusedSimpArgs false
def ok118 (x : S118) : Prop := (Lit.int .i64 x.f0).wf = true ∧ (Lit.int .i64 x.f1).wf = true ∧ (Lit.int .i64 x.f2).wf = true
def laws_FnExactNodeOk.Pure : Prop := ∀ (a0_0 : Int) (a0_1 : Int) (a0_2 : Int) (a0_3 : Int) (a0_4 : Int) (a0_5 : Int) (a1_0 : Int) (a1_1 : Int) (a1_2 : Int) (a1_3 : Int) (a1_4 : Int) (a1_5 : Int) (a1_6 : Int) (a1_7 : Int) (l1_8 : List Int) (a1_9 : Int) (a1_10 : Int) (l1_11 : List S118) (l1_12 : List Int), (Lit.int .i64 a0_0).wf = true → (Lit.int .i64 a0_1).wf = true → (Lit.int .i64 a0_2).wf = true → (Lit.int .i64 a0_3).wf = true → (Lit.int .i64 a0_4).wf = true → (Lit.int .i64 a0_5).wf = true → (Lit.int .i64 a1_0).wf = true → (Lit.int .i64 a1_1).wf = true → (Lit.int .i64 a1_2).wf = true → (Lit.int .i64 a1_3).wf = true → (Lit.int .i64 a1_4).wf = true → (Lit.int .i64 a1_5).wf = true → (Lit.int .i64 a1_6).wf = true → (Lit.int .i64 a1_7).wf = true → l1_8.length ≤ maxLen → l1_8.length * 8 ≤ 140737488351232 → (∀ x ∈ l1_8, (Lit.int .i64 x).wf = true) → (Lit.int .i64 a1_9).wf = true → (Lit.int .i64 a1_10).wf = true → l1_11.length ≤ maxLen → l1_11.length * 24 ≤ 140737488351232 → (∀ x ∈ l1_11, ok118 x) → l1_12.length ≤ maxLen → l1_12.length * 8 ≤ 140737488351232 → (∀ x ∈ l1_12, (Lit.int .i64 x).wf = true) → ∃ k, laws_FnExactNodeOk.f k a0_0 a0_1 a0_2 a0_3 a0_4 a0_5 a1_0 a1_1 a1_2 a1_3 a1_4 a1_5 a1_6 a1_7 l1_8 a1_9 a1_10 l1_11 l1_12 = some true
theorem w1 {i : Nat} (h : i < 9223372036854775807) : wrap64 ((i : Int) + 1) = ((i + 1 : Nat) : Int) := by unfold wrap64; omega
theorem rd_nat (xs : List Int) (i : Nat) : rd xs (i : Int) = xs.getD i 0 := by simp [rd]
theorem getD_lt (xs : List Int) (i : Nat) (h : i < xs.length) : xs.getD i 0 = xs[i] := by simp [List.getD, List.getElem?_eq_getElem h]
theorem drop_cons (xs : List Int) (i : Nat) (h : i < xs.length) : xs.drop i = xs.getD i 0 :: xs.drop (i + 1) := by rw [getD_lt xs i h]; exact List.drop_eq_getElem_cons h
theorem set_take {x l : List Int} {i : Nat} (hi : i < l.length) (hx : x.length = l.length) (ht : x.take i = l.take i) : (x.set i (l.getD i 0)).take (i + 1) = l.take (i + 1) := by
  apply List.ext_getElem?
  intro j
  have hj := congrArg (fun z => z[j]?) ht
  simp only [List.getElem?_take] at hj ⊢
  by_cases h1 : j < i + 1
  · rw [if_pos h1, if_pos h1, List.getElem?_set]
    by_cases h2 : i = j
    · subst h2
      rw [if_pos rfl, if_pos (by omega), List.getElem?_eq_getElem hi, getD_lt l i hi]
    · rw [if_neg h2]
      rw [if_pos (by omega), if_pos (by omega)] at hj
      exact hj
  · rw [if_neg h1, if_neg h1]
/-- A loop that copies a slice, each element by a function of its own. -/
theorem copy_gen {α β : Type} (F : Nat → List α → List β → Int → Option (List β)) (c : α → β) (x0 : List α) (K : Nat)
    (step : ∀ (k i : Nat) (x3 : List β) (h : i < x0.length), x3.length = x0.length → K ≤ k → F (k + 1) x0 x3 (i : Int) = F k x0 (x3.set i (c x0[i])) ((i + 1 : Nat) : Int))
    (last : ∀ (k : Nat) (x3 : List β), F (k + 1) x0 x3 (x0.length : Int) = some x3) :
    ∀ (d k i : Nat) (x3 : List β), x0.length - i = d → i ≤ x0.length → x3.length = x0.length → x3.take i = (x0.map c).take i → d + K < k → F k x0 x3 (i : Int) = some (x0.map c) := by
  intro d
  induction d with
  | zero =>
    intro k i x3 hd hi hx ht hk
    obtain ⟨k, rfl⟩ : ∃ m, k = m + 1 := ⟨k - 1, by omega⟩
    have e : i = x0.length := by omega
    subst e
    rw [last]
    rw [List.take_of_length_le (by omega), List.take_of_length_le (by simp)] at ht
    rw [ht]
  | succ d ih =>
    intro k i x3 hd hi hx ht hk
    obtain ⟨k, rfl⟩ : ∃ m, k = m + 1 := ⟨k - 1, by omega⟩
    have h : i < x0.length := by omega
    rw [step k i x3 h hx (by omega)]
    refine ih k (i + 1) _ (by omega) (by omega) (by simpa using hx) ?_ (by omega)
    apply List.ext_getElem?
    intro j
    have hj := congrArg (fun z => z[j]?) ht
    simp only [List.getElem?_take] at hj ⊢
    by_cases h1 : j < i + 1
    · rw [if_pos h1, if_pos h1, List.getElem?_set]
      by_cases h2 : i = j
      · subst h2
        rw [if_pos rfl, if_pos (by omega)]
        simp [h]
      · rw [if_neg h2]
        rw [if_pos (by omega), if_pos (by omega)] at hj
        exact hj
    · rw [if_neg h1, if_neg h1]
/-- A loop that looks at two equal slices. -/
theorem same_gen {β : Type} (G : Nat → List β → List β → Int → Option Bool) (x : List β) (K : Nat)
    (step : ∀ (k i : Nat) (h : i < x.length), K ≤ k → G (k + 1) x x (i : Int) = G k x x ((i + 1 : Nat) : Int))
    (last : ∀ (k : Nat), G (k + 1) x x (x.length : Int) = some true) :
    ∀ (d k i : Nat), x.length - i = d → i ≤ x.length → d + K < k → G k x x (i : Int) = some true := by
  intro d
  induction d with
  | zero =>
    intro k i hd hi hk
    obtain ⟨k, rfl⟩ : ∃ m, k = m + 1 := ⟨k - 1, by omega⟩
    have e : i = x.length := by omega
    subst e
    exact last k
  | succ d ih =>
    intro k i hd hi hk
    obtain ⟨k, rfl⟩ : ∃ m, k = m + 1 := ⟨k - 1, by omega⟩
    rw [step k i (by omega) (by omega)]
    exact ih k (i + 1) (by omega) (by omega) (by omega)
theorem toInt_l0 (l : List Int) (hn : l.length ≤ 35184372088832) : ∀ (d k i : Nat) (x : List Int), l.length - i = d → i ≤ l.length → d < k → x.length = l.length → x.take i = l.take i → laws_toIntS.l0 k l x (i : Int) = some l := by
  intro d
  induction d with
  | zero =>
    intro k i x hd hi hk hx ht
    obtain ⟨k, rfl⟩ : ∃ m, k = m + 1 := ⟨k - 1, by omega⟩
    simp only [laws_toIntS.l0]
    rw [if_neg (by omega)]
    rw [List.take_of_length_le (by omega), List.take_of_length_le (by omega)] at ht
    rw [ht]
  | succ d ih =>
    intro k i x hd hi hk hx ht
    obtain ⟨k, rfl⟩ : ∃ m, k = m + 1 := ⟨k - 1, by omega⟩
    simp only [laws_toIntS.l0]
    rw [if_pos (by omega), if_pos (by omega), if_pos (by omega), w1 (by omega)]
    refine ih k (i + 1) _ (by omega) (by omega) (by omega) (by simpa using hx) ?_
    rw [rd_nat, Int.toNat_natCast]
    exact set_take (by omega) hx ht
theorem toInt_some (l : List Int) (hn : l.length ≤ 35184372088832) {k : Nat} (hk : l.length < k) : laws_toIntS.f k l = some l := by
  unfold laws_toIntS.f
  rw [if_pos (by omega), if_pos (by simpa using hn)]
  exact toInt_l0 l hn l.length k 0 _ (by omega) (by omega) hk (by simp) rfl
theorem eqInt_l0 (a b : List Int) (hab : a.length = b.length) (hn : a.length ≤ 4611686018427387904) : ∀ (d k i : Nat), a.length - i = d → i ≤ a.length → d < k → laws_eqIntS.l0 k a b (i : Int) = some (decide (a.drop i = b.drop i)) := by
  intro d
  induction d with
  | zero =>
    intro k i hd hi hk
    obtain ⟨k, rfl⟩ : ∃ m, k = m + 1 := ⟨k - 1, by omega⟩
    simp only [laws_eqIntS.l0]
    rw [if_neg (by omega), List.drop_eq_nil_of_le (by omega), List.drop_eq_nil_of_le (by omega)]
    simp
  | succ d ih =>
    intro k i hd hi hk
    obtain ⟨k, rfl⟩ : ∃ m, k = m + 1 := ⟨k - 1, by omega⟩
    simp only [laws_eqIntS.l0]
    rw [if_pos (by omega), if_pos (by omega), if_pos (by omega), rd_nat, rd_nat, drop_cons a i (by omega), drop_cons b i (by omega)]
    by_cases h : a.getD i 0 = b.getD i 0
    · rw [if_pos h, w1 (by omega), ih k (i + 1) (by omega) (by omega) (by omega), h]
      simp
    · rw [if_neg h]
      simp only [List.cons.injEq, h, false_and, decide_false]
theorem eqInt_some (a b : List Int) (hn : a.length ≤ 4611686018427387904) {k : Nat} (hk : a.length < k) : laws_eqIntS.f k a b = some (decide (a = b)) := by
  unfold laws_eqIntS.f
  by_cases h : a.length = b.length
  · rw [if_pos (by omega)]
    have := eqInt_l0 a b h hn a.length k 0 (by omega) (by omega) hk
    simpa using this
  · rw [if_neg (by omega)]
    have : a ≠ b := fun e => h (by rw [e])
    simp [this]
theorem eqInt_same (a : List Int) (hn : a.length ≤ 4611686018427387904) {k : Nat} (hk : a.length < k) : laws_eqIntS.f k a a = some true := by
  rw [eqInt_some a a hn hk]; simp
def thingOf (x : S118) : S84 := ⟨x.f0, x.f1, x.f2⟩
theorem rdT_l (xs : List S118) (i : Nat) (h : i < xs.length) : rd_T118 xs (i : Int) = xs[i] := by simp [rd_T118, List.getElem?_eq_getElem h]
theorem rdT_i (xs : List S84) (i : Nat) (h : i < xs.length) : rd_T84 xs (i : Int) = xs[i] := by simp [rd_T84, List.getElem?_eq_getElem h]
theorem toThing_some (l : List S118) (hn : l.length ≤ 5864062014805) {k : Nat} (hk : l.length < k) : laws_toThingS.f k l = some (l.map thingOf) := by
  unfold laws_toThingS.f
  rw [if_pos (by omega), if_pos (by simp; omega)]
  refine copy_gen laws_toThingS.l0 thingOf l 0 ?_ ?_ l.length k 0 _ (by omega) (by omega) (by simp) rfl (by omega)
  · intro k i x3 h hx _
    have c1 : (i : Int) < (l.length : Int) := by omega
    have c2 : (0 : Int) ≤ (i : Int) := by omega
    have c3 : (i : Int) < (x3.length : Int) := by omega
    have e : laws_toThing.f l[i].f0 l[i].f1 l[i].f2 = some (l[i].f0, l[i].f1, l[i].f2) := rfl
    rw [laws_toThingS.l0, if_pos c1, if_pos c2, rdT_l l i h, e, Option.bind_some, if_pos c3, w1 (by omega), Int.toNat_natCast]
    rfl
  · intro k x3
    rw [laws_toThingS.l0, if_neg (Int.lt_irrefl _)]
theorem eqThing1_same (a b c : Int) : laws_eqThing.f a b c a b c = some true := by simp [laws_eqThing.f]
theorem eqThing_same (x : List S84) (hn : x.length ≤ 4611686018427387904) {k : Nat} (hk : x.length < k) : laws_eqThingS.f k x x = some true := by
  unfold laws_eqThingS.f
  rw [if_pos rfl]
  refine same_gen laws_eqThingS.l0 x 0 ?_ ?_ x.length k 0 (by omega) (by omega) (by omega)
  · intro k i h _
    have c1 : (i : Int) < (x.length : Int) := by omega
    have c2 : (0 : Int) ≤ (i : Int) := by omega
    rw [laws_eqThingS.l0, if_pos c1, if_pos c2, if_pos c1, eqThing1_same, Option.bind_some, if_pos rfl, w1 (by omega)]
  · intro k
    rw [laws_eqThingS.l0, if_neg (Int.lt_irrefl _)]
theorem szInt_val (l : List Int) (a : Int) (ha : 0 ≤ a) (ha2 : a ≤ 1048576) (hl : l.length ≤ 281474976710656) : ∃ r, laws_szIntS.f l a = some r ∧ (r < 0 ∨ (0 ≤ r ∧ r ≤ a ∧ l.length ≤ 1048576)) := by
  unfold laws_szIntS.f
  have e : wrap64 (a - (l.length : Int)) = a - (l.length : Int) := by unfold wrap64; omega
  rw [e]
  by_cases h : a - (l.length : Int) < 0
  · rw [if_pos h]; exact ⟨-1, rfl, .inl (by omega)⟩
  · rw [if_neg h]; exact ⟨_, rfl, .inr ⟨by omega, by omega, by omega⟩⟩
theorem szThing_val (l : List S118) (a : Int) (ha : 0 ≤ a) (ha2 : a ≤ 1048576) (hl : l.length ≤ 281474976710656) : ∃ r, laws_szThingS.f l a = some r ∧ (r < 0 ∨ (0 ≤ r ∧ r ≤ a ∧ l.length ≤ 1048576)) := by
  unfold laws_szThingS.f
  have e : wrap64 (a - (l.length : Int)) = a - (l.length : Int) := by unfold wrap64; omega
  rw [e]
  by_cases h : a - (l.length : Int) < 0
  · rw [if_pos h]; exact ⟨-1, rfl, .inl (by omega)⟩
  · rw [if_neg h]; exact ⟨_, rfl, .inr ⟨by omega, by omega, by omega⟩⟩
theorem szNode_val (b0 b1 b2 b3 b4 b5 b6 b7 : Int) (l8 : List Int) (b9 b10 : Int) (l11 : List S118) (l12 : List Int) (a : Int) (ha : 0 ≤ a) (ha2 : a ≤ 1048576) (h8 : l8.length ≤ 281474976710656) (h11 : l11.length ≤ 281474976710656) (h12 : l12.length ≤ 281474976710656) :
    ∃ r, laws_szNode.f b0 b1 b2 b3 b4 b5 b6 b7 l8 b9 b10 l11 l12 a = some r ∧ (r < 0 ∨ (0 ≤ r ∧ r ≤ a ∧ l8.length ≤ 1048576 ∧ l11.length ≤ 1048576 ∧ l12.length ≤ 1048576)) := by
  unfold laws_szNode.f
  obtain ⟨r1, e1, g1⟩ := szInt_val l8 a ha ha2 h8
  rw [e1, Option.bind_some]
  by_cases c1 : r1 < 0
  · rw [if_pos c1]; exact ⟨-1, rfl, .inl (by omega)⟩
  · rw [if_neg c1]
    obtain ⟨r2, e2, g2⟩ := szThing_val l11 r1 (by omega) (by omega) h11
    rw [e2, Option.bind_some]
    by_cases c2 : r2 < 0
    · rw [if_pos c2]; exact ⟨-1, rfl, .inl (by omega)⟩
    · rw [if_neg c2]
      obtain ⟨r3, e3, g3⟩ := szInt_val l12 r2 (by omega) (by omega) h12
      rw [e3, Option.bind_some]
      by_cases c3 : r3 < 0
      · rw [if_pos c3]; exact ⟨-1, rfl, .inl (by omega)⟩
      · rw [if_neg c3]; exact ⟨r3, rfl, .inr (by omega)⟩
theorem toNode_some (b0 b1 b2 b3 b4 b5 b6 b7 : Int) (l8 : List Int) (b9 b10 : Int) (l11 : List S118) (l12 : List Int) (h8 : l8.length ≤ 1048576) (h11 : l11.length ≤ 1048576) (h12 : l12.length ≤ 1048576) {k : Nat} (hk : 1048576 < k) :
    laws_toNode.f k b0 b1 b2 b3 b4 b5 b6 b7 l8 b9 b10 l11 l12 = some (b0, b1, b2, b3, b4, b5, b6, b7, l8, b9, b10, l11.map thingOf, l12) := by
  unfold laws_toNode.f
  rw [toInt_some l8 (by omega) (by omega), Option.bind_some, toThing_some l11 (by omega) (by omega), Option.bind_some, toInt_some l12 (by omega) (by omega), Option.bind_some]
theorem eqNode1_same (b0 b1 b2 b3 b4 b5 b6 b7 : Int) (l8 : List Int) (b9 b10 : Int) (l11 : List S84) (l12 : List Int) (h8 : l8.length ≤ 1048576) (h11 : l11.length ≤ 1048576) (h12 : l12.length ≤ 1048576) {k : Nat} (hk : 1048576 < k) :
    laws_eqNode.f k b0 b1 b2 b3 b4 b5 b6 b7 l8 b9 b10 l11 l12 b0 b1 b2 b3 b4 b5 b6 b7 l8 b9 b10 l11 l12 = some true := by
  unfold laws_eqNode.f
  rw [if_pos rfl, if_pos rfl, if_pos rfl, if_pos rfl, if_pos rfl, if_pos rfl, if_pos rfl, if_pos rfl, eqInt_same l8 (by omega) (by omega), Option.bind_some, if_pos rfl, if_pos rfl, if_pos rfl, eqThing_same l11 (by omega) (by omega), Option.bind_some, if_pos rfl, eqInt_same l12 (by omega) (by omega), Option.bind_some, if_pos rfl]
/-- A loop that compares two slices of one length. -/
theorem cmp_gen {β : Type} (G : Nat → Int → Option Bool) (a b : List β) (hl : a.length = b.length)
    (yes : ∀ (k i : Nat) (h : i < a.length), a[i] = b[i]'(hl ▸ h) → G (k + 1) (i : Int) = G k ((i + 1 : Nat) : Int))
    (no : ∀ (k i : Nat) (h : i < a.length), a[i] ≠ b[i]'(hl ▸ h) → G (k + 1) (i : Int) = some false)
    (last : ∀ (k : Nat), G (k + 1) (a.length : Int) = some true) :
    ∀ (d k i : Nat), a.length - i = d → i ≤ a.length → d < k → ∃ r, G k (i : Int) = some r ∧ (r = true ↔ ∀ (j : Nat) (h : j < a.length), i ≤ j → a[j] = b[j]'(hl ▸ h)) := by
  intro d
  induction d with
  | zero =>
    intro k i hd hi hk
    obtain ⟨k, rfl⟩ : ∃ m, k = m + 1 := ⟨k - 1, by omega⟩
    have e : i = a.length := by omega
    subst e
    exact ⟨true, last k, by simp only [true_iff]; exact fun j h hj => absurd h (by omega)⟩
  | succ d ih =>
    intro k i hd hi hk
    obtain ⟨k, rfl⟩ : ∃ m, k = m + 1 := ⟨k - 1, by omega⟩
    have hi' : i < a.length := by omega
    by_cases c : a[i] = b[i]'(hl ▸ hi')
    · obtain ⟨r, e, g⟩ := ih k (i + 1) (by omega) (by omega) (by omega)
      refine ⟨r, by rw [yes k i hi' c]; exact e, g.trans ⟨fun f j h hj => ?_, fun f j h hj => f j h (by omega)⟩⟩
      by_cases ej : j = i
      · subst ej; exact c
      · exact f j h (by omega)
    · refine ⟨false, no k i hi' c, ?_⟩
      simp only [Bool.false_eq_true, false_iff]
      exact fun f => c (f i hi' (Nat.le_refl _))
theorem all_eq {β : Type} (a b : List β) (hl : a.length = b.length) (h : ∀ (j : Nat) (h : j < a.length), 0 ≤ j → a[j] = b[j]'(hl ▸ h)) : a = b := List.ext_getElem hl (fun j h1 _ => h j h1 (Nat.zero_le _))
theorem rd_at (r : List Int) (i : Nat) (h : i < r.length) : rd r (i : Int) = r[i] := by rw [rd_nat, getD_lt r i h]
theorem slEq_some (a b : List Int) (hn : a.length ≤ 1048576) {k : Nat} (hk : 1048577 < k) : ∃ r, slices_Equal_int_int.f k a b = some r ∧ (r = true ↔ a = b) := by
  unfold slices_Equal_int_int.f
  by_cases hl : a.length = b.length
  · rw [if_pos (by omega)]
    have yes_ : ∀ (k i : Nat) (h : i < a.length), a[i] = b[i]'(hl ▸ h) → (fun k i => slices_Equal_int_int.l0 k a b (a.length : Int) i) (k + 1) (i : Int) = (fun k i => slices_Equal_int_int.l0 k a b (a.length : Int) i) k ((i + 1 : Nat) : Int) := by
      intro k i h c
      have c1 : (i : Int) < (a.length : Int) := by omega
      have c2 : (0 : Int) ≤ (i : Int) := by omega
      have c3 : (i : Int) < (b.length : Int) := by omega
      show slices_Equal_int_int.l0 (k + 1) a b (a.length : Int) (i : Int) = _
      rw [slices_Equal_int_int.l0, if_pos c1, if_pos c2, if_pos c1, if_pos c3, rd_at a i h, rd_at b i (hl ▸ h), if_pos c, w1 (by omega)]
    have no_ : ∀ (k i : Nat) (h : i < a.length), a[i] ≠ b[i]'(hl ▸ h) → (fun k i => slices_Equal_int_int.l0 k a b (a.length : Int) i) (k + 1) (i : Int) = some false := by
      intro k i h c
      have c1 : (i : Int) < (a.length : Int) := by omega
      have c2 : (0 : Int) ≤ (i : Int) := by omega
      have c3 : (i : Int) < (b.length : Int) := by omega
      show slices_Equal_int_int.l0 (k + 1) a b (a.length : Int) (i : Int) = _
      rw [slices_Equal_int_int.l0, if_pos c1, if_pos c2, if_pos c1, if_pos c3, rd_at a i h, rd_at b i (hl ▸ h), if_neg c]
    have last_ : ∀ (k : Nat), (fun k i => slices_Equal_int_int.l0 k a b (a.length : Int) i) (k + 1) (a.length : Int) = some true := by
      intro k
      show slices_Equal_int_int.l0 (k + 1) a b (a.length : Int) (a.length : Int) = _
      rw [slices_Equal_int_int.l0, if_neg (Int.lt_irrefl _)]
    obtain ⟨r, e, g⟩ := cmp_gen (fun k i => slices_Equal_int_int.l0 k a b (a.length : Int) i) a b hl yes_ no_ last_ a.length k 0 (by omega) (by omega) (by omega)
    exact ⟨r, e, g.trans ⟨fun f => all_eq a b hl f, fun f => by subst f; exact fun _ _ _ => rfl⟩⟩
  · rw [if_neg (by omega)]
    exact ⟨false, rfl, by simp only [Bool.false_eq_true, false_iff]; exact fun e => hl (by rw [e])⟩
theorem thing_differ (x y : S84) : ((!(x.f0 == y.f0) || (!(x.f1 == y.f1) || (!(x.f2 == y.f2)))) = true) ↔ x ≠ y := by
  obtain ⟨a, b, c⟩ := x
  obtain ⟨p, q, r⟩ := y
  simp only [Bool.or_eq_true, Bool.not_eq_true', beq_eq_false_iff_ne, ne_eq, S84.mk.injEq]
  by_cases h1 : a = p <;> by_cases h2 : b = q <;> by_cases h3 : c = r <;> simp [h1, h2, h3]
theorem implThing_some (a b : List S84) (hn : a.length ≤ 1048576) {k : Nat} (hk : 1048577 < k) : ∃ r, impl_Thing_73.f k a b = some r ∧ (r = true ↔ a = b) := by
  unfold impl_Thing_73.f
  by_cases hl : a.length = b.length
  · rw [if_pos (by omega)]
    have yes_ : ∀ (k i : Nat) (h : i < a.length), a[i] = b[i]'(hl ▸ h) → (fun k i => impl_Thing_73.l0 k a b (a.length : Int) i) (k + 1) (i : Int) = (fun k i => impl_Thing_73.l0 k a b (a.length : Int) i) k ((i + 1 : Nat) : Int) := by
      intro k i h c
      have c1 : (i : Int) < (a.length : Int) := by omega
      have c2 : (0 : Int) ≤ (i : Int) := by omega
      have c3 : (i : Int) < (b.length : Int) := by omega
      show impl_Thing_73.l0 (k + 1) a b (a.length : Int) (i : Int) = _
      rw [impl_Thing_73.l0, if_pos c1, if_pos c2, if_pos c1, if_pos c3, rdT_i a i h, rdT_i b i (hl ▸ h), if_neg (fun d => (thing_differ _ _).mp d c), w1 (by omega)]
    have no_ : ∀ (k i : Nat) (h : i < a.length), a[i] ≠ b[i]'(hl ▸ h) → (fun k i => impl_Thing_73.l0 k a b (a.length : Int) i) (k + 1) (i : Int) = some false := by
      intro k i h c
      have c1 : (i : Int) < (a.length : Int) := by omega
      have c2 : (0 : Int) ≤ (i : Int) := by omega
      have c3 : (i : Int) < (b.length : Int) := by omega
      show impl_Thing_73.l0 (k + 1) a b (a.length : Int) (i : Int) = _
      rw [impl_Thing_73.l0, if_pos c1, if_pos c2, if_pos c1, if_pos c3, rdT_i a i h, rdT_i b i (hl ▸ h), if_pos ((thing_differ _ _).mpr c)]
    have last_ : ∀ (k : Nat), (fun k i => impl_Thing_73.l0 k a b (a.length : Int) i) (k + 1) (a.length : Int) = some true := by
      intro k
      show impl_Thing_73.l0 (k + 1) a b (a.length : Int) (a.length : Int) = _
      rw [impl_Thing_73.l0, if_neg (Int.lt_irrefl _)]
    obtain ⟨r, e, g⟩ := cmp_gen (fun k i => impl_Thing_73.l0 k a b (a.length : Int) i) a b hl yes_ no_ last_ a.length k 0 (by omega) (by omega) (by omega)
    exact ⟨r, e, g.trans ⟨fun f => all_eq a b hl f, fun f => by subst f; exact fun _ _ _ => rfl⟩⟩
  · rw [if_neg (by omega)]
    exact ⟨false, rfl, by simp only [Bool.false_eq_true, false_iff]; exact fun e => hl (by rw [e])⟩
theorem bare_same (a0 a1 a2 a3 a4 a5 a6 a7 : Int) (l8 : List Int) (a9 a10 : Int) (l11 : List S84) (l12 : List Int) (h8 : l8.length ≤ 1048576) (h11 : l11.length ≤ 1048576) (h12 : l12.length ≤ 1048576) {k : Nat} (hk : 1048577 < k) :
    ∃ r, spec_Bare.f a0 a1 a2 a3 a4 a5 a6 a7 l8 a9 a10 l11 l12 = some r ∧ impl_Bare.f k a0 a1 a2 a3 a4 a5 a6 a7 l8 a9 a10 l11 l12 = some r := by
  unfold spec_Bare.f impl_Bare.f impl_SameNode.f
  rw [if_pos rfl, if_pos rfl]
  obtain ⟨r8, e8, g8⟩ := slEq_some l8 [] h8 hk
  obtain ⟨r12, e12, g12⟩ := slEq_some l12 [] h12 hk
  obtain ⟨r11, e11, g11⟩ := implThing_some l11 [] h11 hk
  rw [e8, e12, e11]
  by_cases c_a2 : a2 = 0
  rotate_left
  · simp only [if_neg c_a2, Option.bind_some]; exact ⟨_, rfl, rfl⟩
  simp only [if_pos c_a2]
  by_cases c_a3 : a3 = 0
  rotate_left
  · simp only [if_neg c_a3, Option.bind_some]; exact ⟨_, rfl, rfl⟩
  simp only [if_pos c_a3]
  by_cases c_a4 : a4 = 0
  rotate_left
  · simp only [if_neg c_a4, Option.bind_some]; exact ⟨_, rfl, rfl⟩
  simp only [if_pos c_a4]
  by_cases c_a5 : a5 = 0
  rotate_left
  · simp only [if_neg c_a5, Option.bind_some]; exact ⟨_, rfl, rfl⟩
  simp only [if_pos c_a5]
  by_cases c_a6 : a6 = 0
  rotate_left
  · simp only [if_neg c_a6, Option.bind_some]; exact ⟨_, rfl, rfl⟩
  simp only [if_pos c_a6]
  by_cases c_a7 : a7 = 0
  rotate_left
  · simp only [if_neg c_a7, Option.bind_some]; exact ⟨_, rfl, rfl⟩
  simp only [if_pos c_a7]
  have z8 : (l8.length : Int) = 0 ↔ l8 = [] := by
    cases l8 <;> simp <;> omega
  have z11 : (l11.length : Int) = 0 ↔ l11 = [] := by
    cases l11 <;> simp <;> omega
  have z12 : (l12.length : Int) = 0 ↔ l12 = [] := by
    cases l12 <;> simp <;> omega
  by_cases c8 : l8 = []
  rotate_left
  · have := (not_congr g8).mpr c8
    simp only [if_neg ((not_congr z8).mpr c8), Option.bind_some, if_neg this]; exact ⟨_, rfl, rfl⟩
  simp only [if_pos (z8.mpr c8), Option.bind_some, if_pos (g8.mpr c8)]
  by_cases c9 : a9 = 0
  rotate_left
  · simp only [if_neg c9, Option.bind_some]; exact ⟨_, rfl, rfl⟩
  simp only [if_pos c9]
  by_cases c10 : a10 = 0
  rotate_left
  · simp only [if_neg c10, Option.bind_some]; exact ⟨_, rfl, rfl⟩
  simp only [if_pos c10]
  by_cases c11 : l11 = []
  rotate_left
  · have := (not_congr g11).mpr c11
    simp only [if_neg ((not_congr z11).mpr c11), Option.bind_some, if_neg this]; exact ⟨_, rfl, rfl⟩
  simp only [if_pos (z11.mpr c11), Option.bind_some, if_pos (g11.mpr c11)]
  refine ⟨r12, ?_, rfl⟩
  congr 1
  by_cases c12 : l12 = []
  · rw [g12.mpr c12]; simp only [beq_iff_eq]; exact z12.mpr c12
  · have := (not_congr g12).mpr c12
    simp only [Bool.not_eq_true] at this
    rw [this]; simp only [beq_eq_false_iff_ne]; exact (not_congr z12).mpr c12
theorem within_some (a l h : Int) : spec_l1In.f a l h = some (decide (l ≤ a ∧ a ≤ h)) := by
  unfold spec_l1In.f; by_cases g : a ≥ l
  · rw [if_pos g]; congr 1; simp; omega
  · rw [if_neg g]; congr 1; simp; omega
def ConfIn (a b c d e f : Int) : Prop := (2 ≤ a ∧ a ≤ 12) ∧ (8 ≤ b ∧ b ≤ 16) ∧ (2 ≤ c ∧ c ≤ 8) ∧ (1 ≤ d ∧ d ≤ 8) ∧ (1 ≤ e ∧ e ≤ 16) ∧ (1 ≤ f ∧ f ≤ 4)
instance (a b c d e f : Int) : Decidable (ConfIn a b c d e f) := by unfold ConfIn; infer_instance
theorem conf_some (a b c d e f : Int) : spec_ConfOk.f a b c d e f = some (decide (ConfIn a b c d e f)) := by
  unfold spec_ConfOk.f
  simp only [within_some, Option.bind_some, decide_eq_true_eq]
  unfold ConfIn
  by_cases h1 : 2 ≤ a ∧ a ≤ 12
  · rw [if_pos h1]
    by_cases h2 : 8 ≤ b ∧ b ≤ 16
    · rw [if_pos h2]
      by_cases h3 : 2 ≤ c ∧ c ≤ 8
      · rw [if_pos h3]
        by_cases h4 : 1 ≤ d ∧ d ≤ 8
        · rw [if_pos h4]
          by_cases h5 : 1 ≤ e ∧ e ≤ 16
          · rw [if_pos h5]; congr 1; simp [h1, h2, h3, h4, h5]
          · rw [if_neg h5]; congr 1; simp [h1, h2, h3, h4, h5]
        · rw [if_neg h4]; congr 1; simp [h1, h2, h3, h4]
      · rw [if_neg h3]; congr 1; simp [h1, h2, h3]
    · rw [if_neg h2]; congr 1; simp [h1, h2]
  · rw [if_neg h1]; congr 1; simp [h1]
theorem bytes_in (a b c d e f : Int) (h : ConfIn a b c d e f) : spec_BytesOf.f a b c d e f = some (a * b) ∧ 16 ≤ a * b ∧ a * b ≤ 192 := by
  have m0 : 2 * 8 ≤ a * b := Int.mul_le_mul h.1.1 h.2.1.1 (by omega) (by have := h.1.1; omega)
  have m1 : a * b ≤ 12 * 16 := Int.mul_le_mul h.1.2 h.2.1.2 (by have := h.2.1.1; omega) (by omega)
  have e : wrap64 (a * b) = a * b := by unfold wrap64; omega
  refine ⟨?_, by omega, by omega⟩
  unfold spec_BytesOf.f
  rw [conf_some]
  simp only [Option.bind_some, decide_eq_true_eq]
  rw [if_pos h, e]
theorem bytes_out (a b c d e f : Int) (h : ¬ ConfIn a b c d e f) : spec_BytesOf.f a b c d e f = some 0 := by
  unfold spec_BytesOf.f
  rw [conf_some]
  simp only [Option.bind_some, decide_eq_true_eq]
  rw [if_neg h]
theorem bytes_some (a b c d e f : Int) : ∃ r, spec_BytesOf.f a b c d e f = some r := by
  by_cases h : ConfIn a b c d e f
  · exact ⟨_, (bytes_in a b c d e f h).1⟩
  · exact ⟨_, bytes_out a b c d e f h⟩
theorem ceil_in (a b : Int) (h : 0 ≤ a ∧ a ≤ 1000000000) (g : 1 ≤ b ∧ b ≤ 1000000000) : spec_CeilDiv.f a b = some ((a + b - 1) / b) := by
  unfold spec_CeilDiv.f
  simp only [within_some, Option.bind_some, decide_eq_true_eq]
  rw [if_pos h, if_pos g, if_neg (by omega)]
  have e1 : wrap64 (a + b) = a + b := by unfold wrap64; omega
  have e2 : wrap64 (a + b - 1) = a + b - 1 := by unfold wrap64; omega
  rw [e1, e2, Int.tdiv_eq_ediv_of_nonneg (by omega)]
  have h1 : 0 ≤ (a + b - 1) / b := Int.ediv_nonneg (by omega) (by omega)
  have h2 : (a + b - 1) / b ≤ a + b - 1 := Int.ediv_le_self _ (by omega)
  have e3 : wrap64 ((a + b - 1) / b) = (a + b - 1) / b := by unfold wrap64; omega
  rw [e3]
theorem ceil_out (a b : Int) (h : ¬ ((0 ≤ a ∧ a ≤ 1000000000) ∧ (1 ≤ b ∧ b ≤ 1000000000))) : spec_CeilDiv.f a b = some 0 := by
  unfold spec_CeilDiv.f
  simp only [within_some, Option.bind_some, decide_eq_true_eq]
  by_cases g : 0 ≤ a ∧ a ≤ 1000000000
  · rw [if_pos g, if_neg (fun q => h ⟨g, q⟩)]
  · rw [if_neg g]
theorem ceil_some (a b : Int) : ∃ r, spec_CeilDiv.f a b = some r := by
  by_cases h : (0 ≤ a ∧ a ≤ 1000000000) ∧ (1 ≤ b ∧ b ≤ 1000000000)
  · exact ⟨_, ceil_in a b h.1 h.2⟩
  · exact ⟨_, ceil_out a b h⟩
theorem large_some (a b c d e f n : Int) : spec_IsLarge.f a b c d e f n = some (decide (n > b)) := rfl
theorem chunks_some (a b c d e f n : Int) : ∃ r, spec_ChunksFor.f a b c d e f n = some r := by
  obtain ⟨r, h⟩ := ceil_some n b
  unfold spec_ChunksFor.f
  rw [h]; exact ⟨_, rfl⟩
theorem tail_same (k : Nat) (x : Bool) (a b c d e f p q r : Int) : impl_ThingOk.j0 k x a b c d e f p q r = spec_ThingOk.j0 k x a b c d e f p q r := by
  cases k with
  | zero => rfl
  | succ k => rfl
theorem tail_some (k : Nat) (x : Bool) (a b c d e f p q r : Int) (h : x = false → b ≠ 0) : ∃ z, spec_ThingOk.j0 (k + 1) x a b c d e f p q r = some z := by
  simp only [spec_ThingOk.j0]
  cases x with
  | true => exact ⟨_, rfl⟩
  | false =>
    have hb := h rfl
    rw [if_neg (by simp)]
    by_cases h1 : r = 0
    · rw [if_pos h1]
      by_cases h2 : q ≤ b
      · rw [if_pos h2, if_neg hb]; exact ⟨_, rfl⟩
      · rw [if_neg h2]; exact ⟨_, rfl⟩
    · rw [if_neg h1, large_some]
      simp only [Option.bind_some]
      by_cases h2 : decide (q > b) = true
      · rw [if_pos h2]
        obtain ⟨t, ht⟩ := chunks_some a b c d e f q
        rw [ht]
        simp only [Option.bind_some]
        by_cases h3 : r = t
        · rw [if_pos h3, if_neg hb]; exact ⟨_, rfl⟩
        · rw [if_neg h3]; exact ⟨_, rfl⟩
      · rw [if_neg h2]; exact ⟨_, rfl⟩
theorem head_s (k : Nat) (a b c d e f p q r n : Int) (hn : spec_BytesOf.f a b c d e f = some n) (h0 : 0 ≤ n) (h1 : n ≤ 192) : spec_ThingOk.f k a b c d e f p q r = spec_ThingOk.j0 k (decide (n = 0 ∨ q < 1 ∨ p < 0 ∨ p > n ∨ q > n - p)) a b c d e f p q r := by
  unfold spec_ThingOk.f
  rw [hn]
  simp only [Option.bind_some]
  by_cases g0 : n = 0
  · rw [if_pos g0]; simp [g0]
  · rw [if_neg g0]
    by_cases g1 : q < 1
    · rw [if_pos g1]; simp [g1]
    · rw [if_neg g1]
      by_cases g2 : p < 0
      · rw [if_pos g2]; simp [g2]
      · rw [if_neg g2]
        by_cases g3 : p > n
        · rw [if_pos g3]; simp [g3]
        · rw [if_neg g3]
          have e1 : wrap64 (n - p) = n - p := by unfold wrap64; omega
          rw [e1]
          have : decide (n = 0 ∨ q < 1 ∨ p < 0 ∨ p > n ∨ q > n - p) = decide (q > n - p) := by
            rw [Bool.eq_iff_iff]; simp only [decide_eq_true_eq]; omega
          rw [this]
theorem head_i (k : Nat) (a b c d e f p q r n : Int) (hn : spec_BytesOf.f a b c d e f = some n) (h0 : 0 ≤ n) (h1 : n ≤ 192) : impl_ThingOk.f k a b c d e f p q r = spec_ThingOk.j0 k (decide (n = 0 ∨ q < 1 ∨ p < 0 ∨ p > n ∨ q > n - p)) a b c d e f p q r := by
  unfold impl_ThingOk.f
  have hb : impl_BytesOf.f a b c d e f = spec_BytesOf.f a b c d e f := rfl
  rw [hb, hn]
  simp only [Option.bind_some, tail_same]
  by_cases g1 : q ≤ 0
  · rw [if_pos g1]
    have : decide (n = 0 ∨ q < 1 ∨ p < 0 ∨ p > n ∨ q > n - p) = true := by simp only [decide_eq_true_eq]; omega
    rw [this]
  · rw [if_neg g1]
    by_cases g2 : p < 0
    · rw [if_pos g2]; simp [g2]
    · rw [if_neg g2]
      by_cases g3 : q > n
      · rw [if_pos g3]
        have : decide (n = 0 ∨ q < 1 ∨ p < 0 ∨ p > n ∨ q > n - p) = true := by simp only [decide_eq_true_eq]; omega
        rw [this]
      · rw [if_neg g3]
        have e1 : wrap64 (n - q) = n - q := by unfold wrap64; omega
        rw [e1]
        have : decide (n = 0 ∨ q < 1 ∨ p < 0 ∨ p > n ∨ q > n - p) = decide (p > n - q) := by
          rw [Bool.eq_iff_iff]; simp only [decide_eq_true_eq]; omega
        rw [this]
theorem thing_same (k : Nat) (a b c d e f p q r : Int) : ∃ z, spec_ThingOk.f (k + 1) a b c d e f p q r = some z ∧ impl_ThingOk.f (k + 1) a b c d e f p q r = some z := by
  by_cases h : ConfIn a b c d e f
  · obtain ⟨h1, h2, h3⟩ := bytes_in a b c d e f h
    obtain ⟨z, hz⟩ := tail_some k (decide (a * b = 0 ∨ q < 1 ∨ p < 0 ∨ p > a * b ∨ q > a * b - p)) a b c d e f p q r (fun _ => by have := h.2.1.1; omega)
    exact ⟨z, by rw [head_s _ a b c d e f p q r _ h1 (by omega) h3]; exact hz, by rw [head_i _ a b c d e f p q r _ h1 (by omega) h3]; exact hz⟩
  · have h1 := bytes_out a b c d e f h
    obtain ⟨z, hz⟩ := tail_some k (decide ((0 : Int) = 0 ∨ q < 1 ∨ p < 0 ∨ p > 0 ∨ q > 0 - p)) a b c d e f p q r (fun g => by simp at g)
    exact ⟨z, by rw [head_s _ a b c d e f p q r _ h1 (by omega) (by omega)]; exact hz, by rw [head_i _ a b c d e f p q r _ h1 (by omega) (by omega)]; exact hz⟩
theorem iwithin_some (a l h : Int) : impl_within.f a l h = some (decide (l ≤ a ∧ a ≤ h)) := by
  unfold impl_within.f; by_cases g : a ≥ l
  · rw [if_pos g]; congr 1; simp; omega
  · rw [if_neg g]; congr 1; simp; omega
def allB (n : Nat) (P : Nat → Bool) : Bool := decide (∀ j, j < n → P j = true)
theorem allB_step (n : Nat) (P : Nat → Bool) : allB n P = true ↔ ∀ j, j < n → P j = true := by unfold allB; simp
/-- A loop that goes on while each element answers true. -/
theorem all_gen {γ : Type} (G : Nat → Int → Option γ) (n : Nat) (P : Nat → Bool) (bad : Nat → γ) (E : γ) (K : Nat)
    (yes : ∀ (k i : Nat), i < n → K ≤ k → P i = true → G (k + 1) (i : Int) = G k ((i + 1 : Nat) : Int))
    (no : ∀ (k i : Nat), i < n → K ≤ k → P i = false → G (k + 1) (i : Int) = some (bad i))
    (last : ∀ (k : Nat), K ≤ k → G (k + 1) (n : Int) = some E) :
    ∀ (d k i : Nat), n - i = d → i ≤ n → d + K < k → ((∀ j, i ≤ j → j < n → P j = true) ∧ G k (i : Int) = some E) ∨ (¬ (∀ j, i ≤ j → j < n → P j = true) ∧ ∃ j, G k (i : Int) = some (bad j)) := by
  intro d
  induction d with
  | zero =>
    intro k i hd hi hk
    obtain ⟨k, rfl⟩ : ∃ m, k = m + 1 := ⟨k - 1, by omega⟩
    have e : i = n := by omega
    subst e
    exact .inl ⟨fun j h1 h2 => absurd h2 (by omega), last k (by omega)⟩
  | succ d ih =>
    intro k i hd hi hk
    obtain ⟨k, rfl⟩ : ∃ m, k = m + 1 := ⟨k - 1, by omega⟩
    have hi' : i < n := by omega
    cases c : P i with
    | true =>
      rw [yes k i hi' (by omega) c]
      rcases ih k (i + 1) (by omega) (by omega) (by omega) with ⟨h, e⟩ | ⟨h, e⟩
      · refine .inl ⟨fun j h1 h2 => ?_, e⟩
        by_cases ej : j = i
        · subst ej; exact c
        · exact h j (by omega) h2
      · exact .inr ⟨fun f => h (fun j h1 h2 => f j (by omega) h2), e⟩
    | false =>
      refine .inr ⟨fun f => ?_, i, no k i hi' (by omega) c⟩
      have := f i (Nat.le_refl _) hi'
      rw [c] at this
      exact Bool.false_ne_true this
theorem all_bool (G : Nat → Int → Option Bool) (n : Nat) (P : Nat → Bool) (E : Bool) (K : Nat)
    (yes : ∀ (k i : Nat), i < n → K ≤ k → P i = true → G (k + 1) (i : Int) = G k ((i + 1 : Nat) : Int))
    (no : ∀ (k i : Nat), i < n → K ≤ k → P i = false → G (k + 1) (i : Int) = some false)
    (last : ∀ (k : Nat), K ≤ k → G (k + 1) (n : Int) = some E) (k : Nat) (hk : n + K < k) : G k 0 = some (allB n P && E) := by
  rcases all_gen G n P (fun _ => false) E K yes no last n k 0 (by omega) (by omega) hk with ⟨h, e⟩ | ⟨h, j, e⟩
  · have : allB n P = true := (allB_step n P).mpr (fun j hj => h j (Nat.zero_le _) hj)
    rw [this]; exact e
  · have : allB n P = false := by
      rw [Bool.eq_false_iff]; exact fun g => h (fun j _ hj => (allB_step n P).mp g j hj)
    rw [this]; exact e
theorem all_has (G : Nat → Int → Option Bool) (n : Nat) (P : Nat → Bool) (K : Nat)
    (yes : ∀ (k i : Nat), i < n → K ≤ k → P i = true → G (k + 1) (i : Int) = G k ((i + 1 : Nat) : Int))
    (no : ∀ (k i : Nat), i < n → K ≤ k → P i = false → G (k + 1) (i : Int) = some true)
    (last : ∀ (k : Nat), K ≤ k → G (k + 1) (n : Int) = some false) (k : Nat) (hk : n + K < k) : G k 0 = some (!allB n P) := by
  rcases all_gen G n P (fun _ => true) false K yes no last n k 0 (by omega) (by omega) hk with ⟨h, e⟩ | ⟨h, j, e⟩
  · have : allB n P = true := (allB_step n P).mpr (fun j hj => h j (Nat.zero_le _) hj)
    rw [this]; exact e
  · have : allB n P = false := by
      rw [Bool.eq_false_iff]; exact fun g => h (fun j _ hj => (allB_step n P).mp g j hj)
    rw [this]; exact e
theorem all_idx (G : Nat → Int → Option Int) (n : Nat) (P : Nat → Bool) (K : Nat)
    (yes : ∀ (k i : Nat), i < n → K ≤ k → P i = true → G (k + 1) (i : Int) = G k ((i + 1 : Nat) : Int))
    (no : ∀ (k i : Nat), i < n → K ≤ k → P i = false → G (k + 1) (i : Int) = some (i : Int))
    (last : ∀ (k : Nat), K ≤ k → G (k + 1) (n : Int) = some (-1)) (k : Nat) (hk : n + K < k) : (G k 0).bind (fun z => some (decide (z ≥ 0))) = some (!allB n P) := by
  rcases all_gen G n P (fun j => (j : Int)) (-1) K yes no last n k 0 (by omega) (by omega) hk with ⟨h, e⟩ | ⟨h, j, e⟩
  · have : allB n P = true := (allB_step n P).mpr (fun j hj => h j (Nat.zero_le _) hj)
    rw [this]; rw [show G k 0 = some (-1) from e]; rfl
  · have : allB n P = false := by
      rw [Bool.eq_false_iff]; exact fun g => h (fun j _ hj => (allB_step n P).mp g j hj)
    rw [this]; rw [show G k 0 = some (j : Int) from e]; simp
def Byte (x : Int) : Bool := decide (0 ≤ x ∧ x ≤ 255)
def Has (l : List Int) (x : Int) : Bool := !allB l.length (fun j => !decide (rd l (j : Int) = x))
theorem specHas (l : List Int) (x : Int) (hl : l.length ≤ 1048576) {k : Nat} (hk : 1048576 < k) : spec_l7Has.f k l x = some (Has l x) := by
  unfold spec_l7Has.f Has
  refine all_has (fun k i => spec_l7Has.l0 k l x i) l.length _ 0 ?_ ?_ ?_ k (by omega)
  · intro k i h _ c
    have c1 : (i : Int) < (l.length : Int) := by omega
    have c2 : (0 : Int) ≤ (i : Int) := by omega
    have c3 : ¬ rd l (i : Int) = x := by simpa using c
    show spec_l7Has.l0 (k + 1) l x (i : Int) = _
    rw [spec_l7Has.l0, if_pos c1, if_pos c2, if_neg c3, w1 (by omega)]
  · intro k i h _ c
    have c1 : (i : Int) < (l.length : Int) := by omega
    have c2 : (0 : Int) ≤ (i : Int) := by omega
    have c3 : rd l (i : Int) = x := by simpa using c
    show spec_l7Has.l0 (k + 1) l x (i : Int) = _
    rw [spec_l7Has.l0, if_pos c1, if_pos c2, if_pos c3]
  · intro k _
    show spec_l7Has.l0 (k + 1) l x (l.length : Int) = _
    rw [spec_l7Has.l0, if_neg (Int.lt_irrefl _)]
theorem implHas (l : List Int) (x : Int) (hl : l.length ≤ 1048576) {k : Nat} (hk : 1048576 < k) : slices_Contains_int_int.f k l x = some (Has l x) := by
  unfold slices_Contains_int_int.f slices_Index_int_int.f Has
  refine all_idx (fun k i => slices_Index_int_int.l0 k l x (l.length : Int) i) l.length _ 0 ?_ ?_ ?_ k (by omega)
  · intro k i h _ c
    have c1 : (i : Int) < (l.length : Int) := by omega
    have c2 : (0 : Int) ≤ (i : Int) := by omega
    have c3 : ¬ rd l (i : Int) = x := by simpa using c
    have c4 : ¬ x = rd l (i : Int) := fun g => c3 g.symm
    show slices_Index_int_int.l0 (k + 1) l x (l.length : Int) (i : Int) = _
    rw [slices_Index_int_int.l0, if_pos c1, if_pos c2, if_pos c1, if_neg c4, w1 (by omega)]
  · intro k i h _ c
    have c1 : (i : Int) < (l.length : Int) := by omega
    have c2 : (0 : Int) ≤ (i : Int) := by omega
    have c3 : rd l (i : Int) = x := by simpa using c
    show slices_Index_int_int.l0 (k + 1) l x (l.length : Int) (i : Int) = _
    rw [slices_Index_int_int.l0, if_pos c1, if_pos c2, if_pos c1, if_pos c3.symm]
  · intro k _
    show slices_Index_int_int.l0 (k + 1) l x (l.length : Int) (l.length : Int) = _
    rw [slices_Index_int_int.l0, if_neg (Int.lt_irrefl _)]
def Tags (l : List Int) : Bool := allB l.length (fun j => Byte (rd l (j : Int)))
theorem implTags (l : List Int) (hl : l.length ≤ 1048576) {k : Nat} (hk : 1048576 < k) : impl_areBytes.f k l = some (Tags l) := by
  unfold impl_areBytes.f slices_ContainsFunc_int_int.f slices_IndexFunc_int_int.f
  have := all_idx (fun k i => slices_IndexFunc_int_int.l0 k l (l.length : Int) i) l.length (fun j => Byte (rd l (j : Int))) 0 ?_ ?_ ?_ k (by omega)
  · rw [show ((slices_IndexFunc_int_int.l0 k l (l.length : Int) 0).bind fun t => some (decide (t ≥ 0))) = _ from this, Option.bind_some, Bool.not_not]; rfl
  · intro k i h _ c
    have c1 : (i : Int) < (l.length : Int) := by omega
    have c2 : (0 : Int) ≤ (i : Int) := by omega
    show slices_IndexFunc_int_int.l0 (k + 1) l (l.length : Int) (i : Int) = _
    unfold Byte at c
    rw [slices_IndexFunc_int_int.l0, if_pos c1, if_pos c2, if_pos c1, impl_areBytes_1.f, iwithin_some, Option.bind_some, Option.bind_some, c, if_neg (by simp), w1 (by omega)]
  · intro k i h _ c
    have c1 : (i : Int) < (l.length : Int) := by omega
    have c2 : (0 : Int) ≤ (i : Int) := by omega
    show slices_IndexFunc_int_int.l0 (k + 1) l (l.length : Int) (i : Int) = _
    unfold Byte at c
    rw [slices_IndexFunc_int_int.l0, if_pos c1, if_pos c2, if_pos c1, impl_areBytes_1.f, iwithin_some, Option.bind_some, Option.bind_some, c, if_pos (by simp)]
  · intro k _
    show slices_IndexFunc_int_int.l0 (k + 1) l (l.length : Int) (l.length : Int) = _
    rw [slices_IndexFunc_int_int.l0, if_neg (Int.lt_irrefl _)]
theorem specTags (n0 n1 n2 n3 n4 n5 n6 n7 : Int) (l8 : List Int) (n9 n10 : Int) (l11 : List S84) (l12 : List Int) (hl : l12.length ≤ 1048576) {k : Nat} (hk : 1048576 < k) : spec_NodeOk.l1 k 0 n0 n1 n2 n3 n4 n5 n6 n7 l8 n9 n10 l11 l12 = some (Tags l12) := by
  have := all_bool (fun k i => spec_NodeOk.l1 k i n0 n1 n2 n3 n4 n5 n6 n7 l8 n9 n10 l11 l12) l12.length (fun j => Byte (rd l12 (j : Int))) true 0 ?_ ?_ ?_ k (by omega)
  · rw [Bool.and_true] at this; exact this
  · intro k i h _ c
    have c1 : (i : Int) < (l12.length : Int) := by omega
    have c2 : (0 : Int) ≤ (i : Int) := by omega
    show spec_NodeOk.l1 (k + 1) (i : Int) n0 n1 n2 n3 n4 n5 n6 n7 l8 n9 n10 l11 l12 = _
    unfold Byte at c
    rw [spec_NodeOk.l1, if_pos c1, if_pos c2, within_some, Option.bind_some, c, if_pos rfl, w1 (by omega)]
  · intro k i h _ c
    have c1 : (i : Int) < (l12.length : Int) := by omega
    have c2 : (0 : Int) ≤ (i : Int) := by omega
    show spec_NodeOk.l1 (k + 1) (i : Int) n0 n1 n2 n3 n4 n5 n6 n7 l8 n9 n10 l11 l12 = _
    unfold Byte at c
    rw [spec_NodeOk.l1, if_pos c1, if_pos c2, within_some, Option.bind_some, c, if_neg Bool.false_ne_true]
  · intro k _
    show spec_NodeOk.l1 (k + 1) (l12.length : Int) n0 n1 n2 n3 n4 n5 n6 n7 l8 n9 n10 l11 l12 = _
    rw [spec_NodeOk.l1, if_neg (Int.lt_irrefl _)]
def Thg (a b c d e f : Int) (t : S84) : Bool := (spec_ThingOk.f 1 a b c d e f t.f0 t.f1 t.f2).getD false
theorem spec_up (k : Nat) (a b c d e f : Int) (p q r : Int) : spec_ThingOk.f (k + 1) a b c d e f p q r = spec_ThingOk.f 1 a b c d e f p q r := rfl
theorem impl_up (k : Nat) (a b c d e f : Int) (p q r : Int) : impl_ThingOk.f (k + 1) a b c d e f p q r = impl_ThingOk.f 1 a b c d e f p q r := rfl
theorem thg_spec (a b c d e f : Int) (t : S84) {k : Nat} (hk : 0 < k) : spec_ThingOk.f k a b c d e f t.f0 t.f1 t.f2 = some (Thg a b c d e f t) := by
  obtain ⟨k, rfl⟩ : ∃ m, k = m + 1 := ⟨k - 1, by omega⟩
  obtain ⟨z, h1, h2⟩ := thing_same 0 a b c d e f t.f0 t.f1 t.f2
  unfold Thg
  rw [spec_up, show spec_ThingOk.f 1 a b c d e f t.f0 t.f1 t.f2 = some z from h1]; rfl
theorem thg_impl (a b c d e f : Int) (t : S84) {k : Nat} (hk : 0 < k) : impl_ThingOk.f k a b c d e f t.f0 t.f1 t.f2 = some (Thg a b c d e f t) := by
  obtain ⟨k, rfl⟩ : ∃ m, k = m + 1 := ⟨k - 1, by omega⟩
  obtain ⟨z, h1, h2⟩ := thing_same 0 a b c d e f t.f0 t.f1 t.f2
  unfold Thg
  rw [impl_up, show impl_ThingOk.f 1 a b c d e f t.f0 t.f1 t.f2 = some z from h2, show spec_ThingOk.f 1 a b c d e f t.f0 t.f1 t.f2 = some z from h1]; rfl
def Thgs (a b c d e f : Int) (l : List S84) : Bool := allB l.length (fun j => Thg a b c d e f (rd_T84 l (j : Int)))
theorem implThgs (a b c d e f : Int) (l : List S84) (hl : l.length ≤ 1048576) {k : Nat} (hk : 1048577 < k) : impl_Thing_107.f k l a b c d e f = some (!Thgs a b c d e f l) := by
  unfold impl_Thing_107.f Thgs
  refine all_idx (fun k i => impl_Thing_107.ix k l a b c d e f i) l.length _ 1 ?_ ?_ ?_ k (by omega)
  · intro k i h hk cc
    have c1 : (i : Int) < (l.length : Int) := by omega
    have c2 : (0 : Int) ≤ (i : Int) := by omega
    show impl_Thing_107.ix (k + 1) l a b c d e f (i : Int) = _
    rw [impl_Thing_107.ix, if_pos c1, if_pos c2, thg_impl a b c d e f _ (by omega), Option.bind_some, if_pos cc, w1 (by omega)]
  · intro k i h hk cc
    have c1 : (i : Int) < (l.length : Int) := by omega
    have c2 : (0 : Int) ≤ (i : Int) := by omega
    show impl_Thing_107.ix (k + 1) l a b c d e f (i : Int) = _
    have c3 : ¬ Thg a b c d e f (rd_T84 l (i : Int)) = true := by
      intro g
      rw [g] at cc
      exact Bool.false_ne_true cc.symm
    rw [impl_Thing_107.ix, if_pos c1, if_pos c2, thg_impl a b c d e f _ (by omega), Option.bind_some, if_neg c3]
  · intro k _
    show impl_Thing_107.ix (k + 1) l a b c d e f (l.length : Int) = _
    rw [impl_Thing_107.ix, if_neg (Int.lt_irrefl _)]
theorem specThgs (a b c d e f : Int) (n0 n1 n2 n3 n4 n5 n6 n7 : Int) (l8 : List Int) (n9 n10 : Int) (l11 : List S84) (l12 : List Int) (h11 : l11.length ≤ 1048576) (h12 : l12.length ≤ 1048576) {k : Nat} (hk : 2097154 < k) : spec_NodeOk.l0 k 0 a b c d e f n0 n1 n2 n3 n4 n5 n6 n7 l8 n9 n10 l11 l12 = some (Thgs a b c d e f l11 && Tags l12) := by
  refine all_bool (fun k i => spec_NodeOk.l0 k i a b c d e f n0 n1 n2 n3 n4 n5 n6 n7 l8 n9 n10 l11 l12) l11.length (fun j => Thg a b c d e f (rd_T84 l11 (j : Int))) (Tags l12) 1048577 ?_ ?_ ?_ k (by omega)
  · intro k i h hk cc
    have c1 : (i : Int) < (l11.length : Int) := by omega
    have c2 : (0 : Int) ≤ (i : Int) := by omega
    show spec_NodeOk.l0 (k + 1) (i : Int) a b c d e f n0 n1 n2 n3 n4 n5 n6 n7 l8 n9 n10 l11 l12 = _
    rw [spec_NodeOk.l0, if_pos c1, if_pos c2, thg_spec a b c d e f _ (by omega), Option.bind_some, if_pos cc, w1 (by omega)]
  · intro k i h hk cc
    have c1 : (i : Int) < (l11.length : Int) := by omega
    have c2 : (0 : Int) ≤ (i : Int) := by omega
    show spec_NodeOk.l0 (k + 1) (i : Int) a b c d e f n0 n1 n2 n3 n4 n5 n6 n7 l8 n9 n10 l11 l12 = _
    have c3 : ¬ Thg a b c d e f (rd_T84 l11 (i : Int)) = true := by
      intro g
      rw [g] at cc
      exact Bool.false_ne_true cc.symm
    rw [spec_NodeOk.l0, if_pos c1, if_pos c2, thg_spec a b c d e f _ (by omega), Option.bind_some, if_neg c3]
  · intro k hk
    show spec_NodeOk.l0 (k + 1) (l11.length : Int) a b c d e f n0 n1 n2 n3 n4 n5 n6 n7 l8 n9 n10 l11 l12 = _
    rw [spec_NodeOk.l0, if_neg (Int.lt_irrefl _), specTags n0 n1 n2 n3 n4 n5 n6 n7 l8 n9 n10 l11 l12 h12 (by omega)]
def Chk (a : Int) (l : List Int) (j : Nat) : Bool := decide (0 ≤ rd l (j : Int) ∧ rd l (j : Int) ≤ wrap64 (a - 1)) && !Has (l.take j) (rd l (j : Int))
def Chks (a : Int) (l : List Int) : Bool := allB l.length (Chk a l)
theorem chk_no (a : Int) (l : List Int) (j : Nat) (g : 0 ≤ rd l (j : Int) ∧ rd l (j : Int) ≤ wrap64 (a - 1)) (h : Chk a l j = false) : Has (l.take j) (rd l (j : Int)) = true := by
  unfold Chk at h
  rw [decide_eq_true g] at h
  simpa using h
theorem chk_yes (a : Int) (l : List Int) (j : Nat) (h : Chk a l j = true) : (0 ≤ rd l (j : Int) ∧ rd l (j : Int) ≤ wrap64 (a - 1)) ∧ Has (l.take j) (rd l (j : Int)) = false := by
  unfold Chk at h
  simpa using h
theorem implChks (a b c d e f : Int) (l : List Int) (hl : l.length ≤ 1048576) {k : Nat} (hk : 2097154 < k) : impl_distinct.f k a b c d e f l = some (Chks a l) := by
  unfold impl_distinct.f
  have := all_bool (fun k i => impl_distinct.l0 k l l (l.length : Int) i a b c d e f) l.length (Chk a l) true 1048577 ?_ ?_ ?_ k (by omega)
  · rw [Bool.and_true] at this; exact this
  · intro k i h hk cc
    have c1 : (i : Int) < (l.length : Int) := by omega
    have c2 : (0 : Int) ≤ (i : Int) := by omega
    have c3 : (i : Int) ≤ (l.length : Int) := by omega
    have ht : (l.take i).length ≤ 1048576 := by rw [List.length_take]; omega
    show impl_distinct.l0 (k + 1) l l (l.length : Int) (i : Int) a b c d e f = _
    obtain ⟨g1, g2⟩ := chk_yes a l i cc
    rw [impl_distinct.l0, if_pos c1, if_pos c2, if_pos c1, iwithin_some, Option.bind_some, if_pos (decide_eq_true g1), if_pos c3, Int.toNat_natCast, implHas _ _ ht (by omega), Option.bind_some, g2, if_neg Bool.false_ne_true, w1 (by omega)]
  · intro k i h hk cc
    have c1 : (i : Int) < (l.length : Int) := by omega
    have c2 : (0 : Int) ≤ (i : Int) := by omega
    have c3 : (i : Int) ≤ (l.length : Int) := by omega
    have ht : (l.take i).length ≤ 1048576 := by rw [List.length_take]; omega
    show impl_distinct.l0 (k + 1) l l (l.length : Int) (i : Int) a b c d e f = _
    rw [impl_distinct.l0, if_pos c1, if_pos c2, if_pos c1, iwithin_some, Option.bind_some]
    by_cases g : 0 ≤ rd l (i : Int) ∧ rd l (i : Int) ≤ wrap64 (a - 1)
    · rw [if_pos (decide_eq_true g), if_pos c3, Int.toNat_natCast, implHas _ _ ht (by omega), Option.bind_some, if_pos (chk_no a l i g cc)]
    · rw [if_neg (by simpa using g)]
  · intro k hk
    show impl_distinct.l0 (k + 1) l l (l.length : Int) (l.length : Int) a b c d e f = _
    rw [impl_distinct.l0, if_neg (Int.lt_irrefl _)]
def Cur (b : Int) (l : List Int) (x y : Int) : Bool := if x = 0 then y == 0 else Has l (wrap64 (x - 1)) && decide (0 ≤ y ∧ y ≤ b)
theorem specChks (a b c d e f : Int) (n0 n1 n2 n3 n4 n5 n6 n7 : Int) (l8 : List Int) (n9 n10 : Int) (l11 : List S84) (l12 : List Int) (hl : l8.length ≤ 1048576) {k : Nat} (hk : 2097154 < k) : spec_l7Chunks.f k a b c d e f n0 n1 n2 n3 n4 n5 n6 n7 l8 n9 n10 l11 l12 = some (Chks a l8 && Cur b l8 n9 n10) := by
  unfold spec_l7Chunks.f
  refine all_bool (fun k i => spec_l7Chunks.l0 k i a b c d e f n0 n1 n2 n3 n4 n5 n6 n7 l8 n9 n10 l11 l12) l8.length (Chk a l8) (Cur b l8 n9 n10) 1048577 ?_ ?_ ?_ k (by omega)
  · intro k i h hk cc
    have c1 : (i : Int) < (l8.length : Int) := by omega
    have c2 : (0 : Int) ≤ (i : Int) := by omega
    have c3 : (i : Int) ≤ (l8.length : Int) := by omega
    have ht : (l8.take i).length ≤ 1048576 := by rw [List.length_take]; omega
    show spec_l7Chunks.l0 (k + 1) (i : Int) a b c d e f n0 n1 n2 n3 n4 n5 n6 n7 l8 n9 n10 l11 l12 = _
    obtain ⟨g1, g2⟩ := chk_yes a l8 i cc
    rw [spec_l7Chunks.l0, if_pos c1, if_pos c2, within_some, Option.bind_some, if_pos (decide_eq_true g1), if_pos c3, Int.toNat_natCast, specHas _ _ ht (by omega), Option.bind_some, g2, if_neg Bool.false_ne_true, w1 (by omega)]
  · intro k i h hk cc
    have c1 : (i : Int) < (l8.length : Int) := by omega
    have c2 : (0 : Int) ≤ (i : Int) := by omega
    have c3 : (i : Int) ≤ (l8.length : Int) := by omega
    have ht : (l8.take i).length ≤ 1048576 := by rw [List.length_take]; omega
    show spec_l7Chunks.l0 (k + 1) (i : Int) a b c d e f n0 n1 n2 n3 n4 n5 n6 n7 l8 n9 n10 l11 l12 = _
    rw [spec_l7Chunks.l0, if_pos c1, if_pos c2, within_some, Option.bind_some]
    by_cases g : 0 ≤ rd l8 (i : Int) ∧ rd l8 (i : Int) ≤ wrap64 (a - 1)
    · rw [if_pos (decide_eq_true g), if_pos c3, Int.toNat_natCast, specHas _ _ ht (by omega), Option.bind_some, if_pos (chk_no a l8 i g cc)]
    · rw [if_neg (by simpa using g)]
  · intro k hk
    show spec_l7Chunks.l0 (k + 1) (l8.length : Int) a b c d e f n0 n1 n2 n3 n4 n5 n6 n7 l8 n9 n10 l11 l12 = _
    rw [spec_l7Chunks.l0, if_neg (Int.lt_irrefl _)]
    unfold Cur
    by_cases g : n9 = 0
    · rw [if_pos g, if_pos g]
    · rw [if_neg g, if_neg g, specHas _ _ hl (by omega), Option.bind_some]
      cases Has l8 (wrap64 (n9 - 1)) with
      | true => rw [if_pos rfl, within_some, Option.bind_some]; rfl
      | false => rw [if_neg Bool.false_ne_true]; rfl
theorem specJ1 (x : Bool) (a b c d e f : Int) (n0 n1 n2 n3 n4 n5 n6 n7 : Int) (l8 : List Int) (n9 n10 : Int) (l11 : List S84) (l12 : List Int) (h11 : l11.length ≤ 1048576) (h12 : l12.length ≤ 1048576) {k : Nat} (hk : 2097155 < k) : spec_NodeOk.j1 k x a b c d e f n0 n1 n2 n3 n4 n5 n6 n7 l8 n9 n10 l11 l12 = some (!x && (Thgs a b c d e f l11 && Tags l12)) := by
  obtain ⟨k, rfl⟩ : ∃ m, k = m + 1 := ⟨k - 1, by omega⟩
  rw [spec_NodeOk.j1]
  cases x with
  | true => rw [if_pos rfl]; rfl
  | false => rw [if_neg Bool.false_ne_true, specThgs a b c d e f n0 n1 n2 n3 n4 n5 n6 n7 l8 n9 n10 l11 l12 h11 h12 (by omega)]; rfl
theorem implJ2 (x : Bool) (a b c d e f : Int) (n0 n1 n2 n3 n4 n5 n6 n7 : Int) (l8 : List Int) (n9 n10 : Int) (l11 : List S84) (l12 : List Int) (h11 : l11.length ≤ 1048576) (h12 : l12.length ≤ 1048576) {k : Nat} (hk : 2097155 < k) : impl_NodeOk.j2 k x a b c d e f n0 n1 n2 n3 n4 n5 n6 n7 l8 n9 n10 l11 l12 = some (!x && (decide ((l11.length : Int) ≤ 12) && (decide ((l12.length : Int) ≤ 6) && (Thgs a b c d e f l11 && Tags l12)))) := by
  obtain ⟨k, rfl⟩ : ∃ m, k = m + 1 := ⟨k - 1, by omega⟩
  rw [impl_NodeOk.j2]
  cases x with
  | true => rw [if_pos rfl]; rfl
  | false =>
    rw [if_neg Bool.false_ne_true]
    by_cases g1 : (l11.length : Int) ≤ 12
    · rw [if_pos g1]
      by_cases g2 : (l12.length : Int) ≤ 6
      · rw [if_pos g2, implTags l12 h12 (by omega), Option.bind_some, implThgs a b c d e f l11 h11 (by omega), Option.bind_some, decide_eq_true g1, decide_eq_true g2]
        cases Tags l12 <;> cases Thgs a b c d e f l11 <;> rfl
      · rw [if_neg g2, decide_eq_true g1, decide_eq_false g2]; rfl
    · rw [if_neg g1, decide_eq_false g1]; rfl
def In (c x : Int) : Prop := 0 ≤ x ∧ x ≤ c
instance (c x : Int) : Decidable (In c x) := by unfold In; infer_instance
theorem links (a b c d e f : Int) (n0 n1 n2 n3 n4 n5 n6 n7 : Int) (l8 : List Int) (n9 n10 : Int) (l11 : List S84) (l12 : List Int) (p q r s : Int) (k : Nat) : impl_NodeOk.l0 (k + 5) [p, q, r, s] 4 0 a b c d e f n0 n1 n2 n3 n4 n5 n6 n7 l8 n9 n10 l11 l12 = if In c p then (if In c q then (if In c r then (if In c s then impl_NodeOk.l0 (k + 1) [p, q, r, s] 4 4 a b c d e f n0 n1 n2 n3 n4 n5 n6 n7 l8 n9 n10 l11 l12 else some false) else some false) else some false) else some false := by
  have e0 : rd [p, q, r, s] 0 = p := rfl
  have e1 : rd [p, q, r, s] 1 = q := rfl
  have e2 : rd [p, q, r, s] 2 = r := rfl
  have e3 : rd [p, q, r, s] 3 = s := rfl
  have f0 : wrap64 (0 + 1) = 1 := by unfold wrap64; omega
  have f1 : wrap64 (1 + 1) = 2 := by unfold wrap64; omega
  have f2 : wrap64 (2 + 1) = 3 := by unfold wrap64; omega
  have f3 : wrap64 (3 + 1) = 4 := by unfold wrap64; omega
  have g : (([p, q, r, s] : List Int).length : Int) = 4 := rfl
  have step : ∀ (m : Nat) (i x : Int), 0 ≤ i → i < 4 → rd [p, q, r, s] i = x → impl_NodeOk.l0 (m + 1) [p, q, r, s] 4 i a b c d e f n0 n1 n2 n3 n4 n5 n6 n7 l8 n9 n10 l11 l12 = if In c x then impl_NodeOk.l0 m [p, q, r, s] 4 (wrap64 (i + 1)) a b c d e f n0 n1 n2 n3 n4 n5 n6 n7 l8 n9 n10 l11 l12 else some false := by
    intro m i x h0 h1 hx
    have h2 : i < (([p, q, r, s] : List Int).length : Int) := by rw [g]; exact h1
    rw [impl_NodeOk.l0, if_pos h1, if_pos h0, if_pos h2, hx, iwithin_some, Option.bind_some]
    by_cases c0 : In c x
    · rw [if_pos c0, if_pos (decide_eq_true (show 0 ≤ x ∧ x ≤ c from c0))]
    · rw [if_neg c0, if_neg (by simpa using (show ¬ (0 ≤ x ∧ x ≤ c) from c0))]
  rw [step (k + 4) 0 p (by omega) (by omega) e0, f0, step (k + 3) 1 q (by omega) (by omega) e1, f1, step (k + 2) 2 r (by omega) (by omega) e2, f2, step (k + 1) 3 s (by omega) (by omega) e3, f3]
theorem rest (a b c d e f : Int) (n0 n1 n2 n3 n4 n5 n6 n7 : Int) (l8 : List Int) (n9 n10 : Int) (l11 : List S84) (l12 : List Int) (L : List Int) (h8 : l8.length ≤ 1048576) (h11 : l11.length ≤ 1048576) (h12 : l12.length ≤ 1048576) {k : Nat} (hk : 2097156 < k) :
    impl_NodeOk.l0 (k + 1) L 4 4 a b c d e f n0 n1 n2 n3 n4 n5 n6 n7 l8 n9 n10 l11 l12 = some (decide (0 ≤ n2) && (decide (0 ≤ n4) && (Chks a l8 && (Cur b l8 n9 n10 && (decide (0 ≤ b) && (decide ((l11.length : Int) ≤ 12) && (decide ((l12.length : Int) ≤ 6) && (Thgs a b c d e f l11 && Tags l12)))))))) := by
  rw [impl_NodeOk.l0, if_neg (Int.lt_irrefl _)]
  by_cases g1 : n2 < 0
  · rw [if_pos g1, implJ2 true a b c d e f n0 n1 n2 n3 n4 n5 n6 n7 l8 n9 n10 l11 l12 h11 h12 (by omega), decide_eq_false (show ¬ 0 ≤ n2 by omega)]; rfl
  rw [if_neg g1, decide_eq_true (show 0 ≤ n2 by omega)]
  by_cases g2 : n4 < 0
  · rw [if_pos g2, implJ2 true a b c d e f n0 n1 n2 n3 n4 n5 n6 n7 l8 n9 n10 l11 l12 h11 h12 (by omega), decide_eq_false (show ¬ 0 ≤ n4 by omega)]; rfl
  rw [if_neg g2, decide_eq_true (show 0 ≤ n4 by omega), implChks a b c d e f l8 h8 (by omega), Option.bind_some]
  cases Chks a l8 with
  | false => rw [if_neg Bool.false_ne_true, implJ2 true a b c d e f n0 n1 n2 n3 n4 n5 n6 n7 l8 n9 n10 l11 l12 h11 h12 (by omega)]; rfl
  | true =>
    rw [if_pos rfl]
    unfold Cur
    by_cases g3 : n9 = 0
    · rw [if_pos g3, if_pos g3, iwithin_some, Option.bind_some]
      by_cases g4 : 0 ≤ n10 ∧ n10 ≤ b
      · rw [if_pos (decide_eq_true g4), implJ2 _ a b c d e f n0 n1 n2 n3 n4 n5 n6 n7 l8 n9 n10 l11 l12 h11 h12 (by omega), decide_eq_true (show 0 ≤ b by omega)]
        cases c0 : n10 == 0 <;> simp only [bne, c0] <;> rfl
      · rw [if_neg (by simpa using g4), implJ2 true a b c d e f n0 n1 n2 n3 n4 n5 n6 n7 l8 n9 n10 l11 l12 h11 h12 (by omega)]
        by_cases g5 : n10 = 0
        · rw [decide_eq_false (show ¬ 0 ≤ b by omega)]; simp
        · rw [beq_false_of_ne g5]; rfl
    · rw [if_neg g3, if_neg g3, implHas l8 _ h8 (by omega), Option.bind_some]
      cases Has l8 (wrap64 (n9 - 1)) with
      | false => rw [if_neg Bool.false_ne_true, implJ2 true a b c d e f n0 n1 n2 n3 n4 n5 n6 n7 l8 n9 n10 l11 l12 h11 h12 (by omega)]; rfl
      | true =>
        rw [if_pos rfl, iwithin_some, Option.bind_some]
        by_cases g4 : 0 ≤ n10 ∧ n10 ≤ b
        · rw [if_pos (decide_eq_true g4), implJ2 false a b c d e f n0 n1 n2 n3 n4 n5 n6 n7 l8 n9 n10 l11 l12 h11 h12 (by omega), decide_eq_true g4, decide_eq_true (show 0 ≤ b by omega)]; rfl
        · rw [if_neg (by simpa using g4), implJ2 true a b c d e f n0 n1 n2 n3 n4 n5 n6 n7 l8 n9 n10 l11 l12 h11 h12 (by omega), decide_eq_false g4]; rfl
theorem specLive (a b c d e f : Int) (n0 n1 n2 n3 n4 n5 n6 n7 : Int) (l8 : List Int) (n9 n10 : Int) (l11 : List S84) (l12 : List Int) (hb : 0 ≤ b) (h8 : l8.length ≤ 1048576) (h11 : l11.length ≤ 1048576) (h12 : l12.length ≤ 1048576) (h0 : n0 = 1) {k : Nat} (hk : 2097156 < k) :
    spec_NodeOk.j0 (k + 1) false a b c d e f n0 n1 n2 n3 n4 n5 n6 n7 l8 n9 n10 l11 l12 = if In c n3 then (if In c n5 then (if In c n6 then (if In c n7 then some (decide (0 ≤ n2) && (decide (0 ≤ n4) && (Chks a l8 && (Cur b l8 n9 n10 && (decide (0 ≤ b) && (decide ((l11.length : Int) ≤ 12) && (decide ((l12.length : Int) ≤ 6) && (Thgs a b c d e f l11 && Tags l12)))))))) else some false) else some false) else some false) else some false := by
  have J : ∀ x, spec_NodeOk.j1 k x a b c d e f n0 n1 n2 n3 n4 n5 n6 n7 l8 n9 n10 l11 l12 = _ := fun x => specJ1 x a b c d e f n0 n1 n2 n3 n4 n5 n6 n7 l8 n9 n10 l11 l12 h11 h12 (by omega)
  have JT : spec_NodeOk.j1 k true a b c d e f n0 n1 n2 n3 n4 n5 n6 n7 l8 n9 n10 l11 l12 = some false := J true
  rw [spec_NodeOk.j0, if_neg Bool.false_ne_true, if_pos h0, JT]
  by_cases g1 : n2 < 0
  · rw [if_pos g1, decide_eq_false (show ¬ 0 ≤ n2 by omega)]
    simp only [Bool.false_and, ite_self]
  rw [if_neg g1, decide_eq_true (show 0 ≤ n2 by omega)]
  by_cases g2 : n4 < 0
  · rw [if_pos g2, decide_eq_false (show ¬ 0 ≤ n4 by omega)]
    simp only [Bool.false_and, Bool.and_false, ite_self]
  rw [if_neg g2, decide_eq_true (show 0 ≤ n4 by omega)]
  simp only [within_some, Option.bind_some]
  by_cases i3 : In c n3
  rotate_left
  · rw [if_neg i3, if_neg (by simpa using (show ¬ (0 ≤ n3 ∧ n3 ≤ c) from i3))]
  rw [if_pos i3, if_pos (decide_eq_true (show 0 ≤ n3 ∧ n3 ≤ c from i3))]
  by_cases i5 : In c n5
  rotate_left
  · rw [if_neg i5, if_neg (by simpa using (show ¬ (0 ≤ n5 ∧ n5 ≤ c) from i5))]
  rw [if_pos i5, if_pos (decide_eq_true (show 0 ≤ n5 ∧ n5 ≤ c from i5))]
  by_cases i6 : In c n6
  rotate_left
  · rw [if_neg i6, if_neg (by simpa using (show ¬ (0 ≤ n6 ∧ n6 ≤ c) from i6))]
  rw [if_pos i6, if_pos (decide_eq_true (show 0 ≤ n6 ∧ n6 ≤ c from i6))]
  by_cases i7 : In c n7
  rotate_left
  · rw [if_neg i7, if_neg (by simpa using (show ¬ (0 ≤ n7 ∧ n7 ≤ c) from i7))]
  rw [if_pos i7, if_pos (decide_eq_true (show 0 ≤ n7 ∧ n7 ≤ c from i7)), specChks a b c d e f n0 n1 n2 n3 n4 n5 n6 n7 l8 n9 n10 l11 l12 h8 (by omega), Option.bind_some, decide_eq_true hb]
  cases Chks a l8 with
  | false => rw [Bool.false_and, if_neg Bool.false_ne_true]; rfl
  | true =>
    cases Cur b l8 n9 n10 with
    | false => rw [Bool.and_false, if_neg Bool.false_ne_true]; rfl
    | true =>
      rw [Bool.and_true, if_pos rfl]
      by_cases g3 : (l11.length : Int) > 12
      · rw [if_pos g3, decide_eq_false (show ¬ (l11.length : Int) ≤ 12 by omega)]; rfl
      · rw [if_neg g3, J, decide_eq_true (show (l11.length : Int) ≤ 12 by omega)]
        by_cases g4 : (l12.length : Int) > 6
        · rw [decide_eq_true g4, decide_eq_false (show ¬ (l12.length : Int) ≤ 6 by omega)]; rfl
        · rw [decide_eq_false g4, decide_eq_true (show (l12.length : Int) ≤ 6 by omega)]; rfl
theorem nodeok_same (a b c d e f : Int) (n0 n1 n2 n3 n4 n5 n6 n7 : Int) (l8 : List Int) (n9 n10 : Int) (l11 : List S84) (l12 : List Int) (h8 : l8.length ≤ 1048576) (h11 : l11.length ≤ 1048576) (h12 : l12.length ≤ 1048576) {k : Nat} (hk : 3000000 < k) :
    ∃ r, spec_NodeOk.f k a b c d e f n0 n1 n2 n3 n4 n5 n6 n7 l8 n9 n10 l11 l12 = some r ∧ impl_NodeOk.f k a b c d e f n0 n1 n2 n3 n4 n5 n6 n7 l8 n9 n10 l11 l12 = some r := by
  obtain ⟨k, rfl⟩ : ∃ m, k = m + 7 := ⟨k - 7, by omega⟩
  have sf : spec_NodeOk.j0 (k + 7) true a b c d e f n0 n1 n2 n3 n4 n5 n6 n7 l8 n9 n10 l11 l12 = some false := by rw [spec_NodeOk.j0, if_pos rfl]
  have mf : impl_NodeOk.j0 (k + 7) true a b c d e f n0 n1 n2 n3 n4 n5 n6 n7 l8 n9 n10 l11 l12 = some false := by rw [impl_NodeOk.j0, if_pos rfl]
  unfold spec_NodeOk.f impl_NodeOk.f
  have hc : impl_ConfOk.f a b c d e f = spec_ConfOk.f a b c d e f := rfl
  rw [hc, conf_some, Option.bind_some, Option.bind_some]
  by_cases g0 : ConfIn a b c d e f
  rotate_left
  · rw [if_neg (by simpa using g0), if_neg (by simpa using g0), sf, mf]; exact ⟨_, rfl, rfl⟩
  rw [if_pos (decide_eq_true g0), if_pos (decide_eq_true g0), within_some, iwithin_some, Option.bind_some, Option.bind_some]
  by_cases g1 : 0 ≤ n0 ∧ n0 ≤ 3
  rotate_left
  · rw [if_neg (by simpa using g1), if_neg (by simpa using g1), sf, mf]; exact ⟨_, rfl, rfl⟩
  rw [if_pos (decide_eq_true g1), if_pos (decide_eq_true g1), within_some, iwithin_some, Option.bind_some, Option.bind_some]
  by_cases g2 : 1 ≤ n1 ∧ n1 ≤ f
  rotate_left
  · rw [decide_eq_false g2, Bool.not_false, sf, mf]; exact ⟨_, rfl, rfl⟩
  rw [decide_eq_true g2, Bool.not_true]
  by_cases g3 : n0 = 1
  · have hb : 0 ≤ b := by have := g0.2.1.1; omega
    rw [specLive a b c d e f n0 n1 n2 n3 n4 n5 n6 n7 l8 n9 n10 l11 l12 hb h8 h11 h12 g3 (k := k + 6) (by omega)]
    rw [impl_NodeOk.j0, if_neg Bool.false_ne_true, if_pos g3, Option.bind_some]
    rw [show (([n3, n5, n6, n7] : List Int).length : Int) = 4 from rfl, links a b c d e f n0 n1 n2 n3 n4 n5 n6 n7 l8 n9 n10 l11 l12 n3 n5 n6 n7 (k + 1), rest a b c d e f n0 n1 n2 n3 n4 n5 n6 n7 l8 n9 n10 l11 l12 [n3, n5, n6, n7] h8 h11 h12 (k := k + 1) (by omega)]
    by_cases i3 : In c n3
    rotate_left
    · rw [if_neg i3]; exact ⟨_, rfl, rfl⟩
    by_cases i5 : In c n5
    rotate_left
    · rw [if_pos i3, if_neg i5]; exact ⟨_, rfl, rfl⟩
    by_cases i6 : In c n6
    rotate_left
    · rw [if_pos i3, if_pos i5, if_neg i6]; exact ⟨_, rfl, rfl⟩
    by_cases i7 : In c n7
    rotate_left
    · rw [if_pos i3, if_pos i5, if_pos i6, if_neg i7]; exact ⟨_, rfl, rfl⟩
    · rw [if_pos i3, if_pos i5, if_pos i6, if_pos i7]; exact ⟨_, rfl, rfl⟩
  · obtain ⟨r, e1, e2⟩ := bare_same n0 n1 n2 n3 n4 n5 n6 n7 l8 n9 n10 l11 l12 h8 h11 h12 (k := k + 6) (by omega)
    refine ⟨r, ?_, ?_⟩
    · rw [spec_NodeOk.j0, if_neg Bool.false_ne_true, if_neg g3, e1]; rfl
    · rw [impl_NodeOk.j0, if_neg Bool.false_ne_true, if_neg g3, e2]; rfl
theorem FnExactNodeOk : laws_FnExactNodeOk.Pure := by
  intro a b c d e f n0 n1 n2 n3 n4 n5 n6 n7 l8 n9 n10 l11 l12 _ _ _ _ _ _ _ _ _ _ _ _ _ _ hm8 h8 _ _ _ hm11 h11 _ hm12 h12 _
  obtain ⟨k, hk⟩ : ∃ k : Nat, 4000000 < k := ⟨_, Nat.lt_succ_self _⟩
  refine ⟨k, ?_⟩
  unfold laws_FnExactNodeOk.f
  obtain ⟨r, es, g⟩ := szNode_val n0 n1 n2 n3 n4 n5 n6 n7 l8 n9 n10 l11 l12 1048576 (by omega) (by omega) (by omega) (by omega) (by omega)
  rw [es, Option.bind_some]
  by_cases c0 : r < 0
  · rw [if_pos c0]
  · rw [if_neg c0]
    rcases g with g | ⟨_, _, g8, g11, g12⟩
    · exact absurd g c0
    · have hl : (l11.map thingOf).length = l11.length := by simp
      obtain ⟨q, e1, e2⟩ := nodeok_same a b c d e f n0 n1 n2 n3 n4 n5 n6 n7 l8 n9 n10 (l11.map thingOf) l12 g8 (by omega) g12 (k := k) (by omega)
      unfold laws_toConf.f
      simp only [toNode_some n0 n1 n2 n3 n4 n5 n6 n7 l8 n9 n10 l11 l12 g8 g11 g12 (show 1048576 < k by omega), Option.bind_some, e1, e2, bne_self_eq_false, Bool.false_eq_true, ↓reduceIte, eqNode1_same n0 n1 n2 n3 n4 n5 n6 n7 l8 n9 n10 (l11.map thingOf) l12 g8 (show (l11.map thingOf).length ≤ 1048576 by omega) g12 (show 1048576 < k by omega)]
end Go.Proofs.Ytnloeihhimcblaa.Pure
