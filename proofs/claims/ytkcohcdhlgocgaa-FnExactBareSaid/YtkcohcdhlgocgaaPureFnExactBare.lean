/- What the law FnExactBare computes is the answer true, for all arguments within the bounds that the statement's own reading gives. No other condition. -/
import Derived.OpenShut
import Derived.Test.YtkcohcdhlgocgaaQFnExactBarex4
namespace Go.Proofs.Ytkcohcdhlgocgaa.Pure
open Go.RowKit Go.Proofs.Ytkcohcdhlgocgaa.QFnExactBare Go.Proofs.YtkcohcdhlgocgaaW.PrintWords Go.Proofs.YtkcohcdhlgocgaaW.PrintLast
set_option linter.unusedVariables false
set_option linter.unusedSimpArgs false
def ok111 (x : S111) : Prop := (Lit.int .i64 x.f0).wf = true ∧ (Lit.int .i64 x.f1).wf = true ∧ (Lit.int .i64 x.f2).wf = true
def laws_FnExactBare.Pure : Prop := ∀ (a0_0 : Int) (a0_1 : Int) (a0_2 : Int) (a0_3 : Int) (a0_4 : Int) (a0_5 : Int) (a0_6 : Int) (a0_7 : Int) (l0_8 : List Int) (a0_9 : Int) (a0_10 : Int) (l0_11 : List S111) (l0_12 : List Int), (Lit.int .i64 a0_0).wf = true → (Lit.int .i64 a0_1).wf = true → (Lit.int .i64 a0_2).wf = true → (Lit.int .i64 a0_3).wf = true → (Lit.int .i64 a0_4).wf = true → (Lit.int .i64 a0_5).wf = true → (Lit.int .i64 a0_6).wf = true → (Lit.int .i64 a0_7).wf = true → l0_8.length ≤ maxLen → l0_8.length * 8 ≤ 140737488351232 → (∀ x ∈ l0_8, (Lit.int .i64 x).wf = true) → (Lit.int .i64 a0_9).wf = true → (Lit.int .i64 a0_10).wf = true → l0_11.length ≤ maxLen → l0_11.length * 24 ≤ 140737488351232 → (∀ x ∈ l0_11, ok111 x) → l0_12.length ≤ maxLen → l0_12.length * 8 ≤ 140737488351232 → (∀ x ∈ l0_12, (Lit.int .i64 x).wf = true) → ∃ k, laws_FnExactBare.f k a0_0 a0_1 a0_2 a0_3 a0_4 a0_5 a0_6 a0_7 l0_8 a0_9 a0_10 l0_11 l0_12 = some true
theorem w1 {i : Nat} (h : i < 9223372036854775807) : wrap64 ((i : Int) + 1) = ((i + 1 : Nat) : Int) := by unfold wrap64; omega
theorem rd_nat (xs : List Int) (i : Nat) : rd xs (i : Int) = xs.getD i 0 := by simp [rd]
theorem getD_lt (xs : List Int) (i : Nat) (h : i < xs.length) : xs.getD i 0 = xs[i] := by simp [List.getD, List.getElem?_eq_getElem h]
theorem drop_cons (xs : List Int) (i : Nat) (h : i < xs.length) : xs.drop i = xs.getD i 0 :: xs.drop (i + 1) := by rw [getD_lt xs i h]; exact List.drop_eq_getElem_cons h
theorem set_take {x l : List Int} {i : Nat} (hi : i < l.length) (hx : x.length = l.length) (ht : x.take i = l.take i) : (x.set i (l.getD i 0)).take (i + 1) = l.take (i + 1) := by
  apply List.ext_getElem?
  intro j
  have hj := congrArg (fun z => z[j]?) ht
  simp only [List.getElem?_take] at hj ⊢
  by_cases h1 : j < i + 1
  · rw [if_pos h1, if_pos h1, List.getElem?_set]
    by_cases h2 : i = j
    · subst h2
      rw [if_pos rfl, if_pos (by omega), List.getElem?_eq_getElem hi, getD_lt l i hi]
    · rw [if_neg h2]
      rw [if_pos (by omega), if_pos (by omega)] at hj
      exact hj
  · rw [if_neg h1, if_neg h1]
/-- A loop that copies a slice, each element by a function of its own. -/
theorem copy_gen {α β : Type} (F : Nat → List α → List β → Int → Option (List β)) (c : α → β) (x0 : List α) (K : Nat)
    (step : ∀ (k i : Nat) (x3 : List β) (h : i < x0.length), x3.length = x0.length → K ≤ k → F (k + 1) x0 x3 (i : Int) = F k x0 (x3.set i (c x0[i])) ((i + 1 : Nat) : Int))
    (last : ∀ (k : Nat) (x3 : List β), F (k + 1) x0 x3 (x0.length : Int) = some x3) :
    ∀ (d k i : Nat) (x3 : List β), x0.length - i = d → i ≤ x0.length → x3.length = x0.length → x3.take i = (x0.map c).take i → d + K < k → F k x0 x3 (i : Int) = some (x0.map c) := by
  intro d
  induction d with
  | zero =>
    intro k i x3 hd hi hx ht hk
    obtain ⟨k, rfl⟩ : ∃ m, k = m + 1 := ⟨k - 1, by omega⟩
    have e : i = x0.length := by omega
    subst e
    rw [last]
    rw [List.take_of_length_le (by omega), List.take_of_length_le (by simp)] at ht
    rw [ht]
  | succ d ih =>
    intro k i x3 hd hi hx ht hk
    obtain ⟨k, rfl⟩ : ∃ m, k = m + 1 := ⟨k - 1, by omega⟩
    have h : i < x0.length := by omega
    rw [step k i x3 h hx (by omega)]
    refine ih k (i + 1) _ (by omega) (by omega) (by simpa using hx) ?_ (by omega)
    apply List.ext_getElem?
    intro j
    have hj := congrArg (fun z => z[j]?) ht
    simp only [List.getElem?_take] at hj ⊢
    by_cases h1 : j < i + 1
    · rw [if_pos h1, if_pos h1, List.getElem?_set]
      by_cases h2 : i = j
      · subst h2
        rw [if_pos rfl, if_pos (by omega)]
        simp [h]
      · rw [if_neg h2]
        rw [if_pos (by omega), if_pos (by omega)] at hj
        exact hj
    · rw [if_neg h1, if_neg h1]
/-- A loop that looks at two equal slices. -/
theorem same_gen {β : Type} (G : Nat → List β → List β → Int → Option Bool) (x : List β) (K : Nat)
    (step : ∀ (k i : Nat) (h : i < x.length), K ≤ k → G (k + 1) x x (i : Int) = G k x x ((i + 1 : Nat) : Int))
    (last : ∀ (k : Nat), G (k + 1) x x (x.length : Int) = some true) :
    ∀ (d k i : Nat), x.length - i = d → i ≤ x.length → d + K < k → G k x x (i : Int) = some true := by
  intro d
  induction d with
  | zero =>
    intro k i hd hi hk
    obtain ⟨k, rfl⟩ : ∃ m, k = m + 1 := ⟨k - 1, by omega⟩
    have e : i = x.length := by omega
    subst e
    exact last k
  | succ d ih =>
    intro k i hd hi hk
    obtain ⟨k, rfl⟩ : ∃ m, k = m + 1 := ⟨k - 1, by omega⟩
    rw [step k i (by omega) (by omega)]
    exact ih k (i + 1) (by omega) (by omega) (by omega)
theorem toInt_l0 (l : List Int) (hn : l.length ≤ 35184372088832) : ∀ (d k i : Nat) (x : List Int), l.length - i = d → i ≤ l.length → d < k → x.length = l.length → x.take i = l.take i → laws_toIntS.l0 k l x (i : Int) = some l := by
  intro d
  induction d with
  | zero =>
    intro k i x hd hi hk hx ht
    obtain ⟨k, rfl⟩ : ∃ m, k = m + 1 := ⟨k - 1, by omega⟩
    simp only [laws_toIntS.l0]
    rw [if_neg (by omega)]
    rw [List.take_of_length_le (by omega), List.take_of_length_le (by omega)] at ht
    rw [ht]
  | succ d ih =>
    intro k i x hd hi hk hx ht
    obtain ⟨k, rfl⟩ : ∃ m, k = m + 1 := ⟨k - 1, by omega⟩
    simp only [laws_toIntS.l0]
    rw [if_pos (by omega), if_pos (by omega), if_pos (by omega), w1 (by omega)]
    refine ih k (i + 1) _ (by omega) (by omega) (by omega) (by simpa using hx) ?_
    rw [rd_nat, Int.toNat_natCast]
    exact set_take (by omega) hx ht
theorem toInt_some (l : List Int) (hn : l.length ≤ 35184372088832) {k : Nat} (hk : l.length < k) : laws_toIntS.f k l = some l := by
  unfold laws_toIntS.f
  rw [if_pos (by omega), if_pos (by simpa using hn)]
  exact toInt_l0 l hn l.length k 0 _ (by omega) (by omega) hk (by simp) rfl
theorem eqInt_l0 (a b : List Int) (hab : a.length = b.length) (hn : a.length ≤ 4611686018427387904) : ∀ (d k i : Nat), a.length - i = d → i ≤ a.length → d < k → laws_eqIntS.l0 k a b (i : Int) = some (decide (a.drop i = b.drop i)) := by
  intro d
  induction d with
  | zero =>
    intro k i hd hi hk
    obtain ⟨k, rfl⟩ : ∃ m, k = m + 1 := ⟨k - 1, by omega⟩
    simp only [laws_eqIntS.l0]
    rw [if_neg (by omega), List.drop_eq_nil_of_le (by omega), List.drop_eq_nil_of_le (by omega)]
    simp
  | succ d ih =>
    intro k i hd hi hk
    obtain ⟨k, rfl⟩ : ∃ m, k = m + 1 := ⟨k - 1, by omega⟩
    simp only [laws_eqIntS.l0]
    rw [if_pos (by omega), if_pos (by omega), if_pos (by omega), rd_nat, rd_nat, drop_cons a i (by omega), drop_cons b i (by omega)]
    by_cases h : a.getD i 0 = b.getD i 0
    · rw [if_pos h, w1 (by omega), ih k (i + 1) (by omega) (by omega) (by omega), h]
      simp
    · rw [if_neg h]
      simp only [List.cons.injEq, h, false_and, decide_false]
theorem eqInt_some (a b : List Int) (hn : a.length ≤ 4611686018427387904) {k : Nat} (hk : a.length < k) : laws_eqIntS.f k a b = some (decide (a = b)) := by
  unfold laws_eqIntS.f
  by_cases h : a.length = b.length
  · rw [if_pos (by omega)]
    have := eqInt_l0 a b h hn a.length k 0 (by omega) (by omega) hk
    simpa using this
  · rw [if_neg (by omega)]
    have : a ≠ b := fun e => h (by rw [e])
    simp [this]
theorem eqInt_same (a : List Int) (hn : a.length ≤ 4611686018427387904) {k : Nat} (hk : a.length < k) : laws_eqIntS.f k a a = some true := by
  rw [eqInt_some a a hn hk]; simp
def thingOf (x : S111) : S108 := ⟨x.f0, x.f1, x.f2⟩
theorem rdT_l (xs : List S111) (i : Nat) (h : i < xs.length) : rd_T111 xs (i : Int) = xs[i] := by simp [rd_T111, List.getElem?_eq_getElem h]
theorem rdT_i (xs : List S108) (i : Nat) (h : i < xs.length) : rd_T108 xs (i : Int) = xs[i] := by simp [rd_T108, List.getElem?_eq_getElem h]
theorem toThing_some (l : List S111) (hn : l.length ≤ 5864062014805) {k : Nat} (hk : l.length < k) : laws_toThingS.f k l = some (l.map thingOf) := by
  unfold laws_toThingS.f
  rw [if_pos (by omega), if_pos (by simp; omega)]
  refine copy_gen laws_toThingS.l0 thingOf l 0 ?_ ?_ l.length k 0 _ (by omega) (by omega) (by simp) rfl (by omega)
  · intro k i x3 h hx _
    have c1 : (i : Int) < (l.length : Int) := by omega
    have c2 : (0 : Int) ≤ (i : Int) := by omega
    have c3 : (i : Int) < (x3.length : Int) := by omega
    have e : laws_toThing.f l[i].f0 l[i].f1 l[i].f2 = some (l[i].f0, l[i].f1, l[i].f2) := rfl
    rw [laws_toThingS.l0, if_pos c1, if_pos c2, rdT_l l i h, e, Option.bind_some, if_pos c3, w1 (by omega), Int.toNat_natCast]
    rfl
  · intro k x3
    rw [laws_toThingS.l0, if_neg (Int.lt_irrefl _)]
theorem eqThing1_same (a b c : Int) : laws_eqThing.f a b c a b c = some true := by simp [laws_eqThing.f]
theorem eqThing_same (x : List S108) (hn : x.length ≤ 4611686018427387904) {k : Nat} (hk : x.length < k) : laws_eqThingS.f k x x = some true := by
  unfold laws_eqThingS.f
  rw [if_pos rfl]
  refine same_gen laws_eqThingS.l0 x 0 ?_ ?_ x.length k 0 (by omega) (by omega) (by omega)
  · intro k i h _
    have c1 : (i : Int) < (x.length : Int) := by omega
    have c2 : (0 : Int) ≤ (i : Int) := by omega
    rw [laws_eqThingS.l0, if_pos c1, if_pos c2, if_pos c1, eqThing1_same, Option.bind_some, if_pos rfl, w1 (by omega)]
  · intro k
    rw [laws_eqThingS.l0, if_neg (Int.lt_irrefl _)]
theorem szInt_val (l : List Int) (a : Int) (ha : 0 ≤ a) (ha2 : a ≤ 1048576) (hl : l.length ≤ 281474976710656) : ∃ r, laws_szIntS.f l a = some r ∧ (r < 0 ∨ (0 ≤ r ∧ r ≤ a ∧ l.length ≤ 1048576)) := by
  unfold laws_szIntS.f
  have e : wrap64 (a - (l.length : Int)) = a - (l.length : Int) := by unfold wrap64; omega
  rw [e]
  by_cases h : a - (l.length : Int) < 0
  · rw [if_pos h]; exact ⟨-1, rfl, .inl (by omega)⟩
  · rw [if_neg h]; exact ⟨_, rfl, .inr ⟨by omega, by omega, by omega⟩⟩
theorem szThing_val (l : List S111) (a : Int) (ha : 0 ≤ a) (ha2 : a ≤ 1048576) (hl : l.length ≤ 281474976710656) : ∃ r, laws_szThingS.f l a = some r ∧ (r < 0 ∨ (0 ≤ r ∧ r ≤ a ∧ l.length ≤ 1048576)) := by
  unfold laws_szThingS.f
  have e : wrap64 (a - (l.length : Int)) = a - (l.length : Int) := by unfold wrap64; omega
  rw [e]
  by_cases h : a - (l.length : Int) < 0
  · rw [if_pos h]; exact ⟨-1, rfl, .inl (by omega)⟩
  · rw [if_neg h]; exact ⟨_, rfl, .inr ⟨by omega, by omega, by omega⟩⟩
theorem szNode_val (b0 b1 b2 b3 b4 b5 b6 b7 : Int) (l8 : List Int) (b9 b10 : Int) (l11 : List S111) (l12 : List Int) (a : Int) (ha : 0 ≤ a) (ha2 : a ≤ 1048576) (h8 : l8.length ≤ 281474976710656) (h11 : l11.length ≤ 281474976710656) (h12 : l12.length ≤ 281474976710656) :
    ∃ r, laws_szNode.f b0 b1 b2 b3 b4 b5 b6 b7 l8 b9 b10 l11 l12 a = some r ∧ (r < 0 ∨ (0 ≤ r ∧ r ≤ a ∧ l8.length ≤ 1048576 ∧ l11.length ≤ 1048576 ∧ l12.length ≤ 1048576)) := by
  unfold laws_szNode.f
  obtain ⟨r1, e1, g1⟩ := szInt_val l8 a ha ha2 h8
  rw [e1, Option.bind_some]
  by_cases c1 : r1 < 0
  · rw [if_pos c1]; exact ⟨-1, rfl, .inl (by omega)⟩
  · rw [if_neg c1]
    obtain ⟨r2, e2, g2⟩ := szThing_val l11 r1 (by omega) (by omega) h11
    rw [e2, Option.bind_some]
    by_cases c2 : r2 < 0
    · rw [if_pos c2]; exact ⟨-1, rfl, .inl (by omega)⟩
    · rw [if_neg c2]
      obtain ⟨r3, e3, g3⟩ := szInt_val l12 r2 (by omega) (by omega) h12
      rw [e3, Option.bind_some]
      by_cases c3 : r3 < 0
      · rw [if_pos c3]; exact ⟨-1, rfl, .inl (by omega)⟩
      · rw [if_neg c3]; exact ⟨r3, rfl, .inr (by omega)⟩
theorem toNode_some (b0 b1 b2 b3 b4 b5 b6 b7 : Int) (l8 : List Int) (b9 b10 : Int) (l11 : List S111) (l12 : List Int) (h8 : l8.length ≤ 1048576) (h11 : l11.length ≤ 1048576) (h12 : l12.length ≤ 1048576) {k : Nat} (hk : 1048576 < k) :
    laws_toNode.f k b0 b1 b2 b3 b4 b5 b6 b7 l8 b9 b10 l11 l12 = some (b0, b1, b2, b3, b4, b5, b6, b7, l8, b9, b10, l11.map thingOf, l12) := by
  unfold laws_toNode.f
  rw [toInt_some l8 (by omega) (by omega), Option.bind_some, toThing_some l11 (by omega) (by omega), Option.bind_some, toInt_some l12 (by omega) (by omega), Option.bind_some]
theorem eqNode1_same (b0 b1 b2 b3 b4 b5 b6 b7 : Int) (l8 : List Int) (b9 b10 : Int) (l11 : List S108) (l12 : List Int) (h8 : l8.length ≤ 1048576) (h11 : l11.length ≤ 1048576) (h12 : l12.length ≤ 1048576) {k : Nat} (hk : 1048576 < k) :
    laws_eqNode.f k b0 b1 b2 b3 b4 b5 b6 b7 l8 b9 b10 l11 l12 b0 b1 b2 b3 b4 b5 b6 b7 l8 b9 b10 l11 l12 = some true := by
  unfold laws_eqNode.f
  rw [if_pos rfl, if_pos rfl, if_pos rfl, if_pos rfl, if_pos rfl, if_pos rfl, if_pos rfl, if_pos rfl, eqInt_same l8 (by omega) (by omega), Option.bind_some, if_pos rfl, if_pos rfl, if_pos rfl, eqThing_same l11 (by omega) (by omega), Option.bind_some, if_pos rfl, eqInt_same l12 (by omega) (by omega), Option.bind_some, if_pos rfl]
/-- A loop that compares two slices of one length. -/
theorem cmp_gen {β : Type} (G : Nat → Int → Option Bool) (a b : List β) (hl : a.length = b.length)
    (yes : ∀ (k i : Nat) (h : i < a.length), a[i] = b[i]'(hl ▸ h) → G (k + 1) (i : Int) = G k ((i + 1 : Nat) : Int))
    (no : ∀ (k i : Nat) (h : i < a.length), a[i] ≠ b[i]'(hl ▸ h) → G (k + 1) (i : Int) = some false)
    (last : ∀ (k : Nat), G (k + 1) (a.length : Int) = some true) :
    ∀ (d k i : Nat), a.length - i = d → i ≤ a.length → d < k → ∃ r, G k (i : Int) = some r ∧ (r = true ↔ ∀ (j : Nat) (h : j < a.length), i ≤ j → a[j] = b[j]'(hl ▸ h)) := by
  intro d
  induction d with
  | zero =>
    intro k i hd hi hk
    obtain ⟨k, rfl⟩ : ∃ m, k = m + 1 := ⟨k - 1, by omega⟩
    have e : i = a.length := by omega
    subst e
    exact ⟨true, last k, by simp only [true_iff]; exact fun j h hj => absurd h (by omega)⟩
  | succ d ih =>
    intro k i hd hi hk
    obtain ⟨k, rfl⟩ : ∃ m, k = m + 1 := ⟨k - 1, by omega⟩
    have hi' : i < a.length := by omega
    by_cases c : a[i] = b[i]'(hl ▸ hi')
    · obtain ⟨r, e, g⟩ := ih k (i + 1) (by omega) (by omega) (by omega)
      refine ⟨r, by rw [yes k i hi' c]; exact e, g.trans ⟨fun f j h hj => ?_, fun f j h hj => f j h (by omega)⟩⟩
      by_cases ej : j = i
      · subst ej; exact c
      · exact f j h (by omega)
    · refine ⟨false, no k i hi' c, ?_⟩
      simp only [Bool.false_eq_true, false_iff]
      exact fun f => c (f i hi' (Nat.le_refl _))
theorem all_eq {β : Type} (a b : List β) (hl : a.length = b.length) (h : ∀ (j : Nat) (h : j < a.length), 0 ≤ j → a[j] = b[j]'(hl ▸ h)) : a = b := List.ext_getElem hl (fun j h1 _ => h j h1 (Nat.zero_le _))
theorem rd_at (r : List Int) (i : Nat) (h : i < r.length) : rd r (i : Int) = r[i] := by rw [rd_nat, getD_lt r i h]
theorem slEq_some (a b : List Int) (hn : a.length ≤ 1048576) {k : Nat} (hk : 1048577 < k) : ∃ r, slices_Equal_int_int.f k a b = some r ∧ (r = true ↔ a = b) := by
  unfold slices_Equal_int_int.f
  by_cases hl : a.length = b.length
  · rw [if_pos (by omega)]
    have yes_ : ∀ (k i : Nat) (h : i < a.length), a[i] = b[i]'(hl ▸ h) → (fun k i => slices_Equal_int_int.l0 k a b (a.length : Int) i) (k + 1) (i : Int) = (fun k i => slices_Equal_int_int.l0 k a b (a.length : Int) i) k ((i + 1 : Nat) : Int) := by
      intro k i h c
      have c1 : (i : Int) < (a.length : Int) := by omega
      have c2 : (0 : Int) ≤ (i : Int) := by omega
      have c3 : (i : Int) < (b.length : Int) := by omega
      show slices_Equal_int_int.l0 (k + 1) a b (a.length : Int) (i : Int) = _
      rw [slices_Equal_int_int.l0, if_pos c1, if_pos c2, if_pos c1, if_pos c3, rd_at a i h, rd_at b i (hl ▸ h), if_pos c, w1 (by omega)]
    have no_ : ∀ (k i : Nat) (h : i < a.length), a[i] ≠ b[i]'(hl ▸ h) → (fun k i => slices_Equal_int_int.l0 k a b (a.length : Int) i) (k + 1) (i : Int) = some false := by
      intro k i h c
      have c1 : (i : Int) < (a.length : Int) := by omega
      have c2 : (0 : Int) ≤ (i : Int) := by omega
      have c3 : (i : Int) < (b.length : Int) := by omega
      show slices_Equal_int_int.l0 (k + 1) a b (a.length : Int) (i : Int) = _
      rw [slices_Equal_int_int.l0, if_pos c1, if_pos c2, if_pos c1, if_pos c3, rd_at a i h, rd_at b i (hl ▸ h), if_neg c]
    have last_ : ∀ (k : Nat), (fun k i => slices_Equal_int_int.l0 k a b (a.length : Int) i) (k + 1) (a.length : Int) = some true := by
      intro k
      show slices_Equal_int_int.l0 (k + 1) a b (a.length : Int) (a.length : Int) = _
      rw [slices_Equal_int_int.l0, if_neg (Int.lt_irrefl _)]
    obtain ⟨r, e, g⟩ := cmp_gen (fun k i => slices_Equal_int_int.l0 k a b (a.length : Int) i) a b hl yes_ no_ last_ a.length k 0 (by omega) (by omega) (by omega)
    exact ⟨r, e, g.trans ⟨fun f => all_eq a b hl f, fun f => by subst f; exact fun _ _ _ => rfl⟩⟩
  · rw [if_neg (by omega)]
    exact ⟨false, rfl, by simp only [Bool.false_eq_true, false_iff]; exact fun e => hl (by rw [e])⟩
theorem thing_differ (x y : S108) : ((!(x.f0 == y.f0) || (!(x.f1 == y.f1) || (!(x.f2 == y.f2)))) = true) ↔ x ≠ y := by
  obtain ⟨a, b, c⟩ := x
  obtain ⟨p, q, r⟩ := y
  simp only [Bool.or_eq_true, Bool.not_eq_true', beq_eq_false_iff_ne, ne_eq, S108.mk.injEq]
  by_cases h1 : a = p <;> by_cases h2 : b = q <;> by_cases h3 : c = r <;> simp [h1, h2, h3]
theorem implThing_some (a b : List S108) (hn : a.length ≤ 1048576) {k : Nat} (hk : 1048577 < k) : ∃ r, impl_Thing.f k a b = some r ∧ (r = true ↔ a = b) := by
  unfold impl_Thing.f
  by_cases hl : a.length = b.length
  · rw [if_pos (by omega)]
    have yes_ : ∀ (k i : Nat) (h : i < a.length), a[i] = b[i]'(hl ▸ h) → (fun k i => impl_Thing.l0 k a b (a.length : Int) i) (k + 1) (i : Int) = (fun k i => impl_Thing.l0 k a b (a.length : Int) i) k ((i + 1 : Nat) : Int) := by
      intro k i h c
      have c1 : (i : Int) < (a.length : Int) := by omega
      have c2 : (0 : Int) ≤ (i : Int) := by omega
      have c3 : (i : Int) < (b.length : Int) := by omega
      show impl_Thing.l0 (k + 1) a b (a.length : Int) (i : Int) = _
      rw [impl_Thing.l0, if_pos c1, if_pos c2, if_pos c1, if_pos c3, rdT_i a i h, rdT_i b i (hl ▸ h), if_neg (fun d => (thing_differ _ _).mp d c), w1 (by omega)]
    have no_ : ∀ (k i : Nat) (h : i < a.length), a[i] ≠ b[i]'(hl ▸ h) → (fun k i => impl_Thing.l0 k a b (a.length : Int) i) (k + 1) (i : Int) = some false := by
      intro k i h c
      have c1 : (i : Int) < (a.length : Int) := by omega
      have c2 : (0 : Int) ≤ (i : Int) := by omega
      have c3 : (i : Int) < (b.length : Int) := by omega
      show impl_Thing.l0 (k + 1) a b (a.length : Int) (i : Int) = _
      rw [impl_Thing.l0, if_pos c1, if_pos c2, if_pos c1, if_pos c3, rdT_i a i h, rdT_i b i (hl ▸ h), if_pos ((thing_differ _ _).mpr c)]
    have last_ : ∀ (k : Nat), (fun k i => impl_Thing.l0 k a b (a.length : Int) i) (k + 1) (a.length : Int) = some true := by
      intro k
      show impl_Thing.l0 (k + 1) a b (a.length : Int) (a.length : Int) = _
      rw [impl_Thing.l0, if_neg (Int.lt_irrefl _)]
    obtain ⟨r, e, g⟩ := cmp_gen (fun k i => impl_Thing.l0 k a b (a.length : Int) i) a b hl yes_ no_ last_ a.length k 0 (by omega) (by omega) (by omega)
    exact ⟨r, e, g.trans ⟨fun f => all_eq a b hl f, fun f => by subst f; exact fun _ _ _ => rfl⟩⟩
  · rw [if_neg (by omega)]
    exact ⟨false, rfl, by simp only [Bool.false_eq_true, false_iff]; exact fun e => hl (by rw [e])⟩
theorem bare_same (a0 a1 a2 a3 a4 a5 a6 a7 : Int) (l8 : List Int) (a9 a10 : Int) (l11 : List S108) (l12 : List Int) (h8 : l8.length ≤ 1048576) (h11 : l11.length ≤ 1048576) (h12 : l12.length ≤ 1048576) {k : Nat} (hk : 1048577 < k) :
    ∃ r, spec_Bare.f a0 a1 a2 a3 a4 a5 a6 a7 l8 a9 a10 l11 l12 = some r ∧ impl_Bare.f k a0 a1 a2 a3 a4 a5 a6 a7 l8 a9 a10 l11 l12 = some r := by
  unfold spec_Bare.f impl_Bare.f impl_SameNode.f
  rw [if_pos rfl, if_pos rfl]
  obtain ⟨r8, e8, g8⟩ := slEq_some l8 [] h8 hk
  obtain ⟨r12, e12, g12⟩ := slEq_some l12 [] h12 hk
  obtain ⟨r11, e11, g11⟩ := implThing_some l11 [] h11 hk
  rw [e8, e12, e11]
  by_cases c_a2 : a2 = 0
  rotate_left
  · simp only [if_neg c_a2, Option.bind_some]; exact ⟨_, rfl, rfl⟩
  simp only [if_pos c_a2]
  by_cases c_a3 : a3 = 0
  rotate_left
  · simp only [if_neg c_a3, Option.bind_some]; exact ⟨_, rfl, rfl⟩
  simp only [if_pos c_a3]
  by_cases c_a4 : a4 = 0
  rotate_left
  · simp only [if_neg c_a4, Option.bind_some]; exact ⟨_, rfl, rfl⟩
  simp only [if_pos c_a4]
  by_cases c_a5 : a5 = 0
  rotate_left
  · simp only [if_neg c_a5, Option.bind_some]; exact ⟨_, rfl, rfl⟩
  simp only [if_pos c_a5]
  by_cases c_a6 : a6 = 0
  rotate_left
  · simp only [if_neg c_a6, Option.bind_some]; exact ⟨_, rfl, rfl⟩
  simp only [if_pos c_a6]
  by_cases c_a7 : a7 = 0
  rotate_left
  · simp only [if_neg c_a7, Option.bind_some]; exact ⟨_, rfl, rfl⟩
  simp only [if_pos c_a7]
  have z8 : (l8.length : Int) = 0 ↔ l8 = [] := by
    cases l8 <;> simp <;> omega
  have z11 : (l11.length : Int) = 0 ↔ l11 = [] := by
    cases l11 <;> simp <;> omega
  have z12 : (l12.length : Int) = 0 ↔ l12 = [] := by
    cases l12 <;> simp <;> omega
  by_cases c8 : l8 = []
  rotate_left
  · have := (not_congr g8).mpr c8
    simp only [if_neg ((not_congr z8).mpr c8), Option.bind_some, if_neg this]; exact ⟨_, rfl, rfl⟩
  simp only [if_pos (z8.mpr c8), Option.bind_some, if_pos (g8.mpr c8)]
  by_cases c9 : a9 = 0
  rotate_left
  · simp only [if_neg c9, Option.bind_some]; exact ⟨_, rfl, rfl⟩
  simp only [if_pos c9]
  by_cases c10 : a10 = 0
  rotate_left
  · simp only [if_neg c10, Option.bind_some]; exact ⟨_, rfl, rfl⟩
  simp only [if_pos c10]
  by_cases c11 : l11 = []
  rotate_left
  · have := (not_congr g11).mpr c11
    simp only [if_neg ((not_congr z11).mpr c11), Option.bind_some, if_neg this]; exact ⟨_, rfl, rfl⟩
  simp only [if_pos (z11.mpr c11), Option.bind_some, if_pos (g11.mpr c11)]
  refine ⟨r12, ?_, rfl⟩
  congr 1
  by_cases c12 : l12 = []
  · rw [g12.mpr c12]; simp only [beq_iff_eq]; exact z12.mpr c12
  · have := (not_congr g12).mpr c12
    simp only [Bool.not_eq_true] at this
    rw [this]; simp only [beq_eq_false_iff_ne]; exact (not_congr z12).mpr c12
theorem FnExactBare : laws_FnExactBare.Pure := by
  intro a0 a1 a2 a3 a4 a5 a6 a7 l8 a9 a10 l11 l12 _ _ _ _ _ _ _ _ hm8 h8 _ _ _ hm11 h11 _ hm12 h12 _
  obtain ⟨k, hk⟩ : ∃ k : Nat, 4000000 < k := ⟨_, Nat.lt_succ_self _⟩
  refine ⟨k, ?_⟩
  unfold laws_FnExactBare.f
  obtain ⟨r, e, g⟩ := szNode_val a0 a1 a2 a3 a4 a5 a6 a7 l8 a9 a10 l11 l12 1048576 (by omega) (by omega) (by omega) (by omega) (by omega)
  rw [e, Option.bind_some]
  by_cases c : r < 0
  · rw [if_pos c]
  · rw [if_neg c]
    rcases g with g | ⟨_, _, g8, g11, g12⟩
    · exact absurd g c
    · have hl : (l11.map thingOf).length = l11.length := by simp
      obtain ⟨q, e1, e2⟩ := bare_same a0 a1 a2 a3 a4 a5 a6 a7 l8 a9 a10 (l11.map thingOf) l12 g8 (by omega) g12 (k := k) (by omega)
      simp only [toNode_some a0 a1 a2 a3 a4 a5 a6 a7 l8 a9 a10 l11 l12 g8 g11 g12 (show 1048576 < k by omega), Option.bind_some, e1, e2, bne_self_eq_false, Bool.false_eq_true, ↓reduceIte, eqNode1_same a0 a1 a2 a3 a4 a5 a6 a7 l8 a9 a10 (l11.map thingOf) l12 g8 (show (l11.map thingOf).length ≤ 1048576 by omega) g12 (show 1048576 < k by omega)]
end Go.Proofs.Ytkcohcdhlgocgaa.Pure
