/- What the law FnExactGetAt computes is the answer true, for all arguments within the bounds that the statement's own reading gives. No other condition. -/
import Derived.OpenShut
import Derived.Test.YteopnbonhjdfmaaQFnExactGetAtx2
namespace Go.Proofs.Yteopnbonhjdfmaa.Pure
open Go.RowKit Go.Proofs.Yteopnbonhjdfmaa.QFnExactGetAt Go.Proofs.YteopnbonhjdfmaaW.PrintWords Go.Proofs.YteopnbonhjdfmaaW.PrintLast
set_option linter.unusedVariables false
set_option linter.unusedSimpArgs false
def laws_FnExactGetAt.Pure : Prop := ∀ (l0 : List Int) (a1 : Int) (a2 : Int), l0.length ≤ maxLen → l0.length * 1 ≤ 140737488351232 → (∀ x ∈ l0, (Lit.int .u8 x).wf = true) → (Lit.int .i64 a1).wf = true → (Lit.int .i64 a2).wf = true → ∃ k, laws_FnExactGetAt.f k l0 a1 a2 = some true
theorem w1 {i : Nat} (h : i < 9223372036854775807) : wrap64 ((i : Int) + 1) = ((i + 1 : Nat) : Int) := by unfold wrap64; omega
theorem rd_nat (xs : List Int) (i : Nat) : rd xs (i : Int) = xs.getD i 0 := by simp [rd]
theorem getD_lt (xs : List Int) (i : Nat) (h : i < xs.length) : xs.getD i 0 = xs[i] := by simp [List.getD, List.getElem?_eq_getElem h]
theorem drop_cons (xs : List Int) (i : Nat) (h : i < xs.length) : xs.drop i = xs.getD i 0 :: xs.drop (i + 1) := by rw [getD_lt xs i h]; exact List.drop_eq_getElem_cons h
theorem set_take {x l : List Int} {i : Nat} (hi : i < l.length) (hx : x.length = l.length) (ht : x.take i = l.take i) : (x.set i (l.getD i 0)).take (i + 1) = l.take (i + 1) := by
  apply List.ext_getElem?
  intro j
  have hj := congrArg (fun z => z[j]?) ht
  simp only [List.getElem?_take] at hj ⊢
  by_cases h1 : j < i + 1
  · rw [if_pos h1, if_pos h1, List.getElem?_set]
    by_cases h2 : i = j
    · subst h2
      rw [if_pos rfl, if_pos (by omega), List.getElem?_eq_getElem hi, getD_lt l i hi]
    · rw [if_neg h2]
      rw [if_pos (by omega), if_pos (by omega)] at hj
      exact hj
  · rw [if_neg h1, if_neg h1]
theorem toByte_l0 (l : List Int) (hn : l.length ≤ 281474976710656) : ∀ (d k i : Nat) (x : List Int), l.length - i = d → i ≤ l.length → d < k → x.length = l.length → x.take i = l.take i → laws_toByteS.l0 k l x (i : Int) = some l := by
  intro d
  induction d with
  | zero =>
    intro k i x hd hi hk hx ht
    obtain ⟨k, rfl⟩ : ∃ m, k = m + 1 := ⟨k - 1, by omega⟩
    simp only [laws_toByteS.l0]
    rw [if_neg (by omega)]
    rw [List.take_of_length_le (by omega), List.take_of_length_le (by omega)] at ht
    rw [ht]
  | succ d ih =>
    intro k i x hd hi hk hx ht
    obtain ⟨k, rfl⟩ : ∃ m, k = m + 1 := ⟨k - 1, by omega⟩
    simp only [laws_toByteS.l0]
    rw [if_pos (by omega), if_pos (by omega), if_pos (by omega), w1 (by omega)]
    refine ih k (i + 1) _ (by omega) (by omega) (by omega) (by simpa using hx) ?_
    rw [rd_nat, Int.toNat_natCast]
    exact set_take (by omega) hx ht
theorem toByte_some (l : List Int) (hn : l.length ≤ 281474976710656) {k : Nat} (hk : l.length < k) : laws_toByteS.f k l = some l := by
  unfold laws_toByteS.f
  rw [if_pos (by omega), if_pos (by simpa using hn)]
  exact toByte_l0 l hn l.length k 0 _ (by omega) (by omega) hk (by simp) rfl
theorem eqByte_l0 (a b : List Int) (hab : a.length = b.length) (hn : a.length ≤ 4611686018427387904) : ∀ (d k i : Nat), a.length - i = d → i ≤ a.length → d < k → laws_eqByteS.l0 k a b (i : Int) = some (decide (a.drop i = b.drop i)) := by
  intro d
  induction d with
  | zero =>
    intro k i hd hi hk
    obtain ⟨k, rfl⟩ : ∃ m, k = m + 1 := ⟨k - 1, by omega⟩
    simp only [laws_eqByteS.l0]
    rw [if_neg (by omega), List.drop_eq_nil_of_le (by omega), List.drop_eq_nil_of_le (by omega)]
    simp
  | succ d ih =>
    intro k i hd hi hk
    obtain ⟨k, rfl⟩ : ∃ m, k = m + 1 := ⟨k - 1, by omega⟩
    simp only [laws_eqByteS.l0]
    rw [if_pos (by omega), if_pos (by omega), if_pos (by omega), rd_nat, rd_nat, drop_cons a i (by omega), drop_cons b i (by omega)]
    by_cases h : a.getD i 0 = b.getD i 0
    · rw [if_pos h, w1 (by omega), ih k (i + 1) (by omega) (by omega) (by omega), h]
      simp
    · rw [if_neg h]
      simp only [List.cons.injEq, h, false_and, decide_false]
theorem eqByte_some (a b : List Int) (hn : a.length ≤ 4611686018427387904) {k : Nat} (hk : a.length < k) : laws_eqByteS.f k a b = some (decide (a = b)) := by
  unfold laws_eqByteS.f
  by_cases h : a.length = b.length
  · rw [if_pos (by omega)]
    have := eqByte_l0 a b h hn a.length k 0 (by omega) (by omega) hk
    simpa using this
  · rw [if_neg (by omega)]
    have : a ≠ b := fun e => h (by rw [e])
    simp [this]
theorem eqByte_same (a : List Int) (hn : a.length ≤ 4611686018427387904) {k : Nat} (hk : a.length < k) : laws_eqByteS.f k a a = some true := by
  rw [eqByte_some a a hn hk]; simp
def marksByte (m n : Nat) : List Int := (List.range n).map fun j => (((m + j : Nat) : Int)%256)
theorem marksByte_length (m n : Nat) : (marksByte m n).length = n := by simp [marksByte]
theorem marksByte_getD (m n i : Nat) (h : i < n) : (marksByte m n).getD i 0 = (((m + i : Nat) : Int)%256) := by simp [marksByte, List.getD, h]
theorem markByte_l0 (m n : Nat) (hn : m + n ≤ 4611686018427387904) : ∀ (d k i : Nat) (x : List Int), n - i = d → i ≤ n → d < k → x.length = n → x.take i = (marksByte m n).take i → laws_markByteS.l0 k x ((m + i : Nat) : Int) (i : Int) = some (((m + n : Nat) : Int), marksByte m n) := by
  intro d
  induction d with
  | zero =>
    intro k i x hd hi hk hx ht
    obtain ⟨k, rfl⟩ : ∃ m, k = m + 1 := ⟨k - 1, by omega⟩
    simp only [laws_markByteS.l0]
    rw [if_neg (by omega)]
    rw [List.take_of_length_le (by omega), List.take_of_length_le (by rw [marksByte_length]; omega)] at ht
    rw [ht, show m + i = m + n by omega]
  | succ d ih =>
    intro k i x hd hi hk hx ht
    obtain ⟨k, rfl⟩ : ∃ m, k = m + 1 := ⟨k - 1, by omega⟩
    simp only [laws_markByteS.l0]
    rw [if_pos (by omega), if_pos (by omega), w1 (by omega), w1 (by omega)]
    have := ih k (i + 1) (x.set i (((m + i : Nat) : Int)%256)) (by omega) (by omega) (by omega) (by simpa using hx) (by
      rw [← marksByte_getD m n i (by omega)]
      exact set_take (by rw [marksByte_length]; omega) (by rw [marksByte_length]; exact hx) ht)
    rw [Int.toNat_natCast]
    exact this
theorem markByte_some (x : List Int) (m : Nat) (hn : m + x.length ≤ 4611686018427387904) {k : Nat} (hk : x.length < k) : laws_markByteS.f k x (m : Int) = some (((m + x.length : Nat) : Int), marksByte m x.length) := by
  unfold laws_markByteS.f
  exact markByte_l0 m x.length hn x.length k 0 x (by omega) (by omega) hk rfl rfl
theorem heldByte_l0 (m n : Nat) (hn : m + n ≤ 4611686018427387904) : ∀ (d k i : Nat), n - i = d → i ≤ n → d < k → laws_heldByteS.l0 k (marksByte m n) ((m + i : Nat) : Int) (i : Int) = some ((m + n : Nat) : Int) := by
  intro d
  induction d with
  | zero =>
    intro k i hd hi hk
    obtain ⟨k, rfl⟩ : ∃ m, k = m + 1 := ⟨k - 1, by omega⟩
    simp only [laws_heldByteS.l0]
    rw [if_neg (by rw [marksByte_length]; omega), show m + i = m + n by omega]
  | succ d ih =>
    intro k i hd hi hk
    obtain ⟨k, rfl⟩ : ∃ m, k = m + 1 := ⟨k - 1, by omega⟩
    simp only [laws_heldByteS.l0]
    rw [if_pos (by rw [marksByte_length]; omega), if_pos (by omega), rd_nat, marksByte_getD m n i (by omega), if_pos rfl, w1 (by omega), w1 (by omega)]
    exact ih k (i + 1) (by omega) (by omega) (by omega)
theorem heldByte_some (m n : Nat) (hn : m + n ≤ 4611686018427387904) {k : Nat} (hk : n < k) : laws_heldByteS.f k (marksByte m n) (m : Int) = some ((m + n : Nat) : Int) := by
  unfold laws_heldByteS.f
  exact heldByte_l0 m n hn n k 0 (by omega) (by omega) hk
theorem markByte_one (x : List Int) (hn : x.length ≤ 4611686018427387) {k : Nat} (hk : x.length < k) : laws_markByteS.f k x 1 = some (((1 + x.length : Nat) : Int), marksByte 1 x.length) := markByte_some x 1 (by omega) hk
theorem heldByte_one (n : Nat) (hn : n ≤ 4611686018427387) {k : Nat} (hk : n < k) : laws_heldByteS.f k (marksByte 1 n) 1 = some ((1 + n : Nat) : Int) := heldByte_some 1 n (by omega) hk
def There (n a b : Int) : Prop := 0 ≤ a ∧ 0 ≤ b ∧ a ≤ n ∧ b ≤ n - a
instance (n a b : Int) : Decidable (There n a b) := by unfold There; infer_instance
theorem there_some (l : List Int) (hl : l.length ≤ 1048576) (a b : Int) : spec_l2There.f l a b = some (decide (There (l.length : Int) a b)) := by
  unfold spec_l2There.f
  by_cases h1 : a ≥ 0
  · rw [if_pos h1]
    by_cases h2 : b ≥ 0
    · rw [if_pos h2]
      by_cases h3 : a ≤ (l.length : Int)
      · have e : wrap64 ((l.length : Int) - a) = (l.length : Int) - a := by unfold wrap64; omega
        rw [if_pos h3, e]
        congr 1
        exact decide_eq_decide.mpr ⟨fun h => ⟨h1, h2, h3, h⟩, fun h => h.2.2.2⟩
      · rw [if_neg h3, decide_eq_false (fun h => h3 h.2.2.1)]
    · rw [if_neg h2, decide_eq_false (fun h => h2 h.2.1)]
  · rw [if_neg h1, decide_eq_false (fun h => h1 h.1)]
theorem has_some (n : Nat) (hl : n ≤ 1048576) (a b : Int) : impl_has.f (n : Int) a b = some (decide (There (n : Int) a b)) := by
  unfold impl_has.f
  by_cases h2 : b ≥ 0
  · rw [if_pos h2]
    by_cases h3 : b ≤ (n : Int)
    · have e : wrap64 ((n : Int) - b) = (n : Int) - b := by unfold wrap64; omega
      rw [if_pos h3, e]
      unfold impl_within.f
      by_cases h1 : a ≥ 0
      · rw [if_pos h1, Option.bind_some]
        congr 1
        exact decide_eq_decide.mpr ⟨fun h => ⟨h1, h2, by omega, by omega⟩, fun h => by have := h.2.2.2; omega⟩
      · rw [if_neg h1, Option.bind_some, decide_eq_false (fun h => h1 h.1)]
    · rw [if_neg h3, decide_eq_false (fun h => by have := h.2.2.2; have := h.1; omega)]
  · rw [if_neg h2, decide_eq_false (fun h => h2 h.2.1)]
theorem get_some (l : List Int) (hl : l.length ≤ 1048576) (a b : Int) : ∃ (r : List Int) (ok : Bool), spec_GetAt.f l a b = some (r, ok) ∧ impl_GetAt.f l a b = some (r, ok) ∧ r.length ≤ 1048576 := by
  unfold spec_GetAt.f impl_GetAt.f
  rw [there_some l hl, has_some l.length hl]
  by_cases h : There (l.length : Int) a b
  · obtain ⟨h1, h2, h3, h4⟩ := id h
    have e : wrap64 (a + b) = a + b := by unfold wrap64; omega
    have c1 : a ≤ a + b := by omega
    have c2 : a + b ≤ (l.length : Int) := by omega
    have hn : ((l.take (a + b).toNat).drop a.toNat).length ≤ 1048576 := by simp; omega
    have c3 : (([] : List Int)).length + ((l.take (a + b).toNat).drop a.toNat).length < 140737488355328 := by simp only [List.length_nil]; omega
    have c4 : slices_Clone_byte_byte.f ((l.take (a + b).toNat).drop a.toNat) = some ((l.take (a + b).toNat).drop a.toNat) := by
      unfold slices_Clone_byte_byte.f
      rw [if_pos (by omega)]
    simp only [decide_eq_true h, Option.bind_some, ↓reduceIte, e, h1, c1, c2, c3, c4, List.nil_append]
    exact ⟨_, _, rfl, rfl, hn⟩
  · simp only [decide_eq_false h, Option.bind_some, Bool.false_eq_true, ↓reduceIte]
    exact ⟨_, _, rfl, rfl, by simp⟩
theorem FnExactGetAt : laws_FnExactGetAt.Pure := by
  intro l a b hm h2 hw _ _
  obtain ⟨k, hk⟩ : ∃ k : Nat, 4000000 < k := ⟨_, Nat.lt_succ_self _⟩
  obtain ⟨k, rfl⟩ : ∃ m, k = m + 3 := ⟨k - 3, by omega⟩
  refine ⟨k + 3, ?_⟩
  unfold laws_FnExactGetAt.f
  by_cases hb : (l.length : Int) > 1048576
  · rw [if_pos hb]
  · rw [if_neg hb]
    obtain ⟨r, ok, s1, s2, hr⟩ := get_some l (by omega) a b
    have q : ¬ ((1 + l.length : Nat) : Int) < 0 := by omega
    have q2 : ¬ ((1 + r.length : Nat) : Int) < 0 := by omega
    simp only [toByte_some l (show l.length ≤ 281474976710656 by omega) (show l.length < k + 3 by omega), Option.bind_some, s1, s2, eqByte_same r (show r.length ≤ 4611686018427387904 by omega) (show r.length < k + 3 by omega), ↓reduceIte, bne_self_eq_false]
    rw [laws_FnExactGetAt.j0, if_neg Bool.false_ne_true]
    simp only [toByte_some l (show l.length ≤ 281474976710656 by omega) (show l.length < k + 2 by omega), Option.bind_some, eqByte_same l (show l.length ≤ 4611686018427387904 by omega) (show l.length < k + 2 by omega), ↓reduceIte, markByte_one l (by omega) (show l.length < k + 2 by omega), q, eqByte_same r (show r.length ≤ 4611686018427387904 by omega) (show r.length < k + 2 by omega), bne_self_eq_false]
    rw [laws_FnExactGetAt.j1, if_neg Bool.false_ne_true]
    simp only [markByte_one r (by omega) (show r.length < k + 1 by omega), Option.bind_some, heldByte_one r.length (by omega) (show r.length < k + 1 by omega), q2, ↓reduceIte, toByte_some l (show l.length ≤ 281474976710656 by omega) (show l.length < k + 1 by omega), s2, eqByte_same r (show r.length ≤ 4611686018427387904 by omega) (show r.length < k + 1 by omega), bne_self_eq_false]
    rw [laws_FnExactGetAt.j2, if_neg Bool.false_ne_true]
    obtain ⟨k, rfl⟩ : ∃ m, k = m + 1 := ⟨k - 1, by omega⟩
    simp only [heldByte_one r.length (by omega) (show r.length < k + 1 by omega), Option.bind_some, q2, ↓reduceIte]
end Go.Proofs.Yteopnbonhjdfmaa.Pure
