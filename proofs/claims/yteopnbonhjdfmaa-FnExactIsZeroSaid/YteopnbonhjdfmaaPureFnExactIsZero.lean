/- What the law FnExactIsZero computes is the answer true, for all arguments within the bounds that the statement's own reading gives. No other condition. -/
import Derived.OpenShut
import Derived.Test.YteopnbonhjdfmaaQFnExactIsZerox1
namespace Go.Proofs.Yteopnbonhjdfmaa.Pure
open Go.RowKit Go.Proofs.Yteopnbonhjdfmaa.QFnExactIsZero Go.Proofs.YteopnbonhjdfmaaW.PrintWords Go.Proofs.YteopnbonhjdfmaaW.PrintLast
set_option linter.unusedVariables false
set_option linter.unusedSimpArgs false
def laws_FnExactIsZero.Pure : Prop := ∀ (l0 : List Int), l0.length ≤ maxLen → l0.length * 1 ≤ 140737488351232 → (∀ x ∈ l0, (Lit.int .u8 x).wf = true) → ∃ k, laws_FnExactIsZero.f k l0 = some true
theorem w1 {i : Nat} (h : i < 9223372036854775807) : wrap64 ((i : Int) + 1) = ((i + 1 : Nat) : Int) := by unfold wrap64; omega
theorem rd_nat (xs : List Int) (i : Nat) : rd xs (i : Int) = xs.getD i 0 := by simp [rd]
theorem getD_lt (xs : List Int) (i : Nat) (h : i < xs.length) : xs.getD i 0 = xs[i] := by simp [List.getD, List.getElem?_eq_getElem h]
theorem drop_cons (xs : List Int) (i : Nat) (h : i < xs.length) : xs.drop i = xs.getD i 0 :: xs.drop (i + 1) := by rw [getD_lt xs i h]; exact List.drop_eq_getElem_cons h
theorem set_take {x l : List Int} {i : Nat} (hi : i < l.length) (hx : x.length = l.length) (ht : x.take i = l.take i) : (x.set i (l.getD i 0)).take (i + 1) = l.take (i + 1) := by
  apply List.ext_getElem?
  intro j
  have hj := congrArg (fun z => z[j]?) ht
  simp only [List.getElem?_take] at hj ⊢
  by_cases h1 : j < i + 1
  · rw [if_pos h1, if_pos h1, List.getElem?_set]
    by_cases h2 : i = j
    · subst h2
      rw [if_pos rfl, if_pos (by omega), List.getElem?_eq_getElem hi, getD_lt l i hi]
    · rw [if_neg h2]
      rw [if_pos (by omega), if_pos (by omega)] at hj
      exact hj
  · rw [if_neg h1, if_neg h1]
theorem toByte_l0 (l : List Int) (hn : l.length ≤ 281474976710656) : ∀ (d k i : Nat) (x : List Int), l.length - i = d → i ≤ l.length → d < k → x.length = l.length → x.take i = l.take i → laws_toByteS.l0 k l x (i : Int) = some l := by
  intro d
  induction d with
  | zero =>
    intro k i x hd hi hk hx ht
    obtain ⟨k, rfl⟩ : ∃ m, k = m + 1 := ⟨k - 1, by omega⟩
    simp only [laws_toByteS.l0]
    rw [if_neg (by omega)]
    rw [List.take_of_length_le (by omega), List.take_of_length_le (by omega)] at ht
    rw [ht]
  | succ d ih =>
    intro k i x hd hi hk hx ht
    obtain ⟨k, rfl⟩ : ∃ m, k = m + 1 := ⟨k - 1, by omega⟩
    simp only [laws_toByteS.l0]
    rw [if_pos (by omega), if_pos (by omega), if_pos (by omega), w1 (by omega)]
    refine ih k (i + 1) _ (by omega) (by omega) (by omega) (by simpa using hx) ?_
    rw [rd_nat, Int.toNat_natCast]
    exact set_take (by omega) hx ht
theorem toByte_some (l : List Int) (hn : l.length ≤ 281474976710656) {k : Nat} (hk : l.length < k) : laws_toByteS.f k l = some l := by
  unfold laws_toByteS.f
  rw [if_pos (by omega), if_pos (by simpa using hn)]
  exact toByte_l0 l hn l.length k 0 _ (by omega) (by omega) hk (by simp) rfl
theorem eqByte_l0 (a b : List Int) (hab : a.length = b.length) (hn : a.length ≤ 4611686018427387904) : ∀ (d k i : Nat), a.length - i = d → i ≤ a.length → d < k → laws_eqByteS.l0 k a b (i : Int) = some (decide (a.drop i = b.drop i)) := by
  intro d
  induction d with
  | zero =>
    intro k i hd hi hk
    obtain ⟨k, rfl⟩ : ∃ m, k = m + 1 := ⟨k - 1, by omega⟩
    simp only [laws_eqByteS.l0]
    rw [if_neg (by omega), List.drop_eq_nil_of_le (by omega), List.drop_eq_nil_of_le (by omega)]
    simp
  | succ d ih =>
    intro k i hd hi hk
    obtain ⟨k, rfl⟩ : ∃ m, k = m + 1 := ⟨k - 1, by omega⟩
    simp only [laws_eqByteS.l0]
    rw [if_pos (by omega), if_pos (by omega), if_pos (by omega), rd_nat, rd_nat, drop_cons a i (by omega), drop_cons b i (by omega)]
    by_cases h : a.getD i 0 = b.getD i 0
    · rw [if_pos h, w1 (by omega), ih k (i + 1) (by omega) (by omega) (by omega), h]
      simp
    · rw [if_neg h]
      simp only [List.cons.injEq, h, false_and, decide_false]
theorem eqByte_some (a b : List Int) (hn : a.length ≤ 4611686018427387904) {k : Nat} (hk : a.length < k) : laws_eqByteS.f k a b = some (decide (a = b)) := by
  unfold laws_eqByteS.f
  by_cases h : a.length = b.length
  · rw [if_pos (by omega)]
    have := eqByte_l0 a b h hn a.length k 0 (by omega) (by omega) hk
    simpa using this
  · rw [if_neg (by omega)]
    have : a ≠ b := fun e => h (by rw [e])
    simp [this]
theorem eqByte_same (a : List Int) (hn : a.length ≤ 4611686018427387904) {k : Nat} (hk : a.length < k) : laws_eqByteS.f k a a = some true := by
  rw [eqByte_some a a hn hk]; simp
theorem zero_same (l : List Int) (hl : l.length ≤ 1048576) : ∀ (d k i : Nat), l.length - i = d → i ≤ l.length → d < k → ∃ (b : Bool) (j : Int), spec_IsZero.l0 k l (i : Int) = some b ∧ slices_IndexFunc_byte_byte.l0 k l (l.length : Int) (i : Int) = some j ∧ (b = true ↔ j < 0) := by
  intro d
  induction d with
  | zero =>
    intro k i hd hi hk
    obtain ⟨k, rfl⟩ : ∃ m, k = m + 1 := ⟨k - 1, by omega⟩
    have c : ¬ (i : Int) < (l.length : Int) := by omega
    rw [spec_IsZero.l0, slices_IndexFunc_byte_byte.l0, if_neg c, if_neg c]
    exact ⟨true, -1, rfl, rfl, by simp⟩
  | succ d ih =>
    intro k i hd hi hk
    obtain ⟨k, rfl⟩ : ∃ m, k = m + 1 := ⟨k - 1, by omega⟩
    have c : (i : Int) < (l.length : Int) := by omega
    have c0 : (0 : Int) ≤ (i : Int) := by omega
    rw [spec_IsZero.l0, slices_IndexFunc_byte_byte.l0, if_pos c, if_pos c, if_pos c0, if_pos c0, if_pos c, w1 (by omega)]
    unfold impl_IsZero_1.f
    rw [Option.bind_some]
    by_cases g : rd l (i : Int) = 0
    · rw [if_pos g, if_neg (by simp only [bne_iff_ne]; exact fun h => h g)]
      exact ih k (i + 1) (by omega) (by omega) (by omega)
    · rw [if_neg g, if_pos (by simp only [bne_iff_ne]; exact g)]
      exact ⟨false, _, rfl, rfl, by simp only [Bool.false_eq_true, false_iff]; omega⟩
theorem FnExactIsZero : laws_FnExactIsZero.Pure := by
  intro l hm h2 hw
  obtain ⟨k, hk⟩ : ∃ k : Nat, 4000000 < k := ⟨_, Nat.lt_succ_self _⟩
  refine ⟨k, ?_⟩
  unfold laws_FnExactIsZero.f
  by_cases hb : (l.length : Int) > 1048576
  · rw [if_pos hb]
  · rw [if_neg hb]
    obtain ⟨b, j, e1, e2, g⟩ := zero_same l (by omega) l.length k 0 (by omega) (by omega) (by omega)
    have s1 : spec_IsZero.f k l = some b := e1
    have s2 : impl_IsZero.f k l = some b := by
      unfold impl_IsZero.f slices_ContainsFunc_byte_byte.f slices_IndexFunc_byte_byte.f
      rw [show (0 : Int) = ((0 : Nat) : Int) from rfl, e2, Option.bind_some, Option.bind_some]
      congr 1
      cases b with
      | true => have := g.mp rfl; simp; omega
      | false =>
        have : ¬ j < 0 := fun h => Bool.false_ne_true (g.mpr h)
        simp; omega
    simp only [toByte_some l (show l.length ≤ 281474976710656 by omega) (show l.length < k by omega), Option.bind_some, s1, s2, bne_self_eq_false, Bool.false_eq_true, ↓reduceIte, eqByte_same l (show l.length ≤ 4611686018427387904 by omega) (show l.length < k by omega)]
end Go.Proofs.Yteopnbonhjdfmaa.Pure
