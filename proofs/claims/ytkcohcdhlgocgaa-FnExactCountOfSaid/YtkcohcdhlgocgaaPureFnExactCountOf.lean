/- What the law FnExactCountOf computes is the answer true, for all arguments within the bounds that the statement's own reading gives. No other condition. -/
import Derived.Test.YtkcohcdhlgocgaaPFnExactCountOfx2
namespace Go.Proofs.Ytkcohcdhlgocgaa.Pure
open Go.RowKit Go.Proofs.Ytkcohcdhlgocgaa.PFnExactCountOf Go.Proofs.YtkcohcdhlgocgaaW.PrintWords Go.Proofs.YtkcohcdhlgocgaaW.PrintLast
set_option linter.unusedVariables false
def laws_FnExactCountOf.Pure : Prop := ∀ (l0_0 : List Int) (l0_1 : List Int) (l0_2 : List Int) (a1 : Int), l0_0.length ≤ maxLen → l0_0.length * 1 ≤ 140737488351232 → (∀ x ∈ l0_0, (Lit.int .u8 x).wf = true) → l0_1.length ≤ maxLen → l0_1.length * 8 ≤ 140737488351232 → (∀ x ∈ l0_1, (Lit.int .i64 x).wf = true) → l0_2.length ≤ maxLen → l0_2.length * 8 ≤ 140737488351232 → (∀ x ∈ l0_2, (Lit.int .i64 x).wf = true) → (Lit.int .i64 a1).wf = true → ∃ k, laws_FnExactCountOf.f k l0_0 l0_1 l0_2 a1 = some true
theorem w1 {i : Nat} (h : i < 9223372036854775807) : wrap64 ((i : Int) + 1) = ((i + 1 : Nat) : Int) := by unfold wrap64; omega
theorem rd_nat (xs : List Int) (i : Nat) : rd xs (i : Int) = xs.getD i 0 := by simp [rd]
theorem getD_lt (xs : List Int) (i : Nat) (h : i < xs.length) : xs.getD i 0 = xs[i] := by simp [List.getD, List.getElem?_eq_getElem h]
theorem drop_cons (xs : List Int) (i : Nat) (h : i < xs.length) : xs.drop i = xs.getD i 0 :: xs.drop (i + 1) := by rw [getD_lt xs i h]; exact List.drop_eq_getElem_cons h
theorem set_take {x l : List Int} {i : Nat} (hi : i < l.length) (hx : x.length = l.length) (ht : x.take i = l.take i) : (x.set i (l.getD i 0)).take (i + 1) = l.take (i + 1) := by
  apply List.ext_getElem?
  intro j
  have hj := congrArg (fun z => z[j]?) ht
  simp only [List.getElem?_take] at hj ⊢
  by_cases h1 : j < i + 1
  · rw [if_pos h1, if_pos h1, List.getElem?_set]
    by_cases h2 : i = j
    · subst h2
      rw [if_pos rfl, if_pos (by omega), List.getElem?_eq_getElem hi, getD_lt l i hi]
    · rw [if_neg h2]
      rw [if_pos (by omega), if_pos (by omega)] at hj
      exact hj
  · rw [if_neg h1, if_neg h1]
theorem toByte_l0 (l : List Int) (hn : l.length ≤ 281474976710656) : ∀ (d k i : Nat) (x : List Int), l.length - i = d → i ≤ l.length → d < k → x.length = l.length → x.take i = l.take i → laws_toByteS.l0 k l x (i : Int) = some l := by
  intro d
  induction d with
  | zero =>
    intro k i x hd hi hk hx ht
    obtain ⟨k, rfl⟩ : ∃ m, k = m + 1 := ⟨k - 1, by omega⟩
    simp only [laws_toByteS.l0]
    rw [if_neg (by omega)]
    rw [List.take_of_length_le (by omega), List.take_of_length_le (by omega)] at ht
    rw [ht]
  | succ d ih =>
    intro k i x hd hi hk hx ht
    obtain ⟨k, rfl⟩ : ∃ m, k = m + 1 := ⟨k - 1, by omega⟩
    simp only [laws_toByteS.l0]
    rw [if_pos (by omega), if_pos (by omega), if_pos (by omega), w1 (by omega)]
    refine ih k (i + 1) _ (by omega) (by omega) (by omega) (by simpa using hx) ?_
    rw [rd_nat, Int.toNat_natCast]
    exact set_take (by omega) hx ht
theorem toByte_some (l : List Int) (hn : l.length ≤ 281474976710656) {k : Nat} (hk : l.length < k) : laws_toByteS.f k l = some l := by
  unfold laws_toByteS.f
  rw [if_pos (by omega), if_pos (by simpa using hn)]
  exact toByte_l0 l hn l.length k 0 _ (by omega) (by omega) hk (by simp) rfl
theorem toInt_l0 (l : List Int) (hn : l.length ≤ 35184372088832) : ∀ (d k i : Nat) (x : List Int), l.length - i = d → i ≤ l.length → d < k → x.length = l.length → x.take i = l.take i → laws_toIntS.l0 k l x (i : Int) = some l := by
  intro d
  induction d with
  | zero =>
    intro k i x hd hi hk hx ht
    obtain ⟨k, rfl⟩ : ∃ m, k = m + 1 := ⟨k - 1, by omega⟩
    simp only [laws_toIntS.l0]
    rw [if_neg (by omega)]
    rw [List.take_of_length_le (by omega), List.take_of_length_le (by omega)] at ht
    rw [ht]
  | succ d ih =>
    intro k i x hd hi hk hx ht
    obtain ⟨k, rfl⟩ : ∃ m, k = m + 1 := ⟨k - 1, by omega⟩
    simp only [laws_toIntS.l0]
    rw [if_pos (by omega), if_pos (by omega), if_pos (by omega), w1 (by omega)]
    refine ih k (i + 1) _ (by omega) (by omega) (by omega) (by simpa using hx) ?_
    rw [rd_nat, Int.toNat_natCast]
    exact set_take (by omega) hx ht
theorem toInt_some (l : List Int) (hn : l.length ≤ 35184372088832) {k : Nat} (hk : l.length < k) : laws_toIntS.f k l = some l := by
  unfold laws_toIntS.f
  rw [if_pos (by omega), if_pos (by simpa using hn)]
  exact toInt_l0 l hn l.length k 0 _ (by omega) (by omega) hk (by simp) rfl
theorem eqByte_l0 (a b : List Int) (hab : a.length = b.length) (hn : a.length ≤ 4611686018427387904) : ∀ (d k i : Nat), a.length - i = d → i ≤ a.length → d < k → laws_eqByteS.l0 k a b (i : Int) = some (decide (a.drop i = b.drop i)) := by
  intro d
  induction d with
  | zero =>
    intro k i hd hi hk
    obtain ⟨k, rfl⟩ : ∃ m, k = m + 1 := ⟨k - 1, by omega⟩
    simp only [laws_eqByteS.l0]
    rw [if_neg (by omega), List.drop_eq_nil_of_le (by omega), List.drop_eq_nil_of_le (by omega)]
    simp
  | succ d ih =>
    intro k i hd hi hk
    obtain ⟨k, rfl⟩ : ∃ m, k = m + 1 := ⟨k - 1, by omega⟩
    simp only [laws_eqByteS.l0]
    rw [if_pos (by omega), if_pos (by omega), if_pos (by omega), rd_nat, rd_nat, drop_cons a i (by omega), drop_cons b i (by omega)]
    by_cases h : a.getD i 0 = b.getD i 0
    · rw [if_pos h, w1 (by omega), ih k (i + 1) (by omega) (by omega) (by omega), h]
      simp
    · rw [if_neg h]
      simp only [List.cons.injEq, h, false_and, decide_false]
theorem eqByte_some (a b : List Int) (hn : a.length ≤ 4611686018427387904) {k : Nat} (hk : a.length < k) : laws_eqByteS.f k a b = some (decide (a = b)) := by
  unfold laws_eqByteS.f
  by_cases h : a.length = b.length
  · rw [if_pos (by omega)]
    have := eqByte_l0 a b h hn a.length k 0 (by omega) (by omega) hk
    simpa using this
  · rw [if_neg (by omega)]
    have : a ≠ b := fun e => h (by rw [e])
    simp [this]
theorem eqByte_same (a : List Int) (hn : a.length ≤ 4611686018427387904) {k : Nat} (hk : a.length < k) : laws_eqByteS.f k a a = some true := by
  rw [eqByte_some a a hn hk]; simp
theorem eqInt_l0 (a b : List Int) (hab : a.length = b.length) (hn : a.length ≤ 4611686018427387904) : ∀ (d k i : Nat), a.length - i = d → i ≤ a.length → d < k → laws_eqIntS.l0 k a b (i : Int) = some (decide (a.drop i = b.drop i)) := by
  intro d
  induction d with
  | zero =>
    intro k i hd hi hk
    obtain ⟨k, rfl⟩ : ∃ m, k = m + 1 := ⟨k - 1, by omega⟩
    simp only [laws_eqIntS.l0]
    rw [if_neg (by omega), List.drop_eq_nil_of_le (by omega), List.drop_eq_nil_of_le (by omega)]
    simp
  | succ d ih =>
    intro k i hd hi hk
    obtain ⟨k, rfl⟩ : ∃ m, k = m + 1 := ⟨k - 1, by omega⟩
    simp only [laws_eqIntS.l0]
    rw [if_pos (by omega), if_pos (by omega), if_pos (by omega), rd_nat, rd_nat, drop_cons a i (by omega), drop_cons b i (by omega)]
    by_cases h : a.getD i 0 = b.getD i 0
    · rw [if_pos h, w1 (by omega), ih k (i + 1) (by omega) (by omega) (by omega), h]
      simp
    · rw [if_neg h]
      simp only [List.cons.injEq, h, false_and, decide_false]
theorem eqInt_some (a b : List Int) (hn : a.length ≤ 4611686018427387904) {k : Nat} (hk : a.length < k) : laws_eqIntS.f k a b = some (decide (a = b)) := by
  unfold laws_eqIntS.f
  by_cases h : a.length = b.length
  · rw [if_pos (by omega)]
    have := eqInt_l0 a b h hn a.length k 0 (by omega) (by omega) hk
    simpa using this
  · rw [if_neg (by omega)]
    have : a ≠ b := fun e => h (by rw [e])
    simp [this]
theorem eqInt_same (a : List Int) (hn : a.length ≤ 4611686018427387904) {k : Nat} (hk : a.length < k) : laws_eqIntS.f k a a = some true := by
  rw [eqInt_some a a hn hk]; simp
theorem szPool_some (m s o : List Int) (hm : m.length ≤ 4611686018427387) (hs : s.length ≤ 4611686018427387) (ho : o.length ≤ 4611686018427387) :
    laws_szPool.f m s o 1048576 = some (-1) ∨ (laws_szPool.f m s o 1048576 = some (1048576 - (m.length : Int) - (s.length : Int) - (o.length : Int)) ∧ m.length + s.length + o.length ≤ 1048576) := by
  unfold laws_szPool.f laws_szByteS.f laws_szIntS.f
  have e1 : wrap64 (1048576 - (m.length : Int)) = 1048576 - (m.length : Int) := by unfold wrap64; omega
  rw [e1]
  by_cases h1 : 1048576 - (m.length : Int) < 0
  · rw [if_pos h1]; simp
  · rw [if_neg h1]
    simp only [Option.bind_some]
    rw [if_neg h1]
    have e2 : wrap64 (1048576 - (m.length : Int) - (s.length : Int)) = 1048576 - (m.length : Int) - (s.length : Int) := by unfold wrap64; omega
    rw [e2]
    by_cases h2 : 1048576 - (m.length : Int) - (s.length : Int) < 0
    · rw [if_pos h2]; simp
    · rw [if_neg h2]
      simp only [Option.bind_some]
      rw [if_neg h2]
      have e3 : wrap64 (1048576 - (m.length : Int) - (s.length : Int) - (o.length : Int)) = 1048576 - (m.length : Int) - (s.length : Int) - (o.length : Int) := by unfold wrap64; omega
      rw [e3]
      by_cases h3 : 1048576 - (m.length : Int) - (s.length : Int) - (o.length : Int) < 0
      · rw [if_pos h3]; simp
      · rw [if_neg h3]
        simp only [Option.bind_some]
        rw [if_neg h3]
        exact .inr ⟨rfl, by omega⟩
theorem toPool_some (m s o : List Int) (hm : m.length ≤ 35184372088832) (hs : s.length ≤ 35184372088832) (ho : o.length ≤ 35184372088832) {k : Nat} (h1 : m.length < k) (h2 : s.length < k) (h3 : o.length < k) : laws_toPool.f k m s o = some (m, s, o) := by
  unfold laws_toPool.f
  rw [toByte_some m (by omega) h1, toInt_some s (by omega) h2, toInt_some o (by omega) h3]
  rfl
theorem eqPool_same (m s o : List Int) (hm : m.length ≤ 35184372088832) (hs : s.length ≤ 35184372088832) (ho : o.length ≤ 35184372088832) {k : Nat} (h1 : m.length < k) (h2 : s.length < k) (h3 : o.length < k) : laws_eqPool.f k m s o m s o = some true := by
  unfold laws_eqPool.f
  rw [eqByte_same m (by omega) h1, eqInt_same s (by omega) h2, eqInt_same o (by omega) h3]
  rfl
theorem count_same (m s o : List Int) (x : Int) (hs : s.length ≤ 4611686018427387904) : ∀ (k : Nat) (c : Int) (i : Nat), impl_CountOf.l0 k x c s (s.length : Int) (i : Int) = spec_CountOf.l0 k x c (i : Int) m s o := by
  intro k
  induction k with
  | zero => intro c i; rfl
  | succ k ih =>
    intro c i
    simp only [impl_CountOf.l0, spec_CountOf.l0]
    by_cases h : (i : Int) < (s.length : Int)
    · have h0 : (0 : Int) ≤ (i : Int) := by omega
      simp only [h, h0, ↓reduceIte]
      rw [w1 (by omega)]
      by_cases g : rd s (i : Int) = x
      · rw [if_pos g, if_pos g]; exact ih _ (i + 1)
      · rw [if_neg g, if_neg g]; exact ih _ (i + 1)
    · rw [if_neg h, if_neg h]
theorem count_some (m s o : List Int) (x : Int) (hs : s.length ≤ 4611686018427387904) : ∀ (d k : Nat) (c : Int) (i : Nat), s.length - i = d → i ≤ s.length → d < k → ∃ r, spec_CountOf.l0 k x c (i : Int) m s o = some r := by
  intro d
  induction d with
  | zero =>
    intro k c i hd hi hk
    obtain ⟨k, rfl⟩ : ∃ m, k = m + 1 := ⟨k - 1, by omega⟩
    simp only [spec_CountOf.l0]
    rw [if_neg (by omega)]; exact ⟨_, rfl⟩
  | succ d ih =>
    intro k c i hd hi hk
    obtain ⟨k, rfl⟩ : ∃ m, k = m + 1 := ⟨k - 1, by omega⟩
    simp only [spec_CountOf.l0]
    rw [if_pos (by omega), if_pos (by omega), w1 (by omega)]
    by_cases g : rd s (i : Int) = x
    · rw [if_pos g]; exact ih k _ (i + 1) (by omega) (by omega) (by omega)
    · rw [if_neg g]; exact ih k _ (i + 1) (by omega) (by omega) (by omega)
theorem FnExactCountOf : laws_FnExactCountOf.Pure := by
  intro m s o x hm hm2 hmw hs hs2 hsw ho ho2 how _
  obtain ⟨k, hk⟩ : ∃ k : Nat, 2000000 < k := ⟨_, Nat.lt_succ_self _⟩
  refine ⟨k, ?_⟩
  unfold laws_FnExactCountOf.f
  rcases szPool_some m s o (by omega) (by omega) (by omega) with h | ⟨h, b⟩
  · rw [h]; simp
  · rw [h]
    simp only [Option.bind_some]
    rw [if_neg (by omega), toPool_some m s o (by omega) (by omega) (by omega) (by omega) (by omega) (by omega)]
    simp only [Option.bind_some]
    obtain ⟨r, hr⟩ := count_some m s o x (by omega) s.length k 0 0 (by omega) (by omega) (by omega)
    have h1 : spec_CountOf.f k m s o x = some r := hr
    have h2 : impl_CountOf.f k m s o x = some r := by
      unfold impl_CountOf.f
      have := count_same m s o x (by omega) k 0 0
      rw [show ((0 : Nat) : Int) = 0 from rfl] at this
      rw [this]; exact hr
    rw [h1, h2]
    simp only [Option.bind_some, if_true]
    rw [eqPool_same m s o (by omega) (by omega) (by omega) (by omega) (by omega) (by omega)]
    rfl
end Go.Proofs.Ytkcohcdhlgocgaa.Pure
