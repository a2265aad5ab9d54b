/- What the law FnExactRuns computes is the answer true, for all arguments within the bounds that the statement's own reading gives. No other condition. -/
import Derived.OpenShut
import Derived.Test.YtkcohcdhlgocgaaQFnExactRunsx4
namespace Go.Proofs.Ytkcohcdhlgocgaa.Pure
open Go.RowKit Go.Proofs.Ytkcohcdhlgocgaa.QFnExactRuns Go.Proofs.YtkcohcdhlgocgaaW.PrintWords Go.Proofs.YtkcohcdhlgocgaaW.PrintLast
set_option linter.unusedVariables false
set_option linter.unusedSimpArgs false
def laws_FnExactRuns.Pure : Prop := ∀ (l0_0 : List Int) (l0_1 : List Int) (l0_2 : List Int), l0_0.length ≤ maxLen → l0_0.length * 1 ≤ 140737488351232 → (∀ x ∈ l0_0, (Lit.int .u8 x).wf = true) → l0_1.length ≤ maxLen → l0_1.length * 8 ≤ 140737488351232 → (∀ x ∈ l0_1, (Lit.int .i64 x).wf = true) → l0_2.length ≤ maxLen → l0_2.length * 8 ≤ 140737488351232 → (∀ x ∈ l0_2, (Lit.int .i64 x).wf = true) → ∃ k, laws_FnExactRuns.f k l0_0 l0_1 l0_2 = some true
theorem w1 {i : Nat} (h : i < 9223372036854775807) : wrap64 ((i : Int) + 1) = ((i + 1 : Nat) : Int) := by unfold wrap64; omega
theorem rd_nat (xs : List Int) (i : Nat) : rd xs (i : Int) = xs.getD i 0 := by simp [rd]
theorem getD_lt (xs : List Int) (i : Nat) (h : i < xs.length) : xs.getD i 0 = xs[i] := by simp [List.getD, List.getElem?_eq_getElem h]
theorem drop_cons (xs : List Int) (i : Nat) (h : i < xs.length) : xs.drop i = xs.getD i 0 :: xs.drop (i + 1) := by rw [getD_lt xs i h]; exact List.drop_eq_getElem_cons h
theorem set_take {x l : List Int} {i : Nat} (hi : i < l.length) (hx : x.length = l.length) (ht : x.take i = l.take i) : (x.set i (l.getD i 0)).take (i + 1) = l.take (i + 1) := by
  apply List.ext_getElem?
  intro j
  have hj := congrArg (fun z => z[j]?) ht
  simp only [List.getElem?_take] at hj ⊢
  by_cases h1 : j < i + 1
  · rw [if_pos h1, if_pos h1, List.getElem?_set]
    by_cases h2 : i = j
    · subst h2
      rw [if_pos rfl, if_pos (by omega), List.getElem?_eq_getElem hi, getD_lt l i hi]
    · rw [if_neg h2]
      rw [if_pos (by omega), if_pos (by omega)] at hj
      exact hj
  · rw [if_neg h1, if_neg h1]
theorem toByte_l0 (l : List Int) (hn : l.length ≤ 281474976710656) : ∀ (d k i : Nat) (x : List Int), l.length - i = d → i ≤ l.length → d < k → x.length = l.length → x.take i = l.take i → laws_toByteS.l0 k l x (i : Int) = some l := by
  intro d
  induction d with
  | zero =>
    intro k i x hd hi hk hx ht
    obtain ⟨k, rfl⟩ : ∃ m, k = m + 1 := ⟨k - 1, by omega⟩
    simp only [laws_toByteS.l0]
    rw [if_neg (by omega)]
    rw [List.take_of_length_le (by omega), List.take_of_length_le (by omega)] at ht
    rw [ht]
  | succ d ih =>
    intro k i x hd hi hk hx ht
    obtain ⟨k, rfl⟩ : ∃ m, k = m + 1 := ⟨k - 1, by omega⟩
    simp only [laws_toByteS.l0]
    rw [if_pos (by omega), if_pos (by omega), if_pos (by omega), w1 (by omega)]
    refine ih k (i + 1) _ (by omega) (by omega) (by omega) (by simpa using hx) ?_
    rw [rd_nat, Int.toNat_natCast]
    exact set_take (by omega) hx ht
theorem toByte_some (l : List Int) (hn : l.length ≤ 281474976710656) {k : Nat} (hk : l.length < k) : laws_toByteS.f k l = some l := by
  unfold laws_toByteS.f
  rw [if_pos (by omega), if_pos (by simpa using hn)]
  exact toByte_l0 l hn l.length k 0 _ (by omega) (by omega) hk (by simp) rfl
theorem toInt_l0 (l : List Int) (hn : l.length ≤ 35184372088832) : ∀ (d k i : Nat) (x : List Int), l.length - i = d → i ≤ l.length → d < k → x.length = l.length → x.take i = l.take i → laws_toIntS.l0 k l x (i : Int) = some l := by
  intro d
  induction d with
  | zero =>
    intro k i x hd hi hk hx ht
    obtain ⟨k, rfl⟩ : ∃ m, k = m + 1 := ⟨k - 1, by omega⟩
    simp only [laws_toIntS.l0]
    rw [if_neg (by omega)]
    rw [List.take_of_length_le (by omega), List.take_of_length_le (by omega)] at ht
    rw [ht]
  | succ d ih =>
    intro k i x hd hi hk hx ht
    obtain ⟨k, rfl⟩ : ∃ m, k = m + 1 := ⟨k - 1, by omega⟩
    simp only [laws_toIntS.l0]
    rw [if_pos (by omega), if_pos (by omega), if_pos (by omega), w1 (by omega)]
    refine ih k (i + 1) _ (by omega) (by omega) (by omega) (by simpa using hx) ?_
    rw [rd_nat, Int.toNat_natCast]
    exact set_take (by omega) hx ht
theorem toInt_some (l : List Int) (hn : l.length ≤ 35184372088832) {k : Nat} (hk : l.length < k) : laws_toIntS.f k l = some l := by
  unfold laws_toIntS.f
  rw [if_pos (by omega), if_pos (by simpa using hn)]
  exact toInt_l0 l hn l.length k 0 _ (by omega) (by omega) hk (by simp) rfl
theorem eqByte_l0 (a b : List Int) (hab : a.length = b.length) (hn : a.length ≤ 4611686018427387904) : ∀ (d k i : Nat), a.length - i = d → i ≤ a.length → d < k → laws_eqByteS.l0 k a b (i : Int) = some (decide (a.drop i = b.drop i)) := by
  intro d
  induction d with
  | zero =>
    intro k i hd hi hk
    obtain ⟨k, rfl⟩ : ∃ m, k = m + 1 := ⟨k - 1, by omega⟩
    simp only [laws_eqByteS.l0]
    rw [if_neg (by omega), List.drop_eq_nil_of_le (by omega), List.drop_eq_nil_of_le (by omega)]
    simp
  | succ d ih =>
    intro k i hd hi hk
    obtain ⟨k, rfl⟩ : ∃ m, k = m + 1 := ⟨k - 1, by omega⟩
    simp only [laws_eqByteS.l0]
    rw [if_pos (by omega), if_pos (by omega), if_pos (by omega), rd_nat, rd_nat, drop_cons a i (by omega), drop_cons b i (by omega)]
    by_cases h : a.getD i 0 = b.getD i 0
    · rw [if_pos h, w1 (by omega), ih k (i + 1) (by omega) (by omega) (by omega), h]
      simp
    · rw [if_neg h]
      simp only [List.cons.injEq, h, false_and, decide_false]
theorem eqByte_some (a b : List Int) (hn : a.length ≤ 4611686018427387904) {k : Nat} (hk : a.length < k) : laws_eqByteS.f k a b = some (decide (a = b)) := by
  unfold laws_eqByteS.f
  by_cases h : a.length = b.length
  · rw [if_pos (by omega)]
    have := eqByte_l0 a b h hn a.length k 0 (by omega) (by omega) hk
    simpa using this
  · rw [if_neg (by omega)]
    have : a ≠ b := fun e => h (by rw [e])
    simp [this]
theorem eqByte_same (a : List Int) (hn : a.length ≤ 4611686018427387904) {k : Nat} (hk : a.length < k) : laws_eqByteS.f k a a = some true := by
  rw [eqByte_some a a hn hk]; simp
theorem eqInt_l0 (a b : List Int) (hab : a.length = b.length) (hn : a.length ≤ 4611686018427387904) : ∀ (d k i : Nat), a.length - i = d → i ≤ a.length → d < k → laws_eqIntS.l0 k a b (i : Int) = some (decide (a.drop i = b.drop i)) := by
  intro d
  induction d with
  | zero =>
    intro k i hd hi hk
    obtain ⟨k, rfl⟩ : ∃ m, k = m + 1 := ⟨k - 1, by omega⟩
    simp only [laws_eqIntS.l0]
    rw [if_neg (by omega), List.drop_eq_nil_of_le (by omega), List.drop_eq_nil_of_le (by omega)]
    simp
  | succ d ih =>
    intro k i hd hi hk
    obtain ⟨k, rfl⟩ : ∃ m, k = m + 1 := ⟨k - 1, by omega⟩
    simp only [laws_eqIntS.l0]
    rw [if_pos (by omega), if_pos (by omega), if_pos (by omega), rd_nat, rd_nat, drop_cons a i (by omega), drop_cons b i (by omega)]
    by_cases h : a.getD i 0 = b.getD i 0
    · rw [if_pos h, w1 (by omega), ih k (i + 1) (by omega) (by omega) (by omega), h]
      simp
    · rw [if_neg h]
      simp only [List.cons.injEq, h, false_and, decide_false]
theorem eqInt_some (a b : List Int) (hn : a.length ≤ 4611686018427387904) {k : Nat} (hk : a.length < k) : laws_eqIntS.f k a b = some (decide (a = b)) := by
  unfold laws_eqIntS.f
  by_cases h : a.length = b.length
  · rw [if_pos (by omega)]
    have := eqInt_l0 a b h hn a.length k 0 (by omega) (by omega) hk
    simpa using this
  · rw [if_neg (by omega)]
    have : a ≠ b := fun e => h (by rw [e])
    simp [this]
theorem eqInt_same (a : List Int) (hn : a.length ≤ 4611686018427387904) {k : Nat} (hk : a.length < k) : laws_eqIntS.f k a a = some true := by
  rw [eqInt_some a a hn hk]; simp
def marksByte (m n : Nat) : List Int := (List.range n).map fun j => (((m + j : Nat) : Int)%256)
theorem marksByte_length (m n : Nat) : (marksByte m n).length = n := by simp [marksByte]
theorem marksByte_getD (m n i : Nat) (h : i < n) : (marksByte m n).getD i 0 = (((m + i : Nat) : Int)%256) := by simp [marksByte, List.getD, h]
theorem markByte_l0 (m n : Nat) (hn : m + n ≤ 4611686018427387904) : ∀ (d k i : Nat) (x : List Int), n - i = d → i ≤ n → d < k → x.length = n → x.take i = (marksByte m n).take i → laws_markByteS.l0 k x ((m + i : Nat) : Int) (i : Int) = some (((m + n : Nat) : Int), marksByte m n) := by
  intro d
  induction d with
  | zero =>
    intro k i x hd hi hk hx ht
    obtain ⟨k, rfl⟩ : ∃ m, k = m + 1 := ⟨k - 1, by omega⟩
    simp only [laws_markByteS.l0]
    rw [if_neg (by omega)]
    rw [List.take_of_length_le (by omega), List.take_of_length_le (by rw [marksByte_length]; omega)] at ht
    rw [ht, show m + i = m + n by omega]
  | succ d ih =>
    intro k i x hd hi hk hx ht
    obtain ⟨k, rfl⟩ : ∃ m, k = m + 1 := ⟨k - 1, by omega⟩
    simp only [laws_markByteS.l0]
    rw [if_pos (by omega), if_pos (by omega), w1 (by omega), w1 (by omega)]
    have := ih k (i + 1) (x.set i (((m + i : Nat) : Int)%256)) (by omega) (by omega) (by omega) (by simpa using hx) (by
      rw [← marksByte_getD m n i (by omega)]
      exact set_take (by rw [marksByte_length]; omega) (by rw [marksByte_length]; exact hx) ht)
    rw [Int.toNat_natCast]
    exact this
theorem markByte_some (x : List Int) (m : Nat) (hn : m + x.length ≤ 4611686018427387904) {k : Nat} (hk : x.length < k) : laws_markByteS.f k x (m : Int) = some (((m + x.length : Nat) : Int), marksByte m x.length) := by
  unfold laws_markByteS.f
  exact markByte_l0 m x.length hn x.length k 0 x (by omega) (by omega) hk rfl rfl
theorem markByte_one (x : List Int) (hn : x.length ≤ 4611686018427387) {k : Nat} (hk : x.length < k) : laws_markByteS.f k x 1 = some (((1 + x.length : Nat) : Int), marksByte 1 x.length) := markByte_some x 1 (by omega) hk
def marksInt (m n : Nat) : List Int := (List.range n).map fun j => (((m + j : Nat) : Int))
theorem marksInt_length (m n : Nat) : (marksInt m n).length = n := by simp [marksInt]
theorem marksInt_getD (m n i : Nat) (h : i < n) : (marksInt m n).getD i 0 = (((m + i : Nat) : Int)) := by simp [marksInt, List.getD, h]
theorem markInt_l0 (m n : Nat) (hn : m + n ≤ 4611686018427387904) : ∀ (d k i : Nat) (x : List Int), n - i = d → i ≤ n → d < k → x.length = n → x.take i = (marksInt m n).take i → laws_markIntS.l0 k x ((m + i : Nat) : Int) (i : Int) = some (((m + n : Nat) : Int), marksInt m n) := by
  intro d
  induction d with
  | zero =>
    intro k i x hd hi hk hx ht
    obtain ⟨k, rfl⟩ : ∃ m, k = m + 1 := ⟨k - 1, by omega⟩
    simp only [laws_markIntS.l0]
    rw [if_neg (by omega)]
    rw [List.take_of_length_le (by omega), List.take_of_length_le (by rw [marksInt_length]; omega)] at ht
    rw [ht, show m + i = m + n by omega]
  | succ d ih =>
    intro k i x hd hi hk hx ht
    obtain ⟨k, rfl⟩ : ∃ m, k = m + 1 := ⟨k - 1, by omega⟩
    simp only [laws_markIntS.l0]
    rw [if_pos (by omega), if_pos (by omega), w1 (by omega), w1 (by omega)]
    have := ih k (i + 1) (x.set i (((m + i : Nat) : Int))) (by omega) (by omega) (by omega) (by simpa using hx) (by
      rw [← marksInt_getD m n i (by omega)]
      exact set_take (by rw [marksInt_length]; omega) (by rw [marksInt_length]; exact hx) ht)
    rw [Int.toNat_natCast]
    exact this
theorem markInt_some (x : List Int) (m : Nat) (hn : m + x.length ≤ 4611686018427387904) {k : Nat} (hk : x.length < k) : laws_markIntS.f k x (m : Int) = some (((m + x.length : Nat) : Int), marksInt m x.length) := by
  unfold laws_markIntS.f
  exact markInt_l0 m x.length hn x.length k 0 x (by omega) (by omega) hk rfl rfl
theorem heldInt_l0 (m n : Nat) (hn : m + n ≤ 4611686018427387904) : ∀ (d k i : Nat), n - i = d → i ≤ n → d < k → laws_heldIntS.l0 k (marksInt m n) ((m + i : Nat) : Int) (i : Int) = some ((m + n : Nat) : Int) := by
  intro d
  induction d with
  | zero =>
    intro k i hd hi hk
    obtain ⟨k, rfl⟩ : ∃ m, k = m + 1 := ⟨k - 1, by omega⟩
    simp only [laws_heldIntS.l0]
    rw [if_neg (by rw [marksInt_length]; omega), show m + i = m + n by omega]
  | succ d ih =>
    intro k i hd hi hk
    obtain ⟨k, rfl⟩ : ∃ m, k = m + 1 := ⟨k - 1, by omega⟩
    simp only [laws_heldIntS.l0]
    rw [if_pos (by rw [marksInt_length]; omega), if_pos (by omega), rd_nat, marksInt_getD m n i (by omega), if_pos rfl, w1 (by omega), w1 (by omega)]
    exact ih k (i + 1) (by omega) (by omega) (by omega)
theorem heldInt_some (m n : Nat) (hn : m + n ≤ 4611686018427387904) {k : Nat} (hk : n < k) : laws_heldIntS.f k (marksInt m n) (m : Int) = some ((m + n : Nat) : Int) := by
  unfold laws_heldIntS.f
  exact heldInt_l0 m n hn n k 0 (by omega) (by omega) hk
theorem markInt_one (x : List Int) (hn : x.length ≤ 4611686018427387) {k : Nat} (hk : x.length < k) : laws_markIntS.f k x 1 = some (((1 + x.length : Nat) : Int), marksInt 1 x.length) := markInt_some x 1 (by omega) hk
theorem heldInt_one (n : Nat) (hn : n ≤ 4611686018427387) {k : Nat} (hk : n < k) : laws_heldIntS.f k (marksInt 1 n) 1 = some ((1 + n : Nat) : Int) := heldInt_some 1 n (by omega) hk
theorem szPool_some (m s o : List Int) (hm : m.length ≤ 4611686018427387) (hs : s.length ≤ 4611686018427387) (ho : o.length ≤ 4611686018427387) :
    laws_szPool.f m s o 1048576 = some (-1) ∨ (laws_szPool.f m s o 1048576 = some (1048576 - (m.length : Int) - (s.length : Int) - (o.length : Int)) ∧ m.length + s.length + o.length ≤ 1048576) := by
  unfold laws_szPool.f laws_szByteS.f laws_szIntS.f
  have e1 : wrap64 (1048576 - (m.length : Int)) = 1048576 - (m.length : Int) := by unfold wrap64; omega
  rw [e1]
  by_cases h1 : 1048576 - (m.length : Int) < 0
  · rw [if_pos h1]; simp
  · rw [if_neg h1]
    simp only [Option.bind_some]
    rw [if_neg h1]
    have e2 : wrap64 (1048576 - (m.length : Int) - (s.length : Int)) = 1048576 - (m.length : Int) - (s.length : Int) := by unfold wrap64; omega
    rw [e2]
    by_cases h2 : 1048576 - (m.length : Int) - (s.length : Int) < 0
    · rw [if_pos h2]; simp
    · rw [if_neg h2]
      simp only [Option.bind_some]
      rw [if_neg h2]
      have e3 : wrap64 (1048576 - (m.length : Int) - (s.length : Int) - (o.length : Int)) = 1048576 - (m.length : Int) - (s.length : Int) - (o.length : Int) := by unfold wrap64; omega
      rw [e3]
      by_cases h3 : 1048576 - (m.length : Int) - (s.length : Int) - (o.length : Int) < 0
      · rw [if_pos h3]; simp
      · rw [if_neg h3]
        simp only [Option.bind_some]
        rw [if_neg h3]
        exact .inr ⟨rfl, by omega⟩
theorem toPool_some (m s o : List Int) (hm : m.length ≤ 35184372088832) (hs : s.length ≤ 35184372088832) (ho : o.length ≤ 35184372088832) {k : Nat} (h1 : m.length < k) (h2 : s.length < k) (h3 : o.length < k) : laws_toPool.f k m s o = some (m, s, o) := by
  unfold laws_toPool.f
  rw [toByte_some m (by omega) h1, toInt_some s (by omega) h2, toInt_some o (by omega) h3]
  rfl
theorem eqPool_same (m s o : List Int) (hm : m.length ≤ 35184372088832) (hs : s.length ≤ 35184372088832) (ho : o.length ≤ 35184372088832) {k : Nat} (h1 : m.length < k) (h2 : s.length < k) (h3 : o.length < k) : laws_eqPool.f k m s o m s o = some true := by
  unfold laws_eqPool.f
  rw [eqByte_same m (by omega) h1, eqInt_same s (by omega) h2, eqInt_same o (by omega) h3]
  rfl
theorem markPool_some (m s o : List Int) (hm : m.length ≤ 35184372088832) (hs : s.length ≤ 35184372088832) (ho : o.length ≤ 35184372088832) {k : Nat} (h1 : m.length < k) (h2 : s.length < k) (h3 : o.length < k) :
    laws_markPool.f k m s o 1 = some (((1 + m.length + s.length + o.length : Nat) : Int), marksByte 1 m.length, marksInt (1 + m.length) s.length, marksInt (1 + m.length + s.length) o.length) := by
  unfold laws_markPool.f
  rw [markByte_one m (by omega) h1]
  simp only [Option.bind_some]
  rw [markInt_some s (1 + m.length) (by omega) h2]
  simp only [Option.bind_some]
  rw [markInt_some o (1 + m.length + s.length) (by omega) h3]
  rfl
/-- The runs of free slots ahead of place i, the last one first. -/
def runsTo (s : List Int) : Nat → List (Nat × Nat)
  | 0 => []
  | i + 1 => if s.getD i 0 = 0 then (match runsTo s i with
      | [] => [(i, 1)]
      | (a, l) :: t => if a + l = i then (a, l + 1) :: t else (i, 1) :: (a, l) :: t) else runsTo s i
/-- What holds of them. -/
def RunsOk (s : List Int) (i : Nat) (rs : List (Nat × Nat)) : Prop :=
  (∀ p ∈ rs, 1 ≤ p.2 ∧ p.1 + p.2 ≤ i ∧ (∀ j, p.1 ≤ j → j < p.1 + p.2 → s.getD j 0 = 0) ∧ (p.1 + p.2 = i ∨ s.getD (p.1 + p.2) 0 ≠ 0)) ∧
  (∀ j, j < i → s.getD j 0 = 0 → ∃ p ∈ rs, p.1 ≤ j ∧ j < p.1 + p.2) ∧
  rs.Pairwise (fun p q => q.1 + q.2 ≤ p.1)
theorem runsTo_ok (s : List Int) : ∀ i, RunsOk s i (runsTo s i) := by
  intro i
  induction i with
  | zero => exact ⟨by simp [runsTo], by simp, by simp [runsTo]⟩
  | succ i ih =>
    obtain ⟨h1, h2, h3⟩ := ih
    simp only [runsTo]
    by_cases hz : s.getD i 0 = 0
    · rw [if_pos hz]
      cases hr : runsTo s i with
      | nil =>
        rw [hr] at h1 h2 h3
        refine ⟨?_, ?_, by simp⟩
        · intro p hp
          simp only [List.mem_singleton] at hp
          subst hp
          refine ⟨by omega, by simp, ?_, .inl rfl⟩
          intro j a b
          have : j = i := by simp only at a b; omega
          rw [this]; exact hz
        · intro j hj hj0
          by_cases e : j = i
          · exact ⟨(i, 1), by simp, by simp; omega, by simp; omega⟩
          · obtain ⟨p, hp, _⟩ := h2 j (by omega) hj0
            simp at hp
      | cons c t =>
        obtain ⟨a, l⟩ := c
        rw [hr] at h1 h2 h3
        have hc := h1 (a, l) (by simp)
        simp only at hc
        simp only
        rw [List.pairwise_cons] at h3
        by_cases e : a + l = i
        · rw [if_pos e]
          refine ⟨?_, ?_, ?_⟩
          · intro p hp
            rcases List.mem_cons.mp hp with rfl | hp
            · refine ⟨by simp, by simp only; omega, ?_, .inl (by simp only; omega)⟩
              intro j x y
              simp only at x y
              by_cases ej : j = i
              · rw [ej]; exact hz
              · exact hc.2.2.1 j x (by omega)
            · have hq := h1 p (by simp [hp])
              have ho := h3.1 p hp
              simp only at ho
              refine ⟨hq.1, by omega, hq.2.2.1, .inr ?_⟩
              rcases hq.2.2.2 with h | h
              · omega
              · exact h
          · intro j hj hj0
            by_cases ej : j = i
            · exact ⟨(a, l + 1), by simp, by simp only; omega, by simp only; omega⟩
            · obtain ⟨p, hp, x, y⟩ := h2 j (by omega) hj0
              rcases List.mem_cons.mp hp with rfl | hp
              · exact ⟨(a, l + 1), by simp, x, by simp only at y ⊢; omega⟩
              · exact ⟨p, by simp [hp], x, y⟩
          · rw [List.pairwise_cons]
            exact ⟨h3.1, h3.2⟩
        · rw [if_neg e]
          refine ⟨?_, ?_, ?_⟩
          · intro p hp
            rcases List.mem_cons.mp hp with rfl | hp
            · refine ⟨by simp, by simp, ?_, .inl rfl⟩
              intro j x y
              have : j = i := by simp only at x y; omega
              rw [this]; exact hz
            · have hq := h1 p hp
              refine ⟨hq.1, by omega, hq.2.2.1, .inr ?_⟩
              rcases hq.2.2.2 with h | h
              · rcases List.mem_cons.mp hp with rfl | hp
                · exact absurd h e
                · have := h3.1 p hp
                  simp only at this
                  omega
              · exact h
          · intro j hj hj0
            by_cases ej : j = i
            · exact ⟨(i, 1), by simp, by simp only; omega, by simp only; omega⟩
            · obtain ⟨p, hp, x, y⟩ := h2 j (by omega) hj0
              exact ⟨p, List.mem_cons_of_mem _ hp, x, y⟩
          · rw [List.pairwise_cons]
            refine ⟨fun p hp => (h1 p hp).2.1, ?_⟩
            rw [List.pairwise_cons]; exact h3
    · rw [if_neg hz]
      refine ⟨?_, ?_, h3⟩
      · intro p hp
        have hq := h1 p hp
        refine ⟨hq.1, by omega, hq.2.2.1, .inr ?_⟩
        rcases hq.2.2.2 with h | h
        · rw [h]; exact hz
        · exact h
      · intro j hj hj0
        by_cases ej : j = i
        · rw [ej] at hj0; exact absurd hj0 hz
        · exact h2 j (by omega) hj0
theorem runsTo_length (s : List Int) : ∀ i, (runsTo s i).length ≤ i := by
  intro i
  induction i with
  | zero => simp [runsTo]
  | succ i ih =>
    simp only [runsTo]
    split
    · split
      · simp
      · rename_i a l t h
        rw [h] at ih
        simp only [List.length_cons] at ih
        split
        · simp; omega
        · simp; omega
    · omega
/-- A run as the code keeps it. -/
def runOf (p : Nat × Nat) : S88 := ⟨(p.1 : Int), (p.2 : Int)⟩
def runsAt (s : List Int) (i : Nat) : List S88 := (runsTo s i).reverse.map runOf
theorem runsAt_length (s : List Int) (i : Nat) : (runsAt s i).length = (runsTo s i).length := by simp [runsAt]
theorem runsAt_last (s : List Int) (i a l : Nat) (t : List (Nat × Nat)) (h : runsTo s i = (a, l) :: t) : runsAt s i = t.reverse.map runOf ++ [runOf (a, l)] := by simp [runsAt, h]
theorem next_none (s : List Int) (i : Nat) (hz : s.getD i 0 = 0) (hr : runsTo s i = []) : runsAt s (i + 1) = [(⟨(i : Int), 1⟩ : S88)] ∧ runsAt s i = [] := by
  constructor
  · simp only [runsAt, runsTo, if_pos hz, hr]; simp [runOf]
  · simp [runsAt, hr]
theorem next_more (s : List Int) (i a l : Nat) (t : List (Nat × Nat)) (hz : s.getD i 0 = 0) (hr : runsTo s i = (a, l) :: t) (e : a + l = i) : runsAt s (i + 1) = (runsAt s i).set t.length (⟨(a : Int), ((l + 1 : Nat) : Int)⟩ : S88) := by
  have : runsTo s (i + 1) = (a, l + 1) :: t := by simp only [runsTo]; rw [if_pos hz, hr]; simp only; rw [if_pos e]
  simp only [runsAt, this, hr, List.reverse_cons, List.map_append, List.map_cons, List.map_nil]
  rw [List.set_append_right _ _ (by simp)]
  simp only [List.length_map, List.length_reverse, Nat.sub_self, List.set_cons_zero]
  rfl
theorem next_new (s : List Int) (i a l : Nat) (t : List (Nat × Nat)) (hz : s.getD i 0 = 0) (hr : runsTo s i = (a, l) :: t) (e : ¬ a + l = i) : runsAt s (i + 1) = runsAt s i ++ [(⟨(i : Int), 1⟩ : S88)] := by
  have : runsTo s (i + 1) = (i, 1) :: (a, l) :: t := by simp only [runsTo]; rw [if_pos hz, hr]; simp only; rw [if_neg e]
  simp only [runsAt, this, hr, List.reverse_cons, List.map_append, List.map_cons, List.map_nil]
  rfl
theorem at_last (s : List Int) (i a l : Nat) (t : List (Nat × Nat)) (hr : runsTo s i = (a, l) :: t) : rd_T88 (runsAt s i) (t.length : Int) = (⟨(a : Int), (l : Int)⟩ : S88) := by
  simp only [runsAt, hr, List.reverse_cons, List.map_append, List.map_cons, List.map_nil, rd_T88, Int.toNat_natCast]
  simp [runOf]
theorem runsOf_step (s : List Int) (k i : Nat) (x : List S88) (n : Nat) (h : i < s.length) (hs : s.length ≤ 1048576) (hx : x.length = n) (hn : n ≤ 1048576) (a l : Nat) (ha : a + l ≤ 2097152) (hl : 0 < n → rd_T88 x ((n : Int) - 1) = (⟨(a : Int), (l : Int)⟩ : S88)) :
    impl_runsOf.l0 (k + 1) x s (s.length : Int) (i : Int) =
    if s.getD i 0 = 0 then (if 0 < n then (if a + l = i then impl_runsOf.l0 k (x.set (n - 1) (⟨(a : Int), ((l + 1 : Nat) : Int)⟩ : S88)) s (s.length : Int) ((i + 1 : Nat) : Int) else impl_runsOf.l0 k (x ++ [(⟨(i : Int), 1⟩ : S88)]) s (s.length : Int) ((i + 1 : Nat) : Int)) else impl_runsOf.l0 k (x ++ [(⟨(i : Int), 1⟩ : S88)]) s (s.length : Int) ((i + 1 : Nat) : Int))
    else impl_runsOf.l0 k x s (s.length : Int) ((i + 1 : Nat) : Int) := by
  have ew : wrap64 ((x.length : Int) - 1) = (n : Int) - 1 := by unfold wrap64; omega
  have e1 : wrap64 ((i : Int) + 1) = ((i + 1 : Nat) : Int) := by unfold wrap64; omega
  have c0 : (i : Int) < (s.length : Int) := by omega
  have c1 : (0 : Int) ≤ (i : Int) := by omega
  have c2 : x.length < 8796093022208 := by omega
  rw [impl_runsOf.l0, if_pos c0, if_pos c1, if_pos c0, rd_nat, ew, e1]
  by_cases hz : s.getD i 0 = 0
  · rw [if_pos hz, if_pos hz]
    by_cases h0 : 0 < n
    · have c3 : (n : Int) - 1 ≥ 0 := by omega
      have c4 : 0 ≤ (n : Int) - 1 := by omega
      have c5 : (n : Int) - 1 < (x.length : Int) := by omega
      have es : wrap64 ((a : Int) + (l : Int)) = ((a + l : Nat) : Int) := by unfold wrap64; omega
      have el : wrap64 ((l : Int) + 1) = ((l + 1 : Nat) : Int) := by unfold wrap64; omega
      have en : ((n : Int) - 1).toNat = n - 1 := by omega
      rw [if_pos c3, if_pos c4, if_pos c5, if_pos h0, hl h0]
      dsimp only
      rw [es, el, en]
      by_cases e : a + l = i
      · have e' : ((a + l : Nat) : Int) = (i : Int) := by omega
        rw [if_pos e, if_pos e']
      · have e' : ¬ ((a + l : Nat) : Int) = (i : Int) := by omega
        rw [if_neg e, if_neg e', if_pos c2]
    · have c3 : ¬ (n : Int) - 1 ≥ 0 := by omega
      rw [if_neg c3, if_pos c2, if_neg h0]
  · rw [if_neg hz, if_neg hz]
theorem runsOf_l0 (s : List Int) (hs : s.length ≤ 1048576) : ∀ (d k i : Nat), s.length - i = d → i ≤ s.length → d < k → impl_runsOf.l0 k (runsAt s i) s (s.length : Int) (i : Int) = some (runsAt s s.length) := by
  intro d
  induction d with
  | zero =>
    intro k i hd hi hk
    obtain ⟨k, rfl⟩ : ∃ m, k = m + 1 := ⟨k - 1, by omega⟩
    have c : ¬ (i : Int) < (s.length : Int) := by omega
    have e : i = s.length := by omega
    rw [impl_runsOf.l0, if_neg c, e]
  | succ d ih =>
    intro k i hd hi hk
    obtain ⟨k, rfl⟩ : ∃ m, k = m + 1 := ⟨k - 1, by omega⟩
    have hok := runsTo_ok s i
    have hn := runsTo_length s i
    have hl := runsAt_length s i
    have next := ih k (i + 1) (by omega) (by omega) (by omega)
    cases hr : runsTo s i with
    | nil =>
      rw [hr] at hl hn
      simp only [List.length_nil] at hl hn
      rw [runsOf_step s k i (runsAt s i) 0 (by omega) hs hl (by omega) 0 0 (by omega) (fun h => absurd h (Nat.lt_irrefl _))]
      by_cases hz : s.getD i 0 = 0
      · obtain ⟨g1, g2⟩ := next_none s i hz hr
        rw [if_pos hz, if_neg (Nat.lt_irrefl _), g2, List.nil_append, ← g1]
        exact next
      · have e2 : runsAt s (i + 1) = runsAt s i := by simp only [runsAt, runsTo, if_neg hz]
        rw [if_neg hz, ← e2]
        exact next
    | cons c t =>
      obtain ⟨a, l⟩ := c
      rw [hr] at hok hn hl
      have hc := hok.1 (a, l) (List.mem_cons_self ..)
      simp only at hc
      simp only [List.length_cons] at hn hl
      rw [runsOf_step s k i (runsAt s i) (t.length + 1) (by omega) hs hl (by omega) a l (by omega) (fun _ => by rw [show ((t.length + 1 : Nat) : Int) - 1 = (t.length : Int) by omega]; exact at_last s i a l t hr)]
      by_cases hz : s.getD i 0 = 0
      · rw [if_pos hz, if_pos (Nat.succ_pos _)]
        by_cases e : a + l = i
        · rw [if_pos e, Nat.add_sub_cancel, ← next_more s i a l t hz hr e]
          exact next
        · rw [if_neg e, ← next_new s i a l t hz hr e]
          exact next
      · have e2 : runsAt s (i + 1) = runsAt s i := by simp only [runsAt, runsTo, if_neg hz]
        rw [if_neg hz, ← e2]
        exact next
theorem runsOf_some (m s o : List Int) (hs : s.length ≤ 1048576) {k : Nat} (hk : s.length < k) : impl_runsOf.f k m s o = some (runsAt s s.length) := by
  unfold impl_runsOf.f
  have := runsOf_l0 s hs s.length k 0 (by omega) (by omega) hk
  simpa [runsAt, runsTo] using this
/-- The spec's loop over the slots holds the lengths of the runs that have ended, and the length of the one that has not. -/
def ended (i : Nat) : List (Nat × Nat) → List (Nat × Nat)
  | [] => []
  | (a, l) :: t => if a + l = i then t else (a, l) :: t
def going (i : Nat) : List (Nat × Nat) → Nat
  | [] => 0
  | (a, l) :: t => if a + l = i then l else 0
def lensOf (rs : List (Nat × Nat)) : List Int := rs.reverse.map (fun p => ((p.2 : Nat) : Int))
theorem specRuns_step (m s o : List Int) (k i : Nat) (x3 : List Int) (c : Int) (h : i < s.length) (hs : s.length ≤ 1048576) (h3 : x3.length < 17592186044416) :
    spec_Runs.l0 (k + 2) x3 c (i : Int) m s o = if s.getD i 0 = 0 then spec_Runs.l0 k x3 (wrap64 (c + 1)) ((i + 1 : Nat) : Int) m s o else spec_Runs.l0 k (if c > 0 then x3 ++ [c] else x3) 0 ((i + 1 : Nat) : Int) m s o := by
  rw [spec_Runs.l0, if_pos (by omega), if_pos (by omega), if_pos (by omega), rd_nat, spec_Runs.j1, w1 (by omega)]
  by_cases hz : s.getD i 0 = 0
  · rw [if_pos (by simp only [beq_iff_eq]; exact hz), if_pos hz]
  · rw [if_neg (by simp only [beq_iff_eq]; exact hz), if_neg hz]
    by_cases hc : c > 0
    · rw [if_pos hc, if_pos hc, if_pos h3]
    · rw [if_neg hc, if_neg hc]
theorem specRuns_last (m s o : List Int) (k : Nat) (x3 : List Int) (c : Int) (hs : s.length ≤ 1048576) (h3 : x3.length < 17592186044416) :
    spec_Runs.l0 (k + 3) x3 c (s.length : Int) m s o = some (if c > 0 then x3 ++ [c] else x3) := by
  have c3 : ¬ ((s.length + 1 : Nat) : Int) ≤ (s.length : Int) := by omega
  rw [spec_Runs.l0, if_pos (by omega), if_neg (by omega), spec_Runs.j1, if_neg (by simp), w1 (by omega)]
  by_cases hc : c > 0
  · rw [if_pos hc, if_pos hc, if_pos h3, spec_Runs.l0, if_neg c3]
  · rw [if_neg hc, if_neg hc, spec_Runs.l0, if_neg c3]
theorem flush (s : List Int) (i : Nat) : (if ((going i (runsTo s i) : Nat) : Int) > 0 then lensOf (ended i (runsTo s i)) ++ [((going i (runsTo s i) : Nat) : Int)] else lensOf (ended i (runsTo s i))) = lensOf (runsTo s i) := by
  have hok := runsTo_ok s i
  cases hr : runsTo s i with
  | nil => simp [going, ended]
  | cons c t =>
    obtain ⟨a, l⟩ := c
    rw [hr] at hok
    have hc := hok.1 (a, l) (by simp)
    simp only at hc
    by_cases e : a + l = i
    · have eg : going i ((a, l) :: t) = l := by simp only [going, if_pos e]
      have ee : ended i ((a, l) :: t) = t := by simp only [ended, if_pos e]
      have c6 : ((l : Nat) : Int) > 0 := by omega
      simp only [eg, ee]
      rw [if_pos c6]
      simp [lensOf]
    · have eg : going i ((a, l) :: t) = 0 := by simp only [going, if_neg e]
      have ee : ended i ((a, l) :: t) = (a, l) :: t := by simp only [ended, if_neg e]
      simp [eg, ee]
theorem ended_length (i : Nat) (rs : List (Nat × Nat)) : (lensOf (ended i rs)).length ≤ rs.length := by
  cases rs with
  | nil => simp [ended, lensOf]
  | cons c t =>
    obtain ⟨a, l⟩ := c
    simp only [ended]
    split <;> simp [lensOf]
theorem going_le (s : List Int) (i : Nat) : going i (runsTo s i) ≤ i := by
  have hok := runsTo_ok s i
  cases hr : runsTo s i with
  | nil => simp [going]
  | cons c t =>
    obtain ⟨a, l⟩ := c
    rw [hr] at hok
    have hc := hok.1 (a, l) (by simp)
    simp only at hc
    simp only [going]
    split <;> omega
theorem next_free (s : List Int) (i : Nat) (hz : s.getD i 0 = 0) : ended (i + 1) (runsTo s (i + 1)) = ended i (runsTo s i) ∧ going (i + 1) (runsTo s (i + 1)) = going i (runsTo s i) + 1 := by
  simp only [runsTo, if_pos hz]
  cases hr : runsTo s i with
  | nil => simp [ended, going]
  | cons c t =>
    obtain ⟨a, l⟩ := c
    by_cases e : a + l = i
    · simp only [if_pos e, ended, going]
      rw [if_pos (by omega), if_pos (by omega)]
      exact ⟨rfl, rfl⟩
    · simp [if_neg e, ended, going]
theorem next_held (s : List Int) (i : Nat) (hz : ¬ s.getD i 0 = 0) : ended (i + 1) (runsTo s (i + 1)) = runsTo s i ∧ going (i + 1) (runsTo s (i + 1)) = 0 := by
  have hok := runsTo_ok s i
  simp only [runsTo, if_neg hz]
  cases hr : runsTo s i with
  | nil => simp [ended, going]
  | cons c t =>
    obtain ⟨a, l⟩ := c
    rw [hr] at hok
    have hc := hok.1 (a, l) (by simp)
    simp only at hc
    simp only [ended, going]
    rw [if_neg (by omega), if_neg (by omega)]
    exact ⟨rfl, rfl⟩
theorem specRuns_l0 (m s o : List Int) (hs : s.length ≤ 1048576) : ∀ (d k i : Nat), s.length - i = d → i ≤ s.length → 2 * d + 4 < k → spec_Runs.l0 k (lensOf (ended i (runsTo s i))) ((going i (runsTo s i) : Nat) : Int) (i : Int) m s o = some (lensOf (runsTo s s.length)) := by
  intro d
  induction d with
  | zero =>
    intro k i hd hi hk
    obtain ⟨k, rfl⟩ : ∃ m, k = m + 3 := ⟨k - 3, by omega⟩
    have e : i = s.length := by omega
    subst e
    have hn := runsTo_length s s.length
    have hl := ended_length s.length (runsTo s s.length)
    rw [specRuns_last m s o k _ _ hs (by omega), flush]
  | succ d ih =>
    intro k i hd hi hk
    obtain ⟨k, rfl⟩ : ∃ m, k = m + 2 := ⟨k - 2, by omega⟩
    have hn := runsTo_length s i
    have hl := ended_length i (runsTo s i)
    have hg := going_le s i
    have next := ih k (i + 1) (by omega) (by omega) (by omega)
    rw [specRuns_step m s o k i _ _ (by omega) hs (by omega)]
    by_cases hz : s.getD i 0 = 0
    · rw [if_pos hz, w1 (by omega)]
      rw [(next_free s i hz).1, (next_free s i hz).2] at next
      exact next
    · rw [if_neg hz, flush]
      rw [(next_held s i hz).1, (next_held s i hz).2] at next
      exact next
theorem specRuns_some (m s o : List Int) (hs : s.length ≤ 1048576) {k : Nat} (hk : 2 * s.length + 4 < k) : spec_Runs.f k m s o = some (lensOf (runsTo s s.length)) := by
  unfold spec_Runs.f
  have := specRuns_l0 m s o hs s.length k 0 (by omega) (by omega) hk
  simpa [lensOf, runsTo, ended, going] using this
theorem lensOf_runsAt (s : List Int) (i : Nat) : lensOf (runsTo s i) = (runsAt s i).map (fun r => r.f1) := by
  simp [lensOf, runsAt, runOf]
theorem lens_l0 (xs : List S88) (hx : xs.length ≤ 1048576) : ∀ (d k i : Nat), xs.length - i = d → i ≤ xs.length → d < k → impl_Runs.l0 k ((xs.take i).map (fun r => r.f1)) xs (xs.length : Int) (i : Int) = some (xs.map (fun r => r.f1)) := by
  intro d
  induction d with
  | zero =>
    intro k i hd hi hk
    obtain ⟨k, rfl⟩ : ∃ m, k = m + 1 := ⟨k - 1, by omega⟩
    have c : ¬ (i : Int) < (xs.length : Int) := by omega
    rw [impl_Runs.l0, if_neg c, List.take_of_length_le (by omega)]
  | succ d ih =>
    intro k i hd hi hk
    obtain ⟨k, rfl⟩ : ∃ m, k = m + 1 := ⟨k - 1, by omega⟩
    have hi' : i < xs.length := by omega
    have c : (i : Int) < (xs.length : Int) := by omega
    have c0 : (0 : Int) ≤ (i : Int) := by omega
    have c1 : ((xs.take i).map (fun r => r.f1)).length < 17592186044416 := by simp; omega
    have g : rd_T88 xs (i : Int) = xs[i] := by simp [rd_T88, List.getElem?_eq_getElem hi']
    have e : (xs.take i).map (fun r => r.f1) ++ [xs[i].f1] = (xs.take (i + 1)).map (fun r => r.f1) := by
      rw [List.take_succ_eq_append_getElem hi', List.map_append]; rfl
    rw [impl_Runs.l0, if_pos c, if_pos c0, if_pos c, if_pos c1, g, e, w1 (by omega)]
    exact ih k (i + 1) (by omega) (by omega) (by omega)
theorem implRuns_some (m s o : List Int) (hs : s.length ≤ 1048576) {k : Nat} (hk : s.length < k) : impl_Runs.f k m s o = some (lensOf (runsTo s s.length)) := by
  unfold impl_Runs.f
  have h1 := runsAt_length s s.length
  have h2 := runsTo_length s s.length
  rw [runsOf_some m s o hs hk, Option.bind_some, lensOf_runsAt]
  exact lens_l0 (runsAt s s.length) (by omega) (runsAt s s.length).length k 0 (by omega) (by omega) (by omega)
theorem FnExactRuns : laws_FnExactRuns.Pure := by
  intro m s o hm hm2 hmw hs hs2 hsw ho ho2 how
  obtain ⟨k, hk⟩ : ∃ k : Nat, 4000000 < k := ⟨_, Nat.lt_succ_self _⟩
  obtain ⟨k, rfl⟩ : ∃ m, k = m + 1 := ⟨k - 1, by omega⟩
  refine ⟨k + 1, ?_⟩
  unfold laws_FnExactRuns.f
  rcases szPool_some m s o (by omega) (by omega) (by omega) with h | ⟨h, b⟩
  · rw [h]; simp
  · rw [h]
    have hlen : (lensOf (runsTo s s.length)).length ≤ s.length := by
      have := runsTo_length s s.length
      simpa [lensOf] using this
    simp only [Option.bind_some]
    rw [if_neg (by omega), toPool_some m s o (by omega) (by omega) (by omega) (by omega) (by omega) (by omega)]
    simp only [Option.bind_some]
    rw [specRuns_some m s o (by omega) (by omega), implRuns_some m s o (by omega) (by omega)]
    simp only [Option.bind_some]
    rw [eqInt_same _ (by omega) (by omega)]
    simp only [Option.bind_some, if_true]
    rw [eqPool_same m s o (by omega) (by omega) (by omega) (by omega) (by omega) (by omega)]
    simp only [Option.bind_some, if_true]
    rw [markPool_some m s o (by omega) (by omega) (by omega) (by omega) (by omega) (by omega)]
    simp only [Option.bind_some]
    rw [if_neg (by omega)]
    simp only [laws_FnExactRuns.j0, Bool.not_true]
    rw [if_neg (by simp), markInt_one _ (by omega) (by omega)]
    simp only [Option.bind_some]
    rw [heldInt_one _ (by omega) (by omega)]
    simp only [Option.bind_some, if_true]
    rw [if_neg (by omega), toPool_some m s o (by omega) (by omega) (by omega) (by omega) (by omega) (by omega)]
    simp only [Option.bind_some]
    rw [implRuns_some m s o (by omega) (by omega)]
    simp only [Option.bind_some]
    rw [eqInt_same _ (by omega) (by omega)]
    simp only [Option.bind_some, if_true]
    rw [if_neg (by omega)]
end Go.Proofs.Ytkcohcdhlgocgaa.Pure
