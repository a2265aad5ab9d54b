/- What the law FnExactTakeRun computes is the answer true, for all arguments within the bounds that the statement's own reading gives. No other condition. -/
import Derived.OpenShut
import Derived.Test.YtnloeihhimcblaaQFnExactTakeRunx7
namespace Go.Proofs.Ytnloeihhimcblaa.Pure
open Go.RowKit Go.Proofs.Ytnloeihhimcblaa.QFnExactTakeRun Go.Proofs.YtnloeihhimcblaaW.PrintWords Go.Proofs.YtnloeihhimcblaaW.PrintLast
set_option linter.unusedVariables false
set_option linter.unusedSimpArgs false
def laws_FnExactTakeRun.Pure : Prop := ∀ (l0_0 : List Int) (l0_1 : List Int) (l0_2 : List Int) (a1 : Int) (a2 : Int) (a3 : Int), l0_0.length ≤ maxLen → l0_0.length * 1 ≤ 140737488351232 → (∀ x ∈ l0_0, (Lit.int .u8 x).wf = true) → l0_1.length ≤ maxLen → l0_1.length * 8 ≤ 140737488351232 → (∀ x ∈ l0_1, (Lit.int .i64 x).wf = true) → l0_2.length ≤ maxLen → l0_2.length * 8 ≤ 140737488351232 → (∀ x ∈ l0_2, (Lit.int .i64 x).wf = true) → (Lit.int .i64 a1).wf = true → (Lit.int .i64 a2).wf = true → (Lit.int .i64 a3).wf = true → ∃ k, laws_FnExactTakeRun.f k l0_0 l0_1 l0_2 a1 a2 a3 = some true
theorem w1 {i : Nat} (h : i < 9223372036854775807) : wrap64 ((i : Int) + 1) = ((i + 1 : Nat) : Int) := by unfold wrap64; omega
theorem rd_nat (xs : List Int) (i : Nat) : rd xs (i : Int) = xs.getD i 0 := by simp [rd]
theorem getD_lt (xs : List Int) (i : Nat) (h : i < xs.length) : xs.getD i 0 = xs[i] := by simp [List.getD, List.getElem?_eq_getElem h]
theorem drop_cons (xs : List Int) (i : Nat) (h : i < xs.length) : xs.drop i = xs.getD i 0 :: xs.drop (i + 1) := by rw [getD_lt xs i h]; exact List.drop_eq_getElem_cons h
theorem set_take {x l : List Int} {i : Nat} (hi : i < l.length) (hx : x.length = l.length) (ht : x.take i = l.take i) : (x.set i (l.getD i 0)).take (i + 1) = l.take (i + 1) := by
  apply List.ext_getElem?
  intro j
  have hj := congrArg (fun z => z[j]?) ht
  simp only [List.getElem?_take] at hj ⊢
  by_cases h1 : j < i + 1
  · rw [if_pos h1, if_pos h1, List.getElem?_set]
    by_cases h2 : i = j
    · subst h2
      rw [if_pos rfl, if_pos (by omega), List.getElem?_eq_getElem hi, getD_lt l i hi]
    · rw [if_neg h2]
      rw [if_pos (by omega), if_pos (by omega)] at hj
      exact hj
  · rw [if_neg h1, if_neg h1]
theorem toByte_l0 (l : List Int) (hn : l.length ≤ 281474976710656) : ∀ (d k i : Nat) (x : List Int), l.length - i = d → i ≤ l.length → d < k → x.length = l.length → x.take i = l.take i → laws_toByteS.l0 k l x (i : Int) = some l := by
  intro d
  induction d with
  | zero =>
    intro k i x hd hi hk hx ht
    obtain ⟨k, rfl⟩ : ∃ m, k = m + 1 := ⟨k - 1, by omega⟩
    simp only [laws_toByteS.l0]
    rw [if_neg (by omega)]
    rw [List.take_of_length_le (by omega), List.take_of_length_le (by omega)] at ht
    rw [ht]
  | succ d ih =>
    intro k i x hd hi hk hx ht
    obtain ⟨k, rfl⟩ : ∃ m, k = m + 1 := ⟨k - 1, by omega⟩
    simp only [laws_toByteS.l0]
    rw [if_pos (by omega), if_pos (by omega), if_pos (by omega), w1 (by omega)]
    refine ih k (i + 1) _ (by omega) (by omega) (by omega) (by simpa using hx) ?_
    rw [rd_nat, Int.toNat_natCast]
    exact set_take (by omega) hx ht
theorem toByte_some (l : List Int) (hn : l.length ≤ 281474976710656) {k : Nat} (hk : l.length < k) : laws_toByteS.f k l = some l := by
  unfold laws_toByteS.f
  rw [if_pos (by omega), if_pos (by simpa using hn)]
  exact toByte_l0 l hn l.length k 0 _ (by omega) (by omega) hk (by simp) rfl
theorem toInt_l0 (l : List Int) (hn : l.length ≤ 35184372088832) : ∀ (d k i : Nat) (x : List Int), l.length - i = d → i ≤ l.length → d < k → x.length = l.length → x.take i = l.take i → laws_toIntS.l0 k l x (i : Int) = some l := by
  intro d
  induction d with
  | zero =>
    intro k i x hd hi hk hx ht
    obtain ⟨k, rfl⟩ : ∃ m, k = m + 1 := ⟨k - 1, by omega⟩
    simp only [laws_toIntS.l0]
    rw [if_neg (by omega)]
    rw [List.take_of_length_le (by omega), List.take_of_length_le (by omega)] at ht
    rw [ht]
  | succ d ih =>
    intro k i x hd hi hk hx ht
    obtain ⟨k, rfl⟩ : ∃ m, k = m + 1 := ⟨k - 1, by omega⟩
    simp only [laws_toIntS.l0]
    rw [if_pos (by omega), if_pos (by omega), if_pos (by omega), w1 (by omega)]
    refine ih k (i + 1) _ (by omega) (by omega) (by omega) (by simpa using hx) ?_
    rw [rd_nat, Int.toNat_natCast]
    exact set_take (by omega) hx ht
theorem toInt_some (l : List Int) (hn : l.length ≤ 35184372088832) {k : Nat} (hk : l.length < k) : laws_toIntS.f k l = some l := by
  unfold laws_toIntS.f
  rw [if_pos (by omega), if_pos (by simpa using hn)]
  exact toInt_l0 l hn l.length k 0 _ (by omega) (by omega) hk (by simp) rfl
theorem eqByte_l0 (a b : List Int) (hab : a.length = b.length) (hn : a.length ≤ 4611686018427387904) : ∀ (d k i : Nat), a.length - i = d → i ≤ a.length → d < k → laws_eqByteS.l0 k a b (i : Int) = some (decide (a.drop i = b.drop i)) := by
  intro d
  induction d with
  | zero =>
    intro k i hd hi hk
    obtain ⟨k, rfl⟩ : ∃ m, k = m + 1 := ⟨k - 1, by omega⟩
    simp only [laws_eqByteS.l0]
    rw [if_neg (by omega), List.drop_eq_nil_of_le (by omega), List.drop_eq_nil_of_le (by omega)]
    simp
  | succ d ih =>
    intro k i hd hi hk
    obtain ⟨k, rfl⟩ : ∃ m, k = m + 1 := ⟨k - 1, by omega⟩
    simp only [laws_eqByteS.l0]
    rw [if_pos (by omega), if_pos (by omega), if_pos (by omega), rd_nat, rd_nat, drop_cons a i (by omega), drop_cons b i (by omega)]
    by_cases h : a.getD i 0 = b.getD i 0
    · rw [if_pos h, w1 (by omega), ih k (i + 1) (by omega) (by omega) (by omega), h]
      simp
    · rw [if_neg h]
      simp only [List.cons.injEq, h, false_and, decide_false]
theorem eqByte_some (a b : List Int) (hn : a.length ≤ 4611686018427387904) {k : Nat} (hk : a.length < k) : laws_eqByteS.f k a b = some (decide (a = b)) := by
  unfold laws_eqByteS.f
  by_cases h : a.length = b.length
  · rw [if_pos (by omega)]
    have := eqByte_l0 a b h hn a.length k 0 (by omega) (by omega) hk
    simpa using this
  · rw [if_neg (by omega)]
    have : a ≠ b := fun e => h (by rw [e])
    simp [this]
theorem eqByte_same (a : List Int) (hn : a.length ≤ 4611686018427387904) {k : Nat} (hk : a.length < k) : laws_eqByteS.f k a a = some true := by
  rw [eqByte_some a a hn hk]; simp
theorem eqInt_l0 (a b : List Int) (hab : a.length = b.length) (hn : a.length ≤ 4611686018427387904) : ∀ (d k i : Nat), a.length - i = d → i ≤ a.length → d < k → laws_eqIntS.l0 k a b (i : Int) = some (decide (a.drop i = b.drop i)) := by
  intro d
  induction d with
  | zero =>
    intro k i hd hi hk
    obtain ⟨k, rfl⟩ : ∃ m, k = m + 1 := ⟨k - 1, by omega⟩
    simp only [laws_eqIntS.l0]
    rw [if_neg (by omega), List.drop_eq_nil_of_le (by omega), List.drop_eq_nil_of_le (by omega)]
    simp
  | succ d ih =>
    intro k i hd hi hk
    obtain ⟨k, rfl⟩ : ∃ m, k = m + 1 := ⟨k - 1, by omega⟩
    simp only [laws_eqIntS.l0]
    rw [if_pos (by omega), if_pos (by omega), if_pos (by omega), rd_nat, rd_nat, drop_cons a i (by omega), drop_cons b i (by omega)]
    by_cases h : a.getD i 0 = b.getD i 0
    · rw [if_pos h, w1 (by omega), ih k (i + 1) (by omega) (by omega) (by omega), h]
      simp
    · rw [if_neg h]
      simp only [List.cons.injEq, h, false_and, decide_false]
theorem eqInt_some (a b : List Int) (hn : a.length ≤ 4611686018427387904) {k : Nat} (hk : a.length < k) : laws_eqIntS.f k a b = some (decide (a = b)) := by
  unfold laws_eqIntS.f
  by_cases h : a.length = b.length
  · rw [if_pos (by omega)]
    have := eqInt_l0 a b h hn a.length k 0 (by omega) (by omega) hk
    simpa using this
  · rw [if_neg (by omega)]
    have : a ≠ b := fun e => h (by rw [e])
    simp [this]
theorem eqInt_same (a : List Int) (hn : a.length ≤ 4611686018427387904) {k : Nat} (hk : a.length < k) : laws_eqIntS.f k a a = some true := by
  rw [eqInt_some a a hn hk]; simp
def marksByte (m n : Nat) : List Int := (List.range n).map fun j => (((m + j : Nat) : Int)%256)
theorem marksByte_length (m n : Nat) : (marksByte m n).length = n := by simp [marksByte]
theorem marksByte_getD (m n i : Nat) (h : i < n) : (marksByte m n).getD i 0 = (((m + i : Nat) : Int)%256) := by simp [marksByte, List.getD, h]
theorem markByte_l0 (m n : Nat) (hn : m + n ≤ 4611686018427387904) : ∀ (d k i : Nat) (x : List Int), n - i = d → i ≤ n → d < k → x.length = n → x.take i = (marksByte m n).take i → laws_markByteS.l0 k x ((m + i : Nat) : Int) (i : Int) = some (((m + n : Nat) : Int), marksByte m n) := by
  intro d
  induction d with
  | zero =>
    intro k i x hd hi hk hx ht
    obtain ⟨k, rfl⟩ : ∃ m, k = m + 1 := ⟨k - 1, by omega⟩
    simp only [laws_markByteS.l0]
    rw [if_neg (by omega)]
    rw [List.take_of_length_le (by omega), List.take_of_length_le (by rw [marksByte_length]; omega)] at ht
    rw [ht, show m + i = m + n by omega]
  | succ d ih =>
    intro k i x hd hi hk hx ht
    obtain ⟨k, rfl⟩ : ∃ m, k = m + 1 := ⟨k - 1, by omega⟩
    simp only [laws_markByteS.l0]
    rw [if_pos (by omega), if_pos (by omega), w1 (by omega), w1 (by omega)]
    have := ih k (i + 1) (x.set i (((m + i : Nat) : Int)%256)) (by omega) (by omega) (by omega) (by simpa using hx) (by
      rw [← marksByte_getD m n i (by omega)]
      exact set_take (by rw [marksByte_length]; omega) (by rw [marksByte_length]; exact hx) ht)
    rw [Int.toNat_natCast]
    exact this
theorem markByte_some (x : List Int) (m : Nat) (hn : m + x.length ≤ 4611686018427387904) {k : Nat} (hk : x.length < k) : laws_markByteS.f k x (m : Int) = some (((m + x.length : Nat) : Int), marksByte m x.length) := by
  unfold laws_markByteS.f
  exact markByte_l0 m x.length hn x.length k 0 x (by omega) (by omega) hk rfl rfl
theorem heldByte_l0 (m n : Nat) (hn : m + n ≤ 4611686018427387904) : ∀ (d k i : Nat), n - i = d → i ≤ n → d < k → laws_heldByteS.l0 k (marksByte m n) ((m + i : Nat) : Int) (i : Int) = some ((m + n : Nat) : Int) := by
  intro d
  induction d with
  | zero =>
    intro k i hd hi hk
    obtain ⟨k, rfl⟩ : ∃ m, k = m + 1 := ⟨k - 1, by omega⟩
    simp only [laws_heldByteS.l0]
    rw [if_neg (by rw [marksByte_length]; omega), show m + i = m + n by omega]
  | succ d ih =>
    intro k i hd hi hk
    obtain ⟨k, rfl⟩ : ∃ m, k = m + 1 := ⟨k - 1, by omega⟩
    simp only [laws_heldByteS.l0]
    rw [if_pos (by rw [marksByte_length]; omega), if_pos (by omega), rd_nat, marksByte_getD m n i (by omega), if_pos rfl, w1 (by omega), w1 (by omega)]
    exact ih k (i + 1) (by omega) (by omega) (by omega)
theorem heldByte_some (m n : Nat) (hn : m + n ≤ 4611686018427387904) {k : Nat} (hk : n < k) : laws_heldByteS.f k (marksByte m n) (m : Int) = some ((m + n : Nat) : Int) := by
  unfold laws_heldByteS.f
  exact heldByte_l0 m n hn n k 0 (by omega) (by omega) hk
theorem markByte_one (x : List Int) (hn : x.length ≤ 4611686018427387) {k : Nat} (hk : x.length < k) : laws_markByteS.f k x 1 = some (((1 + x.length : Nat) : Int), marksByte 1 x.length) := markByte_some x 1 (by omega) hk
theorem heldByte_one (n : Nat) (hn : n ≤ 4611686018427387) {k : Nat} (hk : n < k) : laws_heldByteS.f k (marksByte 1 n) 1 = some ((1 + n : Nat) : Int) := heldByte_some 1 n (by omega) hk
def marksInt (m n : Nat) : List Int := (List.range n).map fun j => (((m + j : Nat) : Int))
theorem marksInt_length (m n : Nat) : (marksInt m n).length = n := by simp [marksInt]
theorem marksInt_getD (m n i : Nat) (h : i < n) : (marksInt m n).getD i 0 = (((m + i : Nat) : Int)) := by simp [marksInt, List.getD, h]
theorem markInt_l0 (m n : Nat) (hn : m + n ≤ 4611686018427387904) : ∀ (d k i : Nat) (x : List Int), n - i = d → i ≤ n → d < k → x.length = n → x.take i = (marksInt m n).take i → laws_markIntS.l0 k x ((m + i : Nat) : Int) (i : Int) = some (((m + n : Nat) : Int), marksInt m n) := by
  intro d
  induction d with
  | zero =>
    intro k i x hd hi hk hx ht
    obtain ⟨k, rfl⟩ : ∃ m, k = m + 1 := ⟨k - 1, by omega⟩
    simp only [laws_markIntS.l0]
    rw [if_neg (by omega)]
    rw [List.take_of_length_le (by omega), List.take_of_length_le (by rw [marksInt_length]; omega)] at ht
    rw [ht, show m + i = m + n by omega]
  | succ d ih =>
    intro k i x hd hi hk hx ht
    obtain ⟨k, rfl⟩ : ∃ m, k = m + 1 := ⟨k - 1, by omega⟩
    simp only [laws_markIntS.l0]
    rw [if_pos (by omega), if_pos (by omega), w1 (by omega), w1 (by omega)]
    have := ih k (i + 1) (x.set i (((m + i : Nat) : Int))) (by omega) (by omega) (by omega) (by simpa using hx) (by
      rw [← marksInt_getD m n i (by omega)]
      exact set_take (by rw [marksInt_length]; omega) (by rw [marksInt_length]; exact hx) ht)
    rw [Int.toNat_natCast]
    exact this
theorem markInt_some (x : List Int) (m : Nat) (hn : m + x.length ≤ 4611686018427387904) {k : Nat} (hk : x.length < k) : laws_markIntS.f k x (m : Int) = some (((m + x.length : Nat) : Int), marksInt m x.length) := by
  unfold laws_markIntS.f
  exact markInt_l0 m x.length hn x.length k 0 x (by omega) (by omega) hk rfl rfl
theorem heldInt_l0 (m n : Nat) (hn : m + n ≤ 4611686018427387904) : ∀ (d k i : Nat), n - i = d → i ≤ n → d < k → laws_heldIntS.l0 k (marksInt m n) ((m + i : Nat) : Int) (i : Int) = some ((m + n : Nat) : Int) := by
  intro d
  induction d with
  | zero =>
    intro k i hd hi hk
    obtain ⟨k, rfl⟩ : ∃ m, k = m + 1 := ⟨k - 1, by omega⟩
    simp only [laws_heldIntS.l0]
    rw [if_neg (by rw [marksInt_length]; omega), show m + i = m + n by omega]
  | succ d ih =>
    intro k i hd hi hk
    obtain ⟨k, rfl⟩ : ∃ m, k = m + 1 := ⟨k - 1, by omega⟩
    simp only [laws_heldIntS.l0]
    rw [if_pos (by rw [marksInt_length]; omega), if_pos (by omega), rd_nat, marksInt_getD m n i (by omega), if_pos rfl, w1 (by omega), w1 (by omega)]
    exact ih k (i + 1) (by omega) (by omega) (by omega)
theorem heldInt_some (m n : Nat) (hn : m + n ≤ 4611686018427387904) {k : Nat} (hk : n < k) : laws_heldIntS.f k (marksInt m n) (m : Int) = some ((m + n : Nat) : Int) := by
  unfold laws_heldIntS.f
  exact heldInt_l0 m n hn n k 0 (by omega) (by omega) hk
theorem markInt_one (x : List Int) (hn : x.length ≤ 4611686018427387) {k : Nat} (hk : x.length < k) : laws_markIntS.f k x 1 = some (((1 + x.length : Nat) : Int), marksInt 1 x.length) := markInt_some x 1 (by omega) hk
theorem heldInt_one (n : Nat) (hn : n ≤ 4611686018427387) {k : Nat} (hk : n < k) : laws_heldIntS.f k (marksInt 1 n) 1 = some ((1 + n : Nat) : Int) := heldInt_some 1 n (by omega) hk
theorem szPool_some (m s o : List Int) (hm : m.length ≤ 4611686018427387) (hs : s.length ≤ 4611686018427387) (ho : o.length ≤ 4611686018427387) :
    laws_szPool.f m s o 1048576 = some (-1) ∨ (laws_szPool.f m s o 1048576 = some (1048576 - (m.length : Int) - (s.length : Int) - (o.length : Int)) ∧ m.length + s.length + o.length ≤ 1048576) := by
  unfold laws_szPool.f laws_szByteS.f laws_szIntS.f
  have e1 : wrap64 (1048576 - (m.length : Int)) = 1048576 - (m.length : Int) := by unfold wrap64; omega
  rw [e1]
  by_cases h1 : 1048576 - (m.length : Int) < 0
  · rw [if_pos h1]; simp
  · rw [if_neg h1]
    simp only [Option.bind_some]
    rw [if_neg h1]
    have e2 : wrap64 (1048576 - (m.length : Int) - (s.length : Int)) = 1048576 - (m.length : Int) - (s.length : Int) := by unfold wrap64; omega
    rw [e2]
    by_cases h2 : 1048576 - (m.length : Int) - (s.length : Int) < 0
    · rw [if_pos h2]; simp
    · rw [if_neg h2]
      simp only [Option.bind_some]
      rw [if_neg h2]
      have e3 : wrap64 (1048576 - (m.length : Int) - (s.length : Int) - (o.length : Int)) = 1048576 - (m.length : Int) - (s.length : Int) - (o.length : Int) := by unfold wrap64; omega
      rw [e3]
      by_cases h3 : 1048576 - (m.length : Int) - (s.length : Int) - (o.length : Int) < 0
      · rw [if_pos h3]; simp
      · rw [if_neg h3]
        simp only [Option.bind_some]
        rw [if_neg h3]
        exact .inr ⟨rfl, by omega⟩
theorem toPool_some (m s o : List Int) (hm : m.length ≤ 35184372088832) (hs : s.length ≤ 35184372088832) (ho : o.length ≤ 35184372088832) {k : Nat} (h1 : m.length < k) (h2 : s.length < k) (h3 : o.length < k) : laws_toPool.f k m s o = some (m, s, o) := by
  unfold laws_toPool.f
  rw [toByte_some m (by omega) h1, toInt_some s (by omega) h2, toInt_some o (by omega) h3]
  rfl
theorem eqPool_same (m s o : List Int) (hm : m.length ≤ 35184372088832) (hs : s.length ≤ 35184372088832) (ho : o.length ≤ 35184372088832) {k : Nat} (h1 : m.length < k) (h2 : s.length < k) (h3 : o.length < k) : laws_eqPool.f k m s o m s o = some true := by
  unfold laws_eqPool.f
  rw [eqByte_same m (by omega) h1, eqInt_same s (by omega) h2, eqInt_same o (by omega) h3]
  rfl
theorem markPool_some (m s o : List Int) (hm : m.length ≤ 35184372088832) (hs : s.length ≤ 35184372088832) (ho : o.length ≤ 35184372088832) {k : Nat} (h1 : m.length < k) (h2 : s.length < k) (h3 : o.length < k) :
    laws_markPool.f k m s o 1 = some (((1 + m.length + s.length + o.length : Nat) : Int), marksByte 1 m.length, marksInt (1 + m.length) s.length, marksInt (1 + m.length + s.length) o.length) := by
  unfold laws_markPool.f
  rw [markByte_one m (by omega) h1]
  simp only [Option.bind_some]
  rw [markInt_some s (1 + m.length) (by omega) h2]
  simp only [Option.bind_some]
  rw [markInt_some o (1 + m.length + s.length) (by omega) h3]
  rfl
theorem heldPool_one (a b c : Nat) (ha : a ≤ 35184372088832) (hb : b ≤ 35184372088832) (hc : c ≤ 35184372088832) {k : Nat} (h1 : a < k) (h2 : b < k) (h3 : c < k) :
    laws_heldPool.f k (marksByte 1 a) (marksInt (1 + a) b) (marksInt (1 + a + b) c) 1 = some ((1 + a + b + c : Nat) : Int) := by
  unfold laws_heldPool.f
  rw [heldByte_one a (by omega) h1]
  simp only [Option.bind_some]
  rw [if_neg (by omega), heldInt_some (1 + a) b (by omega) h2]
  simp only [Option.bind_some]
  rw [if_neg (by omega), heldInt_some (1 + a + b) c (by omega) h3]
  simp only [Option.bind_some]
  rw [if_neg (by omega)]
theorem copy_spec (m s o : List Int) (hm : m.length ≤ 1048576) (hs : s.length ≤ 1048576) (ho : o.length ≤ 1048576) : spec_l4Copy.f m s o = some (m, s, o) := by
  unfold spec_l4Copy.f
  simp only [Option.bind_some, List.length_nil, List.nil_append, Nat.zero_add]
  rw [if_pos (by omega), if_pos (by omega), if_pos (by omega)]
theorem copy_impl (m s o : List Int) (hm : m.length ≤ 1048576) (hs : s.length ≤ 1048576) (ho : o.length ≤ 1048576) : impl_copyPool.f m s o = some (m, s, o) := by
  unfold impl_copyPool.f slices_Clone_byte_byte.f slices_Clone_int_int.f
  rw [if_pos (by omega), if_pos (by omega), if_pos (by omega)]
  rfl
theorem run_loop (m s o : List Int) (a n x : Int) : ∀ (k : Nat) (i : Int) (p q r : List Int), spec_TakeRun.l0 k a n x i p q r = impl_TakeRun.l0 k a n x i p q r := by
  intro k
  induction k with
  | zero => intro i p q r; rfl
  | succ k ih =>
    intro i p q r
    rw [spec_TakeRun.l0, impl_TakeRun.l0]
    simp only [ih]
theorem run_ends (b n : Nat) (x : Int) (p : List Int) : ∀ (d k j : Nat) (q r : List Int), n - j = d → j ≤ n → d < k → b + n ≤ q.length → q.length = r.length → q.length ≤ 1048576 →
    ∃ q' r', q'.length = q.length ∧ r'.length = r.length ∧ ∀ k', d < k' → impl_TakeRun.l0 k' (b : Int) (n : Int) x ((b + j : Nat) : Int) p q r = some (p, q', r') := by
  intro d
  induction d with
  | zero =>
    intro k j q r hd hj hk hq hr hl
    refine ⟨q, r, rfl, rfl, fun k' hk' => ?_⟩
    obtain ⟨k', rfl⟩ : ∃ m, k' = m + 1 := ⟨k' - 1, by omega⟩
    have e : wrap64 ((b : Int) + (n : Int)) = ((b + n : Nat) : Int) := by unfold wrap64; omega
    rw [impl_TakeRun.l0, e, if_neg (by omega)]
  | succ d ih =>
    intro k j q r hd hj hk hq hr hl
    have e : wrap64 ((b : Int) + (n : Int)) = ((b + n : Nat) : Int) := by unfold wrap64; omega
    have c0 : ((b + j : Nat) : Int) < ((b + n : Nat) : Int) := by omega
    have c1 : (0 : Int) ≤ ((b + j : Nat) : Int) := by omega
    have c2 : ((b + j : Nat) : Int) < (q.length : Int) := by omega
    have c3 : ((b + j : Nat) : Int) < (r.length : Int) := by omega
    have hw : wrap64 (((b + j : Nat) : Int) + 1) = ((b + (j + 1) : Nat) : Int) := by unfold wrap64; omega
    obtain ⟨q', r', h1, h2, h3⟩ := ih (k - 1) (j + 1) (q.set (b + j) 1) (r.set (b + j) x) (by omega) (by omega) (by omega) (by rw [List.length_set]; exact hq) (by rw [List.length_set, List.length_set]; exact hr) (by rw [List.length_set]; exact hl)
    refine ⟨q', r', h1.trans (List.length_set ..), h2.trans (List.length_set ..), fun k' hk' => ?_⟩
    clear h1 h2
    obtain ⟨k', rfl⟩ : ∃ m, k' = m + 1 := ⟨k' - 1, by omega⟩
    rw [impl_TakeRun.l0, e, if_pos c0, if_pos c1, if_pos c2, if_pos c3, hw, Int.toNat_natCast]
    exact h3 k' (by omega)
theorem free_same (m s o : List Int) (b n : Nat) (hbn : b + n ≤ s.length) (hl : s.length ≤ 1048576) : ∀ (d j : Nat), n - j = d → j ≤ n → ∃ (z : Bool) (t : Int), (z = true ↔ t < 0) ∧ ∀ k, d < k →
    spec_l5Free.l0 k (b : Int) (n : Int) ((b + j : Nat) : Int) m s o = some z ∧ slices_IndexFunc_int_int.l0 k ((s.take (b + n)).drop b) (n : Int) (j : Int) = some t := by
  intro d
  have hq : ((s.take (b + n)).drop b).length = n := by rw [List.length_drop, List.length_take]; omega
  induction d with
  | zero =>
    intro j hd hj
    refine ⟨true, -1, by simp, fun k hk => ?_⟩
    obtain ⟨k, rfl⟩ : ∃ m, k = m + 1 := ⟨k - 1, by omega⟩
    have e : wrap64 ((b : Int) + (n : Int)) = ((b + n : Nat) : Int) := by unfold wrap64; omega
    rw [spec_l5Free.l0, slices_IndexFunc_int_int.l0, e, if_neg (by omega), if_neg (by omega)]
    exact ⟨rfl, rfl⟩
  | succ d ih =>
    intro j hd hj
    have e : wrap64 ((b : Int) + (n : Int)) = ((b + n : Nat) : Int) := by unfold wrap64; omega
    have hr : rd ((s.take (b + n)).drop b) (j : Int) = rd s ((b + j : Nat) : Int) := by
      have hjn : b + j < b + n := by omega
      rw [rd_nat, rd_nat]
      simp [List.getD, List.getElem?_drop, List.getElem?_take, hjn]
    by_cases g : rd s ((b + j : Nat) : Int) = 0
    · obtain ⟨z, t, h1, h2⟩ := ih (j + 1) (by omega) (by omega)
      refine ⟨z, t, h1, fun k hk => ?_⟩
      obtain ⟨k, rfl⟩ : ∃ m, k = m + 1 := ⟨k - 1, by omega⟩
      rw [spec_l5Free.l0, slices_IndexFunc_int_int.l0, e, if_pos (by omega), if_pos (by omega), if_pos (by omega), if_pos g, if_pos (by omega), if_pos (by omega), if_pos (by omega), hr]
      unfold impl_TakeRun_1.f
      rw [Option.bind_some, if_neg (by simp only [bne_iff_ne]; exact fun h => h g), w1 (by omega), w1 (by omega)]
      exact h2 k (by omega)
    · refine ⟨false, (j : Int), by simp only [Bool.false_eq_true, false_iff]; omega, fun k hk => ?_⟩
      obtain ⟨k, rfl⟩ : ∃ m, k = m + 1 := ⟨k - 1, by omega⟩
      rw [spec_l5Free.l0, slices_IndexFunc_int_int.l0, e, if_pos (by omega), if_pos (by omega), if_pos (by omega), if_neg g, if_pos (by omega), if_pos (by omega), if_pos (by omega), hr]
      unfold impl_TakeRun_1.f
      rw [Option.bind_some, if_pos (by simp only [bne_iff_ne]; exact g)]
      exact ⟨rfl, rfl⟩
theorem has_some (L : Nat) (hL : L ≤ 1048576) (a n : Int) (hn : 1 ≤ n) : impl_has.f (L : Int) a n = some (decide (0 ≤ a ∧ a + n ≤ (L : Int))) := by
  unfold impl_has.f impl_within.f
  rw [if_pos (by omega)]
  by_cases c1 : n ≤ (L : Int)
  · have e : wrap64 ((L : Int) - n) = (L : Int) - n := by unfold wrap64; omega
    rw [if_pos c1, e]
    by_cases c3 : a ≥ 0
    · rw [if_pos c3, Option.bind_some]
      congr 1
      rw [decide_eq_decide]
      omega
    · rw [if_neg c3, Option.bind_some, decide_eq_false (by omega)]
  · rw [if_neg c1, decide_eq_false (by omega)]
theorem both_FnExactTakeRun (m s o : List Int) (a n x : Int) (hm : m.length ≤ 1048576) (hs : s.length ≤ 1048576) (ho : o.length ≤ 1048576) (ha : (Lit.int .i64 a).wf = true) (hn : (Lit.int .i64 n).wf = true) (_ : (Lit.int .i64 x).wf = true) : ∃ p q r, (∀ k : Nat, 3000000 ≤ k → spec_TakeRun.f k m s o a n x = some (p, q, r)) ∧ (∀ k : Nat, 3000000 ≤ k → impl_TakeRun.f k m s o a n x = some (p, q, r)) ∧ p.length = m.length ∧ q.length = s.length ∧ r.length = o.length := by
  have ra := bounds_i64 ha
  have rn := bounds_i64 hn
  by_cases G : 0 ≤ a ∧ 1 ≤ n ∧ a + n ≤ (s.length : Int)
  rotate_left
  · refine ⟨m, s, o, fun k hk => ?_, fun k hk => ?_, rfl, rfl, rfl⟩
    · obtain ⟨k, rfl⟩ : ∃ m, k = m + 1 := ⟨k - 1, by omega⟩
      unfold spec_TakeRun.f spec_l5Free.f
      rw [copy_spec m s o hm hs ho, Option.bind_some]
      have f1 : spec_l5Free.j0 (k + 1) a n true m s o = some false := by rw [spec_l5Free.j0, if_pos rfl]
      have f2 : spec_TakeRun.j0 (k + 1) a n x true m s o = some (m, s, o) := by rw [spec_TakeRun.j0, if_pos rfl]
      by_cases c1 : a < 0
      · rw [if_pos c1, f1, Option.bind_some, if_neg Bool.false_ne_true, f2]
      rw [if_neg c1]
      by_cases c2 : n < 1
      · rw [if_pos c2, f1, Option.bind_some, if_neg Bool.false_ne_true, f2]
      rw [if_neg c2]
      by_cases c3 : a > (s.length : Int)
      · rw [if_pos c3, f1, Option.bind_some, if_neg Bool.false_ne_true, f2]
      have e : wrap64 ((s.length : Int) - a) = (s.length : Int) - a := by unfold wrap64; omega
      rw [if_neg c3, e, decide_eq_true (by omega), f1, Option.bind_some, if_neg Bool.false_ne_true, f2]
    · obtain ⟨k, rfl⟩ : ∃ m, k = m + 1 := ⟨k - 1, by omega⟩
      unfold impl_TakeRun.f
      have f2 : impl_TakeRun.j0 (k + 1) a n x true m s o = some (m, s, o) := by rw [impl_TakeRun.j0, if_pos rfl]
      rw [copy_impl m s o hm hs ho, Option.bind_some]
      by_cases c2 : n < 1
      · rw [if_pos c2, f2]
      rw [if_neg c2, has_some s.length hs a n (by omega), Option.bind_some, decide_eq_false (by omega), if_neg Bool.false_ne_true, f2]
  obtain ⟨g0, g1, g2⟩ := G
  obtain ⟨b, rfl⟩ : ∃ b : Nat, a = (b : Int) := ⟨a.toNat, by omega⟩
  obtain ⟨c, rfl⟩ : ∃ c : Nat, n = (c : Int) := ⟨n.toNat, by omega⟩
  have e : wrap64 ((s.length : Int) - (b : Int)) = (s.length : Int) - (b : Int) := by unfold wrap64; omega
  have e2 : wrap64 ((b : Int) + (c : Int)) = ((b + c : Nat) : Int) := by unfold wrap64; omega
  obtain ⟨z, t, hz, hzt⟩ := free_same m s o b c (by omega) hs c 0 (by omega) (by omega)
  have hq : ((s.take (b + c)).drop b).length = c := by rw [List.length_drop, List.length_take]; omega
  have hfree : ∀ k : Nat, 2000000 ≤ k → spec_l5Free.f k m s o (b : Int) (c : Int) = some z := by
    intro k hk
    obtain ⟨k, rfl⟩ : ∃ m, k = m + 1 := ⟨k - 1, by omega⟩
    unfold spec_l5Free.f
    rw [if_neg (by omega), if_neg (by omega), if_neg (by omega), e, decide_eq_false (by omega), spec_l5Free.j0, if_neg Bool.false_ne_true]
    exact (hzt k (by omega)).1
  have hcon : ∀ k : Nat, 2000000 ≤ k → slices_ContainsFunc_int_int.f k ((s.take (b + c)).drop b) = some (!z) := by
    intro k hk
    unfold slices_ContainsFunc_int_int.f slices_IndexFunc_int_int.f
    have hz0 : slices_IndexFunc_int_int.l0 k ((s.take (b + c)).drop b) (c : Int) 0 = some t := (hzt k (by omega)).2
    rw [hq, hz0, Option.bind_some]
    congr 1
    cases z with
    | true => have := hz.mp rfl; rw [decide_eq_false (by omega)]; rfl
    | false =>
      have ht : t ≥ 0 := by
        rcases Int.lt_or_le t 0 with h | h
        · exact absurd (hz.mpr h) Bool.false_ne_true
        · exact h
      rw [decide_eq_true ht]; rfl
  by_cases w : z = true ∧ o.length = s.length
  · obtain ⟨w1_, w2_⟩ := w
    subst w1_
    obtain ⟨q', r', h1, h2, h3⟩ := run_ends b c x m c 3000000 0 s o (by omega) (by omega) (by omega) (by omega) (by omega) hs
    refine ⟨m, q', r', fun k hk => ?_, fun k hk => ?_, rfl, h1, h2⟩
    · unfold spec_TakeRun.f
      rw [copy_spec m s o hm hs ho, Option.bind_some, hfree k (by omega), Option.bind_some, if_pos rfl]
      obtain ⟨k, rfl⟩ : ∃ m, k = m + 1 := ⟨k - 1, by omega⟩
      have ne : ((o.length : Int) != (s.length : Int)) = false := by simp [w2_]
      rw [ne, spec_TakeRun.j0, if_neg Bool.false_ne_true, run_loop m s o]
      exact h3 k (by omega)
    · unfold impl_TakeRun.f
      rw [copy_impl m s o hm hs ho, Option.bind_some, if_neg (by omega), has_some s.length hs _ _ (by omega), Option.bind_some, decide_eq_true (by omega), if_pos rfl, if_pos (by omega), e2, if_pos (by omega), if_pos (by omega), if_pos (by omega), Int.toNat_natCast, Int.toNat_natCast, hcon k (by omega), Option.bind_some]
      obtain ⟨k, rfl⟩ : ∃ m, k = m + 1 := ⟨k - 1, by omega⟩
      rw [impl_TakeRun.j0, if_neg (by simp)]
      exact h3 k (by omega)
  · refine ⟨m, s, o, fun k hk => ?_, fun k hk => ?_, rfl, rfl, rfl⟩
    · unfold spec_TakeRun.f
      obtain ⟨k, rfl⟩ : ∃ m, k = m + 1 := ⟨k - 1, by omega⟩
      have f2 : spec_TakeRun.j0 (k + 1) (b : Int) (c : Int) x true m s o = some (m, s, o) := by rw [spec_TakeRun.j0, if_pos rfl]
      rw [copy_spec m s o hm hs ho, Option.bind_some, hfree (k + 1) (by omega), Option.bind_some]
      by_cases hz1 : z = true
      · have ne : ((o.length : Int) != (s.length : Int)) = true := by
          simp only [bne_iff_ne]; exact fun h => w ⟨hz1, by omega⟩
        rw [if_pos hz1, ne, f2]
      · rw [if_neg hz1, f2]
    · unfold impl_TakeRun.f
      obtain ⟨k, rfl⟩ : ∃ m, k = m + 1 := ⟨k - 1, by omega⟩
      have f2 : impl_TakeRun.j0 (k + 1) (b : Int) (c : Int) x true m s o = some (m, s, o) := by rw [impl_TakeRun.j0, if_pos rfl]
      rw [copy_impl m s o hm hs ho, Option.bind_some, if_neg (by omega), has_some s.length hs _ _ (by omega), Option.bind_some, decide_eq_true (by omega), if_pos rfl]
      by_cases hos : o.length = s.length
      · rw [if_pos (by omega), e2, if_pos (by omega), if_pos (by omega), if_pos (by omega), Int.toNat_natCast, Int.toNat_natCast, hcon (k + 1) (by omega), Option.bind_some]
        have hz1 : z = false := by
          cases z with
          | true => exact absurd ⟨rfl, hos⟩ w
          | false => rfl
        rw [hz1, Bool.not_false, f2]
      · rw [if_neg (by omega), f2]
theorem FnExactTakeRun : laws_FnExactTakeRun.Pure := by
  intro m s o a n x hm hm2 hmw hs hs2 hsw ho ho2 how ha hn hx
  obtain ⟨k, hk⟩ : ∃ k : Nat, 4000000 < k := ⟨_, Nat.lt_succ_self _⟩
  obtain ⟨k, rfl⟩ : ∃ m, k = m + 1 := ⟨k - 1, by omega⟩
  refine ⟨k + 1, ?_⟩
  unfold laws_FnExactTakeRun.f
  rcases szPool_some m s o (by omega) (by omega) (by omega) with h | ⟨h, b⟩
  · rw [h]; simp
  · rw [h]
    obtain ⟨p, q, r, e1, e2, lp, lq, lr⟩ := both_FnExactTakeRun m s o a n x (by omega) (by omega) (by omega) ha hn hx
    simp only [Option.bind_some]
    rw [if_neg (by omega), toPool_some m s o (by omega) (by omega) (by omega) (by omega) (by omega) (by omega)]
    simp only [Option.bind_some]
    rw [e1 (k + 1) (by omega), e2 (k + 1) (by omega)]
    simp only [Option.bind_some]
    rw [eqPool_same p q r (by omega) (by omega) (by omega) (by omega) (by omega) (by omega)]
    simp only [Option.bind_some, if_true]
    rw [eqPool_same m s o (by omega) (by omega) (by omega) (by omega) (by omega) (by omega)]
    simp only [Option.bind_some, if_true]
    rw [markPool_some m s o (by omega) (by omega) (by omega) (by omega) (by omega) (by omega)]
    simp only [Option.bind_some]
    rw [if_neg (by omega)]
    simp only [laws_FnExactTakeRun.j0, Bool.not_true]
    rw [if_neg (by simp), markPool_some p q r (by omega) (by omega) (by omega) (by omega) (by omega) (by omega)]
    simp only [Option.bind_some]
    rw [heldPool_one p.length q.length r.length (by omega) (by omega) (by omega) (by omega) (by omega) (by omega)]
    simp only [Option.bind_some, if_true]
    rw [if_neg (by omega), toPool_some m s o (by omega) (by omega) (by omega) (by omega) (by omega) (by omega)]
    simp only [Option.bind_some]
    rw [e2 k (by omega)]
    simp only [Option.bind_some]
    rw [eqPool_same p q r (by omega) (by omega) (by omega) (by omega) (by omega) (by omega)]
    simp only [Option.bind_some, if_true]
    rw [if_neg (by omega)]
end Go.Proofs.Ytnloeihhimcblaa.Pure
