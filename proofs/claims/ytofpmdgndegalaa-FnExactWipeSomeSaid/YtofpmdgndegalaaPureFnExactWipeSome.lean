/- What the law FnExactWipeSome computes is the answer true, for all arguments within the bounds that the statement's own reading gives. No other condition. -/
import Derived.OpenShut
import Derived.Test.YtofpmdgndegalaaQFnExactWipeSomex12
namespace Go.Proofs.Ytofpmdgndegalaa.Pure
open Go.RowKit Go.Proofs.Ytofpmdgndegalaa.QFnExactWipeSome Go.Proofs.YtofpmdgndegalaaW.PrintWords Go.Proofs.YtofpmdgndegalaaW.PrintLast
set_option linter.unusedVariables false
set_option linter.unusedSimpArgs false
def laws_FnExactWipeSome.Pure : Prop := ∀ (a0_0 : Int) (a0_1 : Int) (a0_2 : Int) (a0_3 : Int) (a0_4 : Int) (a0_5 : Int) (l1_0 : List Int) (l1_1 : List Int) (l1_2 : List Int) (a2 : Int) (a3 : Int), (Lit.int .i64 a0_0).wf = true → (Lit.int .i64 a0_1).wf = true → (Lit.int .i64 a0_2).wf = true → (Lit.int .i64 a0_3).wf = true → (Lit.int .i64 a0_4).wf = true → (Lit.int .i64 a0_5).wf = true → l1_0.length ≤ maxLen → l1_0.length * 1 ≤ 140737488351232 → (∀ x ∈ l1_0, (Lit.int .u8 x).wf = true) → l1_1.length ≤ maxLen → l1_1.length * 8 ≤ 140737488351232 → (∀ x ∈ l1_1, (Lit.int .i64 x).wf = true) → l1_2.length ≤ maxLen → l1_2.length * 8 ≤ 140737488351232 → (∀ x ∈ l1_2, (Lit.int .i64 x).wf = true) → (Lit.int .i64 a2).wf = true → (Lit.int .i64 a3).wf = true → ∃ k, laws_FnExactWipeSome.f k a0_0 a0_1 a0_2 a0_3 a0_4 a0_5 l1_0 l1_1 l1_2 a2 a3 = some true
theorem w1 {i : Nat} (h : i < 9223372036854775807) : wrap64 ((i : Int) + 1) = ((i + 1 : Nat) : Int) := by unfold wrap64; omega
theorem rd_nat (xs : List Int) (i : Nat) : rd xs (i : Int) = xs.getD i 0 := by simp [rd]
theorem getD_lt (xs : List Int) (i : Nat) (h : i < xs.length) : xs.getD i 0 = xs[i] := by simp [List.getD, List.getElem?_eq_getElem h]
theorem drop_cons (xs : List Int) (i : Nat) (h : i < xs.length) : xs.drop i = xs.getD i 0 :: xs.drop (i + 1) := by rw [getD_lt xs i h]; exact List.drop_eq_getElem_cons h
theorem set_take {x l : List Int} {i : Nat} (hi : i < l.length) (hx : x.length = l.length) (ht : x.take i = l.take i) : (x.set i (l.getD i 0)).take (i + 1) = l.take (i + 1) := by
  apply List.ext_getElem?
  intro j
  have hj := congrArg (fun z => z[j]?) ht
  simp only [List.getElem?_take] at hj ⊢
  by_cases h1 : j < i + 1
  · rw [if_pos h1, if_pos h1, List.getElem?_set]
    by_cases h2 : i = j
    · subst h2
      rw [if_pos rfl, if_pos (by omega), List.getElem?_eq_getElem hi, getD_lt l i hi]
    · rw [if_neg h2]
      rw [if_pos (by omega), if_pos (by omega)] at hj
      exact hj
  · rw [if_neg h1, if_neg h1]
theorem toByte_l0 (l : List Int) (hn : l.length ≤ 281474976710656) : ∀ (d k i : Nat) (x : List Int), l.length - i = d → i ≤ l.length → d < k → x.length = l.length → x.take i = l.take i → laws_toByteS.l0 k l x (i : Int) = some l := by
  intro d
  induction d with
  | zero =>
    intro k i x hd hi hk hx ht
    obtain ⟨k, rfl⟩ : ∃ m, k = m + 1 := ⟨k - 1, by omega⟩
    simp only [laws_toByteS.l0]
    rw [if_neg (by omega)]
    rw [List.take_of_length_le (by omega), List.take_of_length_le (by omega)] at ht
    rw [ht]
  | succ d ih =>
    intro k i x hd hi hk hx ht
    obtain ⟨k, rfl⟩ : ∃ m, k = m + 1 := ⟨k - 1, by omega⟩
    simp only [laws_toByteS.l0]
    rw [if_pos (by omega), if_pos (by omega), if_pos (by omega), w1 (by omega)]
    refine ih k (i + 1) _ (by omega) (by omega) (by omega) (by simpa using hx) ?_
    rw [rd_nat, Int.toNat_natCast]
    exact set_take (by omega) hx ht
theorem toByte_some (l : List Int) (hn : l.length ≤ 281474976710656) {k : Nat} (hk : l.length < k) : laws_toByteS.f k l = some l := by
  unfold laws_toByteS.f
  rw [if_pos (by omega), if_pos (by simpa using hn)]
  exact toByte_l0 l hn l.length k 0 _ (by omega) (by omega) hk (by simp) rfl
theorem toInt_l0 (l : List Int) (hn : l.length ≤ 35184372088832) : ∀ (d k i : Nat) (x : List Int), l.length - i = d → i ≤ l.length → d < k → x.length = l.length → x.take i = l.take i → laws_toIntS.l0 k l x (i : Int) = some l := by
  intro d
  induction d with
  | zero =>
    intro k i x hd hi hk hx ht
    obtain ⟨k, rfl⟩ : ∃ m, k = m + 1 := ⟨k - 1, by omega⟩
    simp only [laws_toIntS.l0]
    rw [if_neg (by omega)]
    rw [List.take_of_length_le (by omega), List.take_of_length_le (by omega)] at ht
    rw [ht]
  | succ d ih =>
    intro k i x hd hi hk hx ht
    obtain ⟨k, rfl⟩ : ∃ m, k = m + 1 := ⟨k - 1, by omega⟩
    simp only [laws_toIntS.l0]
    rw [if_pos (by omega), if_pos (by omega), if_pos (by omega), w1 (by omega)]
    refine ih k (i + 1) _ (by omega) (by omega) (by omega) (by simpa using hx) ?_
    rw [rd_nat, Int.toNat_natCast]
    exact set_take (by omega) hx ht
theorem toInt_some (l : List Int) (hn : l.length ≤ 35184372088832) {k : Nat} (hk : l.length < k) : laws_toIntS.f k l = some l := by
  unfold laws_toIntS.f
  rw [if_pos (by omega), if_pos (by simpa using hn)]
  exact toInt_l0 l hn l.length k 0 _ (by omega) (by omega) hk (by simp) rfl
theorem eqByte_l0 (a b : List Int) (hab : a.length = b.length) (hn : a.length ≤ 4611686018427387904) : ∀ (d k i : Nat), a.length - i = d → i ≤ a.length → d < k → laws_eqByteS.l0 k a b (i : Int) = some (decide (a.drop i = b.drop i)) := by
  intro d
  induction d with
  | zero =>
    intro k i hd hi hk
    obtain ⟨k, rfl⟩ : ∃ m, k = m + 1 := ⟨k - 1, by omega⟩
    simp only [laws_eqByteS.l0]
    rw [if_neg (by omega), List.drop_eq_nil_of_le (by omega), List.drop_eq_nil_of_le (by omega)]
    simp
  | succ d ih =>
    intro k i hd hi hk
    obtain ⟨k, rfl⟩ : ∃ m, k = m + 1 := ⟨k - 1, by omega⟩
    simp only [laws_eqByteS.l0]
    rw [if_pos (by omega), if_pos (by omega), if_pos (by omega), rd_nat, rd_nat, drop_cons a i (by omega), drop_cons b i (by omega)]
    by_cases h : a.getD i 0 = b.getD i 0
    · rw [if_pos h, w1 (by omega), ih k (i + 1) (by omega) (by omega) (by omega), h]
      simp
    · rw [if_neg h]
      simp only [List.cons.injEq, h, false_and, decide_false]
theorem eqByte_some (a b : List Int) (hn : a.length ≤ 4611686018427387904) {k : Nat} (hk : a.length < k) : laws_eqByteS.f k a b = some (decide (a = b)) := by
  unfold laws_eqByteS.f
  by_cases h : a.length = b.length
  · rw [if_pos (by omega)]
    have := eqByte_l0 a b h hn a.length k 0 (by omega) (by omega) hk
    simpa using this
  · rw [if_neg (by omega)]
    have : a ≠ b := fun e => h (by rw [e])
    simp [this]
theorem eqByte_same (a : List Int) (hn : a.length ≤ 4611686018427387904) {k : Nat} (hk : a.length < k) : laws_eqByteS.f k a a = some true := by
  rw [eqByte_some a a hn hk]; simp
theorem eqInt_l0 (a b : List Int) (hab : a.length = b.length) (hn : a.length ≤ 4611686018427387904) : ∀ (d k i : Nat), a.length - i = d → i ≤ a.length → d < k → laws_eqIntS.l0 k a b (i : Int) = some (decide (a.drop i = b.drop i)) := by
  intro d
  induction d with
  | zero =>
    intro k i hd hi hk
    obtain ⟨k, rfl⟩ : ∃ m, k = m + 1 := ⟨k - 1, by omega⟩
    simp only [laws_eqIntS.l0]
    rw [if_neg (by omega), List.drop_eq_nil_of_le (by omega), List.drop_eq_nil_of_le (by omega)]
    simp
  | succ d ih =>
    intro k i hd hi hk
    obtain ⟨k, rfl⟩ : ∃ m, k = m + 1 := ⟨k - 1, by omega⟩
    simp only [laws_eqIntS.l0]
    rw [if_pos (by omega), if_pos (by omega), if_pos (by omega), rd_nat, rd_nat, drop_cons a i (by omega), drop_cons b i (by omega)]
    by_cases h : a.getD i 0 = b.getD i 0
    · rw [if_pos h, w1 (by omega), ih k (i + 1) (by omega) (by omega) (by omega), h]
      simp
    · rw [if_neg h]
      simp only [List.cons.injEq, h, false_and, decide_false]
theorem eqInt_some (a b : List Int) (hn : a.length ≤ 4611686018427387904) {k : Nat} (hk : a.length < k) : laws_eqIntS.f k a b = some (decide (a = b)) := by
  unfold laws_eqIntS.f
  by_cases h : a.length = b.length
  · rw [if_pos (by omega)]
    have := eqInt_l0 a b h hn a.length k 0 (by omega) (by omega) hk
    simpa using this
  · rw [if_neg (by omega)]
    have : a ≠ b := fun e => h (by rw [e])
    simp [this]
theorem eqInt_same (a : List Int) (hn : a.length ≤ 4611686018427387904) {k : Nat} (hk : a.length < k) : laws_eqIntS.f k a a = some true := by
  rw [eqInt_some a a hn hk]; simp
def marksByte (m n : Nat) : List Int := (List.range n).map fun j => (((m + j : Nat) : Int)%256)
theorem marksByte_length (m n : Nat) : (marksByte m n).length = n := by simp [marksByte]
theorem marksByte_getD (m n i : Nat) (h : i < n) : (marksByte m n).getD i 0 = (((m + i : Nat) : Int)%256) := by simp [marksByte, List.getD, h]
theorem markByte_l0 (m n : Nat) (hn : m + n ≤ 4611686018427387904) : ∀ (d k i : Nat) (x : List Int), n - i = d → i ≤ n → d < k → x.length = n → x.take i = (marksByte m n).take i → laws_markByteS.l0 k x ((m + i : Nat) : Int) (i : Int) = some (((m + n : Nat) : Int), marksByte m n) := by
  intro d
  induction d with
  | zero =>
    intro k i x hd hi hk hx ht
    obtain ⟨k, rfl⟩ : ∃ m, k = m + 1 := ⟨k - 1, by omega⟩
    simp only [laws_markByteS.l0]
    rw [if_neg (by omega)]
    rw [List.take_of_length_le (by omega), List.take_of_length_le (by rw [marksByte_length]; omega)] at ht
    rw [ht, show m + i = m + n by omega]
  | succ d ih =>
    intro k i x hd hi hk hx ht
    obtain ⟨k, rfl⟩ : ∃ m, k = m + 1 := ⟨k - 1, by omega⟩
    simp only [laws_markByteS.l0]
    rw [if_pos (by omega), if_pos (by omega), w1 (by omega), w1 (by omega)]
    have := ih k (i + 1) (x.set i (((m + i : Nat) : Int)%256)) (by omega) (by omega) (by omega) (by simpa using hx) (by
      rw [← marksByte_getD m n i (by omega)]
      exact set_take (by rw [marksByte_length]; omega) (by rw [marksByte_length]; exact hx) ht)
    rw [Int.toNat_natCast]
    exact this
theorem markByte_some (x : List Int) (m : Nat) (hn : m + x.length ≤ 4611686018427387904) {k : Nat} (hk : x.length < k) : laws_markByteS.f k x (m : Int) = some (((m + x.length : Nat) : Int), marksByte m x.length) := by
  unfold laws_markByteS.f
  exact markByte_l0 m x.length hn x.length k 0 x (by omega) (by omega) hk rfl rfl
theorem heldByte_l0 (m n : Nat) (hn : m + n ≤ 4611686018427387904) : ∀ (d k i : Nat), n - i = d → i ≤ n → d < k → laws_heldByteS.l0 k (marksByte m n) ((m + i : Nat) : Int) (i : Int) = some ((m + n : Nat) : Int) := by
  intro d
  induction d with
  | zero =>
    intro k i hd hi hk
    obtain ⟨k, rfl⟩ : ∃ m, k = m + 1 := ⟨k - 1, by omega⟩
    simp only [laws_heldByteS.l0]
    rw [if_neg (by rw [marksByte_length]; omega), show m + i = m + n by omega]
  | succ d ih =>
    intro k i hd hi hk
    obtain ⟨k, rfl⟩ : ∃ m, k = m + 1 := ⟨k - 1, by omega⟩
    simp only [laws_heldByteS.l0]
    rw [if_pos (by rw [marksByte_length]; omega), if_pos (by omega), rd_nat, marksByte_getD m n i (by omega), if_pos rfl, w1 (by omega), w1 (by omega)]
    exact ih k (i + 1) (by omega) (by omega) (by omega)
theorem heldByte_some (m n : Nat) (hn : m + n ≤ 4611686018427387904) {k : Nat} (hk : n < k) : laws_heldByteS.f k (marksByte m n) (m : Int) = some ((m + n : Nat) : Int) := by
  unfold laws_heldByteS.f
  exact heldByte_l0 m n hn n k 0 (by omega) (by omega) hk
theorem markByte_one (x : List Int) (hn : x.length ≤ 4611686018427387) {k : Nat} (hk : x.length < k) : laws_markByteS.f k x 1 = some (((1 + x.length : Nat) : Int), marksByte 1 x.length) := markByte_some x 1 (by omega) hk
theorem heldByte_one (n : Nat) (hn : n ≤ 4611686018427387) {k : Nat} (hk : n < k) : laws_heldByteS.f k (marksByte 1 n) 1 = some ((1 + n : Nat) : Int) := heldByte_some 1 n (by omega) hk
def marksInt (m n : Nat) : List Int := (List.range n).map fun j => (((m + j : Nat) : Int))
theorem marksInt_length (m n : Nat) : (marksInt m n).length = n := by simp [marksInt]
theorem marksInt_getD (m n i : Nat) (h : i < n) : (marksInt m n).getD i 0 = (((m + i : Nat) : Int)) := by simp [marksInt, List.getD, h]
theorem markInt_l0 (m n : Nat) (hn : m + n ≤ 4611686018427387904) : ∀ (d k i : Nat) (x : List Int), n - i = d → i ≤ n → d < k → x.length = n → x.take i = (marksInt m n).take i → laws_markIntS.l0 k x ((m + i : Nat) : Int) (i : Int) = some (((m + n : Nat) : Int), marksInt m n) := by
  intro d
  induction d with
  | zero =>
    intro k i x hd hi hk hx ht
    obtain ⟨k, rfl⟩ : ∃ m, k = m + 1 := ⟨k - 1, by omega⟩
    simp only [laws_markIntS.l0]
    rw [if_neg (by omega)]
    rw [List.take_of_length_le (by omega), List.take_of_length_le (by rw [marksInt_length]; omega)] at ht
    rw [ht, show m + i = m + n by omega]
  | succ d ih =>
    intro k i x hd hi hk hx ht
    obtain ⟨k, rfl⟩ : ∃ m, k = m + 1 := ⟨k - 1, by omega⟩
    simp only [laws_markIntS.l0]
    rw [if_pos (by omega), if_pos (by omega), w1 (by omega), w1 (by omega)]
    have := ih k (i + 1) (x.set i (((m + i : Nat) : Int))) (by omega) (by omega) (by omega) (by simpa using hx) (by
      rw [← marksInt_getD m n i (by omega)]
      exact set_take (by rw [marksInt_length]; omega) (by rw [marksInt_length]; exact hx) ht)
    rw [Int.toNat_natCast]
    exact this
theorem markInt_some (x : List Int) (m : Nat) (hn : m + x.length ≤ 4611686018427387904) {k : Nat} (hk : x.length < k) : laws_markIntS.f k x (m : Int) = some (((m + x.length : Nat) : Int), marksInt m x.length) := by
  unfold laws_markIntS.f
  exact markInt_l0 m x.length hn x.length k 0 x (by omega) (by omega) hk rfl rfl
theorem heldInt_l0 (m n : Nat) (hn : m + n ≤ 4611686018427387904) : ∀ (d k i : Nat), n - i = d → i ≤ n → d < k → laws_heldIntS.l0 k (marksInt m n) ((m + i : Nat) : Int) (i : Int) = some ((m + n : Nat) : Int) := by
  intro d
  induction d with
  | zero =>
    intro k i hd hi hk
    obtain ⟨k, rfl⟩ : ∃ m, k = m + 1 := ⟨k - 1, by omega⟩
    simp only [laws_heldIntS.l0]
    rw [if_neg (by rw [marksInt_length]; omega), show m + i = m + n by omega]
  | succ d ih =>
    intro k i hd hi hk
    obtain ⟨k, rfl⟩ : ∃ m, k = m + 1 := ⟨k - 1, by omega⟩
    simp only [laws_heldIntS.l0]
    rw [if_pos (by rw [marksInt_length]; omega), if_pos (by omega), rd_nat, marksInt_getD m n i (by omega), if_pos rfl, w1 (by omega), w1 (by omega)]
    exact ih k (i + 1) (by omega) (by omega) (by omega)
theorem heldInt_some (m n : Nat) (hn : m + n ≤ 4611686018427387904) {k : Nat} (hk : n < k) : laws_heldIntS.f k (marksInt m n) (m : Int) = some ((m + n : Nat) : Int) := by
  unfold laws_heldIntS.f
  exact heldInt_l0 m n hn n k 0 (by omega) (by omega) hk
theorem markInt_one (x : List Int) (hn : x.length ≤ 4611686018427387) {k : Nat} (hk : x.length < k) : laws_markIntS.f k x 1 = some (((1 + x.length : Nat) : Int), marksInt 1 x.length) := markInt_some x 1 (by omega) hk
theorem heldInt_one (n : Nat) (hn : n ≤ 4611686018427387) {k : Nat} (hk : n < k) : laws_heldIntS.f k (marksInt 1 n) 1 = some ((1 + n : Nat) : Int) := heldInt_some 1 n (by omega) hk
theorem szPool_some (m s o : List Int) (hm : m.length ≤ 4611686018427387) (hs : s.length ≤ 4611686018427387) (ho : o.length ≤ 4611686018427387) :
    laws_szPool.f m s o 1048576 = some (-1) ∨ (laws_szPool.f m s o 1048576 = some (1048576 - (m.length : Int) - (s.length : Int) - (o.length : Int)) ∧ m.length + s.length + o.length ≤ 1048576) := by
  unfold laws_szPool.f laws_szByteS.f laws_szIntS.f
  have e1 : wrap64 (1048576 - (m.length : Int)) = 1048576 - (m.length : Int) := by unfold wrap64; omega
  rw [e1]
  by_cases h1 : 1048576 - (m.length : Int) < 0
  · rw [if_pos h1]; simp
  · rw [if_neg h1]
    simp only [Option.bind_some]
    rw [if_neg h1]
    have e2 : wrap64 (1048576 - (m.length : Int) - (s.length : Int)) = 1048576 - (m.length : Int) - (s.length : Int) := by unfold wrap64; omega
    rw [e2]
    by_cases h2 : 1048576 - (m.length : Int) - (s.length : Int) < 0
    · rw [if_pos h2]; simp
    · rw [if_neg h2]
      simp only [Option.bind_some]
      rw [if_neg h2]
      have e3 : wrap64 (1048576 - (m.length : Int) - (s.length : Int) - (o.length : Int)) = 1048576 - (m.length : Int) - (s.length : Int) - (o.length : Int) := by unfold wrap64; omega
      rw [e3]
      by_cases h3 : 1048576 - (m.length : Int) - (s.length : Int) - (o.length : Int) < 0
      · rw [if_pos h3]; simp
      · rw [if_neg h3]
        simp only [Option.bind_some]
        rw [if_neg h3]
        exact .inr ⟨rfl, by omega⟩
theorem toPool_some (m s o : List Int) (hm : m.length ≤ 35184372088832) (hs : s.length ≤ 35184372088832) (ho : o.length ≤ 35184372088832) {k : Nat} (h1 : m.length < k) (h2 : s.length < k) (h3 : o.length < k) : laws_toPool.f k m s o = some (m, s, o) := by
  unfold laws_toPool.f
  rw [toByte_some m (by omega) h1, toInt_some s (by omega) h2, toInt_some o (by omega) h3]
  rfl
theorem eqPool_same (m s o : List Int) (hm : m.length ≤ 35184372088832) (hs : s.length ≤ 35184372088832) (ho : o.length ≤ 35184372088832) {k : Nat} (h1 : m.length < k) (h2 : s.length < k) (h3 : o.length < k) : laws_eqPool.f k m s o m s o = some true := by
  unfold laws_eqPool.f
  rw [eqByte_same m (by omega) h1, eqInt_same s (by omega) h2, eqInt_same o (by omega) h3]
  rfl
theorem markPool_some (m s o : List Int) (hm : m.length ≤ 35184372088832) (hs : s.length ≤ 35184372088832) (ho : o.length ≤ 35184372088832) {k : Nat} (h1 : m.length < k) (h2 : s.length < k) (h3 : o.length < k) :
    laws_markPool.f k m s o 1 = some (((1 + m.length + s.length + o.length : Nat) : Int), marksByte 1 m.length, marksInt (1 + m.length) s.length, marksInt (1 + m.length + s.length) o.length) := by
  unfold laws_markPool.f
  rw [markByte_one m (by omega) h1]
  simp only [Option.bind_some]
  rw [markInt_some s (1 + m.length) (by omega) h2]
  simp only [Option.bind_some]
  rw [markInt_some o (1 + m.length + s.length) (by omega) h3]
  rfl
theorem heldPool_one (a b c : Nat) (ha : a ≤ 35184372088832) (hb : b ≤ 35184372088832) (hc : c ≤ 35184372088832) {k : Nat} (h1 : a < k) (h2 : b < k) (h3 : c < k) :
    laws_heldPool.f k (marksByte 1 a) (marksInt (1 + a) b) (marksInt (1 + a + b) c) 1 = some ((1 + a + b + c : Nat) : Int) := by
  unfold laws_heldPool.f
  rw [heldByte_one a (by omega) h1]
  simp only [Option.bind_some]
  rw [if_neg (by omega), heldInt_some (1 + a) b (by omega) h2]
  simp only [Option.bind_some]
  rw [if_neg (by omega), heldInt_some (1 + a + b) c (by omega) h3]
  simp only [Option.bind_some]
  rw [if_neg (by omega)]
theorem copy_spec (m s o : List Int) (hm : m.length ≤ 1048576) (hs : s.length ≤ 1048576) (ho : o.length ≤ 1048576) : spec_l4Copy.f m s o = some (m, s, o) := by
  unfold spec_l4Copy.f
  simp only [Option.bind_some, List.length_nil, List.nil_append, Nat.zero_add]
  rw [if_pos (by omega), if_pos (by omega), if_pos (by omega)]
theorem copy_impl (m s o : List Int) (hm : m.length ≤ 1048576) (hs : s.length ≤ 1048576) (ho : o.length ≤ 1048576) : impl_copyPool.f m s o = some (m, s, o) := by
  unfold impl_copyPool.f slices_Clone_byte_byte.f slices_Clone_int_int.f
  rw [if_pos (by omega), if_pos (by omega), if_pos (by omega)]
  rfl
theorem within_some (a l h : Int) : spec_l1In.f a l h = some (decide (l ≤ a ∧ a ≤ h)) := by
  unfold spec_l1In.f; by_cases g : a ≥ l
  · rw [if_pos g]; congr 1; simp; omega
  · rw [if_neg g]; congr 1; simp; omega
def ConfIn (a b c d e f : Int) : Prop := (2 ≤ a ∧ a ≤ 12) ∧ (8 ≤ b ∧ b ≤ 16) ∧ (2 ≤ c ∧ c ≤ 8) ∧ (1 ≤ d ∧ d ≤ 8) ∧ (1 ≤ e ∧ e ≤ 16) ∧ (1 ≤ f ∧ f ≤ 4)
instance (a b c d e f : Int) : Decidable (ConfIn a b c d e f) := by unfold ConfIn; infer_instance
theorem conf_some (a b c d e f : Int) : spec_ConfOk.f a b c d e f = some (decide (ConfIn a b c d e f)) := by
  unfold spec_ConfOk.f
  simp only [within_some, Option.bind_some, decide_eq_true_eq]
  unfold ConfIn
  by_cases h1 : 2 ≤ a ∧ a ≤ 12
  · rw [if_pos h1]
    by_cases h2 : 8 ≤ b ∧ b ≤ 16
    · rw [if_pos h2]
      by_cases h3 : 2 ≤ c ∧ c ≤ 8
      · rw [if_pos h3]
        by_cases h4 : 1 ≤ d ∧ d ≤ 8
        · rw [if_pos h4]
          by_cases h5 : 1 ≤ e ∧ e ≤ 16
          · rw [if_pos h5]; congr 1; simp [h1, h2, h3, h4, h5]
          · rw [if_neg h5]; congr 1; simp [h1, h2, h3, h4, h5]
        · rw [if_neg h4]; congr 1; simp [h1, h2, h3, h4]
      · rw [if_neg h3]; congr 1; simp [h1, h2, h3]
    · rw [if_neg h2]; congr 1; simp [h1, h2]
  · rw [if_neg h1]; congr 1; simp [h1]
theorem bytes_in (a b c d e f : Int) (h : ConfIn a b c d e f) : spec_BytesOf.f a b c d e f = some (a * b) ∧ 16 ≤ a * b ∧ a * b ≤ 192 := by
  have m0 : 2 * 8 ≤ a * b := Int.mul_le_mul h.1.1 h.2.1.1 (by omega) (by have := h.1.1; omega)
  have m1 : a * b ≤ 12 * 16 := Int.mul_le_mul h.1.2 h.2.1.2 (by have := h.2.1.1; omega) (by omega)
  have e : wrap64 (a * b) = a * b := by unfold wrap64; omega
  refine ⟨?_, by omega, by omega⟩
  unfold spec_BytesOf.f
  rw [conf_some]
  simp only [Option.bind_some, decide_eq_true_eq]
  rw [if_pos h, e]
theorem bytes_out (a b c d e f : Int) (h : ¬ ConfIn a b c d e f) : spec_BytesOf.f a b c d e f = some 0 := by
  unfold spec_BytesOf.f
  rw [conf_some]
  simp only [Option.bind_some, decide_eq_true_eq]
  rw [if_neg h]
theorem bytes_some (a b c d e f : Int) : ∃ r, spec_BytesOf.f a b c d e f = some r := by
  by_cases h : ConfIn a b c d e f
  · exact ⟨_, (bytes_in a b c d e f h).1⟩
  · exact ⟨_, bytes_out a b c d e f h⟩
theorem zero_same (l : List Int) (hl : l.length ≤ 1048576) : ∀ (d k i : Nat), l.length - i = d → i ≤ l.length → d < k → ∃ (b : Bool) (j : Int), spec_IsZero.l0 k l (i : Int) = some b ∧ slices_IndexFunc_byte_byte.l0 k l (l.length : Int) (i : Int) = some j ∧ (b = true ↔ j < 0) := by
  intro d
  induction d with
  | zero =>
    intro k i hd hi hk
    obtain ⟨k, rfl⟩ : ∃ m, k = m + 1 := ⟨k - 1, by omega⟩
    have c : ¬ (i : Int) < (l.length : Int) := by omega
    rw [spec_IsZero.l0, slices_IndexFunc_byte_byte.l0, if_neg c, if_neg c]
    exact ⟨true, -1, rfl, rfl, by simp⟩
  | succ d ih =>
    intro k i hd hi hk
    obtain ⟨k, rfl⟩ : ∃ m, k = m + 1 := ⟨k - 1, by omega⟩
    have c : (i : Int) < (l.length : Int) := by omega
    have c0 : (0 : Int) ≤ (i : Int) := by omega
    rw [spec_IsZero.l0, slices_IndexFunc_byte_byte.l0, if_pos c, if_pos c, if_pos c0, if_pos c0, if_pos c, w1 (by omega)]
    unfold impl_IsZero_1.f
    rw [Option.bind_some]
    by_cases g : rd l (i : Int) = 0
    · rw [if_pos g, if_neg (by simp only [bne_iff_ne]; exact fun h => h g)]
      exact ih k (i + 1) (by omega) (by omega) (by omega)
    · rw [if_neg g, if_pos (by simp only [bne_iff_ne]; exact g)]
      exact ⟨false, _, rfl, rfl, by simp only [Bool.false_eq_true, false_iff]; omega⟩
theorem zero_both (l : List Int) (hl : l.length ≤ 1048576) : ∃ b, (∀ k : Nat, 1048577 < k → spec_IsZero.f k l = some b) ∧ (∀ k : Nat, 1048577 < k → impl_IsZero.f k l = some b) := by
  obtain ⟨b, j, e1, e2, g⟩ := zero_same l hl l.length 1048578 0 (by omega) (by omega) (by omega)
  refine ⟨b, fun k hk => ?_, fun k hk => ?_⟩
  · obtain ⟨b', j', e1', e2', g'⟩ := zero_same l hl l.length k 0 (by omega) (by omega) (by omega)
    have h := at_rounds (fun k => spec_IsZero.mono_l k l 0) (show 1048578 ≤ k by omega) e1
    exact h
  · have h := at_rounds (fun k => slices_IndexFunc_byte_byte.mono_l k l (l.length : Int) 0) (show 1048578 ≤ k by omega) e2
    unfold impl_IsZero.f slices_ContainsFunc_byte_byte.f slices_IndexFunc_byte_byte.f
    have h' : slices_IndexFunc_byte_byte.l0 k l (l.length : Int) 0 = some j := h
    rw [h', Option.bind_some, Option.bind_some]
    congr 1
    cases b with
    | true => have := g.mp rfl; simp; omega
    | false =>
      have : ¬ j < 0 := fun h => Bool.false_ne_true (g.mpr h)
      simp; omega
theorem in_same (x l h : Int) : impl_within.f x l h = spec_l1In.f x l h := rfl
theorem ok_step (a b c d e f : Int) (m s o : List Int) (hc : ConfIn a b c d e f) (hm : (m.length : Int) = a * b) (hs : (s.length : Int) = a) (ho : (o.length : Int) = a) (k i : Nat) (hi : i < s.length) (hk : 1048580 < k)
    (ih : ∃ r, spec_PoolOk.l0 k ((i + 1 : Nat) : Int) a b c d e f m s o = some r ∧ impl_PoolOk.l0 k s (s.length : Int) ((i + 1 : Nat) : Int) a b c d e f m s o = some r) (t : Bool) :
    ∃ r, spec_PoolOk.j2 (k + 1) (i : Int) t a b c d e f m s o = some r ∧ impl_PoolOk.j2 (k + 1) (i : Int) (rd s (i : Int)) s (s.length : Int) (i : Int) t a b c d e f m s o = some r := by
  rw [spec_PoolOk.j2, impl_PoolOk.j2]
  by_cases ht : t = true
  · rw [if_pos ht, if_pos ht]; exact ⟨_, rfl, rfl⟩
  rw [if_neg ht, if_neg ht]
  have c0 : (0 : Int) ≤ (i : Int) := by omega
  have c1 : (i : Int) < (s.length : Int) := by omega
  have hi12 : i < 12 := by have := hc.1.2; omega
  rw [if_pos c0, if_pos c1, w1 (by omega)]
  by_cases g : rd s (i : Int) = 0
  · obtain ⟨p, hp⟩ : ∃ p : Int, (i : Int) * b = p := ⟨_, rfl⟩
    obtain ⟨q, hq⟩ : ∃ q : Int, ((i + 1 : Nat) : Int) * b = q := ⟨_, rfl⟩
    have hb0 : 0 ≤ b := by have := hc.2.1.1; omega
    have f0 : 0 ≤ p := by rw [← hp]; exact Int.mul_nonneg c0 hb0
    have f1 : p ≤ q := by rw [← hp, ← hq]; exact Int.mul_le_mul_of_nonneg_right (by omega) hb0
    have f2 : q ≤ a * b := by rw [← hq]; exact Int.mul_le_mul_of_nonneg_right (by omega) hb0
    have f3 : a * b ≤ 12 * 16 := Int.mul_le_mul hc.1.2 hc.2.1.2 hb0 (by omega)
    have e1 : wrap64 p = p := by unfold wrap64; omega
    have e2 : wrap64 q = q := by unfold wrap64; omega
    have f4 : q ≤ (m.length : Int) := by omega
    rw [hp, hq, e1, e2, if_pos g, if_pos g, if_pos f0, if_pos f0, if_pos f1, if_pos f1, if_pos f4, if_pos f4]
    obtain ⟨z, z1, z2⟩ := zero_both ((m.take q.toNat).drop p.toNat) (by rw [List.length_drop, List.length_take]; omega)
    rw [z1 k (by omega), z2 k (by omega), Option.bind_some, Option.bind_some]
    by_cases hz : z = true
    · rw [if_pos hz, if_pos hz]; exact ih
    · rw [if_neg hz, if_neg hz]; exact ⟨_, rfl, rfl⟩
  · rw [if_neg g, if_neg g]; exact ih
theorem ok_l0 (a b c d e f : Int) (m s o : List Int) (hc : ConfIn a b c d e f) (hm : (m.length : Int) = a * b) (hs : (s.length : Int) = a) (ho : (o.length : Int) = a) : ∀ (n k i : Nat), s.length - i = n → i ≤ s.length → 2 * n + 1048590 < k →
    ∃ r, spec_PoolOk.l0 k (i : Int) a b c d e f m s o = some r ∧ impl_PoolOk.l0 k s (s.length : Int) (i : Int) a b c d e f m s o = some r := by
  intro n
  induction n with
  | zero =>
    intro k i hd hi hk
    obtain ⟨k, rfl⟩ : ∃ m, k = m + 1 := ⟨k - 1, by omega⟩
    have c0 : ¬ (i : Int) < a := by omega
    have c1 : ¬ (i : Int) < (s.length : Int) := by omega
    rw [spec_PoolOk.l0, impl_PoolOk.l0, if_neg c0, if_neg c1]
    exact ⟨_, rfl, rfl⟩
  | succ n ih =>
    intro k i hd hi hk
    obtain ⟨k, rfl⟩ : ∃ m, k = m + 2 := ⟨k - 2, by omega⟩
    have hi' : i < s.length := by omega
    have c0 : (i : Int) < a := by omega
    have c1 : (i : Int) < (s.length : Int) := by omega
    have c2 : (0 : Int) ≤ (i : Int) := by omega
    have c3 : (i : Int) < (o.length : Int) := by omega
    have st := ok_step a b c d e f m s o hc hm hs ho k i hi' (by omega) (ih k (i + 1) (by omega) (by omega) (by omega))
    rw [spec_PoolOk.l0, impl_PoolOk.l0, if_pos c0, if_pos c1, if_pos c2, if_pos c2, if_pos c1, if_pos c1, in_same, within_some, Option.bind_some, Option.bind_some]
    by_cases g1 : decide (0 ≤ rd s (i : Int) ∧ rd s (i : Int) ≤ 2) = true
    · rw [if_pos g1, if_pos g1]
      by_cases g2 : rd s (i : Int) = 1
      · rw [if_pos g2, if_pos g2, if_pos c3, if_pos c3, in_same, within_some, Option.bind_some, Option.bind_some]
        by_cases g3 : decide (0 ≤ rd o (i : Int) ∧ rd o (i : Int) ≤ wrap64 (c - 1)) = true
        · rw [if_pos g3, if_pos g3]; exact st false
        · rw [if_neg g3, if_neg g3]; exact st true
      · rw [if_neg g2, if_neg g2, if_pos c3, if_pos c3]; exact st _
    · rw [if_neg g1, if_neg g1]; exact ⟨_, rfl, rfl⟩
theorem ok_same (a b c d e f : Int) (m s o : List Int) {k : Nat} (hk : 1048640 < k) : ∃ r, spec_PoolOk.f k a b c d e f m s o = some r ∧ impl_PoolOk.f k a b c d e f m s o = some r ∧ (r = true → ConfIn a b c d e f ∧ (m.length : Int) = a * b ∧ (s.length : Int) = a ∧ (o.length : Int) = a) := by
  unfold spec_PoolOk.f impl_PoolOk.f
  have h1 : impl_ConfOk.f a b c d e f = spec_ConfOk.f a b c d e f := rfl
  have h2 : impl_BytesOf.f a b c d e f = spec_BytesOf.f a b c d e f := rfl
  obtain ⟨k, rfl⟩ : ∃ m, k = m + 1 := ⟨k - 1, by omega⟩
  have q1 : spec_PoolOk.j0 (k + 1) true a b c d e f m s o = some false := by rw [spec_PoolOk.j0, if_pos rfl]
  have q2 : impl_PoolOk.j0 (k + 1) true a b c d e f m s o = some false := by rw [impl_PoolOk.j0, if_pos rfl]
  rw [h1, h2, conf_some, Option.bind_some, Option.bind_some]
  by_cases hc : ConfIn a b c d e f
  · rw [decide_eq_true hc, if_pos rfl, if_pos rfl, (bytes_in a b c d e f hc).1, Option.bind_some, Option.bind_some]
    by_cases hm : (m.length : Int) = a * b
    · rw [if_pos hm, if_pos hm]
      by_cases hs : (s.length : Int) = a
      · rw [if_pos hs, if_pos hs]
        by_cases ho : (o.length : Int) = a
        · have ne : ((o.length : Int) != a) = false := by simp [ho]
          have hl : s.length ≤ 12 := by have := hc.1.2; omega
          rw [ne, spec_PoolOk.j0, impl_PoolOk.j0, if_neg Bool.false_ne_true, if_neg Bool.false_ne_true]
          obtain ⟨r, r1, r2⟩ := ok_l0 a b c d e f m s o hc hm hs ho s.length k 0 (by omega) (by omega) (by omega)
          exact ⟨r, r1, r2, fun _ => ⟨hc, hm, hs, ho⟩⟩
        · have ne : ((o.length : Int) != a) = true := by simpa using ho
          rw [ne, q1, q2]; exact ⟨_, rfl, rfl, fun h => by cases h⟩
      · rw [if_neg hs, if_neg hs, q1, q2]; exact ⟨_, rfl, rfl, fun h => by cases h⟩
    · rw [if_neg hm, if_neg hm, q1, q2]; exact ⟨_, rfl, rfl, fun h => by cases h⟩
  · rw [decide_eq_false hc, if_neg Bool.false_ne_true, if_neg Bool.false_ne_true, q1, q2]; exact ⟨_, rfl, rfl, fun h => by cases h⟩
theorem chunk_bounds (a b c d e f : Int) (m : List Int) (hc : ConfIn a b c d e f) (hm : (m.length : Int) = a * b) (x : Int) (h0 : 0 ≤ x) (h1 : x ≤ a - 1) :
    0 ≤ x * b ∧ x * b ≤ (x + 1) * b ∧ (x + 1) * b ≤ (m.length : Int) ∧ (m.length : Int) ≤ 192 ∧ wrap64 (x * b) = x * b ∧ wrap64 ((x + 1) * b) = (x + 1) * b ∧ wrap64 (x + 1) = x + 1 := by
  have hb0 : 0 ≤ b := by have := hc.2.1.1; omega
  have ha := hc.1.2
  have f0 : 0 ≤ x * b := Int.mul_nonneg h0 hb0
  have f1 : x * b ≤ (x + 1) * b := Int.mul_le_mul_of_nonneg_right (by omega) hb0
  have f2 : (x + 1) * b ≤ a * b := Int.mul_le_mul_of_nonneg_right (by omega) hb0
  have f3 : a * b ≤ 12 * 16 := Int.mul_le_mul hc.1.2 hc.2.1.2 hb0 (by omega)
  obtain ⟨p, hp⟩ : ∃ p : Int, x * b = p := ⟨_, rfl⟩
  obtain ⟨q, hq⟩ : ∃ q : Int, (x + 1) * b = q := ⟨_, rfl⟩
  rw [hp] at f0 f1 ⊢
  rw [hq] at f1 f2 ⊢
  refine ⟨f0, f1, by omega, by omega, ?_, ?_, ?_⟩ <;> (unfold wrap64; omega)
theorem set_mid (A B D : List Int) (c z : Int) (i : Nat) (hi : i = A.length + B.length) : (A ++ (B ++ c :: D)).set i z = A ++ (B ++ z :: D) := by
  subst hi
  rw [List.set_append_right _ _ (by omega), Nat.add_sub_cancel_left, List.set_append_right _ _ (by omega), Nat.sub_self, List.set_cons_zero]
theorem wipe_l0 (l : List Int) (a : Nat) (n : Int) (m : Nat) (hm : a + m ≤ l.length) (hs : ∀ j : Nat, j < m ↔ ((a + j : Nat) : Int) < (l.length : Int) ∧ (j : Int) < n) (hl : l.length ≤ 1048576) : ∀ (d k j : Nat), m - j = d → j ≤ m → d < k →
    spec_Wipe.l0 k l (a : Int) n (l.take a ++ (List.replicate j 0 ++ l.drop (a + j))) ((a + j : Nat) : Int) = some (l.take a ++ (List.replicate m 0 ++ l.drop (a + m))) := by
  intro d
  induction d with
  | zero =>
    intro k j hd hj hk
    obtain ⟨k, rfl⟩ : ∃ m, k = m + 1 := ⟨k - 1, by omega⟩
    obtain rfl : j = m := by omega
    have h := hs j
    have e : wrap64 (((a + j : Nat) : Int) - (a : Int)) = (j : Int) := by unfold wrap64; omega
    rw [spec_Wipe.l0, e]
    by_cases c : ((a + j : Nat) : Int) < (l.length : Int)
    · rw [if_pos c, if_neg (fun g => absurd (h.mpr ⟨c, g⟩) (by omega))]
    · rw [if_neg c]
  | succ d ih =>
    intro k j hd hj hk
    obtain ⟨k, rfl⟩ : ∃ m, k = m + 1 := ⟨k - 1, by omega⟩
    have h := (hs j).mp (by omega)
    have e : wrap64 (((a + j : Nat) : Int) - (a : Int)) = (j : Int) := by unfold wrap64; omega
    have c0 : (0 : Int) ≤ ((a + j : Nat) : Int) := by omega
    have hlen : (l.take a ++ (List.replicate j 0 ++ l.drop (a + j))).length = l.length := by
      rw [List.length_append, List.length_append, List.length_take, List.length_replicate, List.length_drop]; omega
    have c1 : ((a + j : Nat) : Int) < ((l.take a ++ (List.replicate j 0 ++ l.drop (a + j))).length : Int) := by rw [hlen]; exact h.1
    rw [spec_Wipe.l0, e, if_pos h.1, if_pos h.2, if_pos c0, if_pos c1, w1 (by omega), Int.toNat_natCast, drop_cons l (a + j) (by omega), set_mid _ _ _ _ _ _ (by rw [List.length_take, List.length_replicate]; omega)]
    have e2 : List.replicate j (0 : Int) ++ (0 : Int) :: l.drop (a + j + 1) = List.replicate (j + 1) 0 ++ l.drop (a + (j + 1)) := by
      rw [List.replicate_succ', List.append_assoc, List.singleton_append]; rfl
    rw [e2]
    exact ih k (j + 1) (by omega) (by omega) (by omega)
def wiped (l : List Int) (a n : Int) : List Int := if a < 0 then l else if n < 0 then l else if (l.length : Int) < a then l else l.take a.toNat ++ (List.replicate (mn n ((l.length : Int) - a)).toNat 0 ++ l.drop (a.toNat + (mn n ((l.length : Int) - a)).toNat))
theorem mn_cases (a b : Int) : mn a b = a ∧ a ≤ b ∨ mn a b = b ∧ b ≤ a := by
  unfold mn
  by_cases c : b < a
  · rw [if_pos c]; exact .inr ⟨rfl, by omega⟩
  · rw [if_neg c]; exact .inl ⟨rfl, by omega⟩
theorem wiped_len (l : List Int) (a n : Int) : (wiped l a n).length = l.length := by
  unfold wiped
  have h := mn_cases n ((l.length : Int) - a)
  by_cases c1 : a < 0
  · rw [if_pos c1]
  rw [if_neg c1]
  by_cases c2 : n < 0
  · rw [if_pos c2]
  rw [if_neg c2]
  by_cases c3 : (l.length : Int) < a
  · rw [if_pos c3]
  rw [if_neg c3, List.length_append, List.length_append, List.length_take, List.length_replicate, List.length_drop]
  omega
theorem wipe_spec (l : List Int) (a n : Int) (hl : l.length ≤ 1048576) {k : Nat} (hk : 1048578 < k) : spec_Wipe.f k l a n = some (wiped l a n) := by
  obtain ⟨k, rfl⟩ : ∃ m, k = m + 1 := ⟨k - 1, by omega⟩
  unfold spec_Wipe.f wiped
  simp only [Option.bind_some, List.length_nil, List.nil_append, Nat.zero_add]
  rw [if_pos (by omega)]
  by_cases c1 : a < 0
  · rw [if_pos c1, if_pos c1, spec_Wipe.j0, if_pos rfl]
  rw [if_neg c1, if_neg c1]
  by_cases c2 : n < 0
  · rw [if_pos c2, decide_eq_true c2, spec_Wipe.j0, if_pos rfl]
  rw [if_neg c2, decide_eq_false c2, spec_Wipe.j0, if_neg Bool.false_ne_true]
  obtain ⟨b, rfl⟩ : ∃ b : Nat, a = (b : Int) := ⟨a.toNat, by omega⟩
  by_cases c3 : (l.length : Int) < (b : Int)
  · obtain ⟨k, rfl⟩ : ∃ m, k = m + 1 := ⟨k - 1, by omega⟩
    rw [if_pos c3, spec_Wipe.l0, if_neg (by omega)]
  rw [if_neg c3, Int.toNat_natCast]
  have h := mn_cases n ((l.length : Int) - (b : Int))
  obtain ⟨m, hm⟩ : ∃ m : Nat, mn n ((l.length : Int) - (b : Int)) = (m : Int) := ⟨(mn n ((l.length : Int) - (b : Int))).toNat, by omega⟩
  rw [hm, Int.toNat_natCast]
  have w := wipe_l0 l b n m (by omega) (fun j => by omega) hl m k 0 (by omega) (by omega) (by omega)
  simpa using w
theorem zero_char (l : List Int) (hl : l.length ≤ 1048576) : ∀ (d k i : Nat), l.length - i = d → i ≤ l.length → d < k → ∃ b, spec_IsZero.l0 k l (i : Int) = some b ∧ (b = true ↔ ∀ y ∈ l.drop i, y = 0) := by
  intro d
  induction d with
  | zero =>
    intro k i hd hi hk
    obtain ⟨k, rfl⟩ : ∃ m, k = m + 1 := ⟨k - 1, by omega⟩
    have c : ¬ (i : Int) < (l.length : Int) := by omega
    rw [spec_IsZero.l0, if_neg c, List.drop_of_length_le (by omega)]
    exact ⟨true, rfl, by simp⟩
  | succ d ih =>
    intro k i hd hi hk
    obtain ⟨k, rfl⟩ : ∃ m, k = m + 1 := ⟨k - 1, by omega⟩
    have c : (i : Int) < (l.length : Int) := by omega
    have c0 : (0 : Int) ≤ (i : Int) := by omega
    rw [spec_IsZero.l0, if_pos c, if_pos c0]
    try rw [if_pos c]
    rw [w1 (by omega), drop_cons l i (by omega), rd_nat]
    by_cases g : l.getD i 0 = 0
    · obtain ⟨b, e, h⟩ := ih k (i + 1) (by omega) (by omega) (by omega)
      rw [if_pos g]
      exact ⟨b, e, by rw [h]; simp only [List.mem_cons, forall_eq_or_imp, g, true_and]⟩
    · rw [if_neg g]
      exact ⟨false, rfl, by simp only [Bool.false_eq_true, List.mem_cons, forall_eq_or_imp, g, false_and]⟩
theorem zero_val (l : List Int) (hl : l.length ≤ 1048576) : ∃ b, (∀ k : Nat, 1048577 < k → spec_IsZero.f k l = some b) ∧ (∀ k : Nat, 1048577 < k → impl_IsZero.f k l = some b) ∧ (b = true ↔ ∀ y ∈ l, y = 0) := by
  obtain ⟨b, h1, h2⟩ := zero_both l hl
  obtain ⟨b', e, h⟩ := zero_char l hl l.length 1048578 0 (by omega) (by omega) (by omega)
  have e1 : spec_IsZero.f 1048578 l = some b' := e
  rw [h1 1048578 (by omega)] at e1
  obtain rfl := Option.some.inj e1
  exact ⟨b, h1, h2, by simpa using h⟩
theorem wiped_row (l : List Int) (P n : Int) (h0 : 0 ≤ P) (h1 : 0 ≤ n) (h2 : P + n ≤ (l.length : Int)) : wiped l P n = l.take P.toNat ++ (List.replicate n.toNat 0 ++ l.drop (P.toNat + n.toNat)) := by
  have e : mn n ((l.length : Int) - P) = n := by unfold mn; rw [if_neg (by omega)]
  unfold wiped
  rw [if_neg (by omega), if_neg (by omega), if_neg (by omega), e]
theorem cut_row (m : List Int) (P F B : Nat) (hF : F ≤ B) (hB : P + B ≤ m.length) : ((m.take (P + F) ++ (List.replicate (B - F) 0 ++ m.drop (P + F + (B - F)))).take (P + B)).drop P = ((m.take (P + B)).drop P).take F ++ List.replicate (B - F) (0 : Int) := by
  rw [← List.append_assoc, List.take_left' (by rw [List.length_append, List.length_take, List.length_replicate]; omega), List.drop_append_of_le_length (by rw [List.length_take]; omega), List.drop_take, List.drop_take, List.take_take]
  congr 2
  omega
theorem least_some (x y : Int) : spec_Least.f x y = some (mn x y) := by
  unfold spec_Least.f mn
  by_cases c : y < x
  · rw [if_pos c, if_pos c]
  · rw [if_neg c, if_neg c]
theorem ws_both (a b c d e f : Int) (m s o : List Int) (x y : Int) (hml : m.length ≤ 1048576) (hsl : s.length ≤ 1048576) (hol : o.length ≤ 1048576) {k : Nat} (hk : 3000000 ≤ k) :
    ∃ p q r t, spec_WipeSome.f k a b c d e f m s o x y = some (p, q, r, t) ∧ impl_WipeSome.f k a b c d e f m s o x y = some (p, q, r, t) ∧ p.length = m.length ∧ q.length = s.length ∧ r.length = o.length := by
  unfold spec_WipeSome.f impl_WipeSome.f
  obtain ⟨r, r1, r2, r3⟩ := ok_same a b c d e f m s o (k := k) (by omega)
  rw [copy_spec m s o hml hsl hol, copy_impl m s o hml hsl hol, r1, r2]
  obtain ⟨k, rfl⟩ : ∃ n, k = n + 2 := ⟨k - 2, by omega⟩
  have o1 : spec_WipeSome.j0 (k + 2) x y true a b c d e f m s o m s o = some (m, s, o, false) := by rw [spec_WipeSome.j0, if_pos rfl]
  have o2 : impl_WipeSome.j0 (k + 2) x y true a b c d e f m s o m s o = some (m, s, o, false) := by rw [impl_WipeSome.j0, if_pos rfl]
  simp only [Option.bind_some]
  by_cases hr : r = true
  rotate_left
  · rw [if_neg hr, if_neg hr, o1, o2]; exact ⟨m, s, o, false, rfl, rfl, rfl, rfl, rfl⟩
  obtain ⟨hc, hm, hs, ho⟩ := r3 hr
  have ea : wrap64 (a - 1) = a - 1 := by have := hc.1; unfold wrap64; omega
  have eb : wrap64 (b - 1) = b - 1 := by have := hc.2.1; unfold wrap64; omega
  rw [if_pos hr, if_pos hr]
  simp only [in_same, within_some, Option.bind_some, ea, eb]
  by_cases h : 0 ≤ x ∧ x ≤ a - 1
  rotate_left
  · rw [decide_eq_false h, if_neg Bool.false_ne_true, if_neg Bool.false_ne_true, o1, o2]; exact ⟨m, s, o, false, rfl, rfl, rfl, rfl, rfl⟩
  obtain ⟨b1, b2, b3, b4, b5, b6, b7⟩ := chunk_bounds a b c d e f m hc hm x h.1 h.2
  have hxs : x < (s.length : Int) := by omega
  rw [decide_eq_true h, if_pos rfl, if_pos rfl, if_pos h.1, if_pos h.1, if_pos hxs, if_pos hxs]
  by_cases g : rd s x = 2
  rotate_left
  · rw [if_neg g, if_neg g, o1, o2]; exact ⟨m, s, o, false, rfl, rfl, rfl, rfl, rfl⟩
  rw [if_pos g, if_pos g]
  by_cases hy : 0 ≤ y ∧ y ≤ b - 1
  rotate_left
  · rw [decide_eq_false hy, Bool.not_false, o1, o2]; exact ⟨m, s, o, false, rfl, rfl, rfl, rfl, rfl⟩
  rw [decide_eq_true hy, Bool.not_true, spec_WipeSome.j0, impl_WipeSome.j0, if_neg Bool.false_ne_true, if_neg Bool.false_ne_true]
  obtain ⟨p, hp⟩ : ∃ p : Int, x * b = p := ⟨_, rfl⟩
  have hq : (x + 1) * b = p + b := by rw [Int.add_mul, Int.one_mul, hp]
  rw [hp, hq] at b2
  rw [hp] at b1 b5
  rw [hq] at b3 b6
  have hb8 := hc.2.1
  have he1 := hc.2.2.2.2.1
  have wt : wrap64 (y + e) = y + e := by unfold wrap64; omega
  have wp : wrap64 (p + y) = p + y := by unfold wrap64; omega
  have hj : ∀ t, mn (y + e) b = t → y < t → t ≤ b → (wsIx m.length x e b y = p + y ∧ wsRow m x e b y = wiped m (p + y) (t - y)) := by
    intro t ht h1 h2
    unfold wsIx wsRow
    rw [wiped_row m (p + y) (t - y) (by omega) (by omega) (by omega), wt, ht, hp, b7, hq, b5, b6, if_pos (by omega)]
    exact ⟨rfl, rfl⟩
  have hpy : 0 ≤ p + y := by omega
  have hpl : p + y < (m.length : Int) := by omega
  simp only [hp, b5, b7, hq, b6, wt, wp, least_some, Option.bind_some]
  by_cases hE : y + e ≥ b
  · have ht : mn (y + e) b = b := by rcases mn_cases (y + e) b with hh | hh <;> omega
    obtain ⟨q1, q2⟩ := hj b ht (by omega) (Int.le_refl _)
    have wb : wrap64 (b - y) = b - y := by unfold wrap64; omega
    have hwl := wiped_len m (p + y) (b - y)
    have ew := wiped_row m (p + y) (b - y) (by omega) (by omega) (by omega)
    have n1 : (p + y).toNat = p.toNat + y.toNat := by omega
    have n2 : (b - y).toNat = b.toNat - y.toNat := by omega
    have n3 : (p + b).toNat = p.toNat + b.toNat := by omega
    have ec : (((wiped m (p + y) (b - y)).take (p + b).toNat).drop p.toNat) = (((m.take (p + b).toNat).drop p.toNat).take y.toNat) ++ List.replicate (b.toNat - y.toNat) 0 := by
      rw [ew, n1, n2, n3]
      exact cut_row m p.toNat y.toNat b.toNat (by omega) (by omega)
    obtain ⟨z1, z2, z3, z4⟩ := zero_val (((wiped m (p + y) (b - y)).take (p + b).toNat).drop p.toNat) (by rw [List.length_drop, List.length_take, hwl]; omega)
    obtain ⟨v1, v2, v3, v4⟩ := zero_val (((m.take (p + b).toNat).drop p.toNat).take y.toNat) (by rw [List.length_take, List.length_drop, List.length_take]; omega)
    have hzv : z1 = v1 := by
      rw [Bool.eq_iff_iff, z4, v4, ec]
      constructor
      · intro hh w hw; exact hh w (List.mem_append_left _ hw)
      · intro hh w hw
        rcases List.mem_append.1 hw with hw | hw
        · exact hh w hw
        · exact (List.mem_replicate.1 hw).2
    have c86 : y ≤ ((((m.take (p + b).toNat).drop p.toNat).length : Nat) : Int) := by rw [List.length_drop, List.length_take]; omega
    have c3 : p + b ≤ ((wiped m (p + y) (b - y)).length : Int) := by rw [hwl]; omega
    rw [ht, wb, wipe_spec m (p + y) (b - y) (by omega) (k := k + 1) (by omega)]
    simp only [Option.bind_some]
    rw [if_neg (by omega : ¬ b < b), if_pos b1, if_pos b2, if_pos c3, z2 _ (by omega), if_pos hE, if_pos b1, if_pos b2, if_pos b3, if_pos hy.1, if_pos c86, v3 _ (by omega)]
    simp only [Option.bind_some]
    have hd : decide (y + e ≥ b) = true := decide_eq_true hE
    rw [impl_WipeSome.j1, ← hzv]
    by_cases hz : z1 = true
    · rw [hz, if_pos rfl, if_pos h.1, if_pos hxs, Bool.not_true, if_neg Bool.false_ne_true, q1, if_pos hpy, if_pos hpl, q2, Option.bind_some, if_pos hd, if_pos h.1, if_pos hxs, hd]
      exact ⟨_, _, _, _, rfl, rfl, hwl, by simp, rfl⟩
    · have hz' : z1 = false := by simpa using hz
      rw [hz', if_neg Bool.false_ne_true, Bool.not_false, if_pos rfl, copy_spec m s o hml hsl hol, Option.bind_some]
      exact ⟨_, _, _, _, rfl, rfl, rfl, rfl, rfl⟩
  · have ht : mn (y + e) b = y + e := by unfold mn; rw [if_neg (by omega)]
    obtain ⟨q1, q2⟩ := hj (y + e) ht (by omega) (by omega)
    have wb : wrap64 (y + e - y) = y + e - y := by unfold wrap64; omega
    have hwl := wiped_len m (p + y) (y + e - y)
    have hd : decide (y + e ≥ b) = false := decide_eq_false hE
    rw [ht, wb, wipe_spec m (p + y) (y + e - y) (by omega) (k := k + 1) (by omega)]
    simp only [Option.bind_some]
    rw [if_pos (by omega : y + e < b), if_neg hE, impl_WipeSome.j1, if_neg Bool.false_ne_true, q1, if_pos hpy, if_pos hpl, q2, Option.bind_some, hd, if_neg Bool.false_ne_true]
    exact ⟨_, _, _, _, rfl, rfl, hwl, rfl, rfl⟩
theorem FnExactWipeSome : laws_FnExactWipeSome.Pure := by
  intro a b c d e f m s o x y _ _ _ _ _ _ hm hm2 hmw hs hs2 hsw ho ho2 how _ _
  obtain ⟨k, hk⟩ : ∃ k : Nat, 4000000 < k := ⟨_, Nat.lt_succ_self _⟩
  refine ⟨k, ?_⟩
  unfold laws_FnExactWipeSome.f
  rcases szPool_some m s o (by omega) (by omega) (by omega) with h | ⟨h, hb⟩
  · rw [h]; simp
  · rw [h]
    obtain ⟨p, q, r, t, e1, e2, lp, lq, lr⟩ := ws_both a b c d e f m s o x y (by omega) (by omega) (by omega) (k := k) (by omega)
    have tc : laws_toConf.f a b c d e f = some (a, b, c, d, e, f) := rfl
    have tp := toPool_some m s o (by omega) (by omega) (by omega) (k := k) (by omega) (by omega) (by omega)
    have ep := eqPool_same p q r (by omega) (by omega) (by omega) (k := k) (by omega) (by omega) (by omega)
    have em := eqPool_same m s o (by omega) (by omega) (by omega) (k := k) (by omega) (by omega) (by omega)
    have mp := markPool_some m s o (by omega) (by omega) (by omega) (k := k) (by omega) (by omega) (by omega)
    have mq := markPool_some p q r (by omega) (by omega) (by omega) (k := k) (by omega) (by omega) (by omega)
    have hq := heldPool_one p.length q.length r.length (by omega) (by omega) (by omega) (k := k) (by omega) (by omega) (by omega)
    have c0 : ¬ 1048576 - (m.length : Int) - (s.length : Int) - (o.length : Int) < 0 := by omega
    have c1 : ¬ ((1 + m.length + s.length + o.length : Nat) : Int) < 0 := by omega
    have c2 : ¬ ((1 + p.length + q.length + r.length : Nat) : Int) < 0 := by omega
    have ne : ¬ (t != t) = true := by simp
    simp only [Option.bind_some, if_neg c0, tc, tp, e1, e2, ep, if_true, if_neg ne, em, mp, if_neg c1, mq, hq, if_neg c2]
end Go.Proofs.Ytofpmdgndegalaa.Pure
