/- What the law FnExactPoolNew computes is the answer true, for all arguments within the bounds that the statement's own reading gives. No other condition. -/
import Derived.OpenShut
import Derived.Test.YtamelcmioliapaaQFnExactPoolNewx5
namespace Go.Proofs.Ytamelcmioliapaa.Pure
open Go.RowKit Go.Proofs.Ytamelcmioliapaa.QFnExactPoolNew Go.Proofs.YtamelcmioliapaaW.PrintWords Go.Proofs.YtamelcmioliapaaW.PrintLast
set_option linter.unusedVariables false
set_option linter.unusedSimpArgs false
def laws_FnExactPoolNew.Pure : Prop := ∀ (a0_0 : Int) (a0_1 : Int) (a0_2 : Int) (a0_3 : Int) (a0_4 : Int) (a0_5 : Int), (Lit.int .i64 a0_0).wf = true → (Lit.int .i64 a0_1).wf = true → (Lit.int .i64 a0_2).wf = true → (Lit.int .i64 a0_3).wf = true → (Lit.int .i64 a0_4).wf = true → (Lit.int .i64 a0_5).wf = true → ∃ k, laws_FnExactPoolNew.f k a0_0 a0_1 a0_2 a0_3 a0_4 a0_5 = some true
theorem w1 {i : Nat} (h : i < 9223372036854775807) : wrap64 ((i : Int) + 1) = ((i + 1 : Nat) : Int) := by unfold wrap64; omega
theorem rd_nat (xs : List Int) (i : Nat) : rd xs (i : Int) = xs.getD i 0 := by simp [rd]
theorem getD_lt (xs : List Int) (i : Nat) (h : i < xs.length) : xs.getD i 0 = xs[i] := by simp [List.getD, List.getElem?_eq_getElem h]
theorem drop_cons (xs : List Int) (i : Nat) (h : i < xs.length) : xs.drop i = xs.getD i 0 :: xs.drop (i + 1) := by rw [getD_lt xs i h]; exact List.drop_eq_getElem_cons h
theorem set_take {x l : List Int} {i : Nat} (hi : i < l.length) (hx : x.length = l.length) (ht : x.take i = l.take i) : (x.set i (l.getD i 0)).take (i + 1) = l.take (i + 1) := by
  apply List.ext_getElem?
  intro j
  have hj := congrArg (fun z => z[j]?) ht
  simp only [List.getElem?_take] at hj ⊢
  by_cases h1 : j < i + 1
  · rw [if_pos h1, if_pos h1, List.getElem?_set]
    by_cases h2 : i = j
    · subst h2
      rw [if_pos rfl, if_pos (by omega), List.getElem?_eq_getElem hi, getD_lt l i hi]
    · rw [if_neg h2]
      rw [if_pos (by omega), if_pos (by omega)] at hj
      exact hj
  · rw [if_neg h1, if_neg h1]
theorem eqByte_l0 (a b : List Int) (hab : a.length = b.length) (hn : a.length ≤ 4611686018427387904) : ∀ (d k i : Nat), a.length - i = d → i ≤ a.length → d < k → laws_eqByteS.l0 k a b (i : Int) = some (decide (a.drop i = b.drop i)) := by
  intro d
  induction d with
  | zero =>
    intro k i hd hi hk
    obtain ⟨k, rfl⟩ : ∃ m, k = m + 1 := ⟨k - 1, by omega⟩
    simp only [laws_eqByteS.l0]
    rw [if_neg (by omega), List.drop_eq_nil_of_le (by omega), List.drop_eq_nil_of_le (by omega)]
    simp
  | succ d ih =>
    intro k i hd hi hk
    obtain ⟨k, rfl⟩ : ∃ m, k = m + 1 := ⟨k - 1, by omega⟩
    simp only [laws_eqByteS.l0]
    rw [if_pos (by omega), if_pos (by omega), if_pos (by omega), rd_nat, rd_nat, drop_cons a i (by omega), drop_cons b i (by omega)]
    by_cases h : a.getD i 0 = b.getD i 0
    · rw [if_pos h, w1 (by omega), ih k (i + 1) (by omega) (by omega) (by omega), h]
      simp
    · rw [if_neg h]
      simp only [List.cons.injEq, h, false_and, decide_false]
theorem eqByte_some (a b : List Int) (hn : a.length ≤ 4611686018427387904) {k : Nat} (hk : a.length < k) : laws_eqByteS.f k a b = some (decide (a = b)) := by
  unfold laws_eqByteS.f
  by_cases h : a.length = b.length
  · rw [if_pos (by omega)]
    have := eqByte_l0 a b h hn a.length k 0 (by omega) (by omega) hk
    simpa using this
  · rw [if_neg (by omega)]
    have : a ≠ b := fun e => h (by rw [e])
    simp [this]
theorem eqByte_same (a : List Int) (hn : a.length ≤ 4611686018427387904) {k : Nat} (hk : a.length < k) : laws_eqByteS.f k a a = some true := by
  rw [eqByte_some a a hn hk]; simp
theorem eqInt_l0 (a b : List Int) (hab : a.length = b.length) (hn : a.length ≤ 4611686018427387904) : ∀ (d k i : Nat), a.length - i = d → i ≤ a.length → d < k → laws_eqIntS.l0 k a b (i : Int) = some (decide (a.drop i = b.drop i)) := by
  intro d
  induction d with
  | zero =>
    intro k i hd hi hk
    obtain ⟨k, rfl⟩ : ∃ m, k = m + 1 := ⟨k - 1, by omega⟩
    simp only [laws_eqIntS.l0]
    rw [if_neg (by omega), List.drop_eq_nil_of_le (by omega), List.drop_eq_nil_of_le (by omega)]
    simp
  | succ d ih =>
    intro k i hd hi hk
    obtain ⟨k, rfl⟩ : ∃ m, k = m + 1 := ⟨k - 1, by omega⟩
    simp only [laws_eqIntS.l0]
    rw [if_pos (by omega), if_pos (by omega), if_pos (by omega), rd_nat, rd_nat, drop_cons a i (by omega), drop_cons b i (by omega)]
    by_cases h : a.getD i 0 = b.getD i 0
    · rw [if_pos h, w1 (by omega), ih k (i + 1) (by omega) (by omega) (by omega), h]
      simp
    · rw [if_neg h]
      simp only [List.cons.injEq, h, false_and, decide_false]
theorem eqInt_some (a b : List Int) (hn : a.length ≤ 4611686018427387904) {k : Nat} (hk : a.length < k) : laws_eqIntS.f k a b = some (decide (a = b)) := by
  unfold laws_eqIntS.f
  by_cases h : a.length = b.length
  · rw [if_pos (by omega)]
    have := eqInt_l0 a b h hn a.length k 0 (by omega) (by omega) hk
    simpa using this
  · rw [if_neg (by omega)]
    have : a ≠ b := fun e => h (by rw [e])
    simp [this]
theorem eqInt_same (a : List Int) (hn : a.length ≤ 4611686018427387904) {k : Nat} (hk : a.length < k) : laws_eqIntS.f k a a = some true := by
  rw [eqInt_some a a hn hk]; simp
def marksByte (m n : Nat) : List Int := (List.range n).map fun j => (((m + j : Nat) : Int)%256)
theorem marksByte_length (m n : Nat) : (marksByte m n).length = n := by simp [marksByte]
theorem marksByte_getD (m n i : Nat) (h : i < n) : (marksByte m n).getD i 0 = (((m + i : Nat) : Int)%256) := by simp [marksByte, List.getD, h]
theorem markByte_l0 (m n : Nat) (hn : m + n ≤ 4611686018427387904) : ∀ (d k i : Nat) (x : List Int), n - i = d → i ≤ n → d < k → x.length = n → x.take i = (marksByte m n).take i → laws_markByteS.l0 k x ((m + i : Nat) : Int) (i : Int) = some (((m + n : Nat) : Int), marksByte m n) := by
  intro d
  induction d with
  | zero =>
    intro k i x hd hi hk hx ht
    obtain ⟨k, rfl⟩ : ∃ m, k = m + 1 := ⟨k - 1, by omega⟩
    simp only [laws_markByteS.l0]
    rw [if_neg (by omega)]
    rw [List.take_of_length_le (by omega), List.take_of_length_le (by rw [marksByte_length]; omega)] at ht
    rw [ht, show m + i = m + n by omega]
  | succ d ih =>
    intro k i x hd hi hk hx ht
    obtain ⟨k, rfl⟩ : ∃ m, k = m + 1 := ⟨k - 1, by omega⟩
    simp only [laws_markByteS.l0]
    rw [if_pos (by omega), if_pos (by omega), w1 (by omega), w1 (by omega)]
    have := ih k (i + 1) (x.set i (((m + i : Nat) : Int)%256)) (by omega) (by omega) (by omega) (by simpa using hx) (by
      rw [← marksByte_getD m n i (by omega)]
      exact set_take (by rw [marksByte_length]; omega) (by rw [marksByte_length]; exact hx) ht)
    rw [Int.toNat_natCast]
    exact this
theorem markByte_some (x : List Int) (m : Nat) (hn : m + x.length ≤ 4611686018427387904) {k : Nat} (hk : x.length < k) : laws_markByteS.f k x (m : Int) = some (((m + x.length : Nat) : Int), marksByte m x.length) := by
  unfold laws_markByteS.f
  exact markByte_l0 m x.length hn x.length k 0 x (by omega) (by omega) hk rfl rfl
theorem heldByte_l0 (m n : Nat) (hn : m + n ≤ 4611686018427387904) : ∀ (d k i : Nat), n - i = d → i ≤ n → d < k → laws_heldByteS.l0 k (marksByte m n) ((m + i : Nat) : Int) (i : Int) = some ((m + n : Nat) : Int) := by
  intro d
  induction d with
  | zero =>
    intro k i hd hi hk
    obtain ⟨k, rfl⟩ : ∃ m, k = m + 1 := ⟨k - 1, by omega⟩
    simp only [laws_heldByteS.l0]
    rw [if_neg (by rw [marksByte_length]; omega), show m + i = m + n by omega]
  | succ d ih =>
    intro k i hd hi hk
    obtain ⟨k, rfl⟩ : ∃ m, k = m + 1 := ⟨k - 1, by omega⟩
    simp only [laws_heldByteS.l0]
    rw [if_pos (by rw [marksByte_length]; omega), if_pos (by omega), rd_nat, marksByte_getD m n i (by omega), if_pos rfl, w1 (by omega), w1 (by omega)]
    exact ih k (i + 1) (by omega) (by omega) (by omega)
theorem heldByte_some (m n : Nat) (hn : m + n ≤ 4611686018427387904) {k : Nat} (hk : n < k) : laws_heldByteS.f k (marksByte m n) (m : Int) = some ((m + n : Nat) : Int) := by
  unfold laws_heldByteS.f
  exact heldByte_l0 m n hn n k 0 (by omega) (by omega) hk
theorem markByte_one (x : List Int) (hn : x.length ≤ 4611686018427387) {k : Nat} (hk : x.length < k) : laws_markByteS.f k x 1 = some (((1 + x.length : Nat) : Int), marksByte 1 x.length) := markByte_some x 1 (by omega) hk
theorem heldByte_one (n : Nat) (hn : n ≤ 4611686018427387) {k : Nat} (hk : n < k) : laws_heldByteS.f k (marksByte 1 n) 1 = some ((1 + n : Nat) : Int) := heldByte_some 1 n (by omega) hk
def marksInt (m n : Nat) : List Int := (List.range n).map fun j => (((m + j : Nat) : Int))
theorem marksInt_length (m n : Nat) : (marksInt m n).length = n := by simp [marksInt]
theorem marksInt_getD (m n i : Nat) (h : i < n) : (marksInt m n).getD i 0 = (((m + i : Nat) : Int)) := by simp [marksInt, List.getD, h]
theorem markInt_l0 (m n : Nat) (hn : m + n ≤ 4611686018427387904) : ∀ (d k i : Nat) (x : List Int), n - i = d → i ≤ n → d < k → x.length = n → x.take i = (marksInt m n).take i → laws_markIntS.l0 k x ((m + i : Nat) : Int) (i : Int) = some (((m + n : Nat) : Int), marksInt m n) := by
  intro d
  induction d with
  | zero =>
    intro k i x hd hi hk hx ht
    obtain ⟨k, rfl⟩ : ∃ m, k = m + 1 := ⟨k - 1, by omega⟩
    simp only [laws_markIntS.l0]
    rw [if_neg (by omega)]
    rw [List.take_of_length_le (by omega), List.take_of_length_le (by rw [marksInt_length]; omega)] at ht
    rw [ht, show m + i = m + n by omega]
  | succ d ih =>
    intro k i x hd hi hk hx ht
    obtain ⟨k, rfl⟩ : ∃ m, k = m + 1 := ⟨k - 1, by omega⟩
    simp only [laws_markIntS.l0]
    rw [if_pos (by omega), if_pos (by omega), w1 (by omega), w1 (by omega)]
    have := ih k (i + 1) (x.set i (((m + i : Nat) : Int))) (by omega) (by omega) (by omega) (by simpa using hx) (by
      rw [← marksInt_getD m n i (by omega)]
      exact set_take (by rw [marksInt_length]; omega) (by rw [marksInt_length]; exact hx) ht)
    rw [Int.toNat_natCast]
    exact this
theorem markInt_some (x : List Int) (m : Nat) (hn : m + x.length ≤ 4611686018427387904) {k : Nat} (hk : x.length < k) : laws_markIntS.f k x (m : Int) = some (((m + x.length : Nat) : Int), marksInt m x.length) := by
  unfold laws_markIntS.f
  exact markInt_l0 m x.length hn x.length k 0 x (by omega) (by omega) hk rfl rfl
theorem heldInt_l0 (m n : Nat) (hn : m + n ≤ 4611686018427387904) : ∀ (d k i : Nat), n - i = d → i ≤ n → d < k → laws_heldIntS.l0 k (marksInt m n) ((m + i : Nat) : Int) (i : Int) = some ((m + n : Nat) : Int) := by
  intro d
  induction d with
  | zero =>
    intro k i hd hi hk
    obtain ⟨k, rfl⟩ : ∃ m, k = m + 1 := ⟨k - 1, by omega⟩
    simp only [laws_heldIntS.l0]
    rw [if_neg (by rw [marksInt_length]; omega), show m + i = m + n by omega]
  | succ d ih =>
    intro k i hd hi hk
    obtain ⟨k, rfl⟩ : ∃ m, k = m + 1 := ⟨k - 1, by omega⟩
    simp only [laws_heldIntS.l0]
    rw [if_pos (by rw [marksInt_length]; omega), if_pos (by omega), rd_nat, marksInt_getD m n i (by omega), if_pos rfl, w1 (by omega), w1 (by omega)]
    exact ih k (i + 1) (by omega) (by omega) (by omega)
theorem heldInt_some (m n : Nat) (hn : m + n ≤ 4611686018427387904) {k : Nat} (hk : n < k) : laws_heldIntS.f k (marksInt m n) (m : Int) = some ((m + n : Nat) : Int) := by
  unfold laws_heldIntS.f
  exact heldInt_l0 m n hn n k 0 (by omega) (by omega) hk
theorem markInt_one (x : List Int) (hn : x.length ≤ 4611686018427387) {k : Nat} (hk : x.length < k) : laws_markIntS.f k x 1 = some (((1 + x.length : Nat) : Int), marksInt 1 x.length) := markInt_some x 1 (by omega) hk
theorem heldInt_one (n : Nat) (hn : n ≤ 4611686018427387) {k : Nat} (hk : n < k) : laws_heldIntS.f k (marksInt 1 n) 1 = some ((1 + n : Nat) : Int) := heldInt_some 1 n (by omega) hk
theorem eqPool_same (m s o : List Int) (hm : m.length ≤ 35184372088832) (hs : s.length ≤ 35184372088832) (ho : o.length ≤ 35184372088832) {k : Nat} (h1 : m.length < k) (h2 : s.length < k) (h3 : o.length < k) : laws_eqPool.f k m s o m s o = some true := by
  unfold laws_eqPool.f
  rw [eqByte_same m (by omega) h1, eqInt_same s (by omega) h2, eqInt_same o (by omega) h3]
  rfl
theorem markPool_some (m s o : List Int) (hm : m.length ≤ 35184372088832) (hs : s.length ≤ 35184372088832) (ho : o.length ≤ 35184372088832) {k : Nat} (h1 : m.length < k) (h2 : s.length < k) (h3 : o.length < k) :
    laws_markPool.f k m s o 1 = some (((1 + m.length + s.length + o.length : Nat) : Int), marksByte 1 m.length, marksInt (1 + m.length) s.length, marksInt (1 + m.length + s.length) o.length) := by
  unfold laws_markPool.f
  rw [markByte_one m (by omega) h1]
  simp only [Option.bind_some]
  rw [markInt_some s (1 + m.length) (by omega) h2]
  simp only [Option.bind_some]
  rw [markInt_some o (1 + m.length + s.length) (by omega) h3]
  rfl
theorem heldPool_one (a b c : Nat) (ha : a ≤ 35184372088832) (hb : b ≤ 35184372088832) (hc : c ≤ 35184372088832) {k : Nat} (h1 : a < k) (h2 : b < k) (h3 : c < k) :
    laws_heldPool.f k (marksByte 1 a) (marksInt (1 + a) b) (marksInt (1 + a + b) c) 1 = some ((1 + a + b + c : Nat) : Int) := by
  unfold laws_heldPool.f
  rw [heldByte_one a (by omega) h1]
  simp only [Option.bind_some]
  rw [if_neg (by omega), heldInt_some (1 + a) b (by omega) h2]
  simp only [Option.bind_some]
  rw [if_neg (by omega), heldInt_some (1 + a + b) c (by omega) h3]
  simp only [Option.bind_some]
  rw [if_neg (by omega)]
theorem within_some (a l h : Int) : spec_l1In.f a l h = some (decide (l ≤ a ∧ a ≤ h)) := by
  unfold spec_l1In.f; by_cases g : a ≥ l
  · rw [if_pos g]; congr 1; simp; omega
  · rw [if_neg g]; congr 1; simp; omega
def ConfIn (a b c d e f : Int) : Prop := (2 ≤ a ∧ a ≤ 12) ∧ (8 ≤ b ∧ b ≤ 16) ∧ (2 ≤ c ∧ c ≤ 8) ∧ (1 ≤ d ∧ d ≤ 8) ∧ (1 ≤ e ∧ e ≤ 16) ∧ (1 ≤ f ∧ f ≤ 4)
instance (a b c d e f : Int) : Decidable (ConfIn a b c d e f) := by unfold ConfIn; infer_instance
theorem conf_some (a b c d e f : Int) : spec_ConfOk.f a b c d e f = some (decide (ConfIn a b c d e f)) := by
  unfold spec_ConfOk.f
  simp only [within_some, Option.bind_some, decide_eq_true_eq]
  unfold ConfIn
  by_cases h1 : 2 ≤ a ∧ a ≤ 12
  · rw [if_pos h1]
    by_cases h2 : 8 ≤ b ∧ b ≤ 16
    · rw [if_pos h2]
      by_cases h3 : 2 ≤ c ∧ c ≤ 8
      · rw [if_pos h3]
        by_cases h4 : 1 ≤ d ∧ d ≤ 8
        · rw [if_pos h4]
          by_cases h5 : 1 ≤ e ∧ e ≤ 16
          · rw [if_pos h5]; congr 1; simp [h1, h2, h3, h4, h5]
          · rw [if_neg h5]; congr 1; simp [h1, h2, h3, h4, h5]
        · rw [if_neg h4]; congr 1; simp [h1, h2, h3, h4]
      · rw [if_neg h3]; congr 1; simp [h1, h2, h3]
    · rw [if_neg h2]; congr 1; simp [h1, h2]
  · rw [if_neg h1]; congr 1; simp [h1]
theorem bytes_in (a b c d e f : Int) (h : ConfIn a b c d e f) : spec_BytesOf.f a b c d e f = some (a * b) ∧ 16 ≤ a * b ∧ a * b ≤ 192 := by
  have m0 : 2 * 8 ≤ a * b := Int.mul_le_mul h.1.1 h.2.1.1 (by omega) (by have := h.1.1; omega)
  have m1 : a * b ≤ 12 * 16 := Int.mul_le_mul h.1.2 h.2.1.2 (by have := h.2.1.1; omega) (by omega)
  have e : wrap64 (a * b) = a * b := by unfold wrap64; omega
  refine ⟨?_, by omega, by omega⟩
  unfold spec_BytesOf.f
  rw [conf_some]
  simp only [Option.bind_some, decide_eq_true_eq]
  rw [if_pos h, e]
theorem bytes_out (a b c d e f : Int) (h : ¬ ConfIn a b c d e f) : spec_BytesOf.f a b c d e f = some 0 := by
  unfold spec_BytesOf.f
  rw [conf_some]
  simp only [Option.bind_some, decide_eq_true_eq]
  rw [if_neg h]
theorem bytes_some (a b c d e f : Int) : ∃ r, spec_BytesOf.f a b c d e f = some r := by
  by_cases h : ConfIn a b c d e f
  · exact ⟨_, (bytes_in a b c d e f h).1⟩
  · exact ⟨_, bytes_out a b c d e f h⟩
theorem new_l0 (a b c d e f : Int) (z : List Int) (n : Nat) (ha : a = (n : Int)) (hn : n ≤ 1000) : ∀ (j k i : Nat), n - i = j → i ≤ n → j < k → spec_PoolNew.l0 k (i : Int) a b c d e f z (List.replicate i 0) (List.replicate i (-1)) = some (z, List.replicate n 0, List.replicate n (-1)) := by
  intro j
  induction j with
  | zero =>
    intro k i hd hi hk
    obtain ⟨k, rfl⟩ : ∃ m, k = m + 1 := ⟨k - 1, by omega⟩
    obtain rfl : i = n := by omega
    have c0 : ¬ (i : Int) < a := by omega
    rw [spec_PoolNew.l0, if_neg c0]
  | succ j ih =>
    intro k i hd hi hk
    obtain ⟨k, rfl⟩ : ∃ m, k = m + 1 := ⟨k - 1, by omega⟩
    have c0 : (i : Int) < a := by omega
    have c1 : (List.replicate i (0 : Int)).length < 17592186044416 := by rw [List.length_replicate]; omega
    have c2 : (List.replicate i (-1 : Int)).length < 17592186044416 := by rw [List.length_replicate]; omega
    rw [spec_PoolNew.l0, if_pos c0, if_pos c1, if_pos c2, w1 (by omega), ← List.replicate_succ', ← List.replicate_succ']
    exact ih k (i + 1) (by omega) (by omega) (by omega)
theorem new_both (a b c d e f : Int) : ∃ p q r, p.length ≤ 1048576 ∧ q.length ≤ 1048576 ∧ r.length ≤ 1048576 ∧ (∀ k : Nat, 2000 < k → spec_PoolNew.f k a b c d e f = some (p, q, r)) ∧ impl_PoolNew.f a b c d e f = some (p, q, r) := by
  have h1 : impl_ConfOk.f a b c d e f = spec_ConfOk.f a b c d e f := rfl
  have h2 : impl_BytesOf.f a b c d e f = spec_BytesOf.f a b c d e f := rfl
  by_cases hc : ConfIn a b c d e f
  · obtain ⟨n, hn⟩ : ∃ n : Nat, a = (n : Int) := ⟨a.toNat, by have := hc.1; omega⟩
    have hn12 : 2 ≤ n ∧ n ≤ 12 := by have := hc.1; omega
    obtain ⟨g1, g2, g3⟩ := bytes_in a b c d e f hc
    obtain ⟨v, hv⟩ : ∃ v : Int, a * b = v := ⟨_, rfl⟩
    rw [hv] at g1 g2 g3
    have z1 : spec_Zeros.f v = some (List.replicate v.toNat 0) := by
      unfold spec_Zeros.f
      have i1 : 0 ≤ v ∧ v ≤ 4096 := by omega
      have i2 : v.toNat ≤ 281474976710656 := by omega
      rw [within_some, Option.bind_some, decide_eq_true i1, if_pos rfl, if_pos i1.1, if_pos i2]
    have z2 : impl_Zeros.f v = spec_Zeros.f v := rfl
    refine ⟨List.replicate v.toNat 0, List.replicate n 0, List.replicate n (-1), by rw [List.length_replicate]; omega, by rw [List.length_replicate]; omega, by rw [List.length_replicate]; omega, fun k hk => ?_, ?_⟩
    · unfold spec_PoolNew.f
      rw [conf_some, Option.bind_some, decide_eq_true hc, if_pos rfl, g1, Option.bind_some, z1, Option.bind_some]
      exact new_l0 a b c d e f _ n hn (by omega) n k 0 (by omega) (by omega) (by omega)
    · unfold impl_PoolNew.f
      have i3 : 0 ≤ a := by omega
      have i4 : a.toNat ≤ 35184372088832 := by omega
      have i5 : (([(-1)] : List Int)).length = 1 ∧ 0 ≤ a ∧ a ≤ 12 := ⟨rfl, by omega, by omega⟩
      have rp : slices_Repeat_int_int.f ([(-1)] : List Int) a = some (List.replicate n (-1)) := by
        unfold slices_Repeat_int_int.f
        rw [if_pos i5, hn, Int.toNat_natCast]; rfl
      rw [h1, h2, conf_some, Option.bind_some, decide_eq_true hc, if_pos rfl, g1, Option.bind_some, z2, z1, Option.bind_some, if_pos i3, if_pos i4, rp, Option.bind_some, hn, Int.toNat_natCast]
  · refine ⟨[], [], [], by simp, by simp, by simp, fun k hk => ?_, ?_⟩
    · unfold spec_PoolNew.f
      rw [conf_some, Option.bind_some, decide_eq_false hc, if_neg Bool.false_ne_true]
    · unfold impl_PoolNew.f
      rw [h1, conf_some, Option.bind_some, decide_eq_false hc, if_neg Bool.false_ne_true]
theorem FnExactPoolNew : laws_FnExactPoolNew.Pure := by
  intro a b c d e f _ _ _ _ _ _
  obtain ⟨k, hk⟩ : ∃ k : Nat, 4000000 < k := ⟨_, Nat.lt_succ_self _⟩
  refine ⟨k, ?_⟩
  unfold laws_FnExactPoolNew.f
  obtain ⟨p, q, r, hp, hq, hr, s1, s2⟩ := new_both a b c d e f
  have tc : laws_toConf.f a b c d e f = some (a, b, c, d, e, f) := rfl
  have ep := eqPool_same p q r (by omega) (by omega) (by omega) (k := k) (by omega) (by omega) (by omega)
  have mp := markPool_some p q r (by omega) (by omega) (by omega) (k := k) (by omega) (by omega) (by omega)
  have hh := heldPool_one p.length q.length r.length (by omega) (by omega) (by omega) (k := k) (by omega) (by omega) (by omega)
  have c1 : ¬ ((1 + p.length + q.length + r.length : Nat) : Int) < 0 := by omega
  simp only [tc, Option.bind_some, s1 k (by omega), s2, ep, if_true, mp, hh, c1, if_false]
end Go.Proofs.Ytamelcmioliapaa.Pure
