/- What the law FnExactParseHex computes is the answer true, for all arguments within the bounds of the statement's own reading. No other condition. -/
import Derived.OpenShut
import Derived.Test.YtamelcmioliapaaQFnExactParseHexx2
namespace Go.Proofs.Ytamelcmioliapaa.Pure
open Go.RowKit Go.Proofs.Ytamelcmioliapaa.QFnExactParseHex Go.Proofs.YtamelcmioliapaaW.PrintWords Go.Proofs.YtamelcmioliapaaW.PrintLast
set_option linter.unusedVariables false
theorem w1 {i : Nat} (h : i < 9223372036854775807) : wrap64 ((i : Int) + 1) = ((i + 1 : Nat) : Int) := by unfold wrap64; omega
theorem rd_nat (xs : List Int) (i : Nat) : rd xs (i : Int) = xs.getD i 0 := by simp [rd]
theorem getD_lt (xs : List Int) (i : Nat) (h : i < xs.length) : xs.getD i 0 = xs[i] := by simp [List.getD, List.getElem?_eq_getElem h]
theorem drop_cons (xs : List Int) (i : Nat) (h : i < xs.length) : xs.drop i = xs.getD i 0 :: xs.drop (i + 1) := by rw [getD_lt xs i h]; exact List.drop_eq_getElem_cons h
theorem set_take {x l : List Int} {i : Nat} (hi : i < l.length) (hx : x.length = l.length) (ht : x.take i = l.take i) : (x.set i (l.getD i 0)).take (i + 1) = l.take (i + 1) := by
  apply List.ext_getElem?
  intro j
  have hj := congrArg (fun z => z[j]?) ht
  simp only [List.getElem?_take] at hj ⊢
  by_cases h1 : j < i + 1
  · rw [if_pos h1, if_pos h1, List.getElem?_set]
    by_cases h2 : i = j
    · subst h2
      rw [if_pos rfl, if_pos (by omega), List.getElem?_eq_getElem hi, getD_lt l i hi]
    · rw [if_neg h2]
      rw [if_pos (by omega), if_pos (by omega)] at hj
      exact hj
  · rw [if_neg h1, if_neg h1]
theorem eqByte_l0 (a b : List Int) (hab : a.length = b.length) (hn : a.length ≤ 4611686018427387904) : ∀ (d k i : Nat), a.length - i = d → i ≤ a.length → d < k → laws_eqByteS.l0 k a b (i : Int) = some (decide (a.drop i = b.drop i)) := by
  intro d
  induction d with
  | zero =>
    intro k i hd hi hk
    obtain ⟨k, rfl⟩ : ∃ m, k = m + 1 := ⟨k - 1, by omega⟩
    simp only [laws_eqByteS.l0]
    rw [if_neg (by omega), List.drop_eq_nil_of_le (by omega), List.drop_eq_nil_of_le (by omega)]
    simp
  | succ d ih =>
    intro k i hd hi hk
    obtain ⟨k, rfl⟩ : ∃ m, k = m + 1 := ⟨k - 1, by omega⟩
    simp only [laws_eqByteS.l0]
    rw [if_pos (by omega), if_pos (by omega), if_pos (by omega), rd_nat, rd_nat, drop_cons a i (by omega), drop_cons b i (by omega)]
    by_cases h : a.getD i 0 = b.getD i 0
    · rw [if_pos h, w1 (by omega), ih k (i + 1) (by omega) (by omega) (by omega), h]
      simp
    · rw [if_neg h]
      simp only [List.cons.injEq, h, false_and, decide_false]
theorem eqByte_some (a b : List Int) (hn : a.length ≤ 4611686018427387904) {k : Nat} (hk : a.length < k) : laws_eqByteS.f k a b = some (decide (a = b)) := by
  unfold laws_eqByteS.f
  by_cases h : a.length = b.length
  · rw [if_pos (by omega)]
    have := eqByte_l0 a b h hn a.length k 0 (by omega) (by omega) hk
    simpa using this
  · rw [if_neg (by omega)]
    have : a ≠ b := fun e => h (by rw [e])
    simp [this]
theorem eqByte_same (a : List Int) (hn : a.length ≤ 4611686018427387904) {k : Nat} (hk : a.length < k) : laws_eqByteS.f k a a = some true := by
  rw [eqByte_some a a hn hk]; simp
def marksByte (m n : Nat) : List Int := (List.range n).map fun j => (((m + j : Nat) : Int)%256)
theorem marksByte_length (m n : Nat) : (marksByte m n).length = n := by simp [marksByte]
theorem marksByte_getD (m n i : Nat) (h : i < n) : (marksByte m n).getD i 0 = (((m + i : Nat) : Int)%256) := by simp [marksByte, List.getD, h]
theorem markByte_l0 (m n : Nat) (hn : m + n ≤ 4611686018427387904) : ∀ (d k i : Nat) (x : List Int), n - i = d → i ≤ n → d < k → x.length = n → x.take i = (marksByte m n).take i → laws_markByteS.l0 k x ((m + i : Nat) : Int) (i : Int) = some (((m + n : Nat) : Int), marksByte m n) := by
  intro d
  induction d with
  | zero =>
    intro k i x hd hi hk hx ht
    obtain ⟨k, rfl⟩ : ∃ m, k = m + 1 := ⟨k - 1, by omega⟩
    simp only [laws_markByteS.l0]
    rw [if_neg (by omega)]
    rw [List.take_of_length_le (by omega), List.take_of_length_le (by rw [marksByte_length]; omega)] at ht
    rw [ht, show m + i = m + n by omega]
  | succ d ih =>
    intro k i x hd hi hk hx ht
    obtain ⟨k, rfl⟩ : ∃ m, k = m + 1 := ⟨k - 1, by omega⟩
    simp only [laws_markByteS.l0]
    rw [if_pos (by omega), if_pos (by omega), w1 (by omega), w1 (by omega)]
    have := ih k (i + 1) (x.set i (((m + i : Nat) : Int)%256)) (by omega) (by omega) (by omega) (by simpa using hx) (by
      rw [← marksByte_getD m n i (by omega)]
      exact set_take (by rw [marksByte_length]; omega) (by rw [marksByte_length]; exact hx) ht)
    rw [Int.toNat_natCast]
    exact this
theorem markByte_some (x : List Int) (m : Nat) (hn : m + x.length ≤ 4611686018427387904) {k : Nat} (hk : x.length < k) : laws_markByteS.f k x (m : Int) = some (((m + x.length : Nat) : Int), marksByte m x.length) := by
  unfold laws_markByteS.f
  exact markByte_l0 m x.length hn x.length k 0 x (by omega) (by omega) hk rfl rfl
theorem heldByte_l0 (m n : Nat) (hn : m + n ≤ 4611686018427387904) : ∀ (d k i : Nat), n - i = d → i ≤ n → d < k → laws_heldByteS.l0 k (marksByte m n) ((m + i : Nat) : Int) (i : Int) = some ((m + n : Nat) : Int) := by
  intro d
  induction d with
  | zero =>
    intro k i hd hi hk
    obtain ⟨k, rfl⟩ : ∃ m, k = m + 1 := ⟨k - 1, by omega⟩
    simp only [laws_heldByteS.l0]
    rw [if_neg (by rw [marksByte_length]; omega), show m + i = m + n by omega]
  | succ d ih =>
    intro k i hd hi hk
    obtain ⟨k, rfl⟩ : ∃ m, k = m + 1 := ⟨k - 1, by omega⟩
    simp only [laws_heldByteS.l0]
    rw [if_pos (by rw [marksByte_length]; omega), if_pos (by omega), rd_nat, marksByte_getD m n i (by omega), if_pos rfl, w1 (by omega), w1 (by omega)]
    exact ih k (i + 1) (by omega) (by omega) (by omega)
theorem heldByte_some (m n : Nat) (hn : m + n ≤ 4611686018427387904) {k : Nat} (hk : n < k) : laws_heldByteS.f k (marksByte m n) (m : Int) = some ((m + n : Nat) : Int) := by
  unfold laws_heldByteS.f
  exact heldByte_l0 m n hn n k 0 (by omega) (by omega) hk
theorem markByte_one (x : List Int) (hn : x.length ≤ 4611686018427387) {k : Nat} (hk : x.length < k) : laws_markByteS.f k x 1 = some (((1 + x.length : Nat) : Int), marksByte 1 x.length) := markByte_some x 1 (by omega) hk
theorem heldByte_one (n : Nat) (hn : n ≤ 4611686018427387) {k : Nat} (hk : n < k) : laws_heldByteS.f k (marksByte 1 n) 1 = some ((1 + n : Nat) : Int) := heldByte_some 1 n (by omega) hk
def hv (n : Int) : Int := if 48 ≤ n ∧ n ≤ 57 then n - 48 else if 97 ≤ n ∧ n ≤ 102 then n - 87 else -1
theorem hv_le (n : Int) : -1 ≤ hv n ∧ hv n ≤ 15 := by
  unfold hv
  by_cases c : 48 ≤ n ∧ n ≤ 57
  · rw [if_pos c]; omega
  rw [if_neg c]
  by_cases c2 : 97 ≤ n ∧ n ≤ 102
  · rw [if_pos c2]; omega
  · rw [if_neg c2]; omega
theorem l2_hv (b : Int) (h0 : 0 ≤ b) (h1 : b ≤ 255) : spec_l2Hex.f b = some (hv b) := by
  unfold spec_l2Hex.f spec_l1In.f hv
  have e : wrap64 b = b := by unfold wrap64; omega
  rw [e]
  by_cases c1 : b ≥ 48
  · rw [if_pos c1, Option.bind_some]
    by_cases c2 : b ≤ 57
    · rw [decide_eq_true c2, if_pos rfl, if_pos ⟨c1, c2⟩]; congr 1; unfold wrap64; omega
    · have n1 : ¬ (48 ≤ b ∧ b ≤ 57) := by omega
      rw [decide_eq_false c2, if_neg Bool.false_ne_true, if_neg n1]
      by_cases c3 : b ≥ 97
      · rw [if_pos c3, Option.bind_some]
        by_cases c4 : b ≤ 102
        · rw [decide_eq_true c4, if_pos rfl, if_pos ⟨c3, c4⟩]; congr 1; unfold wrap64; omega
        · rw [decide_eq_false c4, if_neg Bool.false_ne_true, if_neg (fun h => c4 h.2)]
      · rw [if_neg c3, Option.bind_some, if_neg Bool.false_ne_true, if_neg (fun h => c3 h.1)]
  · have n1 : ¬ (48 ≤ b ∧ b ≤ 57) := by omega
    have n2 : ¬ (97 ≤ b ∧ b ≤ 102) := by omega
    have n3 : ¬ b ≥ 97 := by omega
    rw [if_neg c1, Option.bind_some, if_neg Bool.false_ne_true, if_neg n1, if_neg n2, if_neg n3, Option.bind_some, if_neg Bool.false_ne_true]
theorem ix_nat : ∀ n : Nat, n < 256 → Lib.indexByte (⟨#[48, 49, 50, 51, 52, 53, 54, 55, 56, 57, 97, 98, 99, 100, 101, 102]⟩ : ByteArray).data.toList n.toUInt8 = (if 48 ≤ n ∧ n ≤ 57 then (n : Int) - 48 else if 97 ≤ n ∧ n ≤ 102 then (n : Int) - 87 else -1) := by decide +kernel
theorem ix_hv (b : Int) (h0 : 0 ≤ b) (h1 : b ≤ 255) : strings_IndexByte.f (⟨#[48, 49, 50, 51, 52, 53, 54, 55, 56, 57, 97, 98, 99, 100, 101, 102]⟩ : ByteArray) b = some (hv b) := by
  unfold strings_IndexByte.f hv
  obtain ⟨n, rfl⟩ : ∃ n : Nat, b = (n : Int) := ⟨b.toNat, by omega⟩
  rw [Int.toNat_natCast, ix_nat n (by omega)]
  congr 1
  by_cases c : 48 ≤ n ∧ n ≤ 57
  · have p1 : 48 ≤ (n : Int) ∧ (n : Int) ≤ 57 := by omega
    rw [if_pos c, if_pos p1]
  have n1 : ¬ (48 ≤ (n : Int) ∧ (n : Int) ≤ 57) := by omega
  rw [if_neg c, if_neg n1]
  by_cases c2 : 97 ≤ n ∧ n ≤ 102
  · have p2 : 97 ≤ (n : Int) ∧ (n : Int) ≤ 102 := by omega
    rw [if_pos c2, if_pos p2]
  · have n2 : ¬ (97 ≤ (n : Int) ∧ (n : Int) ≤ 102) := by omega
    rw [if_neg c2, if_neg n2]
/-- The bytes of pairs of digits. -/
def hp : List Int → Option (List Int)
  | [] => some []
  | [_] => none
  | a :: b :: t => if hv a < 0 then none else if hv b < 0 then none else (hp t).map ((16 * hv a + hv b) :: ·)
def hres (acc : List Int) : Option (List Int) → List Int × Bool
  | some r => (acc ++ r, true)
  | none => ([], false)
theorem hp_len : ∀ (n : Nat) (l r : List Int), l.length ≤ n → hp l = some r → 2 * r.length = l.length := by
  intro n
  induction n with
  | zero =>
    intro l r hl h
    obtain rfl := List.eq_nil_of_length_eq_zero (by omega : l.length = 0)
    obtain rfl := Option.some.inj h
    rfl
  | succ n ih =>
    intro l r hl h
    match l, hl, h with
    | [], _, h => obtain rfl := Option.some.inj h; rfl
    | [_], _, h => cases h
    | a :: b :: t, hl, h =>
      rw [hp] at h
      by_cases c1 : hv a < 0
      · rw [if_pos c1] at h; cases h
      rw [if_neg c1] at h
      by_cases c2 : hv b < 0
      · rw [if_pos c2] at h; cases h
      rw [if_neg c2] at h
      obtain ⟨q, hq, rfl⟩ := Option.map_eq_some_iff.mp h
      have := ih t q (by simp only [List.length_cons] at hl; omega) hq
      simp only [List.length_cons]
      omega
theorem ph_step (x y : Int) (h1 : 0 ≤ x ∧ x ≤ 15) (h2 : 0 ≤ y ∧ y ≤ 15) : (wrap64 ((wrap64 (16 * x)) + y)) % 256 = 16 * x + y := by
  have e : wrap64 (16 * x) = 16 * x := by unfold wrap64; omega
  rw [e]
  unfold wrap64; omega
theorem w2 {i : Nat} (h : i < 9223372036854775806) : wrap64 ((i : Int) + 2) = ((i + 2 : Nat) : Int) := by unfold wrap64; omega
theorem ph_spec (s : ByteArray) (hs : s.size ≤ 1048576) : ∀ (d k i : Nat) (acc : List Int), s.size - i ≤ 2 * d → i % 2 = 0 → i ≤ s.size → d < k → acc.length ≤ i → spec_ParseHex.l0 k s acc (i : Int) = some (hres acc (hp ((bytesOf s).drop i))) := by
  have hL := bytesOf_length s
  intro d
  induction d with
  | zero =>
    intro k i acc hd hi hi2 hk ha
    obtain ⟨k, rfl⟩ : ∃ m, k = m + 1 := ⟨k - 1, by omega⟩
    obtain rfl : i = s.size := by omega
    rw [spec_ParseHex.l0, w1 (by omega), if_neg (by omega), if_pos (by omega), List.drop_eq_nil_of_le (by omega), hp, hres, List.append_nil]
  | succ d ih =>
    intro k i acc hd hi hi2 hk ha
    obtain ⟨k, rfl⟩ : ∃ m, k = m + 1 := ⟨k - 1, by omega⟩
    rw [spec_ParseHex.l0, w1 (by omega)]
    by_cases c : ((i + 1 : Nat) : Int) < (s.size : Int)
    · have b1 := bt_range s (i : Int)
      have b2 := bt_range s ((i + 1 : Nat) : Int)
      have v1 := hv_le (bt s (i : Int))
      have v2 := hv_le (bt s ((i + 1 : Nat) : Int))
      have g1 : (bytesOf s).getD i 0 = bt s (i : Int) := by rw [← rd_bytesOf, rd_nat]
      have g2 : (bytesOf s).getD (i + 1) 0 = bt s ((i + 1 : Nat) : Int) := by rw [← rd_bytesOf, rd_nat]
      rw [if_pos c, if_pos (by omega), if_pos (by omega), l2_hv _ b1.1 b1.2, Option.bind_some, if_pos (by omega), l2_hv _ b2.1 b2.2, Option.bind_some, drop_cons _ i (by omega), drop_cons _ (i + 1) (by omega), g1, g2, hp]
      by_cases d1 : hv (bt s (i : Int)) < 0
      · rw [if_pos d1, if_pos d1, hres]
      rw [if_neg d1, if_neg d1]
      by_cases d2 : hv (bt s ((i + 1 : Nat) : Int)) < 0
      · rw [if_pos d2, if_pos d2, hres]
      rw [if_neg d2, if_neg d2, if_pos (by omega), ph_step _ _ (by omega) (by omega), w2 (by omega), ih k (i + 2) _ (by omega) (by omega) (by omega) (by omega) (by rw [List.length_append, List.length_singleton]; omega)]
      cases hp ((bytesOf s).drop (i + 2)) with
      | none => rfl
      | some r => simp [hres]
    · rw [if_neg c]
      by_cases e : i = s.size
      · subst e
        rw [if_pos (by omega), List.drop_eq_nil_of_le (by omega), hp, hres, List.append_nil]
      · rw [if_neg (by omega), drop_cons _ i (by omega), List.drop_eq_nil_of_le (by omega), hp, hres]
theorem ph_impl (s : ByteArray) (hs : s.size ≤ 1048576) (hev : s.size % 2 = 0) : ∀ (d k i : Nat) (acc : List Int), s.size - i ≤ 2 * d → i % 2 = 0 → i ≤ s.size → d < k → acc.length ≤ i → impl_ParseHex.l0 k s acc (i : Int) = some (hres acc (hp ((bytesOf s).drop i))) := by
  have hL := bytesOf_length s
  intro d
  induction d with
  | zero =>
    intro k i acc hd hi hi2 hk ha
    obtain ⟨k, rfl⟩ : ∃ m, k = m + 1 := ⟨k - 1, by omega⟩
    obtain rfl : i = s.size := by omega
    rw [impl_ParseHex.l0, if_neg (by omega), List.drop_eq_nil_of_le (by omega), hp, hres, List.append_nil]
  | succ d ih =>
    intro k i acc hd hi hi2 hk ha
    obtain ⟨k, rfl⟩ : ∃ m, k = m + 1 := ⟨k - 1, by omega⟩
    rw [impl_ParseHex.l0, w1 (by omega)]
    by_cases c : (i : Int) < (s.size : Int)
    · have b1 := bt_range s (i : Int)
      have b2 := bt_range s ((i + 1 : Nat) : Int)
      have v1 := hv_le (bt s (i : Int))
      have v2 := hv_le (bt s ((i + 1 : Nat) : Int))
      have g1 : (bytesOf s).getD i 0 = bt s (i : Int) := by rw [← rd_bytesOf, rd_nat]
      have g2 : (bytesOf s).getD (i + 1) 0 = bt s ((i + 1 : Nat) : Int) := by rw [← rd_bytesOf, rd_nat]
      rw [if_pos c, if_pos (by omega), ix_hv _ b1.1 b1.2, Option.bind_some, if_pos (by omega), if_pos (by omega), ix_hv _ b2.1 b2.2, Option.bind_some, drop_cons _ i (by omega), drop_cons _ (i + 1) (by omega), g1, g2, hp]
      by_cases d1 : hv (bt s (i : Int)) < 0
      · rw [if_pos d1, if_pos d1, hres]
      rw [if_neg d1, if_neg d1]
      by_cases d2 : hv (bt s ((i + 1 : Nat) : Int)) < 0
      · rw [if_pos d2, if_pos d2, hres]
      rw [if_neg d2, if_neg d2, if_pos (by omega), ph_step _ _ (by omega) (by omega), w2 (by omega), ih k (i + 2) _ (by omega) (by omega) (by omega) (by omega) (by rw [List.length_append, List.length_singleton]; omega)]
      cases hp ((bytesOf s).drop (i + 2)) with
      | none => rfl
      | some r => simp [hres]
    · obtain rfl : i = s.size := by omega
      rw [if_neg c, List.drop_eq_nil_of_le (by omega), hp, hres, List.append_nil]
theorem hp_odd : ∀ (n : Nat) (l : List Int), l.length ≤ n → l.length % 2 = 1 → hp l = none := by
  intro n l hl ho
  cases h : hp l with
  | none => rfl
  | some r => have := hp_len n l r hl h; omega
theorem parse_spec (s : ByteArray) (hs : s.size ≤ 1048576) {k : Nat} (hk : 1048576 < k) : spec_ParseHex.f k s = some (hres [] (hp (bytesOf s))) := by
  unfold spec_ParseHex.f
  have h := ph_spec s hs s.size k 0 [] (by omega) (by omega) (by omega) (by omega) (by simp)
  simpa using h
theorem parse_impl (s : ByteArray) (hs : s.size ≤ 1048576) {k : Nat} (hk : 1048576 < k) : impl_ParseHex.f k s = some (hres [] (hp (bytesOf s))) := by
  unfold impl_ParseHex.f
  have hL := bytesOf_length s
  by_cases c : (s.size : Int) % 2 = 1
  · rw [if_pos c, hp_odd s.size (bytesOf s) (by omega) (by omega), hres]
  · rw [if_neg c]
    have h := ph_impl s hs (by omega) s.size k 0 [] (by omega) (by omega) (by omega) (by omega) (by simp)
    simpa using h
theorem hres_len (s : ByteArray) : (hres [] (hp (bytesOf s))).1.length ≤ s.size := by
  have hL := bytesOf_length s
  cases h : hp (bytesOf s) with
  | none => simp [hres]
  | some r => have := hp_len s.size (bytesOf s) r (by omega) h; simp [hres]; omega
theorem FnExactParseHex : laws_FnExactParseHex.Pure := by
  intro s hs
  obtain ⟨k, hk⟩ : ∃ k : Nat, 4000000 < k := ⟨_, Nat.lt_succ_self _⟩
  obtain ⟨k, rfl⟩ : ∃ m, k = m + 2 := ⟨k - 2, by omega⟩
  refine ⟨k + 2, ?_⟩
  unfold laws_FnExactParseHex.f
  by_cases hb : (s.size : Int) > 1048576
  · rw [if_pos hb]
  rw [if_neg hb]
  have hl : s.size ≤ 1048576 := by omega
  obtain ⟨r, ok, e⟩ : ∃ r ok, hres [] (hp (bytesOf s)) = (r, ok) := ⟨_, _, rfl⟩
  have hr := hres_len s
  rw [e] at hr
  simp only at hr
  have q2 : ¬ ((1 + r.length : Nat) : Int) < 0 := by omega
  simp only [parse_spec s hl (show 1048576 < k + 2 by omega), parse_impl s hl (show 1048576 < k + 2 by omega), e, Option.bind_some, eqByte_same r (show r.length ≤ 4611686018427387904 by omega) (show r.length < k + 2 by omega), ↓reduceIte, bne_self_eq_false]
  rw [laws_FnExactParseHex.j0, if_neg Bool.false_ne_true]
  simp only [markByte_one r (by omega) (show r.length < k + 1 by omega), Option.bind_some, heldByte_one r.length (by omega) (show r.length < k + 1 by omega), q2, ↓reduceIte, parse_impl s hl (show 1048576 < k + 1 by omega), e, eqByte_same r (show r.length ≤ 4611686018427387904 by omega) (show r.length < k + 1 by omega), bne_self_eq_false]
  rw [laws_FnExactParseHex.j1, if_neg Bool.false_ne_true]
  obtain ⟨k, rfl⟩ : ∃ m, k = m + 1 := ⟨k - 1, by omega⟩
  simp only [heldByte_one r.length (by omega) (show r.length < k + 1 by omega), Option.bind_some, q2, ↓reduceIte]
end Go.Proofs.Ytamelcmioliapaa.Pure
