/- What the law FnExactPutAt computes is the answer true, for all arguments within the bounds that the statement's own reading gives. No other condition. -/
import Derived.OpenShut
import Derived.Test.YtamelcmioliapaaQFnExactPutAtx2
namespace Go.Proofs.Ytamelcmioliapaa.Pure
open Go.RowKit Go.Proofs.Ytamelcmioliapaa.QFnExactPutAt Go.Proofs.YtamelcmioliapaaW.PrintWords Go.Proofs.YtamelcmioliapaaW.PrintLast
set_option linter.unusedVariables false
set_option linter.unusedSimpArgs false
def laws_FnExactPutAt.Pure : Prop := ∀ (l0 : List Int) (a1 : Int) (l2 : List Int), l0.length ≤ maxLen → l0.length * 1 ≤ 140737488351232 → (∀ x ∈ l0, (Lit.int .u8 x).wf = true) → (Lit.int .i64 a1).wf = true → l2.length ≤ maxLen → l2.length * 1 ≤ 140737488351232 → (∀ x ∈ l2, (Lit.int .u8 x).wf = true) → ∃ k, laws_FnExactPutAt.f k l0 a1 l2 = some true
theorem w1 {i : Nat} (h : i < 9223372036854775807) : wrap64 ((i : Int) + 1) = ((i + 1 : Nat) : Int) := by unfold wrap64; omega
theorem rd_nat (xs : List Int) (i : Nat) : rd xs (i : Int) = xs.getD i 0 := by simp [rd]
theorem getD_lt (xs : List Int) (i : Nat) (h : i < xs.length) : xs.getD i 0 = xs[i] := by simp [List.getD, List.getElem?_eq_getElem h]
theorem drop_cons (xs : List Int) (i : Nat) (h : i < xs.length) : xs.drop i = xs.getD i 0 :: xs.drop (i + 1) := by rw [getD_lt xs i h]; exact List.drop_eq_getElem_cons h
theorem set_take {x l : List Int} {i : Nat} (hi : i < l.length) (hx : x.length = l.length) (ht : x.take i = l.take i) : (x.set i (l.getD i 0)).take (i + 1) = l.take (i + 1) := by
  apply List.ext_getElem?
  intro j
  have hj := congrArg (fun z => z[j]?) ht
  simp only [List.getElem?_take] at hj ⊢
  by_cases h1 : j < i + 1
  · rw [if_pos h1, if_pos h1, List.getElem?_set]
    by_cases h2 : i = j
    · subst h2
      rw [if_pos rfl, if_pos (by omega), List.getElem?_eq_getElem hi, getD_lt l i hi]
    · rw [if_neg h2]
      rw [if_pos (by omega), if_pos (by omega)] at hj
      exact hj
  · rw [if_neg h1, if_neg h1]
theorem toByte_l0 (l : List Int) (hn : l.length ≤ 281474976710656) : ∀ (d k i : Nat) (x : List Int), l.length - i = d → i ≤ l.length → d < k → x.length = l.length → x.take i = l.take i → laws_toByteS.l0 k l x (i : Int) = some l := by
  intro d
  induction d with
  | zero =>
    intro k i x hd hi hk hx ht
    obtain ⟨k, rfl⟩ : ∃ m, k = m + 1 := ⟨k - 1, by omega⟩
    simp only [laws_toByteS.l0]
    rw [if_neg (by omega)]
    rw [List.take_of_length_le (by omega), List.take_of_length_le (by omega)] at ht
    rw [ht]
  | succ d ih =>
    intro k i x hd hi hk hx ht
    obtain ⟨k, rfl⟩ : ∃ m, k = m + 1 := ⟨k - 1, by omega⟩
    simp only [laws_toByteS.l0]
    rw [if_pos (by omega), if_pos (by omega), if_pos (by omega), w1 (by omega)]
    refine ih k (i + 1) _ (by omega) (by omega) (by omega) (by simpa using hx) ?_
    rw [rd_nat, Int.toNat_natCast]
    exact set_take (by omega) hx ht
theorem toByte_some (l : List Int) (hn : l.length ≤ 281474976710656) {k : Nat} (hk : l.length < k) : laws_toByteS.f k l = some l := by
  unfold laws_toByteS.f
  rw [if_pos (by omega), if_pos (by simpa using hn)]
  exact toByte_l0 l hn l.length k 0 _ (by omega) (by omega) hk (by simp) rfl
theorem eqByte_l0 (a b : List Int) (hab : a.length = b.length) (hn : a.length ≤ 4611686018427387904) : ∀ (d k i : Nat), a.length - i = d → i ≤ a.length → d < k → laws_eqByteS.l0 k a b (i : Int) = some (decide (a.drop i = b.drop i)) := by
  intro d
  induction d with
  | zero =>
    intro k i hd hi hk
    obtain ⟨k, rfl⟩ : ∃ m, k = m + 1 := ⟨k - 1, by omega⟩
    simp only [laws_eqByteS.l0]
    rw [if_neg (by omega), List.drop_eq_nil_of_le (by omega), List.drop_eq_nil_of_le (by omega)]
    simp
  | succ d ih =>
    intro k i hd hi hk
    obtain ⟨k, rfl⟩ : ∃ m, k = m + 1 := ⟨k - 1, by omega⟩
    simp only [laws_eqByteS.l0]
    rw [if_pos (by omega), if_pos (by omega), if_pos (by omega), rd_nat, rd_nat, drop_cons a i (by omega), drop_cons b i (by omega)]
    by_cases h : a.getD i 0 = b.getD i 0
    · rw [if_pos h, w1 (by omega), ih k (i + 1) (by omega) (by omega) (by omega), h]
      simp
    · rw [if_neg h]
      simp only [List.cons.injEq, h, false_and, decide_false]
theorem eqByte_some (a b : List Int) (hn : a.length ≤ 4611686018427387904) {k : Nat} (hk : a.length < k) : laws_eqByteS.f k a b = some (decide (a = b)) := by
  unfold laws_eqByteS.f
  by_cases h : a.length = b.length
  · rw [if_pos (by omega)]
    have := eqByte_l0 a b h hn a.length k 0 (by omega) (by omega) hk
    simpa using this
  · rw [if_neg (by omega)]
    have : a ≠ b := fun e => h (by rw [e])
    simp [this]
theorem eqByte_same (a : List Int) (hn : a.length ≤ 4611686018427387904) {k : Nat} (hk : a.length < k) : laws_eqByteS.f k a a = some true := by
  rw [eqByte_some a a hn hk]; simp
def marksByte (m n : Nat) : List Int := (List.range n).map fun j => (((m + j : Nat) : Int)%256)
theorem marksByte_length (m n : Nat) : (marksByte m n).length = n := by simp [marksByte]
theorem marksByte_getD (m n i : Nat) (h : i < n) : (marksByte m n).getD i 0 = (((m + i : Nat) : Int)%256) := by simp [marksByte, List.getD, h]
theorem markByte_l0 (m n : Nat) (hn : m + n ≤ 4611686018427387904) : ∀ (d k i : Nat) (x : List Int), n - i = d → i ≤ n → d < k → x.length = n → x.take i = (marksByte m n).take i → laws_markByteS.l0 k x ((m + i : Nat) : Int) (i : Int) = some (((m + n : Nat) : Int), marksByte m n) := by
  intro d
  induction d with
  | zero =>
    intro k i x hd hi hk hx ht
    obtain ⟨k, rfl⟩ : ∃ m, k = m + 1 := ⟨k - 1, by omega⟩
    simp only [laws_markByteS.l0]
    rw [if_neg (by omega)]
    rw [List.take_of_length_le (by omega), List.take_of_length_le (by rw [marksByte_length]; omega)] at ht
    rw [ht, show m + i = m + n by omega]
  | succ d ih =>
    intro k i x hd hi hk hx ht
    obtain ⟨k, rfl⟩ : ∃ m, k = m + 1 := ⟨k - 1, by omega⟩
    simp only [laws_markByteS.l0]
    rw [if_pos (by omega), if_pos (by omega), w1 (by omega), w1 (by omega)]
    have := ih k (i + 1) (x.set i (((m + i : Nat) : Int)%256)) (by omega) (by omega) (by omega) (by simpa using hx) (by
      rw [← marksByte_getD m n i (by omega)]
      exact set_take (by rw [marksByte_length]; omega) (by rw [marksByte_length]; exact hx) ht)
    rw [Int.toNat_natCast]
    exact this
theorem markByte_some (x : List Int) (m : Nat) (hn : m + x.length ≤ 4611686018427387904) {k : Nat} (hk : x.length < k) : laws_markByteS.f k x (m : Int) = some (((m + x.length : Nat) : Int), marksByte m x.length) := by
  unfold laws_markByteS.f
  exact markByte_l0 m x.length hn x.length k 0 x (by omega) (by omega) hk rfl rfl
theorem heldByte_l0 (m n : Nat) (hn : m + n ≤ 4611686018427387904) : ∀ (d k i : Nat), n - i = d → i ≤ n → d < k → laws_heldByteS.l0 k (marksByte m n) ((m + i : Nat) : Int) (i : Int) = some ((m + n : Nat) : Int) := by
  intro d
  induction d with
  | zero =>
    intro k i hd hi hk
    obtain ⟨k, rfl⟩ : ∃ m, k = m + 1 := ⟨k - 1, by omega⟩
    simp only [laws_heldByteS.l0]
    rw [if_neg (by rw [marksByte_length]; omega), show m + i = m + n by omega]
  | succ d ih =>
    intro k i hd hi hk
    obtain ⟨k, rfl⟩ : ∃ m, k = m + 1 := ⟨k - 1, by omega⟩
    simp only [laws_heldByteS.l0]
    rw [if_pos (by rw [marksByte_length]; omega), if_pos (by omega), rd_nat, marksByte_getD m n i (by omega), if_pos rfl, w1 (by omega), w1 (by omega)]
    exact ih k (i + 1) (by omega) (by omega) (by omega)
theorem heldByte_some (m n : Nat) (hn : m + n ≤ 4611686018427387904) {k : Nat} (hk : n < k) : laws_heldByteS.f k (marksByte m n) (m : Int) = some ((m + n : Nat) : Int) := by
  unfold laws_heldByteS.f
  exact heldByte_l0 m n hn n k 0 (by omega) (by omega) hk
theorem markByte_one (x : List Int) (hn : x.length ≤ 4611686018427387) {k : Nat} (hk : x.length < k) : laws_markByteS.f k x 1 = some (((1 + x.length : Nat) : Int), marksByte 1 x.length) := markByte_some x 1 (by omega) hk
theorem heldByte_one (n : Nat) (hn : n ≤ 4611686018427387) {k : Nat} (hk : n < k) : laws_heldByteS.f k (marksByte 1 n) 1 = some ((1 + n : Nat) : Int) := heldByte_some 1 n (by omega) hk
theorem set_mid (A B D : List Int) (c z : Int) (i : Nat) (hi : i = A.length + B.length) : (A ++ (B ++ c :: D)).set i z = A ++ (B ++ z :: D) := by
  subst hi
  rw [List.set_append_right _ _ (by omega), Nat.add_sub_cancel_left, List.set_append_right _ _ (by omega), Nat.sub_self, List.set_cons_zero]
theorem put_l0 (l s : List Int) (a : Nat) (hm : a + s.length ≤ l.length) (hl : l.length ≤ 1048576) : ∀ (d k j : Nat), s.length - j = d → j ≤ s.length → d < k →
    spec_PutAt.l0 k (a : Int) s (l.take a ++ (s.take j ++ l.drop (a + j))) (j : Int) = some (l.take a ++ (s ++ l.drop (a + s.length)), true) := by
  intro d
  induction d with
  | zero =>
    intro k j hd hj hk
    obtain ⟨k, rfl⟩ : ∃ m, k = m + 1 := ⟨k - 1, by omega⟩
    obtain rfl : j = s.length := by omega
    rw [spec_PutAt.l0, if_neg (by omega), List.take_length]
  | succ d ih =>
    intro k j hd hj hk
    obtain ⟨k, rfl⟩ : ∃ m, k = m + 1 := ⟨k - 1, by omega⟩
    have e : wrap64 ((a : Int) + (j : Int)) = ((a + j : Nat) : Int) := by unfold wrap64; omega
    have c : (j : Int) < (s.length : Int) := by omega
    have c0 : (0 : Int) ≤ (j : Int) := by omega
    have c1 : (0 : Int) ≤ ((a + j : Nat) : Int) := by omega
    have hlen : (l.take a ++ (s.take j ++ l.drop (a + j))).length = l.length := by
      rw [List.length_append, List.length_append, List.length_take, List.length_take, List.length_drop]; omega
    have c2 : ((a + j : Nat) : Int) < ((l.take a ++ (s.take j ++ l.drop (a + j))).length : Int) := by rw [hlen]; omega
    rw [spec_PutAt.l0, e, if_pos c, if_pos c0, if_pos c1, if_pos c2, w1 (by omega), Int.toNat_natCast, drop_cons l (a + j) (by omega), set_mid _ _ _ _ _ _ (by rw [List.length_take, List.length_take]; omega), rd_nat]
    have e2 : s.take j ++ s.getD j 0 :: l.drop (a + j + 1) = s.take (j + 1) ++ l.drop (a + (j + 1)) := by
      have hj' : j < s.length := by omega
      rw [List.take_add_one, List.getElem?_eq_getElem hj', getD_lt s j hj', List.append_assoc]; rfl
    rw [e2]
    exact ih k (j + 1) (by omega) (by omega) (by omega)
def putl (l : List Int) (a : Int) (s : List Int) : List Int := if 0 ≤ a ∧ a + (s.length : Int) ≤ (l.length : Int) then l.take a.toNat ++ (s ++ l.drop (a.toNat + s.length)) else l
theorem putl_len (l : List Int) (a : Int) (s : List Int) : (putl l a s).length = l.length := by
  unfold putl
  by_cases c : 0 ≤ a ∧ a + (s.length : Int) ≤ (l.length : Int)
  · rw [if_pos c, List.length_append, List.length_append, List.length_take, List.length_drop]; omega
  · rw [if_neg c]
theorem put_impl (l : List Int) (a : Int) (s : List Int) (hl : l.length ≤ 1048576) : impl_PutAt.f l a s = some (putl l a s, decide (0 ≤ a ∧ a + (s.length : Int) ≤ (l.length : Int))) := by
  unfold impl_PutAt.f putl
  rw [if_pos (by omega)]
  by_cases c : 0 ≤ a ∧ a + (s.length : Int) ≤ (l.length : Int)
  · rw [if_pos c, if_pos c, decide_eq_true c]
  · rw [if_neg c, if_neg c, decide_eq_false c]
theorem put_spec (l : List Int) (a : Int) (s : List Int) (hl : l.length ≤ 1048576) (hs : s.length ≤ 1048576) {k : Nat} (hk : 1048576 < k) : spec_PutAt.f k l a s = some (putl l a s, decide (0 ≤ a ∧ a + (s.length : Int) ≤ (l.length : Int))) := by
  unfold spec_PutAt.f putl spec_l2There.f
  simp only [Option.bind_some, List.length_nil, List.nil_append, Nat.zero_add]
  rw [if_pos (by omega)]
  by_cases c : 0 ≤ a ∧ a + (s.length : Int) ≤ (l.length : Int)
  · have e : wrap64 ((l.length : Int) - a) = (l.length : Int) - a := by unfold wrap64; omega
    have c0 : a ≥ 0 := c.1
    have c1 : (s.length : Int) ≥ 0 := by omega
    have c2 : a ≤ (l.length : Int) := by omega
    have c3 : (s.length : Int) ≤ (l.length : Int) - a := by omega
    rw [if_pos c, if_pos c0, if_pos c1, if_pos c2, e, decide_eq_true c3, Option.bind_some, if_pos rfl, decide_eq_true c]
    obtain ⟨b, rfl⟩ : ∃ b : Nat, a = (b : Int) := ⟨a.toNat, by omega⟩
    have w := put_l0 l s b (by omega) hl s.length k 0 (by omega) (by omega) (by omega)
    simpa using w
  · rw [if_neg c, decide_eq_false c]
    by_cases c0 : a ≥ 0
    · rw [if_pos c0, if_pos (by omega)]
      by_cases c2 : a ≤ (l.length : Int)
      · have e : wrap64 ((l.length : Int) - a) = (l.length : Int) - a := by unfold wrap64; omega
        rw [if_pos c2, e, decide_eq_false (by omega), Option.bind_some, if_neg Bool.false_ne_true]
      · rw [if_neg c2, Option.bind_some, if_neg Bool.false_ne_true]
    · rw [if_neg c0, Option.bind_some, if_neg Bool.false_ne_true]
theorem FnExactPutAt : laws_FnExactPutAt.Pure := by
  intro l a s hm h2 hw _ hms hs2 hsw
  obtain ⟨k, hk⟩ : ∃ k : Nat, 4000000 < k := ⟨_, Nat.lt_succ_self _⟩
  obtain ⟨k, rfl⟩ : ∃ m, k = m + 3 := ⟨k - 3, by omega⟩
  refine ⟨k + 3, ?_⟩
  unfold laws_FnExactPutAt.f
  by_cases hb : (l.length : Int) > 1048576
  · rw [if_pos hb]
  rw [if_neg hb]
  by_cases hb2 : (s.length : Int) > 1048576
  · rw [if_pos hb2]
  rw [if_neg hb2]
  have hl : l.length ≤ 1048576 := by omega
  have hs : s.length ≤ 1048576 := by omega
  have hr := putl_len l a s
  have q : ¬ ((1 + l.length + s.length : Nat) : Int) < 0 := by omega
  have q2 : ¬ ((1 + (putl l a s).length : Nat) : Int) < 0 := by omega
  simp only [toByte_some l (show l.length ≤ 281474976710656 by omega) (show l.length < k + 3 by omega), toByte_some s (show s.length ≤ 281474976710656 by omega) (show s.length < k + 3 by omega), Option.bind_some, put_spec l a s hl hs (show 1048576 < k + 3 by omega), put_impl l a s hl, eqByte_same (putl l a s) (show (putl l a s).length ≤ 4611686018427387904 by omega) (show (putl l a s).length < k + 3 by omega), ↓reduceIte, bne_self_eq_false]
  rw [laws_FnExactPutAt.j0, if_neg Bool.false_ne_true]
  simp only [toByte_some l (show l.length ≤ 281474976710656 by omega) (show l.length < k + 2 by omega), toByte_some s (show s.length ≤ 281474976710656 by omega) (show s.length < k + 2 by omega), Option.bind_some, eqByte_same l (show l.length ≤ 4611686018427387904 by omega) (show l.length < k + 2 by omega), eqByte_same s (show s.length ≤ 4611686018427387904 by omega) (show s.length < k + 2 by omega), ↓reduceIte, markByte_one l (by omega) (show l.length < k + 2 by omega), markByte_some s (1 + l.length) (by omega) (show s.length < k + 2 by omega), q, eqByte_same (putl l a s) (show (putl l a s).length ≤ 4611686018427387904 by omega) (show (putl l a s).length < k + 2 by omega), bne_self_eq_false]
  rw [laws_FnExactPutAt.j1, if_neg Bool.false_ne_true]
  simp only [markByte_one (putl l a s) (by omega) (show (putl l a s).length < k + 1 by omega), Option.bind_some, heldByte_one (putl l a s).length (by omega) (show (putl l a s).length < k + 1 by omega), q2, ↓reduceIte, toByte_some l (show l.length ≤ 281474976710656 by omega) (show l.length < k + 1 by omega), toByte_some s (show s.length ≤ 281474976710656 by omega) (show s.length < k + 1 by omega), put_impl l a s hl, eqByte_same (putl l a s) (show (putl l a s).length ≤ 4611686018427387904 by omega) (show (putl l a s).length < k + 1 by omega), bne_self_eq_false]
  rw [laws_FnExactPutAt.j2, if_neg Bool.false_ne_true]
  obtain ⟨k, rfl⟩ : ∃ m, k = m + 1 := ⟨k - 1, by omega⟩
  simp only [heldByte_one (putl l a s).length (by omega) (show (putl l a s).length < k + 1 by omega), Option.bind_some, q2, ↓reduceIte]
end Go.Proofs.Ytamelcmioliapaa.Pure
