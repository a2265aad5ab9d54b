/- What the law FnExactWipe computes is the answer true, for all arguments within the bounds that the statement's own reading gives. No other condition. -/
import Derived.OpenShut
import Derived.Test.YtamelcmioliapaaQFnExactWipex2
namespace Go.Proofs.Ytamelcmioliapaa.Pure
open Go.RowKit Go.Proofs.Ytamelcmioliapaa.QFnExactWipe Go.Proofs.YtamelcmioliapaaW.PrintWords Go.Proofs.YtamelcmioliapaaW.PrintLast
set_option linter.unusedVariables false
set_option linter.unusedSimpArgs false
def laws_FnExactWipe.Pure : Prop := ∀ (l0 : List Int) (a1 : Int) (a2 : Int), l0.length ≤ maxLen → l0.length * 1 ≤ 140737488351232 → (∀ x ∈ l0, (Lit.int .u8 x).wf = true) → (Lit.int .i64 a1).wf = true → (Lit.int .i64 a2).wf = true → ∃ k, laws_FnExactWipe.f k l0 a1 a2 = some true
theorem w1 {i : Nat} (h : i < 9223372036854775807) : wrap64 ((i : Int) + 1) = ((i + 1 : Nat) : Int) := by unfold wrap64; omega
theorem rd_nat (xs : List Int) (i : Nat) : rd xs (i : Int) = xs.getD i 0 := by simp [rd]
theorem getD_lt (xs : List Int) (i : Nat) (h : i < xs.length) : xs.getD i 0 = xs[i] := by simp [List.getD, List.getElem?_eq_getElem h]
theorem drop_cons (xs : List Int) (i : Nat) (h : i < xs.length) : xs.drop i = xs.getD i 0 :: xs.drop (i + 1) := by rw [getD_lt xs i h]; exact List.drop_eq_getElem_cons h
theorem set_take {x l : List Int} {i : Nat} (hi : i < l.length) (hx : x.length = l.length) (ht : x.take i = l.take i) : (x.set i (l.getD i 0)).take (i + 1) = l.take (i + 1) := by
  apply List.ext_getElem?
  intro j
  have hj := congrArg (fun z => z[j]?) ht
  simp only [List.getElem?_take] at hj ⊢
  by_cases h1 : j < i + 1
  · rw [if_pos h1, if_pos h1, List.getElem?_set]
    by_cases h2 : i = j
    · subst h2
      rw [if_pos rfl, if_pos (by omega), List.getElem?_eq_getElem hi, getD_lt l i hi]
    · rw [if_neg h2]
      rw [if_pos (by omega), if_pos (by omega)] at hj
      exact hj
  · rw [if_neg h1, if_neg h1]
theorem toByte_l0 (l : List Int) (hn : l.length ≤ 281474976710656) : ∀ (d k i : Nat) (x : List Int), l.length - i = d → i ≤ l.length → d < k → x.length = l.length → x.take i = l.take i → laws_toByteS.l0 k l x (i : Int) = some l := by
  intro d
  induction d with
  | zero =>
    intro k i x hd hi hk hx ht
    obtain ⟨k, rfl⟩ : ∃ m, k = m + 1 := ⟨k - 1, by omega⟩
    simp only [laws_toByteS.l0]
    rw [if_neg (by omega)]
    rw [List.take_of_length_le (by omega), List.take_of_length_le (by omega)] at ht
    rw [ht]
  | succ d ih =>
    intro k i x hd hi hk hx ht
    obtain ⟨k, rfl⟩ : ∃ m, k = m + 1 := ⟨k - 1, by omega⟩
    simp only [laws_toByteS.l0]
    rw [if_pos (by omega), if_pos (by omega), if_pos (by omega), w1 (by omega)]
    refine ih k (i + 1) _ (by omega) (by omega) (by omega) (by simpa using hx) ?_
    rw [rd_nat, Int.toNat_natCast]
    exact set_take (by omega) hx ht
theorem toByte_some (l : List Int) (hn : l.length ≤ 281474976710656) {k : Nat} (hk : l.length < k) : laws_toByteS.f k l = some l := by
  unfold laws_toByteS.f
  rw [if_pos (by omega), if_pos (by simpa using hn)]
  exact toByte_l0 l hn l.length k 0 _ (by omega) (by omega) hk (by simp) rfl
theorem eqByte_l0 (a b : List Int) (hab : a.length = b.length) (hn : a.length ≤ 4611686018427387904) : ∀ (d k i : Nat), a.length - i = d → i ≤ a.length → d < k → laws_eqByteS.l0 k a b (i : Int) = some (decide (a.drop i = b.drop i)) := by
  intro d
  induction d with
  | zero =>
    intro k i hd hi hk
    obtain ⟨k, rfl⟩ : ∃ m, k = m + 1 := ⟨k - 1, by omega⟩
    simp only [laws_eqByteS.l0]
    rw [if_neg (by omega), List.drop_eq_nil_of_le (by omega), List.drop_eq_nil_of_le (by omega)]
    simp
  | succ d ih =>
    intro k i hd hi hk
    obtain ⟨k, rfl⟩ : ∃ m, k = m + 1 := ⟨k - 1, by omega⟩
    simp only [laws_eqByteS.l0]
    rw [if_pos (by omega), if_pos (by omega), if_pos (by omega), rd_nat, rd_nat, drop_cons a i (by omega), drop_cons b i (by omega)]
    by_cases h : a.getD i 0 = b.getD i 0
    · rw [if_pos h, w1 (by omega), ih k (i + 1) (by omega) (by omega) (by omega), h]
      simp
    · rw [if_neg h]
      simp only [List.cons.injEq, h, false_and, decide_false]
theorem eqByte_some (a b : List Int) (hn : a.length ≤ 4611686018427387904) {k : Nat} (hk : a.length < k) : laws_eqByteS.f k a b = some (decide (a = b)) := by
  unfold laws_eqByteS.f
  by_cases h : a.length = b.length
  · rw [if_pos (by omega)]
    have := eqByte_l0 a b h hn a.length k 0 (by omega) (by omega) hk
    simpa using this
  · rw [if_neg (by omega)]
    have : a ≠ b := fun e => h (by rw [e])
    simp [this]
theorem eqByte_same (a : List Int) (hn : a.length ≤ 4611686018427387904) {k : Nat} (hk : a.length < k) : laws_eqByteS.f k a a = some true := by
  rw [eqByte_some a a hn hk]; simp
def marksByte (m n : Nat) : List Int := (List.range n).map fun j => (((m + j : Nat) : Int)%256)
theorem marksByte_length (m n : Nat) : (marksByte m n).length = n := by simp [marksByte]
theorem marksByte_getD (m n i : Nat) (h : i < n) : (marksByte m n).getD i 0 = (((m + i : Nat) : Int)%256) := by simp [marksByte, List.getD, h]
theorem markByte_l0 (m n : Nat) (hn : m + n ≤ 4611686018427387904) : ∀ (d k i : Nat) (x : List Int), n - i = d → i ≤ n → d < k → x.length = n → x.take i = (marksByte m n).take i → laws_markByteS.l0 k x ((m + i : Nat) : Int) (i : Int) = some (((m + n : Nat) : Int), marksByte m n) := by
  intro d
  induction d with
  | zero =>
    intro k i x hd hi hk hx ht
    obtain ⟨k, rfl⟩ : ∃ m, k = m + 1 := ⟨k - 1, by omega⟩
    simp only [laws_markByteS.l0]
    rw [if_neg (by omega)]
    rw [List.take_of_length_le (by omega), List.take_of_length_le (by rw [marksByte_length]; omega)] at ht
    rw [ht, show m + i = m + n by omega]
  | succ d ih =>
    intro k i x hd hi hk hx ht
    obtain ⟨k, rfl⟩ : ∃ m, k = m + 1 := ⟨k - 1, by omega⟩
    simp only [laws_markByteS.l0]
    rw [if_pos (by omega), if_pos (by omega), w1 (by omega), w1 (by omega)]
    have := ih k (i + 1) (x.set i (((m + i : Nat) : Int)%256)) (by omega) (by omega) (by omega) (by simpa using hx) (by
      rw [← marksByte_getD m n i (by omega)]
      exact set_take (by rw [marksByte_length]; omega) (by rw [marksByte_length]; exact hx) ht)
    rw [Int.toNat_natCast]
    exact this
theorem markByte_some (x : List Int) (m : Nat) (hn : m + x.length ≤ 4611686018427387904) {k : Nat} (hk : x.length < k) : laws_markByteS.f k x (m : Int) = some (((m + x.length : Nat) : Int), marksByte m x.length) := by
  unfold laws_markByteS.f
  exact markByte_l0 m x.length hn x.length k 0 x (by omega) (by omega) hk rfl rfl
theorem heldByte_l0 (m n : Nat) (hn : m + n ≤ 4611686018427387904) : ∀ (d k i : Nat), n - i = d → i ≤ n → d < k → laws_heldByteS.l0 k (marksByte m n) ((m + i : Nat) : Int) (i : Int) = some ((m + n : Nat) : Int) := by
  intro d
  induction d with
  | zero =>
    intro k i hd hi hk
    obtain ⟨k, rfl⟩ : ∃ m, k = m + 1 := ⟨k - 1, by omega⟩
    simp only [laws_heldByteS.l0]
    rw [if_neg (by rw [marksByte_length]; omega), show m + i = m + n by omega]
  | succ d ih =>
    intro k i hd hi hk
    obtain ⟨k, rfl⟩ : ∃ m, k = m + 1 := ⟨k - 1, by omega⟩
    simp only [laws_heldByteS.l0]
    rw [if_pos (by rw [marksByte_length]; omega), if_pos (by omega), rd_nat, marksByte_getD m n i (by omega), if_pos rfl, w1 (by omega), w1 (by omega)]
    exact ih k (i + 1) (by omega) (by omega) (by omega)
theorem heldByte_some (m n : Nat) (hn : m + n ≤ 4611686018427387904) {k : Nat} (hk : n < k) : laws_heldByteS.f k (marksByte m n) (m : Int) = some ((m + n : Nat) : Int) := by
  unfold laws_heldByteS.f
  exact heldByte_l0 m n hn n k 0 (by omega) (by omega) hk
theorem markByte_one (x : List Int) (hn : x.length ≤ 4611686018427387) {k : Nat} (hk : x.length < k) : laws_markByteS.f k x 1 = some (((1 + x.length : Nat) : Int), marksByte 1 x.length) := markByte_some x 1 (by omega) hk
theorem heldByte_one (n : Nat) (hn : n ≤ 4611686018427387) {k : Nat} (hk : n < k) : laws_heldByteS.f k (marksByte 1 n) 1 = some ((1 + n : Nat) : Int) := heldByte_some 1 n (by omega) hk
theorem set_mid (A B D : List Int) (c z : Int) (i : Nat) (hi : i = A.length + B.length) : (A ++ (B ++ c :: D)).set i z = A ++ (B ++ z :: D) := by
  subst hi
  rw [List.set_append_right _ _ (by omega), Nat.add_sub_cancel_left, List.set_append_right _ _ (by omega), Nat.sub_self, List.set_cons_zero]
theorem wipe_l0 (l : List Int) (a : Nat) (n : Int) (m : Nat) (hm : a + m ≤ l.length) (hs : ∀ j : Nat, j < m ↔ ((a + j : Nat) : Int) < (l.length : Int) ∧ (j : Int) < n) (hl : l.length ≤ 1048576) : ∀ (d k j : Nat), m - j = d → j ≤ m → d < k →
    spec_Wipe.l0 k l (a : Int) n (l.take a ++ (List.replicate j 0 ++ l.drop (a + j))) ((a + j : Nat) : Int) = some (l.take a ++ (List.replicate m 0 ++ l.drop (a + m))) := by
  intro d
  induction d with
  | zero =>
    intro k j hd hj hk
    obtain ⟨k, rfl⟩ : ∃ m, k = m + 1 := ⟨k - 1, by omega⟩
    obtain rfl : j = m := by omega
    have h := hs j
    have e : wrap64 (((a + j : Nat) : Int) - (a : Int)) = (j : Int) := by unfold wrap64; omega
    rw [spec_Wipe.l0, e]
    by_cases c : ((a + j : Nat) : Int) < (l.length : Int)
    · rw [if_pos c, if_neg (fun g => absurd (h.mpr ⟨c, g⟩) (by omega))]
    · rw [if_neg c]
  | succ d ih =>
    intro k j hd hj hk
    obtain ⟨k, rfl⟩ : ∃ m, k = m + 1 := ⟨k - 1, by omega⟩
    have h := (hs j).mp (by omega)
    have e : wrap64 (((a + j : Nat) : Int) - (a : Int)) = (j : Int) := by unfold wrap64; omega
    have c0 : (0 : Int) ≤ ((a + j : Nat) : Int) := by omega
    have hlen : (l.take a ++ (List.replicate j 0 ++ l.drop (a + j))).length = l.length := by
      rw [List.length_append, List.length_append, List.length_take, List.length_replicate, List.length_drop]; omega
    have c1 : ((a + j : Nat) : Int) < ((l.take a ++ (List.replicate j 0 ++ l.drop (a + j))).length : Int) := by rw [hlen]; exact h.1
    rw [spec_Wipe.l0, e, if_pos h.1, if_pos h.2, if_pos c0, if_pos c1, w1 (by omega), Int.toNat_natCast, drop_cons l (a + j) (by omega), set_mid _ _ _ _ _ _ (by rw [List.length_take, List.length_replicate]; omega)]
    have e2 : List.replicate j (0 : Int) ++ (0 : Int) :: l.drop (a + j + 1) = List.replicate (j + 1) 0 ++ l.drop (a + (j + 1)) := by
      rw [List.replicate_succ', List.append_assoc, List.singleton_append]; rfl
    rw [e2]
    exact ih k (j + 1) (by omega) (by omega) (by omega)
def wiped (l : List Int) (a n : Int) : List Int := if a < 0 then l else if n < 0 then l else if (l.length : Int) < a then l else l.take a.toNat ++ (List.replicate (mn n ((l.length : Int) - a)).toNat 0 ++ l.drop (a.toNat + (mn n ((l.length : Int) - a)).toNat))
theorem wipe_impl (l : List Int) (a n : Int) (hl : l.length ≤ 1048576) : impl_Wipe.f l a n = some (wiped l a n) := by
  unfold impl_Wipe.f wiped
  rw [if_pos (by omega)]
theorem mn_cases (a b : Int) : mn a b = a ∧ a ≤ b ∨ mn a b = b ∧ b ≤ a := by
  unfold mn
  by_cases c : b < a
  · rw [if_pos c]; exact .inr ⟨rfl, by omega⟩
  · rw [if_neg c]; exact .inl ⟨rfl, by omega⟩
theorem wiped_len (l : List Int) (a n : Int) : (wiped l a n).length = l.length := by
  unfold wiped
  have h := mn_cases n ((l.length : Int) - a)
  by_cases c1 : a < 0
  · rw [if_pos c1]
  rw [if_neg c1]
  by_cases c2 : n < 0
  · rw [if_pos c2]
  rw [if_neg c2]
  by_cases c3 : (l.length : Int) < a
  · rw [if_pos c3]
  rw [if_neg c3, List.length_append, List.length_append, List.length_take, List.length_replicate, List.length_drop]
  omega
theorem wipe_spec (l : List Int) (a n : Int) (hl : l.length ≤ 1048576) {k : Nat} (hk : 1048578 < k) : spec_Wipe.f k l a n = some (wiped l a n) := by
  obtain ⟨k, rfl⟩ : ∃ m, k = m + 1 := ⟨k - 1, by omega⟩
  unfold spec_Wipe.f wiped
  simp only [Option.bind_some, List.length_nil, List.nil_append, Nat.zero_add]
  rw [if_pos (by omega)]
  by_cases c1 : a < 0
  · rw [if_pos c1, if_pos c1, spec_Wipe.j0, if_pos rfl]
  rw [if_neg c1, if_neg c1]
  by_cases c2 : n < 0
  · rw [if_pos c2, decide_eq_true c2, spec_Wipe.j0, if_pos rfl]
  rw [if_neg c2, decide_eq_false c2, spec_Wipe.j0, if_neg Bool.false_ne_true]
  obtain ⟨b, rfl⟩ : ∃ b : Nat, a = (b : Int) := ⟨a.toNat, by omega⟩
  by_cases c3 : (l.length : Int) < (b : Int)
  · obtain ⟨k, rfl⟩ : ∃ m, k = m + 1 := ⟨k - 1, by omega⟩
    rw [if_pos c3, spec_Wipe.l0, if_neg (by omega)]
  rw [if_neg c3, Int.toNat_natCast]
  have h := mn_cases n ((l.length : Int) - (b : Int))
  obtain ⟨m, hm⟩ : ∃ m : Nat, mn n ((l.length : Int) - (b : Int)) = (m : Int) := ⟨(mn n ((l.length : Int) - (b : Int))).toNat, by omega⟩
  rw [hm, Int.toNat_natCast]
  have w := wipe_l0 l b n m (by omega) (fun j => by omega) hl m k 0 (by omega) (by omega) (by omega)
  simpa using w
theorem FnExactWipe : laws_FnExactWipe.Pure := by
  intro l a n hm h2 hw _ _
  obtain ⟨k, hk⟩ : ∃ k : Nat, 4000000 < k := ⟨_, Nat.lt_succ_self _⟩
  obtain ⟨k, rfl⟩ : ∃ m, k = m + 1 := ⟨k - 1, by omega⟩
  refine ⟨k + 1, ?_⟩
  unfold laws_FnExactWipe.f
  by_cases hb : (l.length : Int) > 1048576
  · rw [if_pos hb]
  · rw [if_neg hb]
    have hl : l.length ≤ 1048576 := by omega
    have hr := wiped_len l a n
    have q : ¬ ((1 + l.length : Nat) : Int) < 0 := by omega
    have q2 : ¬ ((1 + (wiped l a n).length : Nat) : Int) < 0 := by omega
    simp only [toByte_some l (show l.length ≤ 281474976710656 by omega) (show l.length < k + 1 by omega), Option.bind_some, wipe_spec l a n hl (show 1048578 < k + 1 by omega), wipe_impl l a n hl, eqByte_same (wiped l a n) (show (wiped l a n).length ≤ 4611686018427387904 by omega) (show (wiped l a n).length < k + 1 by omega), eqByte_same l (show l.length ≤ 4611686018427387904 by omega) (show l.length < k + 1 by omega), ↓reduceIte, markByte_one l (by omega) (show l.length < k + 1 by omega), q, Bool.not_true]
    rw [laws_FnExactWipe.j0, if_neg Bool.false_ne_true]
    simp only [markByte_one (wiped l a n) (by omega) (show (wiped l a n).length < k by omega), Option.bind_some, heldByte_one (wiped l a n).length (by omega) (show (wiped l a n).length < k by omega), q2, ↓reduceIte, toByte_some l (show l.length ≤ 281474976710656 by omega) (show l.length < k by omega), wipe_impl l a n hl, eqByte_same (wiped l a n) (show (wiped l a n).length ≤ 4611686018427387904 by omega) (show (wiped l a n).length < k by omega)]
end Go.Proofs.Ytamelcmioliapaa.Pure
