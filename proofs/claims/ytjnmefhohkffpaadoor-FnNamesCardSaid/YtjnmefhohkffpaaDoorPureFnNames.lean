/- What the law FnNames computes is the answer true, for all arguments within the bounds that the statement's own reading gives. No other condition. -/
import Derived.OpenShut
import Derived.Test.YtjnmefhohkffpaaDoorQFnNamesx9
namespace Go.Proofs.YtjnmefhohkffpaaDoor.Pure
open Go.RowKit Go.Proofs.YtjnmefhohkffpaaDoor.QFnNames Go.Proofs.YtjnmefhohkffpaaDoorW.PrintWords Go.Proofs.YtjnmefhohkffpaaDoorW.PrintLast
set_option linter.unusedVariables false
set_option linter.unusedSimpArgs false
def laws_FnNames.Pure : Prop := ∀ (l0 : List Int), l0.length ≤ maxLen → l0.length * 1 ≤ 140737488351232 → (∀ x ∈ l0, (Lit.int .u8 x).wf = true) → ∃ k, laws_FnNames.f k l0 = some true
theorem w1 {i : Nat} (h : i < 9223372036854775807) : wrap64 ((i : Int) + 1) = ((i + 1 : Nat) : Int) := by unfold wrap64; omega
theorem rd_nat (xs : List Int) (i : Nat) : rd xs (i : Int) = xs.getD i 0 := by simp [rd]
theorem getD_lt (xs : List Int) (i : Nat) (h : i < xs.length) : xs.getD i 0 = xs[i] := by simp [List.getD, List.getElem?_eq_getElem h]
theorem drop_cons (xs : List Int) (i : Nat) (h : i < xs.length) : xs.drop i = xs.getD i 0 :: xs.drop (i + 1) := by rw [getD_lt xs i h]; exact List.drop_eq_getElem_cons h
theorem set_take {x l : List Int} {i : Nat} (hi : i < l.length) (hx : x.length = l.length) (ht : x.take i = l.take i) : (x.set i (l.getD i 0)).take (i + 1) = l.take (i + 1) := by
  apply List.ext_getElem?
  intro j
  have hj := congrArg (fun z => z[j]?) ht
  simp only [List.getElem?_take] at hj ⊢
  by_cases h1 : j < i + 1
  · rw [if_pos h1, if_pos h1, List.getElem?_set]
    by_cases h2 : i = j
    · subst h2
      rw [if_pos rfl, if_pos (by omega), List.getElem?_eq_getElem hi, getD_lt l i hi]
    · rw [if_neg h2]
      rw [if_pos (by omega), if_pos (by omega)] at hj
      exact hj
  · rw [if_neg h1, if_neg h1]
theorem i64_and255 (n : Int) : Go.bits .and .i64 n 255 = n % 256 := by
  have h : (BitVec.ofInt 64 255).toNat = 2 ^ 8 - 1 := by decide
  have key : (BitVec.ofInt 64 n &&& BitVec.ofInt 64 255).toNat = (n % ((2 ^ 64 : Nat) : Int)).toNat % 2 ^ 8 := by
    rw [BitVec.toNat_and, BitVec.toNat_ofInt, h, Nat.and_two_pow_sub_one_eq_mod]
  show IntKind.i64.wrap ((BitVec.ofInt 64 n &&& BitVec.ofInt 64 255).toNat : Nat) = n % 256
  rw [key, IntKind.wrap_i64]
  omega
def St (l : List Int) (i : Int) : Prop := 0 ≤ i ∧ i ≤ l.length
theorem new_l0 (l : List Int) (hl : l.length ≤ 1048576) : ∀ (d k i : Nat) (s : Int), l.length - i = d → i ≤ l.length → d < k → ∃ s', spec_l1New.l0 k l s (i : Int) = some (l, 0, s') := by
  intro d
  induction d with
  | zero =>
    intro k i s hd hi hk
    obtain ⟨k, rfl⟩ : ∃ m, k = m + 1 := ⟨k - 1, by omega⟩
    simp only [spec_l1New.l0]
    rw [if_neg (by omega)]; exact ⟨_, rfl⟩
  | succ d ih =>
    intro k i s hd hi hk
    obtain ⟨k, rfl⟩ : ∃ m, k = m + 1 := ⟨k - 1, by omega⟩
    simp only [spec_l1New.l0]
    rw [if_pos (by omega)]
    by_cases h : (i : Int) < 4000
    · rw [if_pos h, if_pos (by omega), w1 (by omega)]
      exact ih k (i + 1) _ (by omega) (by omega) (by omega)
    · rw [if_neg h]; exact ⟨_, rfl⟩
theorem new_some (l : List Int) (hl : l.length ≤ 1048576) {k : Nat} (hk : 1048576 < k) : ∃ s, spec_l1New.f k l = some (l, 0, s) := by
  unfold spec_l1New.f
  exact new_l0 l hl l.length k 0 _ (by omega) (by omega) (by omega)
theorem byte_some (l : List Int) (hl : l.length ≤ 1048576) (i s : Int) (hi : St l i) : ∃ v i' s', spec_l1Byte.f l i s = some (v, i', s') ∧ 0 ≤ v ∧ v ≤ 255 ∧ St l i' := by
  unfold spec_l1Byte.f
  obtain ⟨h0, h1⟩ := hi
  by_cases h : i < (l.length : Int)
  · rw [if_pos h, if_pos h0]
    refine ⟨_, _, _, rfl, ?_, ?_, ?_⟩
    · rw [i64_and255]; omega
    · rw [i64_and255]; omega
    · have e : wrap64 (i + 1) = i + 1 := by unfold wrap64; omega
      rw [e]; exact ⟨by omega, by omega⟩
  · rw [if_neg h]
    refine ⟨_, _, _, rfl, ?_, ?_, ⟨h0, h1⟩⟩
    · rw [i64_and255]; omega
    · rw [i64_and255]; omega
theorem below_some (l : List Int) (hl : l.length ≤ 1048576) (i s : Int) (hi : St l i) (n : Int) : ∃ v i' s', spec_l1Below.f l i s n = some (v, i', s') ∧ 0 ≤ v ∧ (0 < n → v < n) ∧ (n ≤ 0 → v = 0) ∧ St l i' := by
  unfold spec_l1Below.f
  by_cases h0 : n ≤ 0
  · rw [if_pos h0]; exact ⟨_, _, _, rfl, by omega, by omega, fun _ => rfl, hi⟩
  · rw [if_neg h0]
    obtain ⟨v, i1, s1, e1, v0, v1, hi1⟩ := byte_some l hl i s hi
    by_cases h1 : n ≤ 256
    · rw [if_pos h1, e1]
      simp only [Option.bind_some]
      rw [if_neg (by omega), Int.tmod_eq_emod_of_nonneg v0]
      exact ⟨_, _, _, rfl, Int.emod_nonneg _ (by omega), fun _ => Int.emod_lt_of_pos _ (by omega), by omega, hi1⟩
    · rw [if_neg h1, e1]
      simp only [Option.bind_some]
      obtain ⟨v', i2, s2, e2, v0', v1', hi2⟩ := byte_some l hl i1 s1 hi1
      rw [e2]
      simp only [Option.bind_some]
      obtain ⟨v'', i3, s3, e3, v0'', v1'', hi3⟩ := byte_some l hl i2 s2 hi2
      rw [e3]
      simp only [Option.bind_some]
      have q : 0 ≤ wrap64 (wrap64 (wrap64 (v * 65536) + wrap64 (v' * 256)) + v'') := by unfold wrap64; omega
      rw [if_neg (by omega), Int.tmod_eq_emod_of_nonneg q]
      exact ⟨_, _, _, rfl, Int.emod_nonneg _ (by omega), fun _ => Int.emod_lt_of_pos _ (by omega), by omega, hi3⟩
theorem once_some (l : List Int) (hl : l.length ≤ 1048576) (i s : Int) (hi : St l i) (n : Int) : ∃ b i' s', spec_l1Once.f l i s n = some (b, i', s') ∧ St l i' := by
  unfold spec_l1Once.f
  obtain ⟨v, i1, s1, e1, _, _, _, hi1⟩ := below_some l hl i s hi n
  rw [e1]; exact ⟨_, _, _, rfl, hi1⟩
theorem int_some (l : List Int) (hl : l.length ≤ 1048576) (i s : Int) (hi : St l i) (xs : List Int) (hx : 0 < xs.length) : ∃ v i' s', spec_l1Int.f l i s xs = some (v, i', s') ∧ v ∈ xs ∧ St l i' := by
  unfold spec_l1Int.f
  obtain ⟨v, i1, s1, e1, h0, h1, _, hi1⟩ := below_some l hl i s hi (xs.length : Int)
  rw [e1]
  simp only [Option.bind_some]
  have h2 := h1 (by omega)
  rw [if_pos h0, if_pos h2]
  refine ⟨_, _, _, rfl, ?_, hi1⟩
  have h3 : v.toNat < xs.length := by omega
  unfold rd
  rw [getD_lt xs _ h3]
  exact List.getElem_mem h3
theorem str_some (l : List Int) (hl : l.length ≤ 1048576) (i s : Int) (hi : St l i) (xs : List ByteArray) (hx : 0 < xs.length) : ∃ v i' s', spec_l1Str.f l i s xs = some (v, i', s') ∧ v ∈ xs ∧ St l i' := by
  unfold spec_l1Str.f
  obtain ⟨v, i1, s1, e1, h0, h1, _, hi1⟩ := below_some l hl i s hi (xs.length : Int)
  rw [e1]
  simp only [Option.bind_some]
  have h2 := h1 (by omega)
  rw [if_pos h0, if_pos h2]
  refine ⟨_, _, _, rfl, ?_, hi1⟩
  have h3 : v.toNat < xs.length := by omega
  unfold rdOf
  rw [List.getD_eq_getElem?_getD, List.getElem?_eq_getElem h3, Option.getD_some]
  exact List.getElem_mem h3
theorem digW (x : Int) (h0 : -9223372036854775808 ≤ x) (h1 : x ≤ 9223372036854775807) :
    (if (Int.tmod x 10) < 0 then wrap64 (48 + (wrap64 (-(Int.tmod x 10)))) % 256 else wrap64 (48 + (Int.tmod x 10)) % 256) = ((48 + x.natAbs % 10 : Nat) : Int) ∧ (wrap64 (Int.tdiv x 10)).natAbs = x.natAbs / 10 ∧ wrap64 (Int.tdiv x 10) = Int.tdiv x 10 ∧ -9223372036854775808 ≤ Int.tdiv x 10 ∧ Int.tdiv x 10 ≤ 9223372036854775807 := by
  rcases Int.eq_nat_or_neg x with ⟨u, hu | hu⟩
  · subst hu
    have e1 : Int.tmod (u : Int) 10 = ((u % 10 : Nat) : Int) := (Int.ofNat_tmod u 10).symm
    have e2 : Int.tdiv (u : Int) 10 = ((u / 10 : Nat) : Int) := (Int.ofNat_tdiv u 10).symm
    have e3 : (u : Int).natAbs = u := Int.natAbs_natCast u
    have w : wrap64 ((u / 10 : Nat) : Int) = ((u / 10 : Nat) : Int) := by unfold wrap64; omega
    rw [e1, e2, e3, w, if_neg (by omega)]
    refine ⟨?_, ?_, rfl, ?_, ?_⟩ <;> (try unfold wrap64) <;> omega
  · subst hu
    have e1 : Int.tmod (-(u : Int)) 10 = -((u % 10 : Nat) : Int) := by rw [Int.neg_tmod, show Int.tmod (u : Int) 10 = ((u % 10 : Nat) : Int) from (Int.ofNat_tmod u 10).symm]
    have e2 : Int.tdiv (-(u : Int)) 10 = -((u / 10 : Nat) : Int) := by rw [Int.neg_tdiv, show Int.tdiv (u : Int) 10 = ((u / 10 : Nat) : Int) from (Int.ofNat_tdiv u 10).symm]
    have e3 : (-(u : Int)).natAbs = u := by rw [Int.natAbs_neg]; exact Int.natAbs_natCast u
    have w : wrap64 (-((u / 10 : Nat) : Int)) = -((u / 10 : Nat) : Int) := by unfold wrap64; omega
    have w2 : wrap64 (-(-((u % 10 : Nat) : Int))) = ((u % 10 : Nat) : Int) := by unfold wrap64; omega
    rw [e1, e2, e3, w, w2]
    refine ⟨?_, ?_, rfl, ?_, ?_⟩
    · by_cases c : (-((u % 10 : Nat) : Int)) < 0
      · rw [if_pos c]; unfold wrap64; omega
      · rw [if_neg c]; unfold wrap64; omega
    all_goals omega
def digs (u : Nat) : List UInt8 := if u = 0 then [] else Lib.decDigits u
theorem digs_step (u : Nat) (h : u ≠ 0) : digs u = digs (u / 10) ++ [UInt8.ofNat (48 + u % 10)] := by
  unfold digs
  rw [if_neg h, Lib.decDigits]
  by_cases c : u < 10
  · rw [dif_pos c, if_pos (by omega), show u % 10 = u by omega]
    rfl
  · rw [dif_neg c, if_neg (by omega)]
def finN (a0 : Int) (l : List UInt8) : List UInt8 := if a0 < 0 then 45 :: l else l
theorem digs_len : ∀ (j u : Nat), u < 10 ^ j → (digs u).length ≤ j
  | 0, u, h => by
    have : u = 0 := by simp at h; exact h
    subst this
    simp [digs]
  | j + 1, u, h => by
    by_cases c : u = 0
    · subst c
      simp [digs]
    · rw [digs_step u c, List.length_append]
      have := digs_len j (u / 10) (by rw [Nat.pow_succ] at h; omega)
      simp
      omega
theorem numS_l0 (a0 : Int) : ∀ (j k : Nat) (x : Int) (l : List UInt8), x.natAbs < 10 ^ j → j < k → -9223372036854775808 ≤ x → x ≤ 9223372036854775807 → l.length + j ≤ 1000 →
    spec_NumText.l0 k a0 (⟨l.toArray⟩ : ByteArray) x = some (⟨(finN a0 (digs x.natAbs ++ l)).toArray⟩ : ByteArray) := by
  have stop : ∀ (k : Nat) (l : List UInt8), l.length ≤ 1000 → spec_NumText.l0 (k + 1) a0 (⟨l.toArray⟩ : ByteArray) 0 = some (⟨(finN a0 (digs (0 : Int).natAbs ++ l)).toArray⟩ : ByteArray) := by
    intro k l hl
    have hd : digs (0 : Int).natAbs = [] := rfl
    have hs : (⟨l.toArray⟩ : ByteArray).size = l.length := by simp [ByteArray.size]
    rw [hd]
    simp only [spec_NumText.l0, if_true, List.nil_append, finN]
    by_cases c : a0 < 0
    · rw [if_pos c, if_pos (by omega), if_pos c]
      rfl
    · rw [if_neg c, if_neg c]
  intro j
  induction j with
  | zero =>
    intro k x l h hk _ _ hl
    obtain ⟨k, rfl⟩ : ∃ m, k = m + 1 := ⟨k - 1, by omega⟩
    have e : x = 0 := by simp at h; exact h
    subst e
    exact stop k l (by omega)
  | succ j ih =>
    intro k x l h hk h0 h1 hl
    obtain ⟨k, rfl⟩ : ∃ m, k = m + 1 := ⟨k - 1, by omega⟩
    by_cases c : x = 0
    · subst c
      exact stop k l (by omega)
    · obtain ⟨e1, e2, e3, e4, e5⟩ := digW x h0 h1
      have hs : (⟨l.toArray⟩ : ByteArray).size = l.length := by simp [ByteArray.size]
      have hn : x.natAbs ≠ 0 := by omega
      have app : ∀ d : Nat, (strOfNums [(d : Int)]) ++ (⟨l.toArray⟩ : ByteArray) = (⟨(UInt8.ofNat d :: l).toArray⟩ : ByteArray) := by
        intro d
        apply ByteArray.ext
        simp [strOfNums]
      have sz : ∀ d : Nat, (strOfNums [(d : Int)]).size = 1 := by
        intro d
        rw [strOfNums_size]
        rfl
      have R := ih k (Int.tdiv x 10) (UInt8.ofNat (48 + x.natAbs % 10) :: l) (by rw [e3] at e2; rw [e2]; rw [Nat.pow_succ] at h; omega) (by omega) e4 e5 (by simp; omega)
      have G : spec_NumText.l0 k a0 (⟨(UInt8.ofNat (48 + x.natAbs % 10) :: l).toArray⟩ : ByteArray) (Int.tdiv x 10) = some (⟨(finN a0 (digs x.natAbs ++ l)).toArray⟩ : ByteArray) := by
        rw [R]
        rw [e3] at e2
        rw [e2, digs_step x.natAbs hn, List.append_assoc]
        rfl
      simp only [spec_NumText.l0]
      rw [if_neg c]
      by_cases c2 : (Int.tmod x 10) < 0
      · rw [if_pos c2] at e1
        rw [if_pos c2, e1]
        simp only [Option.bind_some]
        rw [if_pos (by rw [sz, hs]; omega), app, e3]
        exact G
      · rw [if_neg c2] at e1
        rw [if_neg c2, e1]
        simp only [Option.bind_some]
        rw [if_pos (by rw [sz, hs]; omega), app, e3]
        exact G
theorem itoa_fin (n : Int) (h : n ≠ 0) : Lib.itoa n = finN n (digs n.natAbs) := by
  unfold Lib.itoa finN digs
  by_cases c : n < 0
  · rw [if_pos c, if_pos c, if_neg (by omega)]
  · rw [if_neg c, if_neg c, if_neg (by omega), show n.toNat = n.natAbs by omega]
theorem numS (n : Int) (h0 : -9223372036854775808 ≤ n) (h1 : n ≤ 9223372036854775807) {k : Nat} (hk : 20 < k) : spec_NumText.f k n = some (⟨(Lib.itoa n).toArray⟩ : ByteArray) := by
  unfold spec_NumText.f
  by_cases c : n = 0
  · rw [if_pos c]
    subst c
    congr 1
    apply ByteArray.ext
    have : Lib.itoa 0 = [48] := by unfold Lib.itoa; rw [if_neg (by decide)]; unfold Lib.decDigits; rfl
    rw [this]
  · rw [if_neg c]
    have := numS_l0 n 20 k n [] (by omega) hk h0 h1 (by decide)
    rw [List.append_nil, ← itoa_fin n c] at this
    exact this
theorem numI (n : Int) (h0 : -9223372036854775808 ≤ n) (h1 : n ≤ 9223372036854775807) : impl_NumText.f n = some (⟨(Lib.itoa n).toArray⟩ : ByteArray) := by
  unfold impl_NumText.f strconv_Itoa.f
  rw [if_pos ⟨h0, h1⟩]
  rfl
def nt (n : Int) : ByteArray := ⟨(Lib.itoa n).toArray⟩
theorem nt_size (n : Int) (h0 : -9223372036854775808 ≤ n) (h1 : n ≤ 9223372036854775807) : (nt n).size ≤ 21 := by
  have := Lib.itoa_length_le n h0 h1
  show (Lib.itoa n).toArray.size ≤ 21
  simpa using this
theorem colon : (⟨#[58]⟩ : ByteArray).size = 1 := rfl
theorem hS (a b : Int) (ha : -9223372036854775808 ≤ a ∧ a ≤ 9223372036854775807) (hb : -9223372036854775808 ≤ b ∧ b ≤ 9223372036854775807) {k : Nat} (hk : 20 < k) : spec_HandleText.f k a b = some (nt a ++ (⟨#[58]⟩ : ByteArray) ++ nt b) := by
  unfold spec_HandleText.f
  rw [numS a ha.1 ha.2 hk, numS b hb.1 hb.2 hk]
  have sa := nt_size a ha.1 ha.2
  have sb := nt_size b hb.1 hb.2
  show (if (nt a).size + 1 ≤ 9223372036854775807 then (if (nt a ++ (⟨#[58]⟩ : ByteArray)).size + (nt b).size ≤ 9223372036854775807 then (some ((nt a ++ (⟨#[58]⟩ : ByteArray)) ++ nt b)) else none) else none) = _
  rw [if_pos (by omega), if_pos (by rw [ByteArray.size_append, colon]; omega)]
theorem hI (a b : Int) (ha : -9223372036854775808 ≤ a ∧ a ≤ 9223372036854775807) (hb : -9223372036854775808 ≤ b ∧ b ≤ 9223372036854775807) : impl_HandleText.f a b = some (nt a ++ (⟨#[58]⟩ : ByteArray) ++ nt b) := by
  unfold impl_HandleText.f
  rw [numI a ha.1 ha.2, numI b hb.1 hb.2]
  have sa := nt_size a ha.1 ha.2
  have sb := nt_size b hb.1 hb.2
  show (if (nt a).size + 1 ≤ 9223372036854775807 then (if (nt a ++ (⟨#[58]⟩ : ByteArray)).size + (nt b).size ≤ 9223372036854775807 then (some ((nt a ++ (⟨#[58]⟩ : ByteArray)) ++ nt b)) else none) else none) = _
  rw [if_pos (by omega), if_pos (by rw [ByteArray.size_append, colon]; omega)]
theorem ht_size (a b : Int) (ha : -9223372036854775808 ≤ a ∧ a ≤ 9223372036854775807) (hb : -9223372036854775808 ≤ b ∧ b ≤ 9223372036854775807) : (nt a ++ (⟨#[58]⟩ : ByteArray) ++ nt b).size ≤ 43 := by
  have sa := nt_size a ha.1 ha.2
  have sb := nt_size b hb.1 hb.2
  rw [ByteArray.size_append, ByteArray.size_append, colon]
  omega
theorem rest_ (h c d : ByteArray) (hh : h.size ≤ 43) (hc : c.size ≤ 21) (hd : d.size ≤ 21) : (if h.size + 1 ≤ 9223372036854775807 then (if (h ++ (⟨#[58]⟩ : ByteArray)).size + c.size ≤ 9223372036854775807 then (if ((h ++ (⟨#[58]⟩ : ByteArray)) ++ c).size + 1 ≤ 9223372036854775807 then (if (((h ++ (⟨#[58]⟩ : ByteArray)) ++ c) ++ (⟨#[58]⟩ : ByteArray)).size + d.size ≤ 9223372036854775807 then (some ((((h ++ (⟨#[58]⟩ : ByteArray)) ++ c) ++ (⟨#[58]⟩ : ByteArray)) ++ d)) else (none)) else (none)) else (none)) else (none)) = some ((((h ++ (⟨#[58]⟩ : ByteArray)) ++ c) ++ (⟨#[58]⟩ : ByteArray)) ++ d) := by
  rw [if_pos (by omega), if_pos (by rw [ByteArray.size_append, colon]; omega), if_pos (by rw [ByteArray.size_append, ByteArray.size_append, colon]; omega), if_pos (by rw [ByteArray.size_append, ByteArray.size_append, ByteArray.size_append, colon]; omega)]
def rt (a b c d : Int) : ByteArray := ((((nt a ++ (⟨#[58]⟩ : ByteArray) ++ nt b) ++ (⟨#[58]⟩ : ByteArray)) ++ nt c) ++ (⟨#[58]⟩ : ByteArray)) ++ nt d
theorem rS (a b c d : Int) (ha : -9223372036854775808 ≤ a ∧ a ≤ 9223372036854775807) (hb : -9223372036854775808 ≤ b ∧ b ≤ 9223372036854775807) (hc : -9223372036854775808 ≤ c ∧ c ≤ 9223372036854775807) (hd : -9223372036854775808 ≤ d ∧ d ≤ 9223372036854775807) {k : Nat} (hk : 20 < k) : spec_RefText.f k a b c d = some (rt a b c d) := by
  unfold spec_RefText.f
  rw [hS a b ha hb hk, numS c hc.1 hc.2 hk, numS d hd.1 hd.2 hk]
  exact rest_ _ (nt c) (nt d) (ht_size a b ha hb) (nt_size c hc.1 hc.2) (nt_size d hd.1 hd.2)
theorem rI (a b c d : Int) (ha : -9223372036854775808 ≤ a ∧ a ≤ 9223372036854775807) (hb : -9223372036854775808 ≤ b ∧ b ≤ 9223372036854775807) (hc : -9223372036854775808 ≤ c ∧ c ≤ 9223372036854775807) (hd : -9223372036854775808 ≤ d ∧ d ≤ 9223372036854775807) : impl_RefText.f a b c d = some (rt a b c d) := by
  unfold impl_RefText.f
  rw [hI a b ha hb, numI c hc.1 hc.2, numI d hd.1 hd.2]
  exact rest_ _ (nt c) (nt d) (ht_size a b ha hb) (nt_size c hc.1 hc.2) (nt_size d hd.1 hd.2)
theorem code_same (a : Int) : spec_CodeName.f a = impl_CodeName.f a := by
  unfold spec_CodeName.f impl_CodeName.f spec_l1In.f impl_within.f impl_CodeName.names
  simp only [Option.bind_some]
  by_cases h0 : a ≥ 0
  · simp only [if_pos h0, Option.bind_some]
    have e1 : wrap64 ((([(⟨#[111, 107]⟩ : ByteArray), (⟨#[102, 111, 114, 109]⟩ : ByteArray), (⟨#[115, 116, 97, 108, 101]⟩ : ByteArray), (⟨#[100, 101, 101, 112]⟩ : ByteArray), (⟨#[114, 111, 111, 109, 115]⟩ : ByteArray), (⟨#[102, 117, 108, 108]⟩ : ByteArray), (⟨#[102, 114, 97, 103]⟩ : ByteArray), (⟨#[114, 97, 110, 103, 101]⟩ : ByteArray), (⟨#[109, 97, 110, 121]⟩ : ByteArray)] : List ByteArray).length : Int) - 1) = 8 := by simp only [List.length_cons, List.length_nil]; unfold wrap64; omega
    rw [e1]
    by_cases h1 : a ≤ 8
    · have h0' : 0 ≤ a := h0
      have h2 : a < ((([(⟨#[111, 107]⟩ : ByteArray), (⟨#[102, 111, 114, 109]⟩ : ByteArray), (⟨#[115, 116, 97, 108, 101]⟩ : ByteArray), (⟨#[100, 101, 101, 112]⟩ : ByteArray), (⟨#[114, 111, 111, 109, 115]⟩ : ByteArray), (⟨#[102, 117, 108, 108]⟩ : ByteArray), (⟨#[102, 114, 97, 103]⟩ : ByteArray), (⟨#[114, 97, 110, 103, 101]⟩ : ByteArray), (⟨#[109, 97, 110, 121]⟩ : ByteArray)] : List ByteArray).length : Nat) : Int) := by
        simp only [List.length_cons, List.length_nil]; omega
      simp only [decide_eq_true h1, if_true, if_pos h2]
    · rw [decide_eq_false h1, if_neg Bool.false_ne_true, if_neg Bool.false_ne_true]
  · simp only [if_neg h0, Option.bind_some, if_neg Bool.false_ne_true]
theorem code_some (a : Int) : ∃ r, impl_CodeName.f a = some r := by
  unfold impl_CodeName.f impl_within.f
  by_cases h0 : a ≥ 0
  · rw [if_pos h0, Option.bind_some]
    by_cases h1 : decide (a ≤ 8) = true
    · rw [if_pos h1]; exact ⟨_, rfl⟩
    · rw [if_neg h1]; exact ⟨_, rfl⟩
  · rw [if_neg h0, Option.bind_some, if_neg Bool.false_ne_true]; exact ⟨_, rfl⟩
def vf (acc : Nat) : List UInt8 → Option Nat
  | [] => some acc
  | c :: r => if 48 ≤ c.toNat ∧ c.toNat ≤ 57 then vf (acc * 10 + (c.toNat - 48)) r else none
/-- The number of a text, and whether it has one. -/
def pn (l : List UInt8) : Int × Bool :=
  if 1 ≤ l.length ∧ l.length ≤ 10 then
    match vf 0 l with
    | none => (0, false)
    | some u => if u ≤ 1000000000 ∧ Lib.itoa (u : Int) = l then ((u : Int), true) else (0, false)
  else (0, false)
theorem vf_mono : ∀ (l : List UInt8) (acc u : Nat), vf acc l = some u → acc ≤ u
  | [], acc, u, h => by
    simp only [vf, Option.some.injEq] at h
    omega
  | c :: r, acc, u, h => by
    simp only [vf] at h
    by_cases k : 48 ≤ c.toNat ∧ c.toNat ≤ 57
    · rw [if_pos k] at h
      have := vf_mono r _ u h
      omega
    · rw [if_neg k] at h
      cases h
theorem vf_parse : ∀ (l : List UInt8) (acc u : Nat), vf acc l = some u → u ≤ 1000000000 → Lib.parseUint10 acc l = .ok u
  | [], acc, u, h, _ => by
    simp only [vf, Option.some.injEq] at h
    rw [h]
    rfl
  | c :: r, acc, u, h, hu => by
    simp only [vf] at h
    by_cases k : 48 ≤ c.toNat ∧ c.toNat ≤ 57
    · rw [if_pos k] at h
      have := vf_mono r _ u h
      simp only [Lib.parseUint10]
      rw [if_pos k, if_neg (by omega), if_neg (by omega)]
      exact vf_parse r _ u h hu
    · rw [if_neg k] at h
      cases h
theorem vf_atoi (l : List UInt8) (u : Nat) (h : vf 0 l = some u) (hu : u ≤ 1000000000) (hl : 1 ≤ l.length) : Lib.atoiAll l = .ok (u : Int) := by
  cases l with
  | nil => exact absurd hl (by decide)
  | cons c r =>
    have p := vf_parse (c :: r) 0 u h hu
    have k : 48 ≤ c.toNat ∧ c.toNat ≤ 57 := by
      simp only [vf] at h
      by_cases k : 48 ≤ c.toNat ∧ c.toNat ≤ 57
      · exact k
      · rw [if_neg k] at h
        cases h
    have n1 : ¬ (c.toNat = 43 ∨ c.toNat = 45) := by omega
    have n2 : ¬ c.toNat = 45 := by omega
    have e : Lib.parseMag (c :: r) = .ok u := by
      unfold Lib.parseMag
      rw [if_neg (by simp)]
      exact p
    unfold Lib.atoiAll
    simp only [if_neg n1, e]
    rw [if_neg (by omega), if_neg (fun x => n2 x.1), if_neg n2]
theorem vf_append : ∀ (a b : List UInt8) (acc : Nat), vf acc (a ++ b) = (vf acc a).bind fun x => vf x b
  | [], b, acc => rfl
  | c :: r, b, acc => by
    simp only [List.cons_append, vf]
    by_cases k : 48 ≤ c.toNat ∧ c.toNat ≤ 57
    · rw [if_pos k, if_pos k]
      exact vf_append r b _
    · rw [if_neg k, if_neg k]
      rfl
theorem dig_toNat (d : Nat) (h : d < 10) : (UInt8.ofNat (48 + d)).toNat = 48 + d := by
  simp only [UInt8.toNat_ofNat']
  omega
theorem vf_one (acc d : Nat) (h : d < 10) : vf acc [UInt8.ofNat (48 + d)] = some (acc * 10 + d) := by
  simp only [vf]
  rw [dig_toNat d h, if_pos (by omega), show 48 + d - 48 = d by omega]
theorem vf_dec (u : Nat) : vf 0 (Lib.decDigits u) = some u := by
  induction u using Nat.strongRecOn with
  | _ u ih =>
    rw [Lib.decDigits]
    by_cases h : u < 10
    · rw [dif_pos h, vf_one 0 u h]
      congr 1
      omega
    · rw [dif_neg h, vf_append, ih (u / 10) (by omega), Option.bind_some, vf_one _ _ (by omega)]
      congr 1
      omega
theorem dec_len (u : Nat) (h : u ≤ 1000000000) : 1 ≤ (Lib.decDigits u).length ∧ (Lib.decDigits u).length ≤ 10 := by
  refine ⟨by rw [Lib.decDigits_length]; exact Lib.nDigits_pos u, ?_⟩
  by_cases c : u = 0
  · subst c
    rw [Lib.decDigits, dif_pos (by decide)]
    decide
  · have := digs_len 10 u (by omega)
    unfold digs at this
    rw [if_neg c] at this
    exact this
theorem itoa_nat (u : Nat) : Lib.itoa (u : Int) = Lib.decDigits u := by
  unfold Lib.itoa
  rw [if_neg (by omega), Int.toNat_natCast]
theorem pn_dec (u : Nat) (h : u ≤ 1000000000) : pn (Lib.itoa (u : Int)) = ((u : Int), true) := by
  have hl := dec_len u h
  unfold pn
  rw [itoa_nat, if_pos hl, vf_dec]
  simp only
  rw [if_pos ⟨h, itoa_nat u⟩]
theorem pn_no (l : List UInt8) (h : ∀ u : Nat, u ≤ 1000000000 → Lib.itoa (u : Int) ≠ l) : pn l = (0, false) := by
  unfold pn
  by_cases c : 1 ≤ l.length ∧ l.length ≤ 10
  · rw [if_pos c]
    cases e : vf 0 l with
    | none => rfl
    | some u =>
      simp only
      rw [if_neg (fun x => h u x.1 x.2)]
  · rw [if_neg c]
theorem pn_yes (l : List UInt8) (v : Int) (h : pn l = (v, true)) : 0 ≤ v ∧ v ≤ 1000000000 ∧ Lib.itoa v = l := by
  by_cases c : ∃ u : Nat, u ≤ 1000000000 ∧ Lib.itoa (u : Int) = l
  · obtain ⟨u, hu, e⟩ := c
    rw [← e, pn_dec u hu] at h
    have hv : (u : Int) = v := (Prod.mk.injEq _ _ _ _ ▸ h).1
    rw [← hv]
    exact ⟨by omega, by omega, e⟩
  · rw [pn_no l (fun u hu e => c ⟨u, hu, e⟩)] at h
    have : false = true := (Prod.mk.injEq _ _ _ _ ▸ h).2
    cases this
theorem pn_range (l : List UInt8) : 0 ≤ (pn l).1 ∧ (pn l).1 ≤ 1000000000 := by
  by_cases c : ∃ u : Nat, u ≤ 1000000000 ∧ Lib.itoa (u : Int) = l
  · obtain ⟨u, hu, e⟩ := c
    rw [← e, pn_dec u hu]
    exact ⟨by simp, by simp; omega⟩
  · rw [pn_no l (fun u hu e => c ⟨u, hu, e⟩)]
    exact ⟨by decide, by decide⟩
theorem parseI (s : ByteArray) (hs : s.size ≤ 140737488355328) : impl_ParseNum.f s = some (pn s.data.toList) := by
  unfold impl_ParseNum.f
  rw [if_pos hs]
  have no : ∀ u : Nat, u ≤ 1000000000 → Lib.itoa (u : Int) = s.data.toList → Lib.atoiAll s.data.toList = .ok (u : Int) := by
    intro u hu e
    rw [← e, itoa_nat]
    exact vf_atoi _ u (vf_dec u) hu (dec_len u hu).1
  cases hA : Lib.atoiAll s.data.toList with
  | «syntax» =>
    simp only
    rw [pn_no _ (fun u hu e => by have := no u hu e; rw [hA] at this; cases this)]
  | range =>
    simp only
    rw [pn_no _ (fun u hu e => by have := no u hu e; rw [hA] at this; cases this)]
  | ok v =>
    simp only
    by_cases c1 : v < 0
    · rw [if_pos c1, pn_no _ (fun u hu e => by have := no u hu e; rw [hA] at this; injection this with this; omega)]
    · rw [if_neg c1]
      by_cases c2 : v > 1000000000
      · rw [if_pos c2, pn_no _ (fun u hu e => by have := no u hu e; rw [hA] at this; injection this with this; omega)]
      · rw [if_neg c2, numI v (by omega) (by omega), Option.bind_some]
        obtain ⟨u, rfl⟩ : ∃ u : Nat, v = (u : Int) := ⟨v.toNat, by omega⟩
        have e1 : (⟨(Lib.itoa (u : Int)).toArray⟩ : ByteArray).toList = Lib.itoa (u : Int) := by rw [Lib.toList_data]
        rw [e1, Lib.toList_data]
        by_cases c3 : Lib.itoa (u : Int) = s.data.toList
        · rw [if_pos c3, ← c3, pn_dec u (by omega)]
        · rw [if_neg c3, pn_no _ (fun u' hu e => by have := no u' hu e; rw [hA] at this; injection this with this; exact c3 (this ▸ e))]
theorem l1in (x a b : Int) : spec_l1In.f x a b = some (decide (a ≤ x ∧ x ≤ b)) := by
  unfold spec_l1In.f
  by_cases c1 : x ≥ a
  · by_cases c2 : x ≤ b
    · have c3 : a ≤ x ∧ x ≤ b := ⟨c1, c2⟩
      simp [c1, c2]
    · have c3 : ¬ (a ≤ x ∧ x ≤ b) := fun h => c2 h.2
      simp [c1, c2]
  · have c3 : ¬ a ≤ x := c1
    simp [c3]
theorem byte_drop (s : ByteArray) (i : Nat) (h : i < s.size) : ∃ c : UInt8, s.data.toList.drop i = c :: s.data.toList.drop (i + 1) ∧ bt s (i : Int) = (c.toNat : Int) := by
  have hl : i < s.data.toList.length := by rw [Array.length_toList]; exact h
  refine ⟨s.data.toList[i], List.drop_eq_getElem_cons hl, ?_⟩
  unfold bt
  rw [dif_pos (by rw [Int.toNat_natCast]; exact h)]
  simp only [Int.toNat_natCast, Array.getElem_toList]
  rfl
theorem pw10 (acc i : Nat) (hi : i ≤ 10) (h : acc < 10 ^ i) : acc < 10000000000 := Nat.lt_of_lt_of_le h (Nat.pow_le_pow_right (n := 10) (by decide) hi)
theorem pw_step (acc c i : Nat) (h : acc < 10 ^ i) (hc : c ≤ 57) : acc * 10 + (c - 48) < 10 ^ (i + 1) := by
  rw [Nat.pow_succ]
  generalize 10 ^ i = p at h ⊢
  omega
theorem dig_step (acc c : Nat) (ha : acc < 10000000000) (h : 48 ≤ c ∧ c ≤ 57) : wrap64 ((wrap64 (10 * (acc : Int))) + ((((c : Nat) : Int) - 48) % 256)) = ((acc * 10 + (c - 48) : Nat) : Int) := by
  unfold wrap64
  omega
theorem wrap_nat (i : Nat) (h : i ≤ 1000000000000) : wrap64 (i : Int) = (i : Int) := by
  unfold wrap64
  omega
theorem in_facts (i n d k : Nat) (hs : n ≤ 10) (hd : n - i = d + 1) (hk : d + 1 + 21 < k + 1) : n - (i + 1) = d ∧ i + 1 ≤ n ∧ d + 21 < k ∧ i < n ∧ (i : Int) < (n : Int) ∧ 0 ≤ (i : Int) ∧ i ≤ 10 := by omega
theorem out_facts (i n k : Nat) (hs : n ≤ 10) (hd : n - i = 0) (hi : i ≤ n) (hk : 0 + 21 < k + 1) : n ≤ i ∧ ¬ (i : Int) < (n : Int) ∧ i ≤ 10 ∧ 20 < k := by omega
theorem acc_facts (acc : Nat) (h : acc < 10000000000) : -9223372036854775808 ≤ (acc : Int) ∧ (acc : Int) ≤ 9223372036854775807 ∧ ((acc : Int) > 1000000000 ↔ ¬ acc ≤ 1000000000) := by omega
theorem dig_iff (c : Nat) : (48 ≤ c ∧ c ≤ 57) ↔ ((48 : Int) ≤ (c : Int) ∧ (c : Int) ≤ 57) := by omega
theorem u8_small (c : UInt8) : c.toNat ≤ 1000000000000 := Nat.le_of_lt (Nat.lt_of_lt_of_le c.toNat_lt (by decide))
theorem parse_l0 (s : ByteArray) (hs : s.size ≤ 10) : ∀ (d i k acc : Nat), s.size - i = d → i ≤ s.size → d + 21 < k → acc < 10 ^ i →
    spec_ParseNum.l0 k s (acc : Int) (i : Int) = some (match vf acc (s.data.toList.drop i) with
      | none => (0, false)
      | some u => if u ≤ 1000000000 ∧ Lib.itoa (u : Int) = s.data.toList then ((u : Int), true) else (0, false)) := by
  intro d
  induction d with
  | zero =>
    intro i k acc hd hi hk ha
    cases k with
    | zero => exact absurd hk (Nat.not_lt_zero _)
    | succ k =>
    obtain ⟨f1, f2, f3, f4⟩ := out_facts i s.size k hs hd hi hk
    obtain ⟨g1, g2, g3⟩ := acc_facts acc (pw10 acc i f3 ha)
    have hl : s.data.toList.length = s.size := by rw [Array.length_toList]; rfl
    rw [List.drop_eq_nil_of_le (by rw [hl]; exact f1)]
    simp only [spec_ParseNum.l0, vf]
    rw [if_neg f2]
    by_cases c : (acc : Int) > 1000000000
    · rw [if_pos c, if_neg (fun h => g3.mp c h.1)]
    · rw [if_neg c, numS (acc : Int) g1 g2 f4, Option.bind_some]
      have e1 : (⟨(Lib.itoa (acc : Int)).toArray⟩ : ByteArray).toList = Lib.itoa (acc : Int) := by rw [Lib.toList_data]
      rw [e1, Lib.toList_data]
      by_cases c3 : Lib.itoa (acc : Int) = s.data.toList
      · rw [if_pos c3, if_pos ⟨Decidable.not_not.mp (fun h => c (g3.mpr h)), c3⟩]
      · rw [if_neg c3, if_neg (fun h => c3 h.2)]
  | succ d ih =>
    intro i k acc hd hi hk ha
    cases k with
    | zero => exact absurd hk (Nat.not_lt_zero _)
    | succ k =>
    obtain ⟨a1, a2, a3, a4, a5, a6, a7⟩ := in_facts i s.size d k hs hd hk
    obtain ⟨c, e1, e2⟩ := byte_drop s i a4
    rw [e1]
    simp only [spec_ParseNum.l0, vf]
    rw [if_pos a5, if_pos a6, e2, wrap_nat _ (u8_small c), l1in, Option.bind_some]
    by_cases h : 48 ≤ c.toNat ∧ c.toNat ≤ 57
    · have q2 : wrap64 ((i : Int) + 1) = ((i + 1 : Nat) : Int) := wrap_nat (i + 1) (Nat.le_trans (Nat.succ_le_succ a7) (by decide))
      rw [if_pos (by rw [decide_eq_true_iff]; exact (dig_iff _).mp h), if_pos h, dig_step acc c.toNat (pw10 acc i a7 ha) h, q2]
      exact ih (i + 1) k _ a1 a2 a3 (pw_step acc c.toNat i ha h.2)
    · rw [if_neg (by rw [decide_eq_true_iff]; exact fun x => h ((dig_iff _).mpr x)), if_neg h]
theorem len_iff (n : Nat) : (1 ≤ n ∧ n ≤ 10) ↔ ((1 : Int) ≤ (n : Int) ∧ (n : Int) ≤ 10) := by omega
theorem fuel_ok (n k : Nat) (h : n ≤ 10) (hk : 40 < k) : n + 21 < k := by omega
theorem parseS (s : ByteArray) {k : Nat} (hk : 40 < k) : spec_ParseNum.f k s = some (pn s.data.toList) := by
  have hl : s.data.toList.length = s.size := by rw [Array.length_toList]; rfl
  unfold spec_ParseNum.f pn
  rw [l1in, Option.bind_some, hl]
  by_cases h : 1 ≤ s.size ∧ s.size ≤ 10
  · rw [if_pos (by rw [decide_eq_true_iff]; exact (len_iff _).mp h), if_pos h]
    have := parse_l0 s h.2 s.size 0 k 0 (Nat.sub_zero _) (Nat.zero_le _) (fuel_ok _ _ h.2 hk) (by decide)
    rw [List.drop_zero] at this
    exact this
  · rw [if_neg (by rw [decide_eq_true_iff]; exact fun x => h ((len_iff _).mpr x)), if_neg h]
theorem itoa_pn (n : Int) (u : Nat) (h : Lib.itoa (u : Int) = Lib.itoa n) : n = (u : Int) := by
  have e := vf_dec u
  rw [← itoa_nat, h] at e
  by_cases c : n < 0
  · unfold Lib.itoa at e
    rw [if_pos c] at e
    simp only [vf] at e
    rw [if_neg (by decide)] at e
    cases e
  · obtain ⟨m, rfl⟩ : ∃ m : Nat, n = (m : Int) := ⟨n.toNat, by omega⟩
    rw [itoa_nat, vf_dec] at e
    rw [Option.some.inj e]
theorem pn_in (n : Int) (h0 : 0 ≤ n) (h1 : n ≤ 1000000000) : pn (Lib.itoa n) = (n, true) := by
  obtain ⟨m, rfl⟩ : ∃ m : Nat, n = (m : Int) := ⟨n.toNat, by omega⟩
  exact pn_dec m (by omega)
theorem pn_out (n : Int) (h : ¬ (0 ≤ n ∧ n ≤ 1000000000)) : pn (Lib.itoa n) = (0, false) := by
  refine pn_no _ fun u hu e => h ?_
  have := itoa_pn n u e
  omega
/-- All pieces of a text between colons; acc: the piece so far. -/
def spj (acc : List UInt8) : List UInt8 → List (List UInt8)
  | [] => [acc]
  | c :: r => if c = 58 then acc :: spj [] r else spj (acc ++ [c]) r
/-- The same, cut at most k times. -/
def spk : Nat → List UInt8 → List UInt8 → List (List UInt8)
  | 0, acc, l => [acc ++ l]
  | _ + 1, acc, [] => [acc]
  | k + 1, acc, c :: r => if c = 58 then acc :: spk k [] r else spk (k + 1) (acc ++ [c]) r
theorem spj_pos : ∀ (l acc : List UInt8), 1 ≤ (spj acc l).length
  | [], _ => by simp [spj]
  | c :: r, acc => by
    simp only [spj]
    by_cases h : c = 58
    · rw [if_pos h]; simp
    · rw [if_neg h]; exact spj_pos r _
theorem spk_eq : ∀ (l : List UInt8) (k : Nat) (acc : List UInt8), (spj acc l).length ≤ k + 1 → spk k acc l = spj acc l
  | [], 0, acc, _ => by simp [spk, spj]
  | [], k + 1, acc, _ => rfl
  | c :: r, 0, acc, h => by
    simp only [spj] at h ⊢
    have e0 : spk 0 acc (c :: r) = [acc ++ c :: r] := rfl
    rw [e0]
    by_cases hc : c = 58
    · rw [if_pos hc] at h
      have h1 := spj_pos r []
      rw [List.length_cons] at h
      omega
    · rw [if_neg hc] at h ⊢
      have := spk_eq r 0 (acc ++ [c]) h
      rw [← this]
      simp [spk]
  | c :: r, k + 1, acc, h => by
    simp only [spj] at h ⊢
    simp only [spk]
    by_cases hc : c = 58
    · rw [if_pos hc] at h ⊢
      rw [if_pos hc, spk_eq r k [] (by simp at h; omega)]
    · rw [if_neg hc] at h ⊢
      rw [if_neg hc, spk_eq r (k + 1) (acc ++ [c]) h]
theorem spk_len : ∀ (l : List UInt8) (k : Nat) (acc : List UInt8), k + 1 ≤ (spj acc l).length → (spk k acc l).length = k + 1
  | l, 0, acc, _ => by cases l <;> simp [spk]
  | [], k + 1, acc, h => by simp [spj] at h
  | c :: r, k + 1, acc, h => by
    simp only [spj] at h
    simp only [spk]
    by_cases hc : c = 58
    · rw [if_pos hc] at h ⊢
      simp only [List.length_cons] at h ⊢
      rw [spk_len r k [] (by omega)]
    · rw [if_neg hc] at h ⊢
      exact spk_len r (k + 1) _ h
/-- How the library's search for one byte meets a text, byte by byte. -/
theorem idx_colon (c : UInt8) (r : List UInt8) : Lib.index (c :: r) [58] = if c = 58 then 0 else if Lib.index r [58] == -1 then -1 else Lib.index r [58] + 1 := by
  rw [Lib.index]
  by_cases h : c = 58
  · subst h
    rw [if_pos (by simp [List.isPrefixOf]), if_pos rfl]
  · rw [if_neg (by simp [List.isPrefixOf]; exact fun e => h e.symm), if_neg h]
theorem spk_splitK (l : List UInt8) : ∀ (k : Nat) (acc : List UInt8), spk k acc l = (match Lib.splitK [58] 0 k l with | [] => [] | p :: q => (acc ++ p) :: q) := by
  induction l with
  | nil =>
    intro k acc
    cases k with
    | zero => simp [spk, Lib.splitK]
    | succ k => simp [spk, Lib.splitK, Lib.index]
  | cons c r ih =>
    intro k acc
    cases k with
    | zero => simp [spk, Lib.splitK]
    | succ k =>
      simp only [spk, Lib.splitK]
      rw [idx_colon]
      by_cases hc : c = 58
      · rw [if_pos hc, if_pos hc]
        have e : ((0 : Int) == -1) = false := rfl
        simp only [e, Bool.false_eq_true, if_false]
        have := ih k []
        simp only [List.nil_append] at this
        have e2 : Lib.splitK [58] 0 k r = spk k [] r := by
          rw [this]
          cases Lib.splitK [58] 0 k r <;> rfl
        simp [e2]
      · rw [if_neg hc, if_neg hc, ih (k + 1) (acc ++ [c])]
        simp only [Lib.splitK]
        by_cases hm : Lib.index r [58] == -1
        · simp [hm]
        · have h0 := Lib.index_ge r [58]
          have hne : Lib.index r [58] ≠ -1 := fun e => hm (beq_iff_eq.mpr e)
          have hm2 : ¬ (Lib.index r [58] + 1 == -1) = true := fun e => by have := beq_iff_eq.mp e; omega
          obtain ⟨j, hj⟩ : ∃ j : Nat, Lib.index r [58] = (j : Int) := ⟨(Lib.index r [58]).toNat, by omega⟩
          have e1 : (Lib.index r [58] + 1).toNat = j + 1 := by omega
          have e2 : (Lib.index r [58]).toNat = j := by omega
          have hmb : (Lib.index r [58] == -1) = false := by simpa using hm
          have hmb2 : (Lib.index r [58] + 1 == -1) = false := by simpa using hm2
          simp only [hmb, hmb2, Bool.false_eq_true, if_false, e1, e2]
          simp
/-- The numbers of pieces, if all have one. -/
def allv : List (List UInt8) → Option (List Int)
  | [] => some []
  | p :: r => if (pn p).2 = true then (allv r).map ((pn p).1 :: ·) else none
theorem allv_len : ∀ (Q : List (List UInt8)) (v : List Int), allv Q = some v → v.length = Q.length
  | [], v, h => by
    simp only [allv, Option.some.injEq] at h
    rw [← h]; rfl
  | p :: r, v, h => by
    simp only [allv] at h
    by_cases c : (pn p).2 = true
    · rw [if_pos c] at h
      cases e : allv r with
      | none => rw [e] at h; cases h
      | some u =>
        rw [e] at h
        simp only [Option.map_some, Option.some.injEq] at h
        rw [← h, List.length_cons, List.length_cons, allv_len r u e]
    · rw [if_neg c] at h; cases h
theorem allv_mem : ∀ (Q : List (List UInt8)) (v : List Int), allv Q = some v → ∀ z, z ∈ v → 0 ≤ z ∧ z ≤ 1000000000
  | [], v, h => by
    simp only [allv, Option.some.injEq] at h
    rw [← h]
    intro z hz
    simp at hz
  | p :: r, v, h => by
    simp only [allv] at h
    by_cases c : (pn p).2 = true
    · rw [if_pos c] at h
      cases e : allv r with
      | none => rw [e] at h; cases h
      | some u =>
        rw [e] at h
        simp only [Option.map_some, Option.some.injEq] at h
        rw [← h]
        intro z hz
        rcases List.mem_cons.mp hz with rfl | hz
        · exact pn_range p
        · exact allv_mem r u e z hz
    · rw [if_neg c] at h; cases h
/-- What a walk over pieces hands back. -/
def outp (n : Int) (acc : List Int) (Q : List (List UInt8)) (x : List Int × Bool) : Prop :=
  (∀ v, allv Q = some v → x = (acc ++ v, (((acc ++ v).length : Int) == n))) ∧ (allv Q = none → x.2 = false)
theorem outp_nil (n : Int) (acc : List Int) : outp n acc [] (acc, ((acc.length : Int) == n)) := by
  refine ⟨fun v h => ?_, fun h => by cases h⟩
  simp only [allv, Option.some.injEq] at h
  rw [← h, List.append_nil]
theorem outp_no (n : Int) (acc : List Int) (p : List UInt8) (r : List (List UInt8)) (y : List Int) (h : ¬ (pn p).2 = true) : outp n acc (p :: r) (y, false) := by
  refine ⟨fun v h2 => ?_, fun _ => rfl⟩
  simp only [allv] at h2
  rw [if_neg h] at h2
  cases h2
theorem outp_step (n : Int) (acc : List Int) (p : List UInt8) (r : List (List UInt8)) (x : List Int × Bool) (h : (pn p).2 = true) (g : outp n (acc ++ [(pn p).1]) r x) : outp n acc (p :: r) x := by
  obtain ⟨g1, g2⟩ := g
  have e : allv (p :: r) = (allv r).map ((pn p).1 :: ·) := by simp only [allv]; rw [if_pos h]
  refine ⟨fun v h2 => ?_, fun h2 => ?_⟩
  · rw [e] at h2
    cases e3 : allv r with
    | none => rw [e3] at h2; cases h2
    | some u =>
      rw [e3] at h2
      simp only [Option.map_some, Option.some.injEq] at h2
      have := g1 u e3
      rw [this, ← h2]
      simp
  · rw [e] at h2
    cases e3 : allv r with
    | none => exact g2 e3
    | some u => rw [e3] at h2; cases h2
theorem rd_piece (P : List ByteArray) (i : Nat) (h : i < P.length) : ∃ p, P.drop i = p :: P.drop (i + 1) ∧ rdOf ByteArray.empty P (i : Int) = p ∧ p ∈ P := by
  refine ⟨P[i], List.drop_eq_getElem_cons h, ?_, List.getElem_mem h⟩
  unfold rdOf
  rw [Int.toNat_natCast, List.getD_eq_getElem?_getD, List.getElem?_eq_getElem h, Option.getD_some]
theorem walk_facts (i n d k : Nat) (hn : n ≤ 2000000) (hd : n - i = d + 1) (hk : d + 1 + 41 < k + 1) : n - (i + 1) = d ∧ i + 1 ≤ n ∧ d + 41 < k ∧ i < n ∧ (i : Int) < (n : Int) ∧ 0 ≤ (i : Int) ∧ i + 1 ≤ 1000000000000 ∧ 40 < k := by omega
theorem room_ok (a i n : Nat) (ha : a ≤ i) (hi : i < n) (hn : n ≤ 2000000) : a < 17592186044416 ∧ a + 1 ≤ i + 1 := by omega
theorem end_facts (i n : Nat) (hd : n - i = 0) (hi : i ≤ n) : n ≤ i ∧ ¬ (i : Int) < (n : Int) := by omega
theorem numsS (n : Int) (P : List ByteArray) (hP : P.length ≤ 2000000) : ∀ (d i k : Nat) (acc : List Int), P.length - i = d → i ≤ P.length → d + 41 < k → acc.length ≤ i →
    ∃ x, spec_l6Nums.l0 k n P acc (i : Int) = some x ∧ outp n acc ((P.drop i).map (·.data.toList)) x := by
  intro d
  induction d with
  | zero =>
    intro i k acc hd hi hk ha
    cases k with
    | zero => exact absurd hk (Nat.not_lt_zero _)
    | succ k =>
    obtain ⟨f1, f2⟩ := end_facts i P.length hd hi
    simp only [spec_l6Nums.l0]
    rw [if_neg f2, List.drop_eq_nil_of_le f1]
    exact ⟨_, rfl, outp_nil _ _⟩
  | succ d ih =>
    intro i k acc hd hi hk ha
    cases k with
    | zero => exact absurd hk (Nat.not_lt_zero _)
    | succ k =>
    obtain ⟨a1, a2, a3, a4, a5, a6, a7, a8⟩ := walk_facts i P.length d k hP hd hk
    obtain ⟨p, e1, e2, _⟩ := rd_piece P i a4
    obtain ⟨r1, r2⟩ := room_ok acc.length i P.length ha a4 hP
    simp only [spec_l6Nums.l0]
    rw [if_pos a5, if_pos a6, e2, parseS p a8, Option.bind_some, e1, List.map_cons]
    by_cases c : (pn p.data.toList).2 = true
    · have q2 : wrap64 ((i : Int) + 1) = ((i + 1 : Nat) : Int) := wrap_nat (i + 1) a7
      rw [if_pos c, if_pos r1, q2]
      obtain ⟨x, h1, h2⟩ := ih (i + 1) k (acc ++ [(pn p.data.toList).1]) a1 a2 a3 (by rw [List.length_append]; exact r2)
      exact ⟨x, h1, outp_step _ _ _ _ _ c h2⟩
    · rw [if_neg c]
      exact ⟨_, rfl, outp_no _ _ _ _ _ c⟩
theorem numsI (n : Int) (P : List ByteArray) (hP : P.length ≤ 2000000) (hp : ∀ p, p ∈ P → p.size ≤ 140737488355328) : ∀ (d i k : Nat) (acc : List Int), P.length - i = d → i ≤ P.length → d + 41 < k → acc.length ≤ i →
    ∃ x, impl_parseNums.l0 k n acc P (P.length : Int) (i : Int) = some x ∧ outp n acc ((P.drop i).map (·.data.toList)) x := by
  intro d
  induction d with
  | zero =>
    intro i k acc hd hi hk ha
    cases k with
    | zero => exact absurd hk (Nat.not_lt_zero _)
    | succ k =>
    obtain ⟨f1, f2⟩ := end_facts i P.length hd hi
    simp only [impl_parseNums.l0]
    rw [if_neg f2, List.drop_eq_nil_of_le f1]
    exact ⟨_, rfl, outp_nil _ _⟩
  | succ d ih =>
    intro i k acc hd hi hk ha
    cases k with
    | zero => exact absurd hk (Nat.not_lt_zero _)
    | succ k =>
    obtain ⟨a1, a2, a3, a4, a5, a6, a7, a8⟩ := walk_facts i P.length d k hP hd hk
    obtain ⟨p, e1, e2, e3⟩ := rd_piece P i a4
    obtain ⟨r1, r2⟩ := room_ok acc.length i P.length ha a4 hP
    simp only [impl_parseNums.l0]
    rw [if_pos a5, if_pos a6, if_pos a5, e2, parseI p (hp p e3), Option.bind_some, e1, List.map_cons]
    by_cases c : (pn p.data.toList).2 = true
    · have q2 : wrap64 ((i : Int) + 1) = ((i + 1 : Nat) : Int) := wrap_nat (i + 1) a7
      rw [if_pos c, if_pos r1, q2]
      obtain ⟨x, h1, h2⟩ := ih (i + 1) k (acc ++ [(pn p.data.toList).1]) a1 a2 a3 (by rw [List.length_append]; exact r2)
      exact ⟨x, h1, outp_step _ _ _ _ _ c h2⟩
    · rw [if_neg c]
      exact ⟨_, rfl, outp_no _ _ _ _ _ c⟩
theorem byte58 (c : UInt8) : ((c.toNat : Int) = 58) ↔ c = 58 := by
  constructor
  · intro h
    have : c.toNat = (58 : UInt8).toNat := by
      have e : (58 : UInt8).toNat = 58 := rfl
      rw [e]; omega
    exact UInt8.toNat_inj.mp this
  · rintro rfl
    rfl
theorem cut_data (s : ByteArray) (a b : Nat) : (s.extract a b).data.toList = (s.data.toList.take b).drop a := by
  rw [Lib.extract_data, List.drop_take]
theorem cut_facts (i n d k : Nat) (hn : n ≤ 1048576) (hd : n + 1 - i = d + 1) (hk : d + 1 < k + 1) : n + 1 - (i + 1) = d ∧ d < k ∧ i ≤ n ∧ (i : Int) ≤ (n : Int) ∧ 0 ≤ (i : Int) ∧ i + 1 ≤ 1000000000000 ∧ i + 1 ≤ n + 1 := by omega
theorem cut_room (o i n : Nat) (ho : o ≤ i) (hi : i ≤ n) (hn : n ≤ 1048576) : o < 8796093022208 ∧ o + 1 ≤ i + 1 := by omega
theorem cut_end (i n : Nat) (h : n + 1 - i = 0) (hi : i ≤ n + 1) : ¬ (i : Int) ≤ (n : Int) ∧ ¬ i ≤ n := by omega
theorem cut_eq (i n : Nat) (h : i ≤ n) : ((i : Int) = (n : Int) → n ≤ i ∧ i = n) ∧ (¬ (i : Int) = (n : Int) → i < n ∧ (i : Int) < (n : Int) ∧ i + 1 ≤ n) := by omega
theorem fr_facts (f i : Nat) (h : f ≤ i) : 0 ≤ (f : Int) ∧ (f : Int) ≤ (i : Int) ∧ f ≤ i + 1 := by omega
theorem splitS (s : ByteArray) (hs : s.size ≤ 1048576) : ∀ (d i k f : Nat) (out : List ByteArray), s.size + 1 - i = d → i ≤ s.size + 1 → d < k → f ≤ i → out.length ≤ i →
    ∃ P, spec_l6Split.l0 k s 58 out (f : Int) (i : Int) = some (out ++ P) ∧ (i ≤ s.size → P.map (·.data.toList) = spj ((s.data.toList.take i).drop f) (s.data.toList.drop i)) ∧ (¬ i ≤ s.size → P = []) := by
  have hl : s.data.toList.length = s.size := by rw [Array.length_toList]; rfl
  intro d
  induction d with
  | zero =>
    intro i k f out hd hi hk hf ho
    cases k with
    | zero => exact absurd hk (Nat.not_lt_zero _)
    | succ k =>
    obtain ⟨f1, f2⟩ := cut_end i s.size hd hi
    simp only [spec_l6Split.l0]
    rw [if_neg f1]
    exact ⟨[], by rw [List.append_nil], fun h => absurd h f2, fun _ => rfl⟩
  | succ d ih =>
    intro i k f out hd hi hk hf ho
    cases k with
    | zero => exact absurd hk (Nat.not_lt_zero _)
    | succ k =>
    obtain ⟨a1, a2, a3, a4, a5, a6, a7⟩ := cut_facts i s.size d k hs hd hk
    obtain ⟨b1, b2⟩ := cut_eq i s.size a3
    obtain ⟨r1, r2⟩ := cut_room out.length i s.size ho a3 hs
    obtain ⟨g1, g2, g3⟩ := fr_facts f i hf
    have q2 : wrap64 ((i : Int) + 1) = ((i + 1 : Nat) : Int) := wrap_nat (i + 1) a6
    simp only [spec_l6Split.l0]
    rw [if_pos a4]
    by_cases c : (i : Int) = (s.size : Int)
    · obtain ⟨c1, c2⟩ := b1 c
      rw [if_pos c, if_pos g1, if_pos g2, if_pos r1, q2]
      obtain ⟨P, p1, p2, p3⟩ := ih (i + 1) k (i + 1) (out ++ [s.extract ((f : Int).toNat) ((i : Int).toNat)]) a1 a7 a2 (Nat.le_refl _) (by rw [List.length_append]; exact r2)
      have hn : ¬ i + 1 ≤ s.size := by rw [c2]; exact Nat.not_succ_le_self _
      have hP := p3 hn
      rw [hP] at p1
      refine ⟨[s.extract ((f : Int).toNat) ((i : Int).toNat)], by rw [p1, List.append_nil], fun _ => ?_, fun h => absurd a3 h⟩
      have e0 : s.data.toList.drop i = [] := List.drop_eq_nil_of_le (by rw [hl]; exact c1)
      rw [e0]
      simp only [List.map_cons, List.map_nil, spj, cut_data, Int.toNat_natCast]
    · obtain ⟨c1, c2, c3⟩ := b2 c
      obtain ⟨b, e1, e2⟩ := byte_drop s i c1
      rw [if_neg c, if_pos a5, if_pos c2, e2]
      by_cases hb : (b.toNat : Int) = 58
      · rw [if_pos hb, if_pos g1, if_pos g2, if_pos r1, q2]
        obtain ⟨P, p1, p2, p3⟩ := ih (i + 1) k (i + 1) (out ++ [s.extract ((f : Int).toNat) ((i : Int).toNat)]) a1 a7 a2 (Nat.le_refl _) (by rw [List.length_append]; exact r2)
        refine ⟨s.extract ((f : Int).toNat) ((i : Int).toNat) :: P, by rw [p1, List.append_assoc]; rfl, fun _ => ?_, fun h => absurd a3 h⟩
        have e3 : (s.data.toList.take (i + 1)).drop (i + 1) = [] := List.drop_eq_nil_of_le (by rw [List.length_take]; exact Nat.min_le_left _ _)
        rw [e1, spj, if_pos ((byte58 b).mp hb), List.map_cons, p2 c3, e3, cut_data, Int.toNat_natCast, Int.toNat_natCast]
      · rw [if_neg hb, q2]
        obtain ⟨P, p1, p2, p3⟩ := ih (i + 1) k f out a1 a7 a2 g3 (Nat.le_trans ho (Nat.le_succ _))
        refine ⟨P, p1, fun _ => ?_, fun h => absurd a3 h⟩
        have e3 : (s.data.toList.take (i + 1)).drop f = (s.data.toList.take i).drop f ++ [b] := by
          have e4 : s.data.toList.take (i + 1) = s.data.toList.take i ++ [b] := by
            rw [List.take_add_one]
            congr 1
            have : s.data.toList[i]? = (s.data.toList.drop i)[0]? := by rw [List.getElem?_drop, Nat.add_zero]
            rw [this, e1]
            rfl
          rw [e4, List.drop_append_of_le_length (by rw [List.length_take, hl]; exact Nat.le_min.mpr ⟨hf, Nat.le_trans hf a3⟩)]
        rw [e1, spj, if_neg (fun h => hb ((byte58 b).mpr h)), p2 c3, e3]
theorem spj_le : ∀ (l acc : List UInt8), (spj acc l).length ≤ l.length + 1
  | [], _ => by simp [spj]
  | c :: r, acc => by
    simp only [spj]
    by_cases h : c = 58
    · rw [if_pos h, List.length_cons, List.length_cons]
      exact Nat.succ_le_succ (spj_le r [])
    · rw [if_neg h, List.length_cons]
      exact Nat.le_trans (spj_le r _) (Nat.le_succ _)
theorem spk_mem : ∀ (l : List UInt8) (k : Nat) (acc p : List UInt8), p ∈ spk k acc l → p.length ≤ acc.length + l.length
  | l, 0, acc, p, h => by
    have : p = acc ++ l := by
      cases l <;> simpa [spk] using h
    rw [this, List.length_append]
    exact Nat.le_refl _
  | [], k + 1, acc, p, h => by
    have : p = acc := by simpa [spk] using h
    rw [this]
    exact Nat.le_add_right _ _
  | c :: r, k + 1, acc, p, h => by
    simp only [spk] at h
    by_cases hc : c = 58
    · rw [if_pos hc] at h
      rcases List.mem_cons.mp h with rfl | h
      · exact Nat.le_add_right _ _
      · have := spk_mem r k [] p h
        simp only [List.length_nil, Nat.zero_add] at this
        exact Nat.le_trans this (by rw [List.length_cons]; omega)
    · rw [if_neg hc] at h
      have := spk_mem r (k + 1) (acc ++ [c]) p h
      rw [List.length_append, List.length_singleton] at this
      rw [List.length_cons]
      omega
theorem cnt_eq (n : Nat) (v : List Int) : (((v.length : Nat) : Int) == (n : Int)) = decide (v.length = n) := by
  by_cases h : v.length = n
  · rw [decide_eq_true h]; exact beq_iff_eq.mpr (by omega)
  · rw [decide_eq_false h]; exact beq_eq_false_iff_ne.mpr (by omega)
theorem split_data (s : ByteArray) (K : Nat) : (Lib.splitB (⟨#[58]⟩ : ByteArray) 0 K s).map (·.data.toList) = spk K [] s.data.toList := by
  rw [Lib.splitB_data, spk_splitK]
  have e : (⟨#[58]⟩ : ByteArray).data.toList = [58] := rfl
  rw [e]
  cases Lib.splitK [58] 0 K s.data.toList <;> rfl
theorem min_facts (n z : Nat) (hn : n ≤ 1000) (hz : z ≤ 1048576) : wrap64 ((n : Int) + 1) = ((n + 1 : Nat) : Int) ∧ min (((n + 1 : Nat) : Int).toNat) (z + 1) - 1 = min n z ∧ z < 4294967281 ∧ (1 : Int) ≤ ((n + 1 : Nat) : Int) ∧ ((n + 1 : Nat) : Int) ≤ 9223372036854775807 ∧ min n z + 1 ≤ 2000000 := by
  refine ⟨wrap_nat (n + 1) (by omega), ?_, by omega, by omega, by omega, by omega⟩
  rw [Int.toNat_natCast]
  omega
theorem piece_facts (a z : Nat) (h : a ≤ 0 + z) (hz : z ≤ 1048576) : a ≤ 140737488355328 := by omega
theorem len_facts (a z : Nat) (h : a ≤ z + 1) (hz : z ≤ 1048576) : a ≤ 2000000 := by omega
theorem sp_cases (L K n z : Nat) (hK : K = min n z) (hL : L ≤ z + 1) : (L ≤ K + 1) ∨ (K + 1 ≤ L ∧ K + 1 ≠ n ∧ L ≠ n) := by omega
theorem nums_same (s : ByteArray) (hs : s.size ≤ 1048576) (n : Nat) (hn : n ≤ 1000) {k : Nat} (hk : 3000000 < k) :
    ∃ x y, spec_l6Nums.f k s (n : Int) = some x ∧ impl_parseNums.f k s (n : Int) = some y ∧ x.2 = y.2 ∧
      (x.2 = true → x.1 = y.1 ∧ allv (spj [] s.data.toList) = some x.1 ∧ x.1.length = n ∧ ∀ z, z ∈ x.1 → 0 ≤ z ∧ z ≤ 1000000000) ∧
      (∀ v, allv (spj [] s.data.toList) = some v → v.length = n → x = (v, true)) := by
  have hl : s.data.toList.length = s.size := by rw [Array.length_toList]; rfl
  obtain ⟨P, p1, p2, -⟩ := splitS s hs (s.size + 1) 0 k 0 [] (Nat.sub_zero _) (Nat.zero_le _) (by omega) (Nat.le_refl _) (Nat.le_refl _)
  have p3 := p2 (Nat.zero_le _)
  simp only [List.take_zero, List.drop_nil, List.drop_zero] at p3
  have hPl : P.length ≤ 2000000 := by
    have e := congrArg List.length p3
    rw [List.length_map] at e
    rw [e]
    exact len_facts _ _ (by have := spj_le s.data.toList []; rw [hl] at this; exact this) hs
  obtain ⟨x, x1, x2⟩ := numsS (n : Int) P hPl P.length 0 k [] (Nat.sub_zero _) (Nat.zero_le _) (by omega) (Nat.le_refl _)
  rw [List.drop_zero, p3] at x2
  obtain ⟨m1, m2, m3, m4, m5, m6⟩ := min_facts n s.size hn hs
  have hS : strings_SplitN.f s (⟨#[58]⟩ : ByteArray) (wrap64 ((n : Int) + 1)) = some (Lib.splitB (⟨#[58]⟩ : ByteArray) 0 (min n s.size) s) := by
    unfold strings_SplitN.f
    rw [m1, if_pos ⟨rfl, m3, m4, m5⟩, m2]
  obtain ⟨Q, hQ⟩ : ∃ Q, Q = Lib.splitB (⟨#[58]⟩ : ByteArray) 0 (min n s.size) s := ⟨_, rfl⟩
  have q3 : Q.map (·.data.toList) = spk (min n s.size) [] s.data.toList := by rw [hQ]; exact split_data s _
  have hQl : Q.length ≤ 2000000 := by
    rw [hQ]
    exact Nat.le_trans (Lib.splitB_length_le _ _ _ _) m6
  have hQp : ∀ p, p ∈ Q → p.size ≤ 140737488355328 := by
    intro p hp
    have hm : p.data.toList ∈ spk (min n s.size) [] s.data.toList := by rw [← q3]; exact List.mem_map.mpr ⟨p, hp, rfl⟩
    have := spk_mem _ _ _ _ hm
    rw [Array.length_toList, hl] at this
    exact piece_facts _ _ this hs
  obtain ⟨y, y1, y2⟩ := numsI (n : Int) Q hQl hQp Q.length 0 k [] (Nat.sub_zero _) (Nat.zero_le _) (by omega) (Nat.le_refl _)
  rw [List.drop_zero, q3] at y2
  refine ⟨x, y, ?_, ?_, ?_⟩
  · unfold spec_l6Nums.f spec_l6Split.f
    have p1' : spec_l6Split.l0 k s 58 [] 0 0 = some P := p1
    rw [p1', Option.bind_some]
    exact x1
  · unfold impl_parseNums.f
    rw [hS, Option.bind_some, ← hQ]
    exact y1
  · have hL : (spj [] s.data.toList).length ≤ s.size + 1 := by have := spj_le s.data.toList []; rw [hl] at this; exact this
    have eq1 : ∀ v, allv (spj [] s.data.toList) = some v → x = (v, decide (v.length = n)) := by
      intro v hv
      have := x2.1 v hv
      rw [List.nil_append, cnt_eq] at this
      exact this
    have eq2 : ∀ v, allv (spk (min n s.size) [] s.data.toList) = some v → y = (v, decide (v.length = n)) := by
      intro v hv
      have := y2.1 v hv
      rw [List.nil_append, cnt_eq] at this
      exact this
    have fin : ∀ v, allv (spj [] s.data.toList) = some v → v.length = n → x = (v, true) := by
      intro v hv hvn
      rw [eq1 v hv, decide_eq_true hvn]
    rcases sp_cases (spj [] s.data.toList).length (min n s.size) n s.size rfl hL with h | ⟨h1, h2, h3⟩
    · have e := spk_eq s.data.toList (min n s.size) [] h
      rw [e] at eq2 y2
      cases hv : allv (spj [] s.data.toList) with
      | none =>
        have a1 := x2.2 hv
        have a2 := y2.2 hv
        rw [hv] at fin
        exact ⟨by rw [a1, a2], (fun c => by rw [a1] at c; cases c), fin⟩
      | some v =>
        have a1 := eq1 v hv
        have a2 := eq2 v hv
        rw [hv] at fin
        refine ⟨by rw [a1, a2], fun c => ?_, fin⟩
        rw [a1] at c ⊢
        rw [a2]
        exact ⟨rfl, rfl, of_decide_eq_true c, allv_mem _ v hv⟩
    · have e1 := spk_len s.data.toList (min n s.size) [] h1
      have a1 : x.2 = false := by
        cases hv : allv (spj [] s.data.toList) with
        | none => exact x2.2 hv
        | some v =>
          rw [eq1 v hv]
          exact decide_eq_false (by rw [allv_len _ v hv]; exact h3)
      have a2 : y.2 = false := by
        cases hv : allv (spk (min n s.size) [] s.data.toList) with
        | none => exact y2.2 hv
        | some v =>
          rw [eq2 v hv]
          exact decide_eq_false (by rw [allv_len _ v hv, e1]; exact h2)
      exact ⟨by rw [a1, a2], (fun c => by rw [a1] at c; cases c), fin⟩
theorem two_list (v : List Int) (h : v.length = 2) : ∃ a b, v = [a, b] := by
  match v, h with
  | [a, b], _ => exact ⟨a, b, rfl⟩
theorem handle_same (s : ByteArray) (hs : s.size ≤ 1048576) {k : Nat} (hk : 3000000 < k) :
    ∃ r : Int × Int × Bool, spec_ParseHandle.f k s = some r ∧ impl_ParseHandle.f k s = some r ∧
      (r.2.2 = true → 0 ≤ r.1 ∧ r.1 ≤ 1000000000 ∧ 1 ≤ r.2.1 ∧ r.2.1 ≤ 1000000000 ∧ allv (spj [] s.data.toList) = some [r.1, r.2.1]) ∧
      (∀ a b, allv (spj [] s.data.toList) = some [a, b] → 1 ≤ b → r = (a, b, true)) ∧
      (∀ v, allv (spj [] s.data.toList) = some v → v.length = 2 → rd v 1 < 1 → r.2.2 = false) := by
  obtain ⟨x, y, ex, ey, h2, h1, h3⟩ := nums_same s hs 2 (by decide) hk
  have ex' : spec_l6Nums.f k s 2 = some x := ex
  have ey' : impl_parseNums.f k s 2 = some y := ey
  by_cases c : x.2 = true
  · obtain ⟨g1, g2, g3, g4⟩ := h1 c
    have cy : y.2 = true := by rw [← h2]; exact c
    obtain ⟨a, b, e⟩ := two_list x.1 g3
    rw [e] at g1 g4 g2
    have ha := g4 a (by simp)
    have hb := g4 b (by simp)
    have r0 : rd [a, b] 0 = a := rfl
    have r1 : rd [a, b] 1 = b := rfl
    have l1 : (1 : Int) < (([a, b] : List Int).length : Int) := by show (1 : Int) < ((2 : Nat) : Int); decide
    have l0 : (0 : Int) < (([a, b] : List Int).length : Int) := by show (0 : Int) < ((2 : Nat) : Int); decide
    have hk : impl_HandleOk.f a b = some (decide (b ≥ 1)) := by
      unfold impl_HandleOk.f
      rw [if_pos ha.1]
    have S : spec_ParseHandle.f k s = some (if b < 1 then (0, 0, false) else (a, b, true)) := by
      unfold spec_ParseHandle.f
      rw [ex', Option.bind_some, if_pos c, e, if_pos l1, r1]
      by_cases c1 : b < 1
      · rw [if_pos c1, if_pos c1]
      · rw [if_neg c1, if_neg c1, if_pos l0, r0]
    have I : impl_ParseHandle.f k s = some (if b < 1 then (0, 0, false) else (a, b, true)) := by
      unfold impl_ParseHandle.f
      rw [ey', Option.bind_some, if_pos cy, ← g1, if_pos l0, if_pos l1, r0, r1, hk, Option.bind_some]
      by_cases c1 : b < 1
      · rw [if_pos c1, if_neg (by rw [decide_eq_true_iff]; omega)]
      · rw [if_neg c1, if_pos (by rw [decide_eq_true_iff]; omega)]
    refine ⟨_, S, I, ?_⟩
    by_cases c1 : b < 1
    · rw [if_pos c1]
      refine ⟨(fun h => by cases h), (fun a' b' h hb' => ?_), (fun _ _ _ _ => rfl)⟩
      rw [g2] at h
      simp only [Option.some.injEq, List.cons.injEq] at h
      omega
    · rw [if_neg c1]
      refine ⟨(fun _ => ⟨ha.1, ha.2, by show 1 ≤ b; omega, hb.2, g2⟩), (fun a' b' h hb' => ?_), (fun v h _ hv => ?_)⟩
      · rw [g2] at h
        simp only [Option.some.injEq, List.cons.injEq] at h
        rw [h.1, h.2.1]
      · rw [g2] at h
        rw [← Option.some.inj h, r1] at hv
        exact absurd hv c1
  · have cy : ¬ y.2 = true := by rw [← h2]; exact c
    have S : spec_ParseHandle.f k s = some (0, 0, false) := by
      unfold spec_ParseHandle.f
      rw [ex', Option.bind_some, if_neg c]
    have I : impl_ParseHandle.f k s = some (0, 0, false) := by
      unfold impl_ParseHandle.f
      rw [ey', Option.bind_some, if_neg cy]
    refine ⟨_, S, I, (fun h => by cases h), (fun a b h _ => ?_), (fun _ _ _ _ => rfl)⟩
    have := h3 [a, b] h rfl
    rw [this] at c
    exact absurd rfl c
theorem four_list (v : List Int) (h : v.length = 4) : ∃ a b c d, v = [a, b, c, d] := by
  match v, h with
  | [a, b, c, d], _ => exact ⟨a, b, c, d, rfl⟩
theorem ref_same (s : ByteArray) (hs : s.size ≤ 1048576) {k : Nat} (hk : 3000000 < k) :
    ∃ r : Int × Int × Int × Int × Bool, spec_ParseRef.f k s = some r ∧ impl_ParseRef.f k s = some r ∧
      (r.2.2.2.2 = true → 0 ≤ r.1 ∧ r.1 ≤ 1000000000 ∧ 1 ≤ r.2.1 ∧ r.2.1 ≤ 1000000000 ∧ 0 ≤ r.2.2.1 ∧ r.2.2.1 ≤ 1000000000 ∧ 0 ≤ r.2.2.2.1 ∧ r.2.2.2.1 ≤ 1000000000 ∧ allv (spj [] s.data.toList) = some [r.1, r.2.1, r.2.2.1, r.2.2.2.1]) := by
  obtain ⟨x, y, ex, ey, h2, h1, h3⟩ := nums_same s hs 4 (by decide) hk
  have ex' : spec_l6Nums.f k s 4 = some x := ex
  have ey' : impl_parseNums.f k s 4 = some y := ey
  by_cases c : x.2 = true
  · obtain ⟨g1, g2, g3, g4⟩ := h1 c
    have cy : y.2 = true := by rw [← h2]; exact c
    obtain ⟨a, b, p, q, e⟩ := four_list x.1 g3
    rw [e] at g1 g4 g2
    have ha := g4 a (by simp)
    have hb := g4 b (by simp)
    have hp := g4 p (by simp)
    have hq := g4 q (by simp)
    have r0 : rd [a, b, p, q] 0 = a := rfl
    have r1 : rd [a, b, p, q] 1 = b := rfl
    have r2 : rd [a, b, p, q] 2 = p := rfl
    have r3 : rd [a, b, p, q] 3 = q := rfl
    have l0 : (0 : Int) < (([a, b, p, q] : List Int).length : Int) := by show (0 : Int) < ((4 : Nat) : Int); decide
    have l1 : (1 : Int) < (([a, b, p, q] : List Int).length : Int) := by show (1 : Int) < ((4 : Nat) : Int); decide
    have l2 : (2 : Int) < (([a, b, p, q] : List Int).length : Int) := by show (2 : Int) < ((4 : Nat) : Int); decide
    have l3 : (3 : Int) < (([a, b, p, q] : List Int).length : Int) := by show (3 : Int) < ((4 : Nat) : Int); decide
    have hk : impl_RefOk.f a b p q = some (decide (b ≥ 1)) := by
      unfold impl_RefOk.f impl_HandleOk.f
      rw [if_pos ha.1, Option.bind_some]
      by_cases c1 : b ≥ 1
      · rw [decide_eq_true c1, if_pos rfl, if_pos hp.1, decide_eq_true hq.1]
      · rw [decide_eq_false c1, if_neg (by decide)]
    have S : spec_ParseRef.f k s = some (if b < 1 then (0, 0, 0, 0, false) else (a, b, p, q, true)) := by
      unfold spec_ParseRef.f
      rw [ex', Option.bind_some, if_pos c, e, if_pos l1, r1]
      by_cases c1 : b < 1
      · rw [if_pos c1, if_pos c1]
      · rw [if_neg c1, if_neg c1, if_pos l0, if_pos l2, if_pos l3, r0, r2, r3]
    have I : impl_ParseRef.f k s = some (if b < 1 then (0, 0, 0, 0, false) else (a, b, p, q, true)) := by
      unfold impl_ParseRef.f
      rw [ey', Option.bind_some, if_pos cy, ← g1, if_pos l0, if_pos l1, if_pos l2, if_pos l3, r0, r1, r2, r3, hk, Option.bind_some]
      by_cases c1 : b < 1
      · rw [if_pos c1, if_neg (by rw [decide_eq_true_iff]; omega)]
      · rw [if_neg c1, if_pos (by rw [decide_eq_true_iff]; omega)]
    refine ⟨_, S, I, ?_⟩
    by_cases c1 : b < 1
    · rw [if_pos c1]
      exact fun h => by cases h
    · rw [if_neg c1]
      exact fun _ => ⟨ha.1, ha.2, by show 1 ≤ b; omega, hb.2, hp.1, hp.2, hq.1, hq.2, g2⟩
  · have cy : ¬ y.2 = true := by rw [← h2]; exact c
    have S : spec_ParseRef.f k s = some (0, 0, 0, 0, false) := by
      unfold spec_ParseRef.f
      rw [ex', Option.bind_some, if_neg c]
    have I : impl_ParseRef.f k s = some (0, 0, 0, 0, false) := by
      unfold impl_ParseRef.f
      rw [ey', Option.bind_some, if_neg cy]
    exact ⟨_, S, I, fun h => by cases h⟩
def joinc : List (List UInt8) → List UInt8
  | [] => []
  | [p] => p
  | p :: q :: r => p ++ 58 :: joinc (q :: r)
theorem joinc_cons (p : List UInt8) (X : List (List UInt8)) (h : 1 ≤ X.length) : joinc (p :: X) = p ++ 58 :: joinc X := by
  cases X with
  | nil => exact absurd h (by decide)
  | cons q r => rfl
theorem joinc_spj : ∀ (l acc : List UInt8), joinc (spj acc l) = acc ++ l
  | [], acc => by simp [spj, joinc]
  | c :: r, acc => by
    simp only [spj]
    by_cases h : c = 58
    · rw [if_pos h, joinc_cons _ _ (spj_pos r []), joinc_spj r [], h]
      simp
    · rw [if_neg h, joinc_spj r (acc ++ [c])]
      simp
theorem allv_itoa : ∀ (P : List (List UInt8)) (v : List Int), allv P = some v → P = v.map Lib.itoa
  | [], v, h => by
    simp only [allv, Option.some.injEq] at h
    rw [← h]; rfl
  | p :: r, v, h => by
    simp only [allv] at h
    by_cases c : (pn p).2 = true
    · rw [if_pos c] at h
      cases e : allv r with
      | none => rw [e] at h; cases h
      | some u =>
        rw [e] at h
        simp only [Option.map_some, Option.some.injEq] at h
        have e2 : pn p = ((pn p).1, true) := by rw [← c]
        rw [← h, List.map_cons, (pn_yes p _ e2).2.2, ← allv_itoa r u e]
    · rw [if_neg c] at h; cases h
theorem spj_no : ∀ (l acc r : List UInt8), (∀ c, c ∈ l → c ≠ 58) → spj acc (l ++ r) = spj (acc ++ l) r
  | [], acc, r, _ => by simp
  | c :: t, acc, r, h => by
    rw [List.cons_append, spj, if_neg (h c (by simp)), spj_no t (acc ++ [c]) r (fun x hx => h x (by simp [hx]))]
    simp
theorem dec_no (u : Nat) : ∀ c, c ∈ Lib.decDigits u → c ≠ 58 := by
  induction u using Nat.strongRecOn with
  | _ u ih =>
    intro c hc
    have dg : ∀ d : Nat, d < 10 → UInt8.ofNat (48 + d) ≠ 58 := by
      intro d hd e
      have e2 := congrArg UInt8.toNat e
      rw [dig_toNat d hd] at e2
      have e3 : (58 : UInt8).toNat = 58 := rfl
      omega
    rw [Lib.decDigits] at hc
    by_cases h : u < 10
    · rw [dif_pos h] at hc
      rw [List.mem_singleton.mp hc]
      exact dg u h
    · rw [dif_neg h] at hc
      rcases List.mem_append.mp hc with hc | hc
      · exact ih (u / 10) (by omega) c hc
      · rw [List.mem_singleton.mp hc]
        exact dg _ (by omega)
theorem itoa_no (n : Int) : ∀ c, c ∈ Lib.itoa n → c ≠ 58 := by
  intro c hc
  unfold Lib.itoa at hc
  by_cases h : n < 0
  · rw [if_pos h] at hc
    rcases List.mem_cons.mp hc with rfl | hc
    · decide
    · exact dec_no _ c hc
  · rw [if_neg h] at hc
    exact dec_no _ c hc
theorem ht_data (a b : Int) : (nt a ++ (⟨#[58]⟩ : ByteArray) ++ nt b).data.toList = Lib.itoa a ++ 58 :: Lib.itoa b := by
  rw [ByteArray.data_append, ByteArray.data_append, Array.toList_append, Array.toList_append]
  show Lib.itoa a ++ [58] ++ Lib.itoa b = _
  simp
theorem rt_data (a b c d : Int) : (rt a b c d).data.toList = Lib.itoa a ++ 58 :: (Lib.itoa b ++ 58 :: (Lib.itoa c ++ 58 :: Lib.itoa d)) := by
  unfold rt
  rw [ByteArray.data_append, ByteArray.data_append, ByteArray.data_append, ByteArray.data_append, Array.toList_append, Array.toList_append, Array.toList_append, Array.toList_append, ht_data]
  show Lib.itoa a ++ 58 :: Lib.itoa b ++ [58] ++ Lib.itoa c ++ [58] ++ Lib.itoa d = _
  simp
theorem ht_split (a b : Int) : spj [] (Lib.itoa a ++ 58 :: Lib.itoa b) = [Lib.itoa a, Lib.itoa b] := by
  rw [spj_no _ _ _ (itoa_no a), List.nil_append, spj, if_pos rfl]
  have := spj_no (Lib.itoa b) [] [] (itoa_no b)
  rw [List.append_nil, List.nil_append] at this
  rw [this]
  rfl
theorem rt_size (a b c d : Int) (ha : -9223372036854775808 ≤ a ∧ a ≤ 9223372036854775807) (hb : -9223372036854775808 ≤ b ∧ b ≤ 9223372036854775807) (hc : -9223372036854775808 ≤ c ∧ c ≤ 9223372036854775807) (hd : -9223372036854775808 ≤ d ∧ d ≤ 9223372036854775807) : (rt a b c d).size ≤ 100 := by
  have := ht_size a b ha hb
  have sc := nt_size c hc.1 hc.2
  have sd := nt_size d hd.1 hd.2
  unfold rt
  rw [ByteArray.size_append, ByteArray.size_append, ByteArray.size_append, ByteArray.size_append, colon]
  omega
theorem small64 (a : Int) (h : -1 ≤ a ∧ a ≤ 1000000000) : -9223372036854775808 ≤ a ∧ a ≤ 9223372036854775807 := by omega
theorem any_some (l : List Int) (hl : l.length ≤ 1048576) (i s : Int) (hi : St l i) : ∃ a b i' s', spec_l6Any.f l i s = some (a, b, i', s') ∧ (-1 ≤ a ∧ a ≤ 1000000000) ∧ (-1 ≤ b ∧ b ≤ 1000000000) ∧ St l i' := by
  unfold spec_l6Any.f spec_l6Handle.f
  obtain ⟨v, i1, s1, e1, v0, v1, _, hi1⟩ := below_some l hl i s hi 5
  obtain ⟨u, i2, s2, e2, u0, u1, _, hi2⟩ := below_some l hl i1 s1 hi1 3
  have v2 := v1 (by omega)
  have u2 := u1 (by omega)
  have w : wrap64 (1 + u) = 1 + u := by unfold wrap64; omega
  obtain ⟨c, i3, s3, e3, _, _, _, hi3⟩ := below_some l hl i2 s2 hi2 8
  simp only [e1, Option.bind_some, e2, e3, w]
  by_cases c0 : c = 0
  · obtain ⟨x, i4, s4, e4, hm, hi4⟩ := int_some l hl i3 s3 hi3 [(-1), 1000000000, 9] (by simp)
    simp only [List.mem_cons, List.not_mem_nil, or_false] at hm
    rw [if_pos c0, e4, Option.bind_some]
    exact ⟨_, _, _, _, rfl, by show -1 ≤ x ∧ x ≤ 1000000000; omega, by show -1 ≤ 1 + u ∧ 1 + u ≤ 1000000000; omega, hi4⟩
  · rw [if_neg c0]
    by_cases c1 : c = 1
    · obtain ⟨x, i4, s4, e4, hm, hi4⟩ := int_some l hl i3 s3 hi3 [0, (-1), 5] (by simp)
      simp only [List.mem_cons, List.not_mem_nil, or_false] at hm
      rw [if_pos c1, e4, Option.bind_some]
      exact ⟨_, _, _, _, rfl, by show -1 ≤ v ∧ v ≤ 1000000000; omega, by show -1 ≤ x ∧ x ≤ 1000000000; omega, hi4⟩
    · rw [if_neg c1]
      exact ⟨_, _, _, _, rfl, by show -1 ≤ v ∧ v ≤ 1000000000; omega, by show -1 ≤ 1 + u ∧ 1 + u ≤ 1000000000; omega, hi3⟩
theorem refd_some (l : List Int) (hl : l.length ≤ 1048576) (i s : Int) (hi : St l i) : ∃ a b c d i' s', spec_l6Ref.f l i s = some (a, b, c, d, i', s') ∧ (-1 ≤ a ∧ a ≤ 1000000000) ∧ (-1 ≤ b ∧ b ≤ 1000000000) ∧ (-1 ≤ c ∧ c ≤ 1000000000) ∧ (-1 ≤ d ∧ d ≤ 1000000000) := by
  unfold spec_l6Ref.f
  obtain ⟨a, b, i1, s1, e1, ha, hb, hi1⟩ := any_some l hl i s hi
  obtain ⟨x, i2, s2, e2, hm, hi2⟩ := int_some l hl i1 s1 hi1 [0, 0, 0, 1, 2, (-1)] (by simp)
  obtain ⟨y, i3, s3, e3, hn, _⟩ := int_some l hl i2 s2 hi2 [0, 0, 1, 2, 5, (-1)] (by simp)
  simp only [List.mem_cons, List.not_mem_nil, or_false] at hm hn
  simp only [e1, Option.bind_some, e2, e3]
  exact ⟨_, _, _, _, _, _, rfl, ha, hb, by show -1 ≤ x ∧ x ≤ 1000000000; omega, by show -1 ≤ y ∧ y ≤ 1000000000; omega⟩
theorem draw_h (l : List Int) (hl : l.length ≤ 1048576) {k : Nat} (hk : 1048576 < k) : ∃ a b, spec_DrawHandleText.f k l = some (a, b) ∧ (-1 ≤ a ∧ a ≤ 1000000000) ∧ (-1 ≤ b ∧ b ≤ 1000000000) := by
  unfold spec_DrawHandleText.f
  obtain ⟨s0, e0⟩ := new_some l hl hk
  obtain ⟨a, b, i1, s1, e1, ha, hb, hi1⟩ := any_some l hl 0 s0 ⟨by omega, by omega⟩
  simp only [e0, Option.bind_some, e1]
  exact ⟨a, b, rfl, ha, hb⟩
theorem draw_r (l : List Int) (hl : l.length ≤ 1048576) {k : Nat} (hk : 1048576 < k) : ∃ a b c d, spec_DrawRefText.f k l = some (a, b, c, d) ∧ (-1 ≤ a ∧ a ≤ 1000000000) ∧ (-1 ≤ b ∧ b ≤ 1000000000) ∧ (-1 ≤ c ∧ c ≤ 1000000000) ∧ (-1 ≤ d ∧ d ≤ 1000000000) := by
  unfold spec_DrawRefText.f
  obtain ⟨s0, e0⟩ := new_some l hl hk
  obtain ⟨a, b, c, d, i1, s1, e1, ha, hb, hc, hd⟩ := refd_some l hl 0 s0 ⟨by omega, by omega⟩
  simp only [e0, Option.bind_some, e1]
  exact ⟨a, b, c, d, rfl, ha, hb, hc, hd⟩
theorem draw_ph (l : List Int) (hl : l.length ≤ 1048576) {k : Nat} (hk : 1048576 < k) : ∃ s, spec_DrawParseHandle.f k l = some s ∧ s.size ≤ 1048576 := by
  unfold spec_DrawParseHandle.f
  obtain ⟨s0, e0⟩ := new_some l hl hk
  obtain ⟨b, i1, s1, e1, hi1⟩ := once_some l hl 0 s0 ⟨by omega, by omega⟩ 3
  simp only [e0, Option.bind_some, e1]
  by_cases c : b = true
  · rw [if_pos c]
    obtain ⟨v, i2, s2, e2, hv, _⟩ := str_some l hl i1 s1 hi1 [(⟨#[]⟩ : ByteArray), (⟨#[48]⟩ : ByteArray), (⟨#[48, 58, 48]⟩ : ByteArray), (⟨#[48, 58, 49, 58, 50]⟩ : ByteArray), (⟨#[48, 49, 58, 49]⟩ : ByteArray), (⟨#[49, 58, 45, 49]⟩ : ByteArray), (⟨#[51, 58, 50]⟩ : ByteArray)] (by simp)
    simp only [e2, Option.bind_some]
    refine ⟨v, rfl, ?_⟩
    simp only [List.mem_cons, List.not_mem_nil, or_false] at hv
    rcases hv with rfl | rfl | rfl | rfl | rfl | rfl | rfl <;> decide
  · rw [if_neg c]
    obtain ⟨x, y, i2, s2, e2, hx, hy, _⟩ := any_some l hl i1 s1 hi1
    simp only [e2, Option.bind_some, hS x y (small64 x hx) (small64 y hy) (show 20 < k by omega)]
    exact ⟨_, rfl, Nat.le_trans (ht_size x y (small64 x hx) (small64 y hy)) (by decide)⟩
theorem draw_pr (l : List Int) (hl : l.length ≤ 1048576) {k : Nat} (hk : 1048576 < k) : ∃ s, spec_DrawParseRef.f k l = some s ∧ s.size ≤ 1048576 := by
  unfold spec_DrawParseRef.f
  obtain ⟨s0, e0⟩ := new_some l hl hk
  obtain ⟨b, i1, s1, e1, hi1⟩ := once_some l hl 0 s0 ⟨by omega, by omega⟩ 3
  simp only [e0, Option.bind_some, e1]
  by_cases c : b = true
  · rw [if_pos c]
    obtain ⟨v, i2, s2, e2, hv, _⟩ := str_some l hl i1 s1 hi1 [(⟨#[]⟩ : ByteArray), (⟨#[48, 58, 49]⟩ : ByteArray), (⟨#[48, 58, 49, 58, 48, 58, 48]⟩ : ByteArray), (⟨#[48, 58, 48, 58, 48, 58, 48]⟩ : ByteArray), (⟨#[48, 58, 49, 58, 48, 58, 48, 58, 48]⟩ : ByteArray), (⟨#[48, 58, 49, 58, 48, 48, 58, 48]⟩ : ByteArray)] (by simp)
    simp only [e2, Option.bind_some]
    refine ⟨v, rfl, ?_⟩
    simp only [List.mem_cons, List.not_mem_nil, or_false] at hv
    rcases hv with rfl | rfl | rfl | rfl | rfl | rfl <;> decide
  · rw [if_neg c]
    obtain ⟨x, y, p, q, i2, s2, e2, hx, hy, hp, hq⟩ := refd_some l hl i1 s1 hi1
    simp only [e2, Option.bind_some, rS x y p q (small64 x hx) (small64 y hy) (small64 p hp) (small64 q hq) (show 20 < k by omega)]
    exact ⟨_, rfl, Nat.le_trans (rt_size x y p q (small64 x hx) (small64 y hy) (small64 p hp) (small64 q hq)) (by decide)⟩
theorem draw_c (l : List Int) (hl : l.length ≤ 1048576) {k : Nat} (hk : 1048576 < k) : ∃ n, spec_DrawCodeName.f k l = some n := by
  unfold spec_DrawCodeName.f
  obtain ⟨s0, e0⟩ := new_some l hl hk
  obtain ⟨v, i1, s1, e1, _⟩ := below_some l hl 0 s0 ⟨by omega, by omega⟩ 11
  simp only [e0, Option.bind_some, e1]
  exact ⟨_, rfl⟩
theorem hok (a b : Int) : impl_HandleOk.f a b = some (decide (a ≥ 0 ∧ b ≥ 1)) := by
  unfold impl_HandleOk.f
  by_cases c : a ≥ 0
  · rw [if_pos c]; congr 1; simp; omega
  · rw [if_neg c]; congr 1; simp; omega
theorem rok (a b c d : Int) (hc : 0 ≤ c) (hd : 0 ≤ d) (hb : 1 ≤ b) (ha : 0 ≤ a) : impl_RefOk.f a b c d = some true := by
  unfold impl_RefOk.f
  rw [hok, Option.bind_some, decide_eq_true ⟨ha, hb⟩, if_pos rfl, if_pos hc, decide_eq_true hd]
theorem refok_some (a b c d : Int) : ∃ x, impl_RefOk.f a b c d = some x ∧ spec_RefOk.f a b c d = some x := by
  have e : spec_RefOk.f a b c d = impl_RefOk.f a b c d := rfl
  rw [e]
  unfold impl_RefOk.f
  rw [hok, Option.bind_some]
  by_cases h : decide (a ≥ 0 ∧ b ≥ 1) = true
  · rw [if_pos h]
    by_cases h2 : c ≥ 0
    · rw [if_pos h2]; exact ⟨_, rfl, rfl⟩
    · rw [if_neg h2]; exact ⟨_, rfl, rfl⟩
  · rw [if_neg h]; exact ⟨_, rfl, rfl⟩
theorem names_j1 (k : Nat) (hk : 3000001 < k) (a b : Int) (ha : -1 ≤ a ∧ a ≤ 1000000000) (hb : -1 ≤ b ∧ b ≤ 1000000000) : laws_FnNames.j1 k false a b = some true := by
  obtain ⟨k, rfl⟩ : ∃ m, k = m + 1 := ⟨k - 1, by omega⟩
  have hz := ht_size a b (small64 a ha) (small64 b hb)
  obtain ⟨r, -, e, h1, h2, -⟩ := handle_same (nt a ++ (⟨#[58]⟩ : ByteArray) ++ nt b) (by omega) (k := k) (by omega)
  rw [ht_data, ht_split] at h1 h2
  simp only [laws_FnNames.j1]
  rw [if_neg (by decide), hI a b (small64 a ha) (small64 b hb), Option.bind_some, e, Option.bind_some, if_neg (by omega), if_neg (by omega), hok, Option.bind_some]
  by_cases c : a ≥ 0 ∧ b ≥ 1
  · have ev : allv [Lib.itoa a, Lib.itoa b] = some [a, b] := by
      simp only [allv, pn_in a c.1 ha.2, pn_in b (by omega) hb.2]
      rfl
    rw [h2 a b ev c.2, decide_eq_true c]
    simp
  · have hr : r.2.2 = false := by
      cases hr : r.2.2 with
      | false => rfl
      | true =>
        exfalso
        obtain ⟨g1, g2, g3, g4, g5⟩ := h1 hr
        have := allv_itoa _ _ g5
        simp only [List.map_cons, List.map_nil, List.cons.injEq, and_true] at this
        obtain ⟨u, hu⟩ : ∃ u : Nat, r.1 = (u : Int) := ⟨r.1.toNat, by omega⟩
        obtain ⟨v, hv⟩ : ∃ v : Nat, r.2.1 = (v : Int) := ⟨r.2.1.toNat, by omega⟩
        have e1 := itoa_pn a u (by rw [← hu]; exact this.1.symm)
        have e2 := itoa_pn b v (by rw [← hv]; exact this.2.symm)
        exact c ⟨by omega, by omega⟩
    rw [hr, decide_eq_false c]
    simp
theorem join2 (s : ByteArray) (a b : Int) (h : allv (spj [] s.data.toList) = some [a, b]) : (nt a ++ (⟨#[58]⟩ : ByteArray) ++ nt b).toList = s.toList := by
  have e := allv_itoa _ _ h
  have j := joinc_spj s.data.toList []
  rw [e, List.nil_append] at j
  rw [Lib.toList_data, Lib.toList_data, ht_data, ← j]
  rfl
theorem join4 (s : ByteArray) (a b c d : Int) (h : allv (spj [] s.data.toList) = some [a, b, c, d]) : (rt a b c d).toList = s.toList := by
  have e := allv_itoa _ _ h
  have j := joinc_spj s.data.toList []
  rw [e, List.nil_append] at j
  rw [Lib.toList_data, Lib.toList_data, rt_data, ← j]
  rfl
theorem names_j0 (k : Nat) (hk : 3000002 < k) (s t : ByteArray) (r1 r2 : Int) (r3 : Bool) (q1 q2 q3 q4 : Int) (q5 : Bool) (a b : Int) (ha : -1 ≤ a ∧ a ≤ 1000000000) (hb : -1 ≤ b ∧ b ≤ 1000000000)
    (hr : r3 = true → 0 ≤ r1 ∧ r1 ≤ 1000000000 ∧ 1 ≤ r2 ∧ r2 ≤ 1000000000 ∧ allv (spj [] s.data.toList) = some [r1, r2])
    (hq : q5 = true → 0 ≤ q1 ∧ q1 ≤ 1000000000 ∧ 1 ≤ q2 ∧ q2 ≤ 1000000000 ∧ 0 ≤ q3 ∧ q3 ≤ 1000000000 ∧ 0 ≤ q4 ∧ q4 ≤ 1000000000 ∧ allv (spj [] t.data.toList) = some [q1, q2, q3, q4]) :
    laws_FnNames.j0 k s t r3 q5 false a b r1 r2 q1 q2 q3 q4 = some true := by
  obtain ⟨k, rfl⟩ : ∃ m, k = m + 1 := ⟨k - 1, by omega⟩
  have hj := names_j1 k (by omega) a b ha hb
  simp only [laws_FnNames.j0]
  rw [if_neg (by decide)]
  have ref : q5 = true → (impl_RefText.f q1 q2 q3 q4).bind (fun t389 => (if t389.toList = t.toList then ((impl_RefOk.f q1 q2 q3 q4).bind fun t390 => (laws_FnNames.j1 k (!t390) a b)) else (none))) = some true := by
    intro c
    obtain ⟨g1, g2, g3, g4, g5, g6, g7, g8, g9⟩ := hq c
    rw [rI q1 q2 q3 q4 (small64 _ ⟨by omega, g2⟩) (small64 _ ⟨by omega, g4⟩) (small64 _ ⟨by omega, g6⟩) (small64 _ ⟨by omega, g8⟩), Option.bind_some, if_pos (join4 t q1 q2 q3 q4 g9), rok q1 q2 q3 q4 g5 g7 g3 g1, Option.bind_some]
    exact hj
  by_cases c : r3 = true
  · obtain ⟨g1, g2, g3, g4, g5⟩ := hr c
    rw [if_pos c, hI r1 r2 (small64 _ ⟨by omega, g2⟩) (small64 _ ⟨by omega, g4⟩), Option.bind_some, if_pos (join2 s r1 r2 g5), hok, Option.bind_some, decide_eq_true ⟨g1, g3⟩, if_pos rfl]
    by_cases c2 : q5 = true
    · rw [if_pos c2]
      exact ref c2
    · rw [if_neg c2]
      exact hj
  · rw [if_neg c]
    by_cases c2 : q5 = true
    · rw [if_pos c2]
      exact ref c2
    · rw [if_neg c2]
      exact hj
theorem FnNames : laws_FnNames.Pure := by
  intro l _ _ _
  obtain ⟨k, hk⟩ : ∃ k : Nat, 4000000 < k := ⟨_, Nat.lt_succ_self _⟩
  refine ⟨k, ?_⟩
  unfold laws_FnNames.f laws_big.f
  rw [Option.bind_some]
  by_cases hb : (l.length : Int) > 1048576
  · rw [decide_eq_true hb, if_pos rfl]
  rw [decide_eq_false hb, if_neg (by decide)]
  have hl : l.length ≤ 1048576 := by omega
  obtain ⟨a, b, e1, ha, hb2⟩ := draw_h l hl (k := k) (by omega)
  obtain ⟨p, q, u, v, e2, hp, hq, hu, hv⟩ := draw_r l hl (k := k) (by omega)
  obtain ⟨s, e3, hs⟩ := draw_ph l hl (k := k) (by omega)
  obtain ⟨t, e4, ht⟩ := draw_pr l hl (k := k) (by omega)
  obtain ⟨n, e5⟩ := draw_c l hl (k := k) (by omega)
  obtain ⟨r, r1, r2, r3, -, -⟩ := handle_same s hs (k := k) (by omega)
  obtain ⟨x, x1, x2, x3⟩ := ref_same t ht (k := k) (by omega)
  obtain ⟨o, o1, o2⟩ := refok_some p q u v
  obtain ⟨cn, c1⟩ := code_some n
  have c2 : spec_CodeName.f n = some cn := by rw [code_same, c1]
  have hk1 : impl_HandleOk.f a b = some (decide (a ≥ 0 ∧ b ≥ 1)) := hok a b
  have hk2 : spec_HandleOk.f a b = some (decide (a ≥ 0 ∧ b ≥ 1)) := hok a b
  have hj := names_j0 k (by omega) s t r.1 r.2.1 r.2.2 x.1 x.2.1 x.2.2.1 x.2.2.2.1 x.2.2.2.2 a b ha hb2 r3 x3
  simp only [e1, e2, e3, e4, e5, r1, r2, x1, x2, c1, c2, o1, o2, hk1, hk2, hS a b (small64 a ha) (small64 b hb2) (show 20 < k by omega), hI a b (small64 a ha) (small64 b hb2), rS p q u v (small64 p hp) (small64 q hq) (small64 u hu) (small64 v hv) (show 20 < k by omega), rI p q u v (small64 p hp) (small64 q hq) (small64 u hu) (small64 v hv), Option.bind_some, beq_self_eq_true, bne_self_eq_false, Bool.not_true, Bool.or_self, Bool.false_eq_true, ↓reduceIte, hj]
end Go.Proofs.YtjnmefhohkffpaaDoor.Pure
