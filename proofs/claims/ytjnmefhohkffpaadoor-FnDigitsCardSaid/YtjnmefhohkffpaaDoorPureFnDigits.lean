/- What the law FnDigits computes is the answer true, for all arguments within the bounds that the statement's own reading gives. No other condition. -/
import Derived.OpenShut
import Derived.Test.YtjnmefhohkffpaaDoorQFnDigitsx2
namespace Go.Proofs.YtjnmefhohkffpaaDoor.Pure
open Go.RowKit Go.Proofs.YtjnmefhohkffpaaDoor.QFnDigits Go.Proofs.YtjnmefhohkffpaaDoorW.PrintWords Go.Proofs.YtjnmefhohkffpaaDoorW.PrintLast
set_option linter.unusedVariables false
set_option linter.unusedSimpArgs false
def laws_FnDigits.Pure : Prop := ∀ (l0 : List Int), l0.length ≤ maxLen → l0.length * 1 ≤ 140737488351232 → (∀ x ∈ l0, (Lit.int .u8 x).wf = true) → ∃ k, laws_FnDigits.f k l0 = some true
theorem w1 {i : Nat} (h : i < 9223372036854775807) : wrap64 ((i : Int) + 1) = ((i + 1 : Nat) : Int) := by unfold wrap64; omega
theorem rd_nat (xs : List Int) (i : Nat) : rd xs (i : Int) = xs.getD i 0 := by simp [rd]
theorem getD_lt (xs : List Int) (i : Nat) (h : i < xs.length) : xs.getD i 0 = xs[i] := by simp [List.getD, List.getElem?_eq_getElem h]
theorem drop_cons (xs : List Int) (i : Nat) (h : i < xs.length) : xs.drop i = xs.getD i 0 :: xs.drop (i + 1) := by rw [getD_lt xs i h]; exact List.drop_eq_getElem_cons h
theorem set_take {x l : List Int} {i : Nat} (hi : i < l.length) (hx : x.length = l.length) (ht : x.take i = l.take i) : (x.set i (l.getD i 0)).take (i + 1) = l.take (i + 1) := by
  apply List.ext_getElem?
  intro j
  have hj := congrArg (fun z => z[j]?) ht
  simp only [List.getElem?_take] at hj ⊢
  by_cases h1 : j < i + 1
  · rw [if_pos h1, if_pos h1, List.getElem?_set]
    by_cases h2 : i = j
    · subst h2
      rw [if_pos rfl, if_pos (by omega), List.getElem?_eq_getElem hi, getD_lt l i hi]
    · rw [if_neg h2]
      rw [if_pos (by omega), if_pos (by omega)] at hj
      exact hj
  · rw [if_neg h1, if_neg h1]
theorem i64_and255 (n : Int) : Go.bits .and .i64 n 255 = n % 256 := by
  have h : (BitVec.ofInt 64 255).toNat = 2 ^ 8 - 1 := by decide
  have key : (BitVec.ofInt 64 n &&& BitVec.ofInt 64 255).toNat = (n % ((2 ^ 64 : Nat) : Int)).toNat % 2 ^ 8 := by
    rw [BitVec.toNat_and, BitVec.toNat_ofInt, h, Nat.and_two_pow_sub_one_eq_mod]
  show IntKind.i64.wrap ((BitVec.ofInt 64 n &&& BitVec.ofInt 64 255).toNat : Nat) = n % 256
  rw [key, IntKind.wrap_i64]
  omega
def St (l : List Int) (i : Int) : Prop := 0 ≤ i ∧ i ≤ l.length
theorem new_l0 (l : List Int) (hl : l.length ≤ 1048576) : ∀ (d k i : Nat) (s : Int), l.length - i = d → i ≤ l.length → d < k → ∃ s', spec_l1New.l0 k l s (i : Int) = some (l, 0, s') := by
  intro d
  induction d with
  | zero =>
    intro k i s hd hi hk
    obtain ⟨k, rfl⟩ : ∃ m, k = m + 1 := ⟨k - 1, by omega⟩
    simp only [spec_l1New.l0]
    rw [if_neg (by omega)]; exact ⟨_, rfl⟩
  | succ d ih =>
    intro k i s hd hi hk
    obtain ⟨k, rfl⟩ : ∃ m, k = m + 1 := ⟨k - 1, by omega⟩
    simp only [spec_l1New.l0]
    rw [if_pos (by omega)]
    by_cases h : (i : Int) < 4000
    · rw [if_pos h, if_pos (by omega), w1 (by omega)]
      exact ih k (i + 1) _ (by omega) (by omega) (by omega)
    · rw [if_neg h]; exact ⟨_, rfl⟩
theorem new_some (l : List Int) (hl : l.length ≤ 1048576) {k : Nat} (hk : 1048576 < k) : ∃ s, spec_l1New.f k l = some (l, 0, s) := by
  unfold spec_l1New.f
  exact new_l0 l hl l.length k 0 _ (by omega) (by omega) (by omega)
theorem byte_some (l : List Int) (hl : l.length ≤ 1048576) (i s : Int) (hi : St l i) : ∃ v i' s', spec_l1Byte.f l i s = some (v, i', s') ∧ 0 ≤ v ∧ v ≤ 255 ∧ St l i' := by
  unfold spec_l1Byte.f
  obtain ⟨h0, h1⟩ := hi
  by_cases h : i < (l.length : Int)
  · rw [if_pos h, if_pos h0]
    refine ⟨_, _, _, rfl, ?_, ?_, ?_⟩
    · rw [i64_and255]; omega
    · rw [i64_and255]; omega
    · have e : wrap64 (i + 1) = i + 1 := by unfold wrap64; omega
      rw [e]; exact ⟨by omega, by omega⟩
  · rw [if_neg h]
    refine ⟨_, _, _, rfl, ?_, ?_, ⟨h0, h1⟩⟩
    · rw [i64_and255]; omega
    · rw [i64_and255]; omega
theorem below_some (l : List Int) (hl : l.length ≤ 1048576) (i s : Int) (hi : St l i) (n : Int) : ∃ v i' s', spec_l1Below.f l i s n = some (v, i', s') ∧ 0 ≤ v ∧ (0 < n → v < n) ∧ (n ≤ 0 → v = 0) ∧ St l i' := by
  unfold spec_l1Below.f
  by_cases h0 : n ≤ 0
  · rw [if_pos h0]; exact ⟨_, _, _, rfl, by omega, by omega, fun _ => rfl, hi⟩
  · rw [if_neg h0]
    obtain ⟨v, i1, s1, e1, v0, v1, hi1⟩ := byte_some l hl i s hi
    by_cases h1 : n ≤ 256
    · rw [if_pos h1, e1]
      simp only [Option.bind_some]
      rw [if_neg (by omega), Int.tmod_eq_emod_of_nonneg v0]
      exact ⟨_, _, _, rfl, Int.emod_nonneg _ (by omega), fun _ => Int.emod_lt_of_pos _ (by omega), by omega, hi1⟩
    · rw [if_neg h1, e1]
      simp only [Option.bind_some]
      obtain ⟨v', i2, s2, e2, v0', v1', hi2⟩ := byte_some l hl i1 s1 hi1
      rw [e2]
      simp only [Option.bind_some]
      obtain ⟨v'', i3, s3, e3, v0'', v1'', hi3⟩ := byte_some l hl i2 s2 hi2
      rw [e3]
      simp only [Option.bind_some]
      have q : 0 ≤ wrap64 (wrap64 (wrap64 (v * 65536) + wrap64 (v' * 256)) + v'') := by unfold wrap64; omega
      rw [if_neg (by omega), Int.tmod_eq_emod_of_nonneg q]
      exact ⟨_, _, _, rfl, Int.emod_nonneg _ (by omega), fun _ => Int.emod_lt_of_pos _ (by omega), by omega, hi3⟩
theorem once_some (l : List Int) (hl : l.length ≤ 1048576) (i s : Int) (hi : St l i) (n : Int) : ∃ b i' s', spec_l1Once.f l i s n = some (b, i', s') ∧ St l i' := by
  unfold spec_l1Once.f
  obtain ⟨v, i1, s1, e1, _, _, _, hi1⟩ := below_some l hl i s hi n
  rw [e1]; exact ⟨_, _, _, rfl, hi1⟩
theorem int_some (l : List Int) (hl : l.length ≤ 1048576) (i s : Int) (hi : St l i) (xs : List Int) (hx : 0 < xs.length) : ∃ v i' s', spec_l1Int.f l i s xs = some (v, i', s') ∧ v ∈ xs ∧ St l i' := by
  unfold spec_l1Int.f
  obtain ⟨v, i1, s1, e1, h0, h1, _, hi1⟩ := below_some l hl i s hi (xs.length : Int)
  rw [e1]
  simp only [Option.bind_some]
  have h2 := h1 (by omega)
  rw [if_pos h0, if_pos h2]
  refine ⟨_, _, _, rfl, ?_, hi1⟩
  have h3 : v.toNat < xs.length := by omega
  unfold rd
  rw [getD_lt xs _ h3]
  exact List.getElem_mem h3
theorem odd_some (l : List Int) (hl : l.length ≤ 1048576) (i s : Int) (hi : St l i) : ∃ v i' s', spec_l1Odd.f l i s = some (v, i', s') ∧ -9223372036854775808 ≤ v ∧ v ≤ 9223372036854775807 ∧ St l i' := by
  unfold spec_l1Odd.f
  obtain ⟨v, i1, s1, e1, hm, hi1⟩ := int_some l hl i s hi [(-1), 0, 1, 2, 255, 256, 65535, 2147483647, 2147483648, 4294967295, 4294967296, (-2147483648), 9223372036854775807, (-9223372036854775808)] (by simp)
  rw [e1]
  refine ⟨_, _, _, rfl, ?_, ?_, hi1⟩
  · simp only [List.mem_cons, List.not_mem_nil, or_false] at hm
    show -9223372036854775808 ≤ v
    omega
  · simp only [List.mem_cons, List.not_mem_nil, or_false] at hm
    show v ≤ 9223372036854775807
    omega
theorem raw_some (l : List Int) (hl : l.length ≤ 1048576) (i s : Int) (hi : St l i) : ∃ v i' s', spec_l1Raw.f l i s = some (v, i', s') ∧ -9223372036854775808 ≤ v ∧ v ≤ 9223372036854775807 ∧ St l i' := by
  unfold spec_l1Raw.f
  obtain ⟨b, i1, s1, e1, hi1⟩ := once_some l hl i s hi 2
  rw [e1]
  simp only [Option.bind_some]
  by_cases h : b = true
  · rw [if_pos h]
    obtain ⟨v, i2, s2, e2, h0, h1, hi2⟩ := odd_some l hl i1 s1 hi1
    rw [e2]; exact ⟨_, _, _, rfl, h0, h1, hi2⟩
  · rw [if_neg h]
    obtain ⟨v, i2, s2, e2, hm, hi2⟩ := int_some l hl i1 s1 hi1 [(-1), 1000000000, 1000000001] (by simp)
    rw [e2]
    simp only [List.mem_cons, List.not_mem_nil, or_false] at hm
    exact ⟨v, i2, s2, rfl, by omega, by omega, hi2⟩
theorem num_some (l : List Int) (hl : l.length ≤ 1048576) (i s : Int) (hi : St l i) : ∃ v i' s', spec_l1Num.f l i s = some (v, i', s') ∧ 0 ≤ v ∧ v ≤ 1000000000 ∧ St l i' := by
  unfold spec_l1Num.f
  obtain ⟨b, i1, s1, e1, _, _, _, hi1⟩ := below_some l hl i s hi 4
  rw [e1]
  simp only [Option.bind_some]
  by_cases h0 : b = 0
  · rw [if_pos h0]
    obtain ⟨v, i2, s2, e2, v0, v1, _, hi2⟩ := below_some l hl i1 s1 hi1 2000
    have := v1 (by omega)
    rw [e2]; exact ⟨v, i2, s2, rfl, by omega, by omega, hi2⟩
  · rw [if_neg h0]
    by_cases h1 : b = 1
    · rw [if_pos h1]
      obtain ⟨v, i2, s2, e2, hm, hi2⟩ := int_some l hl i1 s1 hi1 [0, 1, 7, 8, 9, 1000000000] (by simp)
      rw [e2]
      simp only [List.mem_cons, List.not_mem_nil, or_false] at hm
      exact ⟨v, i2, s2, rfl, by omega, by omega, hi2⟩
    · rw [if_neg h1]
      by_cases h2 : b = 2
      · rw [if_pos h2]
        obtain ⟨v, i2, s2, e2, v0, v1, _, hi2⟩ := below_some l hl i1 s1 hi1 40000
        rw [e2]
        simp only [Option.bind_some]
        obtain ⟨u, i3, s3, e3, u0, u1, _, hi3⟩ := below_some l hl i2 s2 hi2 25000
        rw [e3]
        have := v1 (by omega)
        have := u1 (by omega)
        have m0 : 0 ≤ v * u := Int.mul_nonneg v0 u0
        have m1 : v * u ≤ 39999 * 24999 := Int.mul_le_mul (by omega) (by omega) u0 (by omega)
        have e : wrap64 (v * u) = v * u := by unfold wrap64; omega
        refine ⟨wrap64 (v * u), i3, s3, rfl, ?_, ?_, hi3⟩ <;> rw [e] <;> omega
      · rw [if_neg h2]
        obtain ⟨v, i2, s2, e2, v0, v1, _, hi2⟩ := below_some l hl i1 s1 hi1 20
        have := v1 (by omega)
        rw [e2]; exact ⟨v, i2, s2, rfl, by omega, by omega, hi2⟩
theorem one_some (l : List Int) (hl : l.length ≤ 1048576) (i s : Int) (hi : St l i) : ∃ v i' s', spec_l1One.f l i s = some (v, i', s') ∧ -9223372036854775808 ≤ v ∧ v ≤ 9223372036854775807 ∧ St l i' := by
  unfold spec_l1One.f
  obtain ⟨b, i1, s1, e1, hi1⟩ := once_some l hl i s hi 6
  rw [e1]
  simp only [Option.bind_some]
  by_cases h : b = true
  · rw [if_pos h]
    obtain ⟨v, i2, s2, e2, v0, v1, hi2⟩ := raw_some l hl i1 s1 hi1
    rw [e2]; exact ⟨v, i2, s2, rfl, by omega, by omega, hi2⟩
  · rw [if_neg h]
    obtain ⟨v, i2, s2, e2, v0, v1, hi2⟩ := num_some l hl i1 s1 hi1
    rw [e2]; exact ⟨v, i2, s2, rfl, by omega, by omega, hi2⟩
theorem str_some (l : List Int) (hl : l.length ≤ 1048576) (i s : Int) (hi : St l i) (xs : List ByteArray) (hx : 0 < xs.length) : ∃ v i' s', spec_l1Str.f l i s xs = some (v, i', s') ∧ v ∈ xs ∧ St l i' := by
  unfold spec_l1Str.f
  obtain ⟨v, i1, s1, e1, h0, h1, _, hi1⟩ := below_some l hl i s hi (xs.length : Int)
  rw [e1]
  simp only [Option.bind_some]
  have h2 := h1 (by omega)
  rw [if_pos h0, if_pos h2]
  refine ⟨_, _, _, rfl, ?_, hi1⟩
  have h3 : v.toNat < xs.length := by omega
  unfold rdOf
  rw [List.getD_eq_getElem?_getD, List.getElem?_eq_getElem h3, Option.getD_some]
  exact List.getElem_mem h3
theorem digW (x : Int) (h0 : -9223372036854775808 ≤ x) (h1 : x ≤ 9223372036854775807) :
    (if (Int.tmod x 10) < 0 then wrap64 (48 + (wrap64 (-(Int.tmod x 10)))) % 256 else wrap64 (48 + (Int.tmod x 10)) % 256) = ((48 + x.natAbs % 10 : Nat) : Int) ∧ (wrap64 (Int.tdiv x 10)).natAbs = x.natAbs / 10 ∧ wrap64 (Int.tdiv x 10) = Int.tdiv x 10 ∧ -9223372036854775808 ≤ Int.tdiv x 10 ∧ Int.tdiv x 10 ≤ 9223372036854775807 := by
  rcases Int.eq_nat_or_neg x with ⟨u, hu | hu⟩
  · subst hu
    have e1 : Int.tmod (u : Int) 10 = ((u % 10 : Nat) : Int) := (Int.ofNat_tmod u 10).symm
    have e2 : Int.tdiv (u : Int) 10 = ((u / 10 : Nat) : Int) := (Int.ofNat_tdiv u 10).symm
    have e3 : (u : Int).natAbs = u := Int.natAbs_natCast u
    have w : wrap64 ((u / 10 : Nat) : Int) = ((u / 10 : Nat) : Int) := by unfold wrap64; omega
    rw [e1, e2, e3, w, if_neg (by omega)]
    refine ⟨?_, ?_, rfl, ?_, ?_⟩ <;> (try unfold wrap64) <;> omega
  · subst hu
    have e1 : Int.tmod (-(u : Int)) 10 = -((u % 10 : Nat) : Int) := by rw [Int.neg_tmod, show Int.tmod (u : Int) 10 = ((u % 10 : Nat) : Int) from (Int.ofNat_tmod u 10).symm]
    have e2 : Int.tdiv (-(u : Int)) 10 = -((u / 10 : Nat) : Int) := by rw [Int.neg_tdiv, show Int.tdiv (u : Int) 10 = ((u / 10 : Nat) : Int) from (Int.ofNat_tdiv u 10).symm]
    have e3 : (-(u : Int)).natAbs = u := by rw [Int.natAbs_neg]; exact Int.natAbs_natCast u
    have w : wrap64 (-((u / 10 : Nat) : Int)) = -((u / 10 : Nat) : Int) := by unfold wrap64; omega
    have w2 : wrap64 (-(-((u % 10 : Nat) : Int))) = ((u % 10 : Nat) : Int) := by unfold wrap64; omega
    rw [e1, e2, e3, w, w2]
    refine ⟨?_, ?_, rfl, ?_, ?_⟩
    · by_cases c : (-((u % 10 : Nat) : Int)) < 0
      · rw [if_pos c]; unfold wrap64; omega
      · rw [if_neg c]; unfold wrap64; omega
    all_goals omega
def digs (u : Nat) : List UInt8 := if u = 0 then [] else Lib.decDigits u
theorem digs_step (u : Nat) (h : u ≠ 0) : digs u = digs (u / 10) ++ [UInt8.ofNat (48 + u % 10)] := by
  unfold digs
  rw [if_neg h, Lib.decDigits]
  by_cases c : u < 10
  · rw [dif_pos c, if_pos (by omega), show u % 10 = u by omega]
    rfl
  · rw [dif_neg c, if_neg (by omega)]
def finN (a0 : Int) (l : List UInt8) : List UInt8 := if a0 < 0 then 45 :: l else l
theorem digs_len : ∀ (j u : Nat), u < 10 ^ j → (digs u).length ≤ j
  | 0, u, h => by
    have : u = 0 := by simp at h; exact h
    subst this
    simp [digs]
  | j + 1, u, h => by
    by_cases c : u = 0
    · subst c
      simp [digs]
    · rw [digs_step u c, List.length_append]
      have := digs_len j (u / 10) (by rw [Nat.pow_succ] at h; omega)
      simp
      omega
theorem numS_l0 (a0 : Int) : ∀ (j k : Nat) (x : Int) (l : List UInt8), x.natAbs < 10 ^ j → j < k → -9223372036854775808 ≤ x → x ≤ 9223372036854775807 → l.length + j ≤ 1000 →
    spec_NumText.l0 k a0 (⟨l.toArray⟩ : ByteArray) x = some (⟨(finN a0 (digs x.natAbs ++ l)).toArray⟩ : ByteArray) := by
  have stop : ∀ (k : Nat) (l : List UInt8), l.length ≤ 1000 → spec_NumText.l0 (k + 1) a0 (⟨l.toArray⟩ : ByteArray) 0 = some (⟨(finN a0 (digs (0 : Int).natAbs ++ l)).toArray⟩ : ByteArray) := by
    intro k l hl
    have hd : digs (0 : Int).natAbs = [] := rfl
    have hs : (⟨l.toArray⟩ : ByteArray).size = l.length := by simp [ByteArray.size]
    rw [hd]
    simp only [spec_NumText.l0, if_true, List.nil_append, finN]
    by_cases c : a0 < 0
    · rw [if_pos c, if_pos (by omega), if_pos c]
      rfl
    · rw [if_neg c, if_neg c]
  intro j
  induction j with
  | zero =>
    intro k x l h hk _ _ hl
    obtain ⟨k, rfl⟩ : ∃ m, k = m + 1 := ⟨k - 1, by omega⟩
    have e : x = 0 := by simp at h; exact h
    subst e
    exact stop k l (by omega)
  | succ j ih =>
    intro k x l h hk h0 h1 hl
    obtain ⟨k, rfl⟩ : ∃ m, k = m + 1 := ⟨k - 1, by omega⟩
    by_cases c : x = 0
    · subst c
      exact stop k l (by omega)
    · obtain ⟨e1, e2, e3, e4, e5⟩ := digW x h0 h1
      have hs : (⟨l.toArray⟩ : ByteArray).size = l.length := by simp [ByteArray.size]
      have hn : x.natAbs ≠ 0 := by omega
      have app : ∀ d : Nat, (strOfNums [(d : Int)]) ++ (⟨l.toArray⟩ : ByteArray) = (⟨(UInt8.ofNat d :: l).toArray⟩ : ByteArray) := by
        intro d
        apply ByteArray.ext
        simp [strOfNums]
      have sz : ∀ d : Nat, (strOfNums [(d : Int)]).size = 1 := by
        intro d
        rw [strOfNums_size]
        rfl
      have R := ih k (Int.tdiv x 10) (UInt8.ofNat (48 + x.natAbs % 10) :: l) (by rw [e3] at e2; rw [e2]; rw [Nat.pow_succ] at h; omega) (by omega) e4 e5 (by simp; omega)
      have G : spec_NumText.l0 k a0 (⟨(UInt8.ofNat (48 + x.natAbs % 10) :: l).toArray⟩ : ByteArray) (Int.tdiv x 10) = some (⟨(finN a0 (digs x.natAbs ++ l)).toArray⟩ : ByteArray) := by
        rw [R]
        rw [e3] at e2
        rw [e2, digs_step x.natAbs hn, List.append_assoc]
        rfl
      simp only [spec_NumText.l0]
      rw [if_neg c]
      by_cases c2 : (Int.tmod x 10) < 0
      · rw [if_pos c2] at e1
        rw [if_pos c2, e1]
        simp only [Option.bind_some]
        rw [if_pos (by rw [sz, hs]; omega), app, e3]
        exact G
      · rw [if_neg c2] at e1
        rw [if_neg c2, e1]
        simp only [Option.bind_some]
        rw [if_pos (by rw [sz, hs]; omega), app, e3]
        exact G
theorem itoa_fin (n : Int) (h : n ≠ 0) : Lib.itoa n = finN n (digs n.natAbs) := by
  unfold Lib.itoa finN digs
  by_cases c : n < 0
  · rw [if_pos c, if_pos c, if_neg (by omega)]
  · rw [if_neg c, if_neg c, if_neg (by omega), show n.toNat = n.natAbs by omega]
theorem numS (n : Int) (h0 : -9223372036854775808 ≤ n) (h1 : n ≤ 9223372036854775807) {k : Nat} (hk : 20 < k) : spec_NumText.f k n = some (⟨(Lib.itoa n).toArray⟩ : ByteArray) := by
  unfold spec_NumText.f
  by_cases c : n = 0
  · rw [if_pos c]
    subst c
    congr 1
    apply ByteArray.ext
    have : Lib.itoa 0 = [48] := by unfold Lib.itoa; rw [if_neg (by decide)]; unfold Lib.decDigits; rfl
    rw [this]
  · rw [if_neg c]
    have := numS_l0 n 20 k n [] (by omega) hk h0 h1 (by decide)
    rw [List.append_nil, ← itoa_fin n c] at this
    exact this
theorem numI (n : Int) (h0 : -9223372036854775808 ≤ n) (h1 : n ≤ 9223372036854775807) : impl_NumText.f n = some (⟨(Lib.itoa n).toArray⟩ : ByteArray) := by
  unfold impl_NumText.f strconv_Itoa.f
  rw [if_pos ⟨h0, h1⟩]
  rfl
def nt (n : Int) : ByteArray := ⟨(Lib.itoa n).toArray⟩
theorem nt_size (n : Int) (h0 : -9223372036854775808 ≤ n) (h1 : n ≤ 9223372036854775807) : (nt n).size ≤ 21 := by
  have := Lib.itoa_length_le n h0 h1
  show (Lib.itoa n).toArray.size ≤ 21
  simpa using this
def vf (acc : Nat) : List UInt8 → Option Nat
  | [] => some acc
  | c :: r => if 48 ≤ c.toNat ∧ c.toNat ≤ 57 then vf (acc * 10 + (c.toNat - 48)) r else none
/-- The number of a text, and whether it has one. -/
def pn (l : List UInt8) : Int × Bool :=
  if 1 ≤ l.length ∧ l.length ≤ 10 then
    match vf 0 l with
    | none => (0, false)
    | some u => if u ≤ 1000000000 ∧ Lib.itoa (u : Int) = l then ((u : Int), true) else (0, false)
  else (0, false)
theorem vf_mono : ∀ (l : List UInt8) (acc u : Nat), vf acc l = some u → acc ≤ u
  | [], acc, u, h => by
    simp only [vf, Option.some.injEq] at h
    omega
  | c :: r, acc, u, h => by
    simp only [vf] at h
    by_cases k : 48 ≤ c.toNat ∧ c.toNat ≤ 57
    · rw [if_pos k] at h
      have := vf_mono r _ u h
      omega
    · rw [if_neg k] at h
      cases h
theorem vf_parse : ∀ (l : List UInt8) (acc u : Nat), vf acc l = some u → u ≤ 1000000000 → Lib.parseUint10 acc l = .ok u
  | [], acc, u, h, _ => by
    simp only [vf, Option.some.injEq] at h
    rw [h]
    rfl
  | c :: r, acc, u, h, hu => by
    simp only [vf] at h
    by_cases k : 48 ≤ c.toNat ∧ c.toNat ≤ 57
    · rw [if_pos k] at h
      have := vf_mono r _ u h
      simp only [Lib.parseUint10]
      rw [if_pos k, if_neg (by omega), if_neg (by omega)]
      exact vf_parse r _ u h hu
    · rw [if_neg k] at h
      cases h
theorem vf_atoi (l : List UInt8) (u : Nat) (h : vf 0 l = some u) (hu : u ≤ 1000000000) (hl : 1 ≤ l.length) : Lib.atoiAll l = .ok (u : Int) := by
  cases l with
  | nil => exact absurd hl (by decide)
  | cons c r =>
    have p := vf_parse (c :: r) 0 u h hu
    have k : 48 ≤ c.toNat ∧ c.toNat ≤ 57 := by
      simp only [vf] at h
      by_cases k : 48 ≤ c.toNat ∧ c.toNat ≤ 57
      · exact k
      · rw [if_neg k] at h
        cases h
    have n1 : ¬ (c.toNat = 43 ∨ c.toNat = 45) := by omega
    have n2 : ¬ c.toNat = 45 := by omega
    have e : Lib.parseMag (c :: r) = .ok u := by
      unfold Lib.parseMag
      rw [if_neg (by simp)]
      exact p
    unfold Lib.atoiAll
    simp only [if_neg n1, e]
    rw [if_neg (by omega), if_neg (fun x => n2 x.1), if_neg n2]
theorem vf_append : ∀ (a b : List UInt8) (acc : Nat), vf acc (a ++ b) = (vf acc a).bind fun x => vf x b
  | [], b, acc => rfl
  | c :: r, b, acc => by
    simp only [List.cons_append, vf]
    by_cases k : 48 ≤ c.toNat ∧ c.toNat ≤ 57
    · rw [if_pos k, if_pos k]
      exact vf_append r b _
    · rw [if_neg k, if_neg k]
      rfl
theorem dig_toNat (d : Nat) (h : d < 10) : (UInt8.ofNat (48 + d)).toNat = 48 + d := by
  simp only [UInt8.toNat_ofNat']
  omega
theorem vf_one (acc d : Nat) (h : d < 10) : vf acc [UInt8.ofNat (48 + d)] = some (acc * 10 + d) := by
  simp only [vf]
  rw [dig_toNat d h, if_pos (by omega), show 48 + d - 48 = d by omega]
theorem vf_dec (u : Nat) : vf 0 (Lib.decDigits u) = some u := by
  induction u using Nat.strongRecOn with
  | _ u ih =>
    rw [Lib.decDigits]
    by_cases h : u < 10
    · rw [dif_pos h, vf_one 0 u h]
      congr 1
      omega
    · rw [dif_neg h, vf_append, ih (u / 10) (by omega), Option.bind_some, vf_one _ _ (by omega)]
      congr 1
      omega
theorem dec_len (u : Nat) (h : u ≤ 1000000000) : 1 ≤ (Lib.decDigits u).length ∧ (Lib.decDigits u).length ≤ 10 := by
  refine ⟨by rw [Lib.decDigits_length]; exact Lib.nDigits_pos u, ?_⟩
  by_cases c : u = 0
  · subst c
    rw [Lib.decDigits, dif_pos (by decide)]
    decide
  · have := digs_len 10 u (by omega)
    unfold digs at this
    rw [if_neg c] at this
    exact this
theorem itoa_nat (u : Nat) : Lib.itoa (u : Int) = Lib.decDigits u := by
  unfold Lib.itoa
  rw [if_neg (by omega), Int.toNat_natCast]
theorem pn_dec (u : Nat) (h : u ≤ 1000000000) : pn (Lib.itoa (u : Int)) = ((u : Int), true) := by
  have hl := dec_len u h
  unfold pn
  rw [itoa_nat, if_pos hl, vf_dec]
  simp only
  rw [if_pos ⟨h, itoa_nat u⟩]
theorem pn_no (l : List UInt8) (h : ∀ u : Nat, u ≤ 1000000000 → Lib.itoa (u : Int) ≠ l) : pn l = (0, false) := by
  unfold pn
  by_cases c : 1 ≤ l.length ∧ l.length ≤ 10
  · rw [if_pos c]
    cases e : vf 0 l with
    | none => rfl
    | some u =>
      simp only
      rw [if_neg (fun x => h u x.1 x.2)]
  · rw [if_neg c]
theorem pn_yes (l : List UInt8) (v : Int) (h : pn l = (v, true)) : 0 ≤ v ∧ v ≤ 1000000000 ∧ Lib.itoa v = l := by
  by_cases c : ∃ u : Nat, u ≤ 1000000000 ∧ Lib.itoa (u : Int) = l
  · obtain ⟨u, hu, e⟩ := c
    rw [← e, pn_dec u hu] at h
    have hv : (u : Int) = v := (Prod.mk.injEq _ _ _ _ ▸ h).1
    rw [← hv]
    exact ⟨by omega, by omega, e⟩
  · rw [pn_no l (fun u hu e => c ⟨u, hu, e⟩)] at h
    have : false = true := (Prod.mk.injEq _ _ _ _ ▸ h).2
    cases this
theorem pn_range (l : List UInt8) : 0 ≤ (pn l).1 ∧ (pn l).1 ≤ 1000000000 := by
  by_cases c : ∃ u : Nat, u ≤ 1000000000 ∧ Lib.itoa (u : Int) = l
  · obtain ⟨u, hu, e⟩ := c
    rw [← e, pn_dec u hu]
    exact ⟨by simp, by simp; omega⟩
  · rw [pn_no l (fun u hu e => c ⟨u, hu, e⟩)]
    exact ⟨by decide, by decide⟩
theorem parseI (s : ByteArray) (hs : s.size ≤ 140737488355328) : impl_ParseNum.f s = some (pn s.data.toList) := by
  unfold impl_ParseNum.f
  rw [if_pos hs]
  have no : ∀ u : Nat, u ≤ 1000000000 → Lib.itoa (u : Int) = s.data.toList → Lib.atoiAll s.data.toList = .ok (u : Int) := by
    intro u hu e
    rw [← e, itoa_nat]
    exact vf_atoi _ u (vf_dec u) hu (dec_len u hu).1
  cases hA : Lib.atoiAll s.data.toList with
  | «syntax» =>
    simp only
    rw [pn_no _ (fun u hu e => by have := no u hu e; rw [hA] at this; cases this)]
  | range =>
    simp only
    rw [pn_no _ (fun u hu e => by have := no u hu e; rw [hA] at this; cases this)]
  | ok v =>
    simp only
    by_cases c1 : v < 0
    · rw [if_pos c1, pn_no _ (fun u hu e => by have := no u hu e; rw [hA] at this; injection this with this; omega)]
    · rw [if_neg c1]
      by_cases c2 : v > 1000000000
      · rw [if_pos c2, pn_no _ (fun u hu e => by have := no u hu e; rw [hA] at this; injection this with this; omega)]
      · rw [if_neg c2, numI v (by omega) (by omega), Option.bind_some]
        obtain ⟨u, rfl⟩ : ∃ u : Nat, v = (u : Int) := ⟨v.toNat, by omega⟩
        have e1 : (⟨(Lib.itoa (u : Int)).toArray⟩ : ByteArray).toList = Lib.itoa (u : Int) := by rw [Lib.toList_data]
        rw [e1, Lib.toList_data]
        by_cases c3 : Lib.itoa (u : Int) = s.data.toList
        · rw [if_pos c3, ← c3, pn_dec u (by omega)]
        · rw [if_neg c3, pn_no _ (fun u' hu e => by have := no u' hu e; rw [hA] at this; injection this with this; exact c3 (this ▸ e))]
theorem l1in (x a b : Int) : spec_l1In.f x a b = some (decide (a ≤ x ∧ x ≤ b)) := by
  unfold spec_l1In.f
  by_cases c1 : x ≥ a
  · by_cases c2 : x ≤ b
    · have c3 : a ≤ x ∧ x ≤ b := ⟨c1, c2⟩
      simp [c1, c2]
    · have c3 : ¬ (a ≤ x ∧ x ≤ b) := fun h => c2 h.2
      simp [c1, c2]
  · have c3 : ¬ a ≤ x := c1
    simp [c3]
theorem byte_drop (s : ByteArray) (i : Nat) (h : i < s.size) : ∃ c : UInt8, s.data.toList.drop i = c :: s.data.toList.drop (i + 1) ∧ bt s (i : Int) = (c.toNat : Int) := by
  have hl : i < s.data.toList.length := by rw [Array.length_toList]; exact h
  refine ⟨s.data.toList[i], List.drop_eq_getElem_cons hl, ?_⟩
  unfold bt
  rw [dif_pos (by rw [Int.toNat_natCast]; exact h)]
  simp only [Int.toNat_natCast, Array.getElem_toList]
  rfl
theorem pw10 (acc i : Nat) (hi : i ≤ 10) (h : acc < 10 ^ i) : acc < 10000000000 := Nat.lt_of_lt_of_le h (Nat.pow_le_pow_right (n := 10) (by decide) hi)
theorem pw_step (acc c i : Nat) (h : acc < 10 ^ i) (hc : c ≤ 57) : acc * 10 + (c - 48) < 10 ^ (i + 1) := by
  rw [Nat.pow_succ]
  generalize 10 ^ i = p at h ⊢
  omega
theorem dig_step (acc c : Nat) (ha : acc < 10000000000) (h : 48 ≤ c ∧ c ≤ 57) : wrap64 ((wrap64 (10 * (acc : Int))) + ((((c : Nat) : Int) - 48) % 256)) = ((acc * 10 + (c - 48) : Nat) : Int) := by
  unfold wrap64
  omega
theorem wrap_nat (i : Nat) (h : i ≤ 1000000000000) : wrap64 (i : Int) = (i : Int) := by
  unfold wrap64
  omega
theorem in_facts (i n d k : Nat) (hs : n ≤ 10) (hd : n - i = d + 1) (hk : d + 1 + 21 < k + 1) : n - (i + 1) = d ∧ i + 1 ≤ n ∧ d + 21 < k ∧ i < n ∧ (i : Int) < (n : Int) ∧ 0 ≤ (i : Int) ∧ i ≤ 10 := by omega
theorem out_facts (i n k : Nat) (hs : n ≤ 10) (hd : n - i = 0) (hi : i ≤ n) (hk : 0 + 21 < k + 1) : n ≤ i ∧ ¬ (i : Int) < (n : Int) ∧ i ≤ 10 ∧ 20 < k := by omega
theorem acc_facts (acc : Nat) (h : acc < 10000000000) : -9223372036854775808 ≤ (acc : Int) ∧ (acc : Int) ≤ 9223372036854775807 ∧ ((acc : Int) > 1000000000 ↔ ¬ acc ≤ 1000000000) := by omega
theorem dig_iff (c : Nat) : (48 ≤ c ∧ c ≤ 57) ↔ ((48 : Int) ≤ (c : Int) ∧ (c : Int) ≤ 57) := by omega
theorem u8_small (c : UInt8) : c.toNat ≤ 1000000000000 := Nat.le_of_lt (Nat.lt_of_lt_of_le c.toNat_lt (by decide))
theorem parse_l0 (s : ByteArray) (hs : s.size ≤ 10) : ∀ (d i k acc : Nat), s.size - i = d → i ≤ s.size → d + 21 < k → acc < 10 ^ i →
    spec_ParseNum.l0 k s (acc : Int) (i : Int) = some (match vf acc (s.data.toList.drop i) with
      | none => (0, false)
      | some u => if u ≤ 1000000000 ∧ Lib.itoa (u : Int) = s.data.toList then ((u : Int), true) else (0, false)) := by
  intro d
  induction d with
  | zero =>
    intro i k acc hd hi hk ha
    cases k with
    | zero => exact absurd hk (Nat.not_lt_zero _)
    | succ k =>
    obtain ⟨f1, f2, f3, f4⟩ := out_facts i s.size k hs hd hi hk
    obtain ⟨g1, g2, g3⟩ := acc_facts acc (pw10 acc i f3 ha)
    have hl : s.data.toList.length = s.size := by rw [Array.length_toList]; rfl
    rw [List.drop_eq_nil_of_le (by rw [hl]; exact f1)]
    simp only [spec_ParseNum.l0, vf]
    rw [if_neg f2]
    by_cases c : (acc : Int) > 1000000000
    · rw [if_pos c, if_neg (fun h => g3.mp c h.1)]
    · rw [if_neg c, numS (acc : Int) g1 g2 f4, Option.bind_some]
      have e1 : (⟨(Lib.itoa (acc : Int)).toArray⟩ : ByteArray).toList = Lib.itoa (acc : Int) := by rw [Lib.toList_data]
      rw [e1, Lib.toList_data]
      by_cases c3 : Lib.itoa (acc : Int) = s.data.toList
      · rw [if_pos c3, if_pos ⟨Decidable.not_not.mp (fun h => c (g3.mpr h)), c3⟩]
      · rw [if_neg c3, if_neg (fun h => c3 h.2)]
  | succ d ih =>
    intro i k acc hd hi hk ha
    cases k with
    | zero => exact absurd hk (Nat.not_lt_zero _)
    | succ k =>
    obtain ⟨a1, a2, a3, a4, a5, a6, a7⟩ := in_facts i s.size d k hs hd hk
    obtain ⟨c, e1, e2⟩ := byte_drop s i a4
    rw [e1]
    simp only [spec_ParseNum.l0, vf]
    rw [if_pos a5, if_pos a6, e2, wrap_nat _ (u8_small c), l1in, Option.bind_some]
    by_cases h : 48 ≤ c.toNat ∧ c.toNat ≤ 57
    · have q2 : wrap64 ((i : Int) + 1) = ((i + 1 : Nat) : Int) := wrap_nat (i + 1) (Nat.le_trans (Nat.succ_le_succ a7) (by decide))
      rw [if_pos (by rw [decide_eq_true_iff]; exact (dig_iff _).mp h), if_pos h, dig_step acc c.toNat (pw10 acc i a7 ha) h, q2]
      exact ih (i + 1) k _ a1 a2 a3 (pw_step acc c.toNat i ha h.2)
    · rw [if_neg (by rw [decide_eq_true_iff]; exact fun x => h ((dig_iff _).mpr x)), if_neg h]
theorem len_iff (n : Nat) : (1 ≤ n ∧ n ≤ 10) ↔ ((1 : Int) ≤ (n : Int) ∧ (n : Int) ≤ 10) := by omega
theorem fuel_ok (n k : Nat) (h : n ≤ 10) (hk : 40 < k) : n + 21 < k := by omega
theorem parseS (s : ByteArray) {k : Nat} (hk : 40 < k) : spec_ParseNum.f k s = some (pn s.data.toList) := by
  have hl : s.data.toList.length = s.size := by rw [Array.length_toList]; rfl
  unfold spec_ParseNum.f pn
  rw [l1in, Option.bind_some, hl]
  by_cases h : 1 ≤ s.size ∧ s.size ≤ 10
  · rw [if_pos (by rw [decide_eq_true_iff]; exact (len_iff _).mp h), if_pos h]
    have := parse_l0 s h.2 s.size 0 k 0 (Nat.sub_zero _) (Nat.zero_le _) (fuel_ok _ _ h.2 hk) (by decide)
    rw [List.drop_zero] at this
    exact this
  · rw [if_neg (by rw [decide_eq_true_iff]; exact fun x => h ((len_iff _).mpr x)), if_neg h]
theorem itoa_pn (n : Int) (u : Nat) (h : Lib.itoa (u : Int) = Lib.itoa n) : n = (u : Int) := by
  have e := vf_dec u
  rw [← itoa_nat, h] at e
  by_cases c : n < 0
  · unfold Lib.itoa at e
    rw [if_pos c] at e
    simp only [vf] at e
    rw [if_neg (by decide)] at e
    cases e
  · obtain ⟨m, rfl⟩ : ∃ m : Nat, n = (m : Int) := ⟨n.toNat, by omega⟩
    rw [itoa_nat, vf_dec] at e
    rw [Option.some.inj e]
theorem pn_in (n : Int) (h0 : 0 ≤ n) (h1 : n ≤ 1000000000) : pn (Lib.itoa n) = (n, true) := by
  obtain ⟨m, rfl⟩ : ∃ m : Nat, n = (m : Int) := ⟨n.toNat, by omega⟩
  exact pn_dec m (by omega)
theorem pn_out (n : Int) (h : ¬ (0 ≤ n ∧ n ≤ 1000000000)) : pn (Lib.itoa n) = (0, false) := by
  refine pn_no _ fun u hu e => h ?_
  have := itoa_pn n u e
  omega
theorem drawText (l : List Int) (hl : l.length ≤ 1048576) {k : Nat} (hk : 1048576 < k) : ∃ n, spec_DrawNumText.f k l = some n ∧ -9223372036854775808 ≤ n ∧ n ≤ 9223372036854775807 := by
  unfold spec_DrawNumText.f
  obtain ⟨s0, e0⟩ := new_some l hl hk
  have h0 : St l 0 := ⟨by omega, by omega⟩
  obtain ⟨v, i1, s1, e1, v0, v1, _⟩ := one_some l hl 0 s0 h0
  rw [e0]
  simp only [Option.bind_some, e1]
  exact ⟨v, rfl, v0, v1⟩
theorem drawParse (l : List Int) (hl : l.length ≤ 1048576) {k : Nat} (hk : 1048576 < k) : ∃ s, spec_DrawParseNum.f k l = some s ∧ s.size ≤ 140737488355328 := by
  unfold spec_DrawParseNum.f
  obtain ⟨s0, e0⟩ := new_some l hl hk
  have h0 : St l 0 := ⟨by omega, by omega⟩
  obtain ⟨b, i1, s1, e1, hi1⟩ := once_some l hl 0 s0 h0 2
  rw [e0]
  simp only [Option.bind_some, e1]
  by_cases c : b = true
  · rw [if_pos c]
    obtain ⟨v, i2, s2, e2, hv, _⟩ := str_some l hl i1 s1 hi1 [(⟨#[]⟩ : ByteArray), (⟨#[48]⟩ : ByteArray), (⟨#[48, 48]⟩ : ByteArray), (⟨#[45, 49]⟩ : ByteArray), (⟨#[48, 49]⟩ : ByteArray), (⟨#[55]⟩ : ByteArray), (⟨#[49, 48, 48, 48, 48, 48, 48, 48, 48, 48]⟩ : ByteArray), (⟨#[49, 48, 48, 48, 48, 48, 48, 48, 48, 49]⟩ : ByteArray), (⟨#[57, 57, 57, 57, 57, 57, 57, 57, 57, 57, 57]⟩ : ByteArray), (⟨#[49, 120]⟩ : ByteArray), (⟨#[32, 49]⟩ : ByteArray)] (by simp)
    simp only [e2, Option.bind_some]
    refine ⟨v, rfl, ?_⟩
    simp only [List.mem_cons, List.not_mem_nil, or_false] at hv
    rcases hv with rfl | rfl | rfl | rfl | rfl | rfl | rfl | rfl | rfl | rfl | rfl <;> decide
  · rw [if_neg c]
    obtain ⟨v, i2, s2, e2, v0, v1, _⟩ := num_some l hl i1 s1 hi1
    rw [e2, Option.bind_some, numS v (by omega) (by omega) (by omega), Option.bind_some]
    exact ⟨_, rfl, Nat.le_trans (nt_size v (by omega) (by omega)) (by decide)⟩
theorem back (s : ByteArray) : (if (pn s.data.toList).2 = true then ((impl_NumText.f (pn s.data.toList).1).bind fun t => some (t.toList == s.toList)) else some true) = some true := by
  by_cases c : (pn s.data.toList).2 = true
  · have e : pn s.data.toList = ((pn s.data.toList).1, true) := by rw [← c]
    obtain ⟨h0, h1, h2⟩ := pn_yes _ _ e
    rw [if_pos c, numI _ (by omega) (by omega), Option.bind_some, Lib.toList_data, Lib.toList_data, h2]
    simp
  · rw [if_neg c]
theorem FnDigits : laws_FnDigits.Pure := by
  intro l _ _ _
  obtain ⟨k, hk⟩ : ∃ k : Nat, 4000000 < k := ⟨_, Nat.lt_succ_self _⟩
  refine ⟨k, ?_⟩
  unfold laws_FnDigits.f laws_big.f
  rw [Option.bind_some]
  by_cases hb : (l.length : Int) > 1048576
  · rw [decide_eq_true hb, if_pos rfl]
  rw [decide_eq_false hb, if_neg (by decide)]
  obtain ⟨n, e1, n0, n1⟩ := drawText l (by omega) (k := k) (by omega)
  obtain ⟨s, e2, hs⟩ := drawParse l (by omega) (k := k) (by omega)
  have hz : (⟨(Lib.itoa n).toArray⟩ : ByteArray).size ≤ 140737488355328 := Nat.le_trans (nt_size n n0 n1) (by decide)
  have e3 : (⟨(Lib.itoa n).toArray⟩ : ByteArray).data.toList = Lib.itoa n := rfl
  have hB := back s
  rw [e1, Option.bind_some, e2, Option.bind_some, numI n n0 n1, Option.bind_some, parseI _ hz, e3, Option.bind_some, parseI s hs, Option.bind_some, parseS s (by omega), Option.bind_some, Option.bind_some, numS n n0 n1 (by omega), Option.bind_some, if_pos rfl, if_pos rfl, if_neg (by simp)]
  by_cases c : n ≥ 0
  · rw [if_pos c]
    by_cases c2 : n ≤ 1000000000
    · rw [pn_in n c c2, decide_eq_true c2]
      simpa using hB
    · rw [pn_out n (fun h => c2 h.2), decide_eq_false c2]
      simpa using hB
  · rw [if_neg c, pn_out n (fun h => c h.1)]
    simpa using hB
end Go.Proofs.YtjnmefhohkffpaaDoor.Pure
