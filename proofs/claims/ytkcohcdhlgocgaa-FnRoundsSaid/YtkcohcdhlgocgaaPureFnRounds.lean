/- What the law FnRounds computes is the answer true, for all arguments within the bounds that the statement's own reading gives. No other condition. -/
import Derived.OpenShut
import Derived.Test.YtkcohcdhlgocgaaQFnRoundsx3
namespace Go.Proofs.Ytkcohcdhlgocgaa.Pure
open Go.RowKit Go.Proofs.Ytkcohcdhlgocgaa.QFnRounds Go.Proofs.YtkcohcdhlgocgaaW.PrintWords Go.Proofs.YtkcohcdhlgocgaaW.PrintLast
set_option linter.unusedVariables false
def laws_FnRounds.Pure : Prop := ∀ (l0 : List Int), l0.length ≤ maxLen → l0.length * 1 ≤ 140737488351232 → (∀ x ∈ l0, (Lit.int .u8 x).wf = true) → ∃ k, laws_FnRounds.f k l0 = some true
theorem w1 {i : Nat} (h : i < 9223372036854775807) : wrap64 ((i : Int) + 1) = ((i + 1 : Nat) : Int) := by unfold wrap64; omega
theorem rd_nat (xs : List Int) (i : Nat) : rd xs (i : Int) = xs.getD i 0 := by simp [rd]
theorem getD_lt (xs : List Int) (i : Nat) (h : i < xs.length) : xs.getD i 0 = xs[i] := by simp [List.getD, List.getElem?_eq_getElem h]
theorem drop_cons (xs : List Int) (i : Nat) (h : i < xs.length) : xs.drop i = xs.getD i 0 :: xs.drop (i + 1) := by rw [getD_lt xs i h]; exact List.drop_eq_getElem_cons h
theorem set_take {x l : List Int} {i : Nat} (hi : i < l.length) (hx : x.length = l.length) (ht : x.take i = l.take i) : (x.set i (l.getD i 0)).take (i + 1) = l.take (i + 1) := by
  apply List.ext_getElem?
  intro j
  have hj := congrArg (fun z => z[j]?) ht
  simp only [List.getElem?_take] at hj ⊢
  by_cases h1 : j < i + 1
  · rw [if_pos h1, if_pos h1, List.getElem?_set]
    by_cases h2 : i = j
    · subst h2
      rw [if_pos rfl, if_pos (by omega), List.getElem?_eq_getElem hi, getD_lt l i hi]
    · rw [if_neg h2]
      rw [if_pos (by omega), if_pos (by omega)] at hj
      exact hj
  · rw [if_neg h1, if_neg h1]
theorem i64_and255 (n : Int) : Go.bits .and .i64 n 255 = n % 256 := by
  have h : (BitVec.ofInt 64 255).toNat = 2 ^ 8 - 1 := by decide
  have key : (BitVec.ofInt 64 n &&& BitVec.ofInt 64 255).toNat = (n % ((2 ^ 64 : Nat) : Int)).toNat % 2 ^ 8 := by
    rw [BitVec.toNat_and, BitVec.toNat_ofInt, h, Nat.and_two_pow_sub_one_eq_mod]
  show IntKind.i64.wrap ((BitVec.ofInt 64 n &&& BitVec.ofInt 64 255).toNat : Nat) = n % 256
  rw [key, IntKind.wrap_i64]
  omega
def St (l : List Int) (i : Int) : Prop := 0 ≤ i ∧ i ≤ l.length
theorem new_l0 (l : List Int) (hl : l.length ≤ 1048576) : ∀ (d k i : Nat) (s : Int), l.length - i = d → i ≤ l.length → d < k → ∃ s', spec_l1New.l0 k l s (i : Int) = some (l, 0, s') := by
  intro d
  induction d with
  | zero =>
    intro k i s hd hi hk
    obtain ⟨k, rfl⟩ : ∃ m, k = m + 1 := ⟨k - 1, by omega⟩
    simp only [spec_l1New.l0]
    rw [if_neg (by omega)]; exact ⟨_, rfl⟩
  | succ d ih =>
    intro k i s hd hi hk
    obtain ⟨k, rfl⟩ : ∃ m, k = m + 1 := ⟨k - 1, by omega⟩
    simp only [spec_l1New.l0]
    rw [if_pos (by omega)]
    by_cases h : (i : Int) < 4000
    · rw [if_pos h, if_pos (by omega), w1 (by omega)]
      exact ih k (i + 1) _ (by omega) (by omega) (by omega)
    · rw [if_neg h]; exact ⟨_, rfl⟩
theorem new_some (l : List Int) (hl : l.length ≤ 1048576) {k : Nat} (hk : 1048576 < k) : ∃ s, spec_l1New.f k l = some (l, 0, s) := by
  unfold spec_l1New.f
  exact new_l0 l hl l.length k 0 _ (by omega) (by omega) (by omega)
theorem byte_some (l : List Int) (hl : l.length ≤ 1048576) (i s : Int) (hi : St l i) : ∃ v i' s', spec_l1Byte.f l i s = some (v, i', s') ∧ 0 ≤ v ∧ v ≤ 255 ∧ St l i' := by
  unfold spec_l1Byte.f
  obtain ⟨h0, h1⟩ := hi
  by_cases h : i < (l.length : Int)
  · rw [if_pos h, if_pos h0]
    refine ⟨_, _, _, rfl, ?_, ?_, ?_⟩
    · rw [i64_and255]; omega
    · rw [i64_and255]; omega
    · have e : wrap64 (i + 1) = i + 1 := by unfold wrap64; omega
      rw [e]; exact ⟨by omega, by omega⟩
  · rw [if_neg h]
    refine ⟨_, _, _, rfl, ?_, ?_, ⟨h0, h1⟩⟩
    · rw [i64_and255]; omega
    · rw [i64_and255]; omega
theorem below_some (l : List Int) (hl : l.length ≤ 1048576) (i s : Int) (hi : St l i) (n : Int) : ∃ v i' s', spec_l1Below.f l i s n = some (v, i', s') ∧ 0 ≤ v ∧ (0 < n → v < n) ∧ (n ≤ 0 → v = 0) ∧ St l i' := by
  unfold spec_l1Below.f
  by_cases h0 : n ≤ 0
  · rw [if_pos h0]; exact ⟨_, _, _, rfl, by omega, by omega, fun _ => rfl, hi⟩
  · rw [if_neg h0]
    obtain ⟨v, i1, s1, e1, v0, v1, hi1⟩ := byte_some l hl i s hi
    by_cases h1 : n ≤ 256
    · rw [if_pos h1, e1]
      simp only [Option.bind_some]
      rw [if_neg (by omega), Int.tmod_eq_emod_of_nonneg v0]
      exact ⟨_, _, _, rfl, Int.emod_nonneg _ (by omega), fun _ => Int.emod_lt_of_pos _ (by omega), by omega, hi1⟩
    · rw [if_neg h1, e1]
      simp only [Option.bind_some]
      obtain ⟨v', i2, s2, e2, v0', v1', hi2⟩ := byte_some l hl i1 s1 hi1
      rw [e2]
      simp only [Option.bind_some]
      obtain ⟨v'', i3, s3, e3, v0'', v1'', hi3⟩ := byte_some l hl i2 s2 hi2
      rw [e3]
      simp only [Option.bind_some]
      have q : 0 ≤ wrap64 (wrap64 (wrap64 (v * 65536) + wrap64 (v' * 256)) + v'') := by unfold wrap64; omega
      rw [if_neg (by omega), Int.tmod_eq_emod_of_nonneg q]
      exact ⟨_, _, _, rfl, Int.emod_nonneg _ (by omega), fun _ => Int.emod_lt_of_pos _ (by omega), by omega, hi3⟩
theorem once_some (l : List Int) (hl : l.length ≤ 1048576) (i s : Int) (hi : St l i) (n : Int) : ∃ b i' s', spec_l1Once.f l i s n = some (b, i', s') ∧ St l i' := by
  unfold spec_l1Once.f
  obtain ⟨v, i1, s1, e1, _, _, _, hi1⟩ := below_some l hl i s hi n
  rw [e1]; exact ⟨_, _, _, rfl, hi1⟩
theorem int_some (l : List Int) (hl : l.length ≤ 1048576) (i s : Int) (hi : St l i) (xs : List Int) (hx : 0 < xs.length) : ∃ v i' s', spec_l1Int.f l i s xs = some (v, i', s') ∧ v ∈ xs ∧ St l i' := by
  unfold spec_l1Int.f
  obtain ⟨v, i1, s1, e1, h0, h1, _, hi1⟩ := below_some l hl i s hi (xs.length : Int)
  rw [e1]
  simp only [Option.bind_some]
  have h2 := h1 (by omega)
  rw [if_pos h0, if_pos h2]
  refine ⟨_, _, _, rfl, ?_, hi1⟩
  have h3 : v.toNat < xs.length := by omega
  unfold rd
  rw [getD_lt xs _ h3]
  exact List.getElem_mem h3
theorem odd_some (l : List Int) (hl : l.length ≤ 1048576) (i s : Int) (hi : St l i) : ∃ v i' s', spec_l1Odd.f l i s = some (v, i', s') ∧ -9223372036854775808 ≤ v ∧ v ≤ 9223372036854775807 ∧ St l i' := by
  unfold spec_l1Odd.f
  obtain ⟨v, i1, s1, e1, hm, hi1⟩ := int_some l hl i s hi [(-1), 0, 1, 2, 255, 256, 65535, 2147483647, 2147483648, 4294967295, 4294967296, (-2147483648), 9223372036854775807, (-9223372036854775808)] (by simp)
  rw [e1]
  refine ⟨_, _, _, rfl, ?_, ?_, hi1⟩
  · simp only [List.mem_cons, List.not_mem_nil, or_false] at hm
    show -9223372036854775808 ≤ v
    omega
  · simp only [List.mem_cons, List.not_mem_nil, or_false] at hm
    show v ≤ 9223372036854775807
    omega
theorem raw_some (l : List Int) (hl : l.length ≤ 1048576) (i s : Int) (hi : St l i) : ∃ v i' s', spec_l1Raw.f l i s = some (v, i', s') ∧ -9223372036854775808 ≤ v ∧ v ≤ 9223372036854775807 ∧ St l i' := by
  unfold spec_l1Raw.f
  obtain ⟨b, i1, s1, e1, hi1⟩ := once_some l hl i s hi 2
  rw [e1]
  simp only [Option.bind_some]
  by_cases h : b = true
  · rw [if_pos h]
    obtain ⟨v, i2, s2, e2, h0, h1, hi2⟩ := odd_some l hl i1 s1 hi1
    rw [e2]; exact ⟨_, _, _, rfl, h0, h1, hi2⟩
  · rw [if_neg h]
    obtain ⟨v, i2, s2, e2, hm, hi2⟩ := int_some l hl i1 s1 hi1 [(-1), 1000000000, 1000000001] (by simp)
    rw [e2]
    simp only [List.mem_cons, List.not_mem_nil, or_false] at hm
    exact ⟨v, i2, s2, rfl, by omega, by omega, hi2⟩
theorem num_some (l : List Int) (hl : l.length ≤ 1048576) (i s : Int) (hi : St l i) : ∃ v i' s', spec_l1Num.f l i s = some (v, i', s') ∧ 0 ≤ v ∧ v ≤ 1000000000 ∧ St l i' := by
  unfold spec_l1Num.f
  obtain ⟨b, i1, s1, e1, _, _, _, hi1⟩ := below_some l hl i s hi 4
  rw [e1]
  simp only [Option.bind_some]
  by_cases h0 : b = 0
  · rw [if_pos h0]
    obtain ⟨v, i2, s2, e2, v0, v1, _, hi2⟩ := below_some l hl i1 s1 hi1 2000
    have := v1 (by omega)
    rw [e2]; exact ⟨v, i2, s2, rfl, by omega, by omega, hi2⟩
  · rw [if_neg h0]
    by_cases h1 : b = 1
    · rw [if_pos h1]
      obtain ⟨v, i2, s2, e2, hm, hi2⟩ := int_some l hl i1 s1 hi1 [0, 1, 7, 8, 9, 1000000000] (by simp)
      rw [e2]
      simp only [List.mem_cons, List.not_mem_nil, or_false] at hm
      exact ⟨v, i2, s2, rfl, by omega, by omega, hi2⟩
    · rw [if_neg h1]
      by_cases h2 : b = 2
      · rw [if_pos h2]
        obtain ⟨v, i2, s2, e2, v0, v1, _, hi2⟩ := below_some l hl i1 s1 hi1 40000
        rw [e2]
        simp only [Option.bind_some]
        obtain ⟨u, i3, s3, e3, u0, u1, _, hi3⟩ := below_some l hl i2 s2 hi2 25000
        rw [e3]
        have := v1 (by omega)
        have := u1 (by omega)
        have m0 : 0 ≤ v * u := Int.mul_nonneg v0 u0
        have m1 : v * u ≤ 39999 * 24999 := Int.mul_le_mul (by omega) (by omega) u0 (by omega)
        have e : wrap64 (v * u) = v * u := by unfold wrap64; omega
        refine ⟨wrap64 (v * u), i3, s3, rfl, ?_, ?_, hi3⟩ <;> rw [e] <;> omega
      · rw [if_neg h2]
        obtain ⟨v, i2, s2, e2, v0, v1, _, hi2⟩ := below_some l hl i1 s1 hi1 20
        have := v1 (by omega)
        rw [e2]; exact ⟨v, i2, s2, rfl, by omega, by omega, hi2⟩
theorem one_some (l : List Int) (hl : l.length ≤ 1048576) (i s : Int) (hi : St l i) : ∃ v i' s', spec_l1One.f l i s = some (v, i', s') ∧ -9223372036854775808 ≤ v ∧ v ≤ 9223372036854775807 ∧ St l i' := by
  unfold spec_l1One.f
  obtain ⟨b, i1, s1, e1, hi1⟩ := once_some l hl i s hi 6
  rw [e1]
  simp only [Option.bind_some]
  by_cases h : b = true
  · rw [if_pos h]
    obtain ⟨v, i2, s2, e2, v0, v1, hi2⟩ := raw_some l hl i1 s1 hi1
    rw [e2]; exact ⟨v, i2, s2, rfl, by omega, by omega, hi2⟩
  · rw [if_neg h]
    obtain ⟨v, i2, s2, e2, v0, v1, hi2⟩ := num_some l hl i1 s1 hi1
    rw [e2]; exact ⟨v, i2, s2, rfl, by omega, by omega, hi2⟩
theorem within_some (a l h : Int) : spec_l1In.f a l h = some (decide (l ≤ a ∧ a ≤ h)) := by
  unfold spec_l1In.f; by_cases g : a ≥ l
  · rw [if_pos g]; congr 1; simp; omega
  · rw [if_neg g]; congr 1; simp; omega
theorem align_some (a : Int) : spec_l1Align.f a = some (decide (a = 1 ∨ a = 2 ∨ a = 4)) := by
  unfold spec_l1Align.f
  by_cases h1 : a = 1
  · rw [if_pos h1]; simp [h1]
  · rw [if_neg h1]
    by_cases h2 : a = 2
    · rw [if_pos h2]; simp [h2]
    · rw [if_neg h2]; congr 1; rw [Bool.eq_iff_iff]; simp; omega
theorem ceil_in (a b : Int) (h : 0 ≤ a ∧ a ≤ 1000000000) (g : 1 ≤ b ∧ b ≤ 1000000000) : spec_CeilDiv.f a b = some ((a + b - 1) / b) := by
  unfold spec_CeilDiv.f
  simp only [within_some, Option.bind_some, decide_eq_true_eq]
  rw [if_pos h, if_pos g, if_neg (by omega)]
  have e1 : wrap64 (a + b) = a + b := by unfold wrap64; omega
  have e2 : wrap64 (a + b - 1) = a + b - 1 := by unfold wrap64; omega
  rw [e1, e2, Int.tdiv_eq_ediv_of_nonneg (by omega)]
  have h1 : 0 ≤ (a + b - 1) / b := Int.ediv_nonneg (by omega) (by omega)
  have h2 : (a + b - 1) / b ≤ a + b - 1 := Int.ediv_le_self _ (by omega)
  have e3 : wrap64 ((a + b - 1) / b) = (a + b - 1) / b := by unfold wrap64; omega
  rw [e3]
theorem ceil_out (a b : Int) (h : ¬ ((0 ≤ a ∧ a ≤ 1000000000) ∧ (1 ≤ b ∧ b ≤ 1000000000))) : spec_CeilDiv.f a b = some 0 := by
  unfold spec_CeilDiv.f
  simp only [within_some, Option.bind_some, decide_eq_true_eq]
  by_cases g : 0 ≤ a ∧ a ≤ 1000000000
  · rw [if_pos g, if_neg (fun q => h ⟨g, q⟩)]
  · rw [if_neg g]
theorem ceil_some (a b : Int) : ∃ r, spec_CeilDiv.f a b = some r := by
  by_cases h : (0 ≤ a ∧ a ≤ 1000000000) ∧ (1 ≤ b ∧ b ≤ 1000000000)
  · exact ⟨_, ceil_in a b h.1 h.2⟩
  · exact ⟨_, ceil_out a b h⟩
theorem up_in (n al : Int) (h : 0 ≤ n ∧ n ≤ 1000000000) (g : al = 1 ∨ al = 2 ∨ al = 4) : spec_AlignUp.f n al = some ((n + al - 1) / al * al) := by
  unfold spec_AlignUp.f
  simp only [within_some, align_some, Option.bind_some, decide_eq_true_eq]
  rw [if_pos h, if_pos g, if_neg (by omega)]
  have e1 : wrap64 (n + al) = n + al := by unfold wrap64; omega
  have e2 : wrap64 (n + al - 1) = n + al - 1 := by unfold wrap64; omega
  rw [e1, e2, Int.tdiv_eq_ediv_of_nonneg (by omega)]
  rcases g with rfl | rfl | rfl
  · have e3 : wrap64 ((n + 1 - 1) / 1) = (n + 1 - 1) / 1 := by unfold wrap64; omega
    rw [e3]; congr 1; unfold wrap64; omega
  · have e3 : wrap64 ((n + 2 - 1) / 2) = (n + 2 - 1) / 2 := by unfold wrap64; omega
    rw [e3]; congr 1; unfold wrap64; omega
  · have e3 : wrap64 ((n + 4 - 1) / 4) = (n + 4 - 1) / 4 := by unfold wrap64; omega
    rw [e3]; congr 1; unfold wrap64; omega
theorem up_out (n al : Int) (h : ¬ ((0 ≤ n ∧ n ≤ 1000000000) ∧ (al = 1 ∨ al = 2 ∨ al = 4))) : spec_AlignUp.f n al = some 0 := by
  unfold spec_AlignUp.f
  simp only [within_some, align_some, Option.bind_some, decide_eq_true_eq]
  by_cases g : 0 ≤ n ∧ n ≤ 1000000000
  · rw [if_pos g, if_neg (fun q => h ⟨g, q⟩)]
  · rw [if_neg g]
theorem up_some (a b : Int) : ∃ r, spec_AlignUp.f a b = some r := by
  by_cases h : (0 ≤ a ∧ a ≤ 1000000000) ∧ (b = 1 ∨ b = 2 ∨ b = 4)
  · exact ⟨_, up_in a b h.1 h.2⟩
  · exact ⟨_, up_out a b h⟩
theorem least_same (p q : Int) : impl_Least.f p q = spec_Least.f p q := by
  unfold impl_Least.f spec_Least.f mn
  by_cases h : q < p
  · rw [if_pos h, if_pos h]
  · rw [if_neg h, if_neg h]
theorem most_same (p q : Int) : impl_Most.f p q = spec_Most.f p q := by
  unfold impl_Most.f spec_Most.f mx
  by_cases h : q > p
  · rw [if_pos h, if_pos h]
  · rw [if_neg h, if_neg h]
theorem least_some (p q : Int) : ∃ r, spec_Least.f p q = some r := by unfold spec_Least.f; split <;> exact ⟨_, rfl⟩
theorem most_some (p q : Int) : ∃ r, spec_Most.f p q = some r := by unfold spec_Most.f; split <;> exact ⟨_, rfl⟩
theorem last (k : Nat) (n al u : Int) (hn : spec_AlignUp.f n al = some u) : laws_FnRounds.j1 (k + 1) n al u false = some true := by
  have ie : ∀ x y, impl_AlignUp.f x y = spec_AlignUp.f x y := fun _ _ => rfl
  simp only [laws_FnRounds.j1]
  rw [if_neg (by simp)]
  by_cases h : (0 ≤ n ∧ n ≤ 1000000000) ∧ (al = 1 ∨ al = 2 ∨ al = 4)
  · obtain ⟨h, g⟩ := h
    rw [up_in n al h g] at hn
    obtain rfl := Option.some.inj hn
    rw [if_neg (by omega), if_neg (by omega)]
    rcases g with rfl | rfl | rfl
    · have e1 : wrap64 (n + 1) = n + 1 := by unfold wrap64; omega
      have e2 : Int.tmod ((n + 1 - 1) / 1 * 1) 1 = 0 := by rw [Int.tmod_eq_emod_of_nonneg (by omega)]; omega
      rw [if_pos rfl, if_pos (by omega), e1, if_pos (by omega), if_neg (by omega), if_pos e2, ie]
      have e3 : spec_AlignUp.f ((n + 1 - 1) / 1 * 1) 1 = some ((n + 1 - 1) / 1 * 1) := by
        rw [up_in _ 1 (by omega) (by omega)]; congr 1; omega
      rw [e3]; simp
    · have e1 : wrap64 (n + 2) = n + 2 := by unfold wrap64; omega
      have e2 : Int.tmod ((n + 2 - 1) / 2 * 2) 2 = 0 := by rw [Int.tmod_eq_emod_of_nonneg (by omega)]; omega
      rw [if_neg (by omega), if_pos rfl, if_pos (by omega), e1, if_pos (by omega), if_neg (by omega), if_pos e2, ie]
      have e3 : spec_AlignUp.f ((n + 2 - 1) / 2 * 2) 2 = some ((n + 2 - 1) / 2 * 2) := by
        rw [up_in _ 2 (by omega) (by omega)]; congr 1; omega
      rw [e3]; simp
    · have e1 : wrap64 (n + 4) = n + 4 := by unfold wrap64; omega
      have e2 : Int.tmod ((n + 4 - 1) / 4 * 4) 4 = 0 := by rw [Int.tmod_eq_emod_of_nonneg (by omega)]; omega
      rw [if_neg (by omega), if_neg (by omega), if_pos rfl, if_pos (by omega), e1, if_pos (by omega), if_neg (by omega), if_pos e2, ie]
      have e3 : spec_AlignUp.f ((n + 4 - 1) / 4 * 4) 4 = some ((n + 4 - 1) / 4 * 4) := by
        rw [up_in _ 4 (by omega) (by omega)]; congr 1; omega
      rw [e3]; simp
  · rw [up_out n al h] at hn
    obtain rfl := Option.some.inj hn
    by_cases h1 : n < 0
    · rw [if_pos h1]; rfl
    · rw [if_neg h1]
      by_cases h2 : n > 1000000000
      · rw [if_pos h2]; rfl
      · rw [if_neg h2, if_neg (by omega), if_neg (by omega), if_neg (by omega)]; rfl
theorem next (k : Nat) (a b n al d u : Int) (hd : spec_CeilDiv.f a b = some d) (hn : spec_AlignUp.f n al = some u) : laws_FnRounds.j0 (k + 2) a b n al d u false = some true := by
  simp only [laws_FnRounds.j0]
  rw [if_neg (by simp)]
  by_cases h1 : a ≥ 0
  · rw [if_pos h1]
    by_cases h2 : a ≤ 1000000000
    · rw [if_pos h2]
      by_cases h3 : b ≥ 1
      · rw [if_pos h3]
        by_cases h4 : b ≤ 1000000000
        · rw [if_pos h4]
          rw [ceil_in a b ⟨h1, h2⟩ ⟨h3, h4⟩] at hd
          obtain rfl := Option.some.inj hd
          have q1 := Int.emod_add_mul_ediv (a + b - 1) b
          have q2 := Int.emod_nonneg (a + b - 1) (show b ≠ 0 by omega)
          have q3 := Int.emod_lt_of_pos (a + b - 1) (show 0 < b by omega)
          have q4 : 0 ≤ (a + b - 1) / b := Int.ediv_nonneg (by omega) (by omega)
          have q5 : (a + b - 1) / b ≤ a + b - 1 := Int.ediv_le_self _ (by omega)
          generalize (a + b - 1) / b = q at *
          generalize (a + b - 1) % b = r at *
          rw [Int.mul_comm b q] at q1
          have e1 : wrap64 (q * b) = q * b := by unfold wrap64; omega
          have e2 : wrap64 (q - 1) = q - 1 := by unfold wrap64; omega
          have e3 : (q - 1) * b = q * b - b := by rw [Int.sub_mul, Int.one_mul]
          have e4 : wrap64 (q * b - b) = q * b - b := by unfold wrap64; omega
          rw [e1, if_neg (by omega), e2, e3, e4]
          by_cases h5 : q > 0
          · rw [if_pos h5]
            have : decide (q * b - b ≥ a) = false := by simp; omega
            rw [this]; exact last k n al u hn
          · rw [if_neg h5]; exact last k n al u hn
        · rw [if_neg h4]; exact last k n al u hn
      · rw [if_neg h3]; exact last k n al u hn
    · rw [if_neg h2]; exact last k n al u hn
  · rw [if_neg h1]; exact last k n al u hn
theorem FnRounds : laws_FnRounds.Pure := by
  intro l _ _ _
  obtain ⟨k, hk⟩ : ∃ k : Nat, 1100000 < k := ⟨_, Nat.lt_succ_self _⟩
  obtain ⟨k, rfl⟩ : ∃ m, k = m + 2 := ⟨k - 2, by omega⟩
  refine ⟨k + 2, ?_⟩
  unfold laws_FnRounds.f laws_big.f
  simp only [Option.bind_some, decide_eq_true_eq]
  by_cases hb : (l.length : Int) > 1048576
  · rw [if_pos hb]
  · rw [if_neg hb]
    have hl : l.length ≤ 1048576 := by omega
    have h0 : St l 0 := ⟨by omega, by omega⟩
    obtain ⟨s, e0⟩ := new_some l hl (show 1048576 < k + 2 by omega)
    unfold spec_DrawCeilDiv.f spec_DrawAlignUp.f spec_DrawLeast.f
    rw [e0]
    simp only [Option.bind_some]
    obtain ⟨a, i1, s1, e1, _, _, hi1⟩ := one_some l hl 0 s h0
    rw [e1]
    simp only [Option.bind_some]
    obtain ⟨b, i2, s2, e2, _, _, _⟩ := one_some l hl i1 s1 hi1
    rw [e2]
    obtain ⟨al, i3, s3, e3, _, _⟩ := int_some l hl i1 s1 hi1 [1, 2, 4, 4, 0, 3, 8, (-2)] (by simp)
    rw [e3]
    simp only [Option.bind_some]
    obtain ⟨d, hd⟩ := ceil_some a b
    obtain ⟨u, hu⟩ := up_some a al
    have ed : impl_CeilDiv.f a b = spec_CeilDiv.f a b := rfl
    have eu : impl_AlignUp.f a al = spec_AlignUp.f a al := rfl
    rw [ed, eu, hd, hu]
    simp only [Option.bind_some, if_true]
    obtain ⟨p, hp⟩ := least_some a b
    obtain ⟨q, hq⟩ := most_some a b
    rw [least_same, most_same, hp, hq]
    simp only [Option.bind_some, if_true, bne_self_eq_false]
    exact next k a b a al d u hd hu
end Go.Proofs.Ytkcohcdhlgocgaa.Pure
