/- What the law FnConfs computes is the answer true, for all arguments within the bounds that the statement's own reading gives. No other condition. -/
import Derived.OpenShut
import Derived.Test.YtkcohcdhlgocgaaQFnConfsx4
namespace Go.Proofs.Ytkcohcdhlgocgaa.Pure
open Go.RowKit Go.Proofs.Ytkcohcdhlgocgaa.QFnConfs Go.Proofs.YtkcohcdhlgocgaaW.PrintWords Go.Proofs.YtkcohcdhlgocgaaW.PrintLast
set_option linter.unusedVariables false
set_option linter.unusedSimpArgs false
def laws_FnConfs.Pure : Prop := ∀ (l0 : List Int), l0.length ≤ maxLen → l0.length * 1 ≤ 140737488351232 → (∀ x ∈ l0, (Lit.int .u8 x).wf = true) → ∃ k, laws_FnConfs.f k l0 = some true
theorem w1 {i : Nat} (h : i < 9223372036854775807) : wrap64 ((i : Int) + 1) = ((i + 1 : Nat) : Int) := by unfold wrap64; omega
theorem rd_nat (xs : List Int) (i : Nat) : rd xs (i : Int) = xs.getD i 0 := by simp [rd]
theorem getD_lt (xs : List Int) (i : Nat) (h : i < xs.length) : xs.getD i 0 = xs[i] := by simp [List.getD, List.getElem?_eq_getElem h]
theorem drop_cons (xs : List Int) (i : Nat) (h : i < xs.length) : xs.drop i = xs.getD i 0 :: xs.drop (i + 1) := by rw [getD_lt xs i h]; exact List.drop_eq_getElem_cons h
theorem set_take {x l : List Int} {i : Nat} (hi : i < l.length) (hx : x.length = l.length) (ht : x.take i = l.take i) : (x.set i (l.getD i 0)).take (i + 1) = l.take (i + 1) := by
  apply List.ext_getElem?
  intro j
  have hj := congrArg (fun z => z[j]?) ht
  simp only [List.getElem?_take] at hj ⊢
  by_cases h1 : j < i + 1
  · rw [if_pos h1, if_pos h1, List.getElem?_set]
    by_cases h2 : i = j
    · subst h2
      rw [if_pos rfl, if_pos (by omega), List.getElem?_eq_getElem hi, getD_lt l i hi]
    · rw [if_neg h2]
      rw [if_pos (by omega), if_pos (by omega)] at hj
      exact hj
  · rw [if_neg h1, if_neg h1]
theorem within_some (a l h : Int) : spec_l1In.f a l h = some (decide (l ≤ a ∧ a ≤ h)) := by
  unfold spec_l1In.f; by_cases g : a ≥ l
  · rw [if_pos g]; congr 1; simp; omega
  · rw [if_neg g]; congr 1; simp; omega
def ConfIn (a b c d e f : Int) : Prop := (2 ≤ a ∧ a ≤ 12) ∧ (8 ≤ b ∧ b ≤ 16) ∧ (2 ≤ c ∧ c ≤ 8) ∧ (1 ≤ d ∧ d ≤ 8) ∧ (1 ≤ e ∧ e ≤ 16) ∧ (1 ≤ f ∧ f ≤ 4)
instance (a b c d e f : Int) : Decidable (ConfIn a b c d e f) := by unfold ConfIn; infer_instance
theorem conf_some (a b c d e f : Int) : spec_ConfOk.f a b c d e f = some (decide (ConfIn a b c d e f)) := by
  unfold spec_ConfOk.f
  simp only [within_some, Option.bind_some, decide_eq_true_eq]
  unfold ConfIn
  by_cases h1 : 2 ≤ a ∧ a ≤ 12
  · rw [if_pos h1]
    by_cases h2 : 8 ≤ b ∧ b ≤ 16
    · rw [if_pos h2]
      by_cases h3 : 2 ≤ c ∧ c ≤ 8
      · rw [if_pos h3]
        by_cases h4 : 1 ≤ d ∧ d ≤ 8
        · rw [if_pos h4]
          by_cases h5 : 1 ≤ e ∧ e ≤ 16
          · rw [if_pos h5]; congr 1; simp [h1, h2, h3, h4, h5]
          · rw [if_neg h5]; congr 1; simp [h1, h2, h3, h4, h5]
        · rw [if_neg h4]; congr 1; simp [h1, h2, h3, h4]
      · rw [if_neg h3]; congr 1; simp [h1, h2, h3]
    · rw [if_neg h2]; congr 1; simp [h1, h2]
  · rw [if_neg h1]; congr 1; simp [h1]
theorem bytes_in (a b c d e f : Int) (h : ConfIn a b c d e f) : spec_BytesOf.f a b c d e f = some (a * b) ∧ 16 ≤ a * b ∧ a * b ≤ 192 := by
  have m0 : 2 * 8 ≤ a * b := Int.mul_le_mul h.1.1 h.2.1.1 (by omega) (by have := h.1.1; omega)
  have m1 : a * b ≤ 12 * 16 := Int.mul_le_mul h.1.2 h.2.1.2 (by have := h.2.1.1; omega) (by omega)
  have e : wrap64 (a * b) = a * b := by unfold wrap64; omega
  refine ⟨?_, by omega, by omega⟩
  unfold spec_BytesOf.f
  rw [conf_some]
  simp only [Option.bind_some, decide_eq_true_eq]
  rw [if_pos h, e]
theorem bytes_out (a b c d e f : Int) (h : ¬ ConfIn a b c d e f) : spec_BytesOf.f a b c d e f = some 0 := by
  unfold spec_BytesOf.f
  rw [conf_some]
  simp only [Option.bind_some, decide_eq_true_eq]
  rw [if_neg h]
theorem bytes_some (a b c d e f : Int) : ∃ r, spec_BytesOf.f a b c d e f = some r := by
  by_cases h : ConfIn a b c d e f
  · exact ⟨_, (bytes_in a b c d e f h).1⟩
  · exact ⟨_, bytes_out a b c d e f h⟩
theorem ceil_in (a b : Int) (h : 0 ≤ a ∧ a ≤ 1000000000) (g : 1 ≤ b ∧ b ≤ 1000000000) : spec_CeilDiv.f a b = some ((a + b - 1) / b) := by
  unfold spec_CeilDiv.f
  simp only [within_some, Option.bind_some, decide_eq_true_eq]
  rw [if_pos h, if_pos g, if_neg (by omega)]
  have e1 : wrap64 (a + b) = a + b := by unfold wrap64; omega
  have e2 : wrap64 (a + b - 1) = a + b - 1 := by unfold wrap64; omega
  rw [e1, e2, Int.tdiv_eq_ediv_of_nonneg (by omega)]
  have h1 : 0 ≤ (a + b - 1) / b := Int.ediv_nonneg (by omega) (by omega)
  have h2 : (a + b - 1) / b ≤ a + b - 1 := Int.ediv_le_self _ (by omega)
  have e3 : wrap64 ((a + b - 1) / b) = (a + b - 1) / b := by unfold wrap64; omega
  rw [e3]
theorem ceil_out (a b : Int) (h : ¬ ((0 ≤ a ∧ a ≤ 1000000000) ∧ (1 ≤ b ∧ b ≤ 1000000000))) : spec_CeilDiv.f a b = some 0 := by
  unfold spec_CeilDiv.f
  simp only [within_some, Option.bind_some, decide_eq_true_eq]
  by_cases g : 0 ≤ a ∧ a ≤ 1000000000
  · rw [if_pos g, if_neg (fun q => h ⟨g, q⟩)]
  · rw [if_neg g]
theorem ceil_some (a b : Int) : ∃ r, spec_CeilDiv.f a b = some r := by
  by_cases h : (0 ≤ a ∧ a ≤ 1000000000) ∧ (1 ≤ b ∧ b ≤ 1000000000)
  · exact ⟨_, ceil_in a b h.1 h.2⟩
  · exact ⟨_, ceil_out a b h⟩
theorem i64_and255 (n : Int) : Go.bits .and .i64 n 255 = n % 256 := by
  have h : (BitVec.ofInt 64 255).toNat = 2 ^ 8 - 1 := by decide
  have key : (BitVec.ofInt 64 n &&& BitVec.ofInt 64 255).toNat = (n % ((2 ^ 64 : Nat) : Int)).toNat % 2 ^ 8 := by
    rw [BitVec.toNat_and, BitVec.toNat_ofInt, h, Nat.and_two_pow_sub_one_eq_mod]
  show IntKind.i64.wrap ((BitVec.ofInt 64 n &&& BitVec.ofInt 64 255).toNat : Nat) = n % 256
  rw [key, IntKind.wrap_i64]
  omega
def St (l : List Int) (i : Int) : Prop := 0 ≤ i ∧ i ≤ l.length
theorem new_l0 (l : List Int) (hl : l.length ≤ 1048576) : ∀ (d k i : Nat) (s : Int), l.length - i = d → i ≤ l.length → d < k → ∃ s', spec_l1New.l0 k l s (i : Int) = some (l, 0, s') := by
  intro d
  induction d with
  | zero =>
    intro k i s hd hi hk
    obtain ⟨k, rfl⟩ : ∃ m, k = m + 1 := ⟨k - 1, by omega⟩
    simp only [spec_l1New.l0]
    rw [if_neg (by omega)]; exact ⟨_, rfl⟩
  | succ d ih =>
    intro k i s hd hi hk
    obtain ⟨k, rfl⟩ : ∃ m, k = m + 1 := ⟨k - 1, by omega⟩
    simp only [spec_l1New.l0]
    rw [if_pos (by omega)]
    by_cases h : (i : Int) < 4000
    · rw [if_pos h, if_pos (by omega), w1 (by omega)]
      exact ih k (i + 1) _ (by omega) (by omega) (by omega)
    · rw [if_neg h]; exact ⟨_, rfl⟩
theorem new_some (l : List Int) (hl : l.length ≤ 1048576) {k : Nat} (hk : 1048576 < k) : ∃ s, spec_l1New.f k l = some (l, 0, s) := by
  unfold spec_l1New.f
  exact new_l0 l hl l.length k 0 _ (by omega) (by omega) (by omega)
theorem byte_some (l : List Int) (hl : l.length ≤ 1048576) (i s : Int) (hi : St l i) : ∃ v i' s', spec_l1Byte.f l i s = some (v, i', s') ∧ 0 ≤ v ∧ v ≤ 255 ∧ St l i' := by
  unfold spec_l1Byte.f
  obtain ⟨h0, h1⟩ := hi
  by_cases h : i < (l.length : Int)
  · rw [if_pos h, if_pos h0]
    refine ⟨_, _, _, rfl, ?_, ?_, ?_⟩
    · rw [i64_and255]; omega
    · rw [i64_and255]; omega
    · have e : wrap64 (i + 1) = i + 1 := by unfold wrap64; omega
      rw [e]; exact ⟨by omega, by omega⟩
  · rw [if_neg h]
    refine ⟨_, _, _, rfl, ?_, ?_, ⟨h0, h1⟩⟩
    · rw [i64_and255]; omega
    · rw [i64_and255]; omega
theorem below_some (l : List Int) (hl : l.length ≤ 1048576) (i s : Int) (hi : St l i) (n : Int) : ∃ v i' s', spec_l1Below.f l i s n = some (v, i', s') ∧ 0 ≤ v ∧ (0 < n → v < n) ∧ (n ≤ 0 → v = 0) ∧ St l i' := by
  unfold spec_l1Below.f
  by_cases h0 : n ≤ 0
  · rw [if_pos h0]; exact ⟨_, _, _, rfl, by omega, by omega, fun _ => rfl, hi⟩
  · rw [if_neg h0]
    obtain ⟨v, i1, s1, e1, v0, v1, hi1⟩ := byte_some l hl i s hi
    by_cases h1 : n ≤ 256
    · rw [if_pos h1, e1]
      simp only [Option.bind_some]
      rw [if_neg (by omega), Int.tmod_eq_emod_of_nonneg v0]
      exact ⟨_, _, _, rfl, Int.emod_nonneg _ (by omega), fun _ => Int.emod_lt_of_pos _ (by omega), by omega, hi1⟩
    · rw [if_neg h1, e1]
      simp only [Option.bind_some]
      obtain ⟨v', i2, s2, e2, v0', v1', hi2⟩ := byte_some l hl i1 s1 hi1
      rw [e2]
      simp only [Option.bind_some]
      obtain ⟨v'', i3, s3, e3, v0'', v1'', hi3⟩ := byte_some l hl i2 s2 hi2
      rw [e3]
      simp only [Option.bind_some]
      have q : 0 ≤ wrap64 (wrap64 (wrap64 (v * 65536) + wrap64 (v' * 256)) + v'') := by unfold wrap64; omega
      rw [if_neg (by omega), Int.tmod_eq_emod_of_nonneg q]
      exact ⟨_, _, _, rfl, Int.emod_nonneg _ (by omega), fun _ => Int.emod_lt_of_pos _ (by omega), by omega, hi3⟩
theorem int_some (l : List Int) (hl : l.length ≤ 1048576) (i s : Int) (hi : St l i) (xs : List Int) (hx : 0 < xs.length) : ∃ v i' s', spec_l1Int.f l i s xs = some (v, i', s') ∧ v ∈ xs ∧ St l i' := by
  unfold spec_l1Int.f
  obtain ⟨v, i1, s1, e1, h0, h1, _, hi1⟩ := below_some l hl i s hi (xs.length : Int)
  rw [e1]
  simp only [Option.bind_some]
  have h2 := h1 (by omega)
  rw [if_pos h0, if_pos h2]
  refine ⟨_, _, _, rfl, ?_, hi1⟩
  have h3 : v.toNat < xs.length := by omega
  unfold rd
  rw [getD_lt xs _ h3]
  exact List.getElem_mem h3
theorem l3conf_some (l : List Int) (hl : l.length ≤ 1048576) (i s : Int) (hi : St l i) : ∃ a b c d e f i' s', spec_l3Conf.f l i s = some (a, b, c, d, e, f, i', s') ∧ St l i' := by
  unfold spec_l3Conf.f
  obtain ⟨v1, i1, s1, e1, _, _, _, h1⟩ := below_some l hl i s hi 11
  rw [e1, Option.bind_some]
  obtain ⟨v2, i2, s2, e2, _, h2⟩ := int_some l hl i1 s1 h1 [8, 8, 9, 12, 16] (by decide)
  rw [e2, Option.bind_some]
  obtain ⟨v3, i3, s3, e3, _, _, _, h3⟩ := below_some l hl i2 s2 h2 7
  rw [e3, Option.bind_some]
  obtain ⟨v4, i4, s4, e4, _, _, _, h4⟩ := below_some l hl i3 s3 h3 6
  rw [e4, Option.bind_some]
  obtain ⟨v5, i5, s5, e5, _, h5⟩ := int_some l hl i4 s4 h4 [1, 3, 4, 8, 16] (by decide)
  rw [e5, Option.bind_some]
  obtain ⟨v6, i6, s6, e6, _, _, _, h6⟩ := below_some l hl i5 s5 h5 4
  rw [e6, Option.bind_some]
  exact ⟨_, _, _, _, _, _, _, _, rfl, h6⟩
theorem l3any_some (l : List Int) (hl : l.length ≤ 1048576) (i s : Int) (hi : St l i) : ∃ a b c d e f i' s', spec_l3Any.f l i s = some (a, b, c, d, e, f, i', s') ∧ St l i' := by
  unfold spec_l3Any.f
  obtain ⟨a, b, c, d, e, f, i0, s0, e0, h0⟩ := l3conf_some l hl i s hi
  rw [e0, Option.bind_some]
  obtain ⟨v1, i1, s1, e1, _, _, _, h1⟩ := below_some l hl i0 s0 h0 14
  rw [e1, Option.bind_some]
  by_cases c0 : v1 = 0
  · rw [if_pos c0]
    obtain ⟨v2, i2, s2, e2, _, h2⟩ := int_some l hl i1 s1 h1 [1, 2, 12, 13] (by decide)
    rw [e2, Option.bind_some]
    exact ⟨_, _, _, _, _, _, _, _, rfl, h2⟩
  rw [if_neg c0]
  by_cases c1 : v1 = 1
  · rw [if_pos c1]
    obtain ⟨v2, i2, s2, e2, _, h2⟩ := int_some l hl i1 s1 h1 [7, 8, 16, 17] (by decide)
    rw [e2, Option.bind_some]
    exact ⟨_, _, _, _, _, _, _, _, rfl, h2⟩
  rw [if_neg c1]
  by_cases c2 : v1 = 2
  · rw [if_pos c2]
    obtain ⟨v2, i2, s2, e2, _, h2⟩ := int_some l hl i1 s1 h1 [1, 8, 9] (by decide)
    rw [e2, Option.bind_some]
    exact ⟨_, _, _, _, _, _, _, _, rfl, h2⟩
  rw [if_neg c2]
  by_cases c3 : v1 = 3
  · rw [if_pos c3]
    obtain ⟨v2, i2, s2, e2, _, h2⟩ := int_some l hl i1 s1 h1 [0, 8, 9] (by decide)
    rw [e2, Option.bind_some]
    exact ⟨_, _, _, _, _, _, _, _, rfl, h2⟩
  rw [if_neg c3]
  by_cases c4 : v1 = 4
  · rw [if_pos c4]
    obtain ⟨v2, i2, s2, e2, _, h2⟩ := int_some l hl i1 s1 h1 [0, 17] (by decide)
    rw [e2, Option.bind_some]
    exact ⟨_, _, _, _, _, _, _, _, rfl, h2⟩
  rw [if_neg c4]
  by_cases c5 : v1 = 5
  · rw [if_pos c5]
    obtain ⟨v2, i2, s2, e2, _, h2⟩ := int_some l hl i1 s1 h1 [0, 5] (by decide)
    rw [e2, Option.bind_some]
    exact ⟨_, _, _, _, _, _, _, _, rfl, h2⟩
  rw [if_neg c5]
  exact ⟨_, _, _, _, _, _, _, _, rfl, h1⟩
theorem drawConf_some (l : List Int) (hl : l.length ≤ 1048576) {k : Nat} (hk : 1048576 < k) : ∃ a b c d e f, spec_DrawConfOk.f k l = some (a, b, c, d, e, f) := by
  unfold spec_DrawConfOk.f
  obtain ⟨s, e⟩ := new_some l hl hk
  rw [e, Option.bind_some]
  obtain ⟨a, b, c, d, e, f, i0, s0, e0, h0⟩ := l3any_some l hl 0 s ⟨by omega, by omega⟩
  rw [e0, Option.bind_some]
  exact ⟨_, _, _, _, _, _, rfl⟩
theorem drawSlices_some (l : List Int) (hl : l.length ≤ 1048576) {k : Nat} (hk : 1048576 < k) : ∃ a b c d e f g, spec_DrawSlicesOf.f k l = some (a, b, c, d, e, f, g) := by
  unfold spec_DrawSlicesOf.f
  obtain ⟨s, e⟩ := new_some l hl hk
  rw [e, Option.bind_some]
  obtain ⟨a, b, c, d, e, f, i0, s0, e0, h0⟩ := l3any_some l hl 0 s ⟨by omega, by omega⟩
  rw [e0, Option.bind_some]
  obtain ⟨v1, i1, s1, e1, _, _, _, h1⟩ := below_some l hl i0 s0 h0 40
  rw [e1, Option.bind_some]
  exact ⟨_, _, _, _, _, _, _, rfl⟩
theorem drawChunks_some (l : List Int) (hl : l.length ≤ 1048576) {k : Nat} (hk : 1048576 < k) : ∃ a b c d e f g, spec_DrawChunksFor.f k l = some (a, b, c, d, e, f, g) := by
  unfold spec_DrawChunksFor.f
  obtain ⟨s, e⟩ := new_some l hl hk
  rw [e, Option.bind_some]
  obtain ⟨a, b, c, d, e, f, i0, s0, e0, h0⟩ := l3any_some l hl 0 s ⟨by omega, by omega⟩
  rw [e0, Option.bind_some]
  obtain ⟨v1, i1, s1, e1, _, _, _, h1⟩ := below_some l hl i0 s0 h0 70
  rw [e1, Option.bind_some]
  exact ⟨_, _, _, _, _, _, _, rfl⟩
theorem end_some (k : Nat) (a b c d e f : Int) : laws_FnConfs.j0 (k + 1) false a b c d e f = some true := by
  rw [laws_FnConfs.j0, if_neg (by simp)]
  have i0 : impl_ConfOk.f a b c d e f = some (decide (ConfIn a b c d e f)) := conf_some a b c d e f
  have i1 : impl_BytesOf.f a b c d e f = spec_BytesOf.f a b c d e f := rfl
  have i2 : ∀ n, impl_ChunksFor.f a b c d e f n = (spec_CeilDiv.f n b).bind fun t => some t := fun n => rfl
  have i3 : ∀ n, impl_SlicesOf.f a b c d e f n = (spec_CeilDiv.f n e).bind fun t => some t := fun n => rfl
  rw [i0, Option.bind_some, i1]
  by_cases h : ConfIn a b c d e f
  · obtain ⟨eb, m0, m1⟩ := bytes_in a b c d e f h
    obtain ⟨⟨ha1, ha2⟩, ⟨hb1, hb2⟩, _, _, ⟨he1, he2⟩, _⟩ := id h
    have w : wrap64 (a * b) = a * b := by unfold wrap64; omega
    have w2 : wrap64 (b + 1) = b + 1 := by unfold wrap64; omega
    have q1 : (b + b - 1) / b = 1 := by
      have : b + b - 1 = (b - 1) + 1 * b := by omega
      rw [this, Int.add_mul_ediv_right _ _ (by omega), Int.ediv_eq_zero_of_lt (by omega) (by omega)]
      rfl
    have q2 : (b + 1 + b - 1) / b = 2 := by
      have : b + 1 + b - 1 = 0 + 2 * b := by omega
      rw [this, Int.add_mul_ediv_right _ _ (by omega)]
      simp
    have q3 : (b + e - 1) / e * e ≥ b := by
      have g := Int.emod_lt_of_pos (b + e - 1) (show 0 < e by omega)
      have g2 := Int.mul_ediv_add_emod (b + e - 1) e
      have g3 : (b + e - 1) / e * e = e * ((b + e - 1) / e) := Int.mul_comm _ _
      omega
    have q4 : (b + e - 1) / e * e ≤ b + e - 1 := by
      have g := Int.emod_nonneg (b + e - 1) (show e ≠ 0 by omega)
      have g2 := Int.mul_ediv_add_emod (b + e - 1) e
      have g3 : (b + e - 1) / e * e = e * ((b + e - 1) / e) := Int.mul_comm _ _
      omega
    have w3 : wrap64 ((b + e - 1) / e * e) = (b + e - 1) / e * e := by unfold wrap64; omega
    rw [decide_eq_true h, if_pos rfl, eb, Option.bind_some, w, if_pos rfl, i2, ceil_in b b (by omega) (by omega), Option.bind_some, Option.bind_some, q1, if_pos rfl, w2, i2, ceil_in (b + 1) b (by omega) (by omega), Option.bind_some, Option.bind_some, q2, if_pos rfl, i3, ceil_in b e (by omega) (by omega), Option.bind_some, Option.bind_some, w3, decide_eq_true q3]
  · rw [decide_eq_false h, if_neg Bool.false_ne_true, bytes_out a b c d e f h, Option.bind_some]
    rfl
theorem FnConfs : laws_FnConfs.Pure := by
  intro l hm h2 hw
  obtain ⟨k, hk⟩ : ∃ k : Nat, 4000000 < k := ⟨_, Nat.lt_succ_self _⟩
  obtain ⟨k, rfl⟩ : ∃ m, k = m + 1 := ⟨k - 1, by omega⟩
  refine ⟨k + 1, ?_⟩
  unfold laws_FnConfs.f
  unfold laws_big.f
  rw [Option.bind_some]
  by_cases hb : (l.length : Int) > 1048576
  · rw [decide_eq_true hb, if_pos rfl]
  · rw [decide_eq_false hb, if_neg Bool.false_ne_true]
    obtain ⟨a, b, c, d, e, f, e1⟩ := drawConf_some l (by omega) (k := k + 1) (by omega)
    obtain ⟨a2, b2, c2, d2, e2', f2, g2, e2⟩ := drawSlices_some l (by omega) (k := k + 1) (by omega)
    obtain ⟨a3, b3, c3, d3, e3', f3, g3, e3⟩ := drawChunks_some l (by omega) (k := k + 1) (by omega)
    have i0 : impl_ConfOk.f a b c d e f = some (decide (ConfIn a b c d e f)) := conf_some a b c d e f
    have i1 : impl_BytesOf.f a b c d e f = spec_BytesOf.f a b c d e f := rfl
    have i2 : impl_SlicesOf.f a2 b2 c2 d2 e2' f2 g2 = spec_SlicesOf.f a2 b2 c2 d2 e2' f2 g2 := rfl
    have i3 : impl_ChunksFor.f a3 b3 c3 d3 e3' f3 g3 = spec_ChunksFor.f a3 b3 c3 d3 e3' f3 g3 := rfl
    obtain ⟨r1, h1⟩ := bytes_some a b c d e f
    obtain ⟨r2, h2⟩ : ∃ r, spec_SlicesOf.f a2 b2 c2 d2 e2' f2 g2 = some r := by
      obtain ⟨r, h⟩ := ceil_some g2 e2'
      exact ⟨r, by unfold spec_SlicesOf.f; rw [h]; rfl⟩
    obtain ⟨r3, h3⟩ : ∃ r, spec_ChunksFor.f a3 b3 c3 d3 e3' f3 g3 = some r := by
      obtain ⟨r, h⟩ := ceil_some g3 b3
      exact ⟨r, by unfold spec_ChunksFor.f; rw [h]; rfl⟩
    have j1 : impl_ConfNew.f = some (8, 8, 5, 2, 4, 3) := rfl
    have j2 : spec_ConfNew.f = some (8, 8, 5, 2, 4, 3) := rfl
    have j3 : impl_ConfOk.f 8 8 5 2 4 3 = some true := rfl
    have l1 : impl_IsLarge.f a3 b3 c3 d3 e3' f3 g3 = some (decide (g3 > b3)) := rfl
    have l2 : spec_IsLarge.f a3 b3 c3 d3 e3' f3 g3 = some (decide (g3 > b3)) := rfl
    simp only [e1, e2, e3, Option.bind_some, i0, conf_some, bne_self_eq_false, Bool.false_eq_true, ↓reduceIte, i1, h1, i2, h2, i3, h3, l1, l2, j1, j2, beq_self_eq_true, Bool.not_true, Bool.or_self, j3, end_some]
end Go.Proofs.Ytkcohcdhlgocgaa.Pure
