/- What the law FnTables computes is the answer true, for all arguments within the bounds that the statement's own reading gives. No other condition. -/
import Derived.OpenShut
import Derived.Test.YtofpmdgndegalabQFnTablesx16
namespace Go.Proofs.Ytofpmdgndegalab.Pure
open Go.RowKit Go.Proofs.Ytofpmdgndegalab.QFnTables Go.Proofs.YtofpmdgndegalabW.PrintWords Go.Proofs.YtofpmdgndegalabW.PrintLast
set_option linter.unusedVariables false
set_option linter.unusedSimpArgs false
def laws_FnTables.Pure : Prop := ∀ (l0 : List Int), l0.length ≤ maxLen → l0.length * 1 ≤ 140737488351232 → (∀ x ∈ l0, (Lit.int .u8 x).wf = true) → ∃ k, laws_FnTables.f k l0 = some true
theorem w1 {i : Nat} (h : i < 9223372036854775807) : wrap64 ((i : Int) + 1) = ((i + 1 : Nat) : Int) := by unfold wrap64; omega
theorem rd_nat (xs : List Int) (i : Nat) : rd xs (i : Int) = xs.getD i 0 := by simp [rd]
theorem getD_lt (xs : List Int) (i : Nat) (h : i < xs.length) : xs.getD i 0 = xs[i] := by simp [List.getD, List.getElem?_eq_getElem h]
theorem drop_cons (xs : List Int) (i : Nat) (h : i < xs.length) : xs.drop i = xs.getD i 0 :: xs.drop (i + 1) := by rw [getD_lt xs i h]; exact List.drop_eq_getElem_cons h
theorem set_take {x l : List Int} {i : Nat} (hi : i < l.length) (hx : x.length = l.length) (ht : x.take i = l.take i) : (x.set i (l.getD i 0)).take (i + 1) = l.take (i + 1) := by
 apply List.ext_getElem?
 intro j
 have hj := congrArg (fun z => z[j]?) ht
 simp only [List.getElem?_take] at hj ⊢
 by_cases h1 : j < i + 1
 ·rw [if_pos h1, if_pos h1, List.getElem?_set]
  by_cases h2 : i = j
  ·subst h2
   rw [if_pos rfl, if_pos (by omega), List.getElem?_eq_getElem hi, getD_lt l i hi]
  ·rw [if_neg h2]
   rw [if_pos (by omega), if_pos (by omega)] at hj
   exact hj
 ·rw [if_neg h1, if_neg h1]
theorem within_some (a l h : Int) : spec_l1In.f a l h = some (decide (l ≤ a ∧ a ≤ h)) := by
 unfold spec_l1In.f; by_cases g : a ≥ l
 ·rw [if_pos g]; congr 1; simp; omega
 ·rw [if_neg g]; congr 1; simp; omega
theorem iwithin_some (a l h : Int) : impl_within.f a l h = some (decide (l ≤ a ∧ a ≤ h)) := by
 unfold impl_within.f; by_cases g : a ≥ l
 ·rw [if_pos g]; congr 1; simp; omega
 ·rw [if_neg g]; congr 1; simp; omega
def ConfIn (a b c d e f : Int) : Prop := (2 ≤ a ∧ a ≤ 12) ∧ (8 ≤ b ∧ b ≤ 16) ∧ (2 ≤ c ∧ c ≤ 8) ∧ (1 ≤ d ∧ d ≤ 8) ∧ (1 ≤ e ∧ e ≤ 16) ∧ (1 ≤ f ∧ f ≤ 4)
instance (a b c d e f : Int) : Decidable (ConfIn a b c d e f) := by unfold ConfIn; infer_instance
theorem conf_some (a b c d e f : Int) : spec_ConfOk.f a b c d e f = some (decide (ConfIn a b c d e f)) := by
 unfold spec_ConfOk.f
 simp only [within_some, Option.bind_some, decide_eq_true_eq]
 unfold ConfIn
 by_cases h1 : 2 ≤ a ∧ a ≤ 12
 ·rw [if_pos h1]
  by_cases h2 : 8 ≤ b ∧ b ≤ 16
  ·rw [if_pos h2]
   by_cases h3 : 2 ≤ c ∧ c ≤ 8
   ·rw [if_pos h3]
    by_cases h4 : 1 ≤ d ∧ d ≤ 8
    ·rw [if_pos h4]
     by_cases h5 : 1 ≤ e ∧ e ≤ 16
     ·rw [if_pos h5]; congr 1; simp [h1, h2, h3, h4, h5]
     ·rw [if_neg h5]; congr 1; simp [h1, h2, h3, h4, h5]
    ·rw [if_neg h4]; congr 1; simp [h1, h2, h3, h4]
   ·rw [if_neg h3]; congr 1; simp [h1, h2, h3]
  ·rw [if_neg h2]; congr 1; simp [h1, h2]
 ·rw [if_neg h1]; congr 1; simp [h1]
theorem rdT_i (xs : List S74) (i : Nat) (h : i < xs.length) : rd_T74 xs (i : Int) = xs[i] := by simp [rd_T74, List.getElem?_eq_getElem h]
theorem rdN_i (xs : List S48) (i : Nat) (h : i < xs.length) : rd_T48 xs (i : Int) = xs[i] := by simp [rd_T48, List.getElem?_eq_getElem h]
theorem in_some (n : Nat) (hn : n ≤ 1048576) (a : Int) : spec_l1In.f a 0 (wrap64 ((n : Int) - 1)) = some (decide (0 ≤ a ∧ a < (n : Int))) := by
 have e : wrap64 ((n : Int) - 1) = (n : Int) - 1 := by unfold wrap64; omega
 unfold spec_l1In.f
 rw [e]
 by_cases h : a ≥ 0
 ·rw [if_pos h]
  congr 1
  exact decide_eq_decide.mpr ⟨fun g => ⟨h, by omega⟩, fun g => by omega⟩
 ·rw [if_neg h]
  congr 1
  exact (decide_eq_false (fun g => h g.1)).symm
theorem slot_some (xs : List S48) (hn : xs.length ≤ 1048576) (a : Int) : impl_isSlot.f xs a = some (decide (0 ≤ a ∧ a < (xs.length : Int))) := by
 have e : wrap64 ((xs.length : Int) - 1) = (xs.length : Int) - 1 := by unfold wrap64; omega
 unfold impl_isSlot.f impl_within.f
 rw [e]
 by_cases h : a ≥ 0
 ·rw [if_pos h, Option.bind_some]
  congr 1
  exact decide_eq_decide.mpr ⟨fun g => ⟨h, by omega⟩, fun g => by omega⟩
 ·rw [if_neg h, Option.bind_some]
  congr 1
  exact (decide_eq_false (fun g => h g.1)).symm
theorem i64_and255 (n : Int) : Go.bits .and .i64 n 255 = n % 256 := by
 have h : (BitVec.ofInt 64 255).toNat = 2 ^ 8 - 1 := by decide
 have key : (BitVec.ofInt 64 n &&& BitVec.ofInt 64 255).toNat = (n % ((2 ^ 64 : Nat) : Int)).toNat % 2 ^ 8 := by
  rw [BitVec.toNat_and, BitVec.toNat_ofInt, h, Nat.and_two_pow_sub_one_eq_mod]
 show IntKind.i64.wrap ((BitVec.ofInt 64 n &&& BitVec.ofInt 64 255).toNat : Nat) = n % 256
 rw [key, IntKind.wrap_i64]
 omega
def St (l : List Int) (i : Int) : Prop := 0 ≤ i ∧ i ≤ l.length
theorem new_l0 (l : List Int) (hl : l.length ≤ 1048576) : ∀ (d k i : Nat) (s : Int), l.length - i = d → i ≤ l.length → d < k → ∃ s', spec_l1New.l0 k l s (i : Int) = some (l, 0, s') := by
 intro d
 induction d with
 | zero =>
  intro k i s hd hi hk
  obtain ⟨k, rfl⟩ : ∃ m, k = m + 1 := ⟨k - 1, by omega⟩
  simp only [spec_l1New.l0]
  rw [if_neg (by omega)]; exact ⟨_, rfl⟩
 | succ d ih =>
  intro k i s hd hi hk
  obtain ⟨k, rfl⟩ : ∃ m, k = m + 1 := ⟨k - 1, by omega⟩
  simp only [spec_l1New.l0]
  rw [if_pos (by omega)]
  by_cases h : (i : Int) < 4000
  ·rw [if_pos h, if_pos (by omega), w1 (by omega)]
   exact ih k (i + 1) _ (by omega) (by omega) (by omega)
  ·rw [if_neg h]; exact ⟨_, rfl⟩
theorem new_some (l : List Int) (hl : l.length ≤ 1048576) {k : Nat} (hk : 1048576 < k) : ∃ s, spec_l1New.f k l = some (l, 0, s) := by
 unfold spec_l1New.f
 exact new_l0 l hl l.length k 0 _ (by omega) (by omega) (by omega)
theorem byte_some (l : List Int) (hl : l.length ≤ 1048576) (i s : Int) (hi : St l i) : ∃ v i' s', spec_l1Byte.f l i s = some (v, i', s') ∧ 0 ≤ v ∧ v ≤ 255 ∧ St l i' := by
 unfold spec_l1Byte.f
 obtain ⟨h0, h1⟩ := hi
 by_cases h : i < (l.length : Int)
 ·rw [if_pos h, if_pos h0]
  refine ⟨_, _, _, rfl, ?_, ?_, ?_⟩
  ·rw [i64_and255]; omega
  ·rw [i64_and255]; omega
  ·have e : wrap64 (i + 1) = i + 1 := by unfold wrap64; omega
   rw [e]; exact ⟨by omega, by omega⟩
 ·rw [if_neg h]
  refine ⟨_, _, _, rfl, ?_, ?_, ⟨h0, h1⟩⟩
  ·rw [i64_and255]; omega
  ·rw [i64_and255]; omega
theorem below_some (l : List Int) (hl : l.length ≤ 1048576) (i s : Int) (hi : St l i) (n : Int) : ∃ v i' s', spec_l1Below.f l i s n = some (v, i', s') ∧ 0 ≤ v ∧ (0 < n → v < n) ∧ (n ≤ 0 → v = 0) ∧ St l i' := by
 unfold spec_l1Below.f
 by_cases h0 : n ≤ 0
 ·rw [if_pos h0]; exact ⟨_, _, _, rfl, by omega, by omega, fun _ => rfl, hi⟩
 ·rw [if_neg h0]
  obtain ⟨v, i1, s1, e1, v0, v1, hi1⟩ := byte_some l hl i s hi
  by_cases h1 : n ≤ 256
  ·rw [if_pos h1, e1]
   simp only [Option.bind_some]
   rw [if_neg (by omega), Int.tmod_eq_emod_of_nonneg v0]
   exact ⟨_, _, _, rfl, Int.emod_nonneg _ (by omega), fun _ => Int.emod_lt_of_pos _ (by omega), by omega, hi1⟩
  ·rw [if_neg h1, e1]
   simp only [Option.bind_some]
   obtain ⟨v', i2, s2, e2, v0', v1', hi2⟩ := byte_some l hl i1 s1 hi1
   rw [e2]
   simp only [Option.bind_some]
   obtain ⟨v'', i3, s3, e3, v0'', v1'', hi3⟩ := byte_some l hl i2 s2 hi2
   rw [e3]
   simp only [Option.bind_some]
   have q : 0 ≤ wrap64 (wrap64 (wrap64 (v * 65536) + wrap64 (v' * 256)) + v'') := by unfold wrap64; omega
   rw [if_neg (by omega), Int.tmod_eq_emod_of_nonneg q]
   exact ⟨_, _, _, rfl, Int.emod_nonneg _ (by omega), fun _ => Int.emod_lt_of_pos _ (by omega), by omega, hi3⟩
theorem int_some (l : List Int) (hl : l.length ≤ 1048576) (i s : Int) (hi : St l i) (xs : List Int) (hx : 0 < xs.length) : ∃ v i' s', spec_l1Int.f l i s xs = some (v, i', s') ∧ v ∈ xs ∧ St l i' := by
 unfold spec_l1Int.f
 obtain ⟨v, i1, s1, e1, h0, h1, _, hi1⟩ := below_some l hl i s hi (xs.length : Int)
 rw [e1]
 simp only [Option.bind_some]
 have h2 := h1 (by omega)
 rw [if_pos h0, if_pos h2]
 refine ⟨_, _, _, rfl, ?_, hi1⟩
 have h3 : v.toNat < xs.length := by omega
 unfold rd
 rw [getD_lt xs _ h3]
 exact List.getElem_mem h3
def FewN (y : S48) : Prop := y.f8.length ≤ 1048576 ∧ y.f11.length ≤ 1048576 ∧ y.f12.length ≤ 1048576
theorem copy1S (y : S48) (h : FewN y) : spec_l7Copy.f y.f0 y.f1 y.f2 y.f3 y.f4 y.f5 y.f6 y.f7 y.f8 y.f9 y.f10 y.f11 y.f12 = some (y.f0, y.f1, y.f2, y.f3, y.f4, y.f5, y.f6, y.f7, y.f8, y.f9, y.f10, y.f11, y.f12) := by
 obtain ⟨h1, h2, h3⟩ := h
 unfold spec_l7Copy.f
 simp only [Option.bind_some, List.length_nil, Nat.zero_add, List.nil_append]
 rw [if_pos (by omega), if_pos (by omega), if_pos (by omega)]
theorem copy1I (y : S48) (h : FewN y) : impl_copyNode.f y.f0 y.f1 y.f2 y.f3 y.f4 y.f5 y.f6 y.f7 y.f8 y.f9 y.f10 y.f11 y.f12 = some (y.f0, y.f1, y.f2, y.f3, y.f4, y.f5, y.f6, y.f7, y.f8, y.f9, y.f10, y.f11, y.f12) := by
 obtain ⟨h1, h2, h3⟩ := h
 unfold impl_copyNode.f slices_Clone_int_int.f impl_Thing_59.f
 rw [if_pos (by omega), if_pos (by omega), if_pos (by omega)]
 rfl
theorem take_next {α : Type} (l : List α) (i : Nat) (h : i < l.length) : l.take i ++ [l[i]] = l.take (i + 1) := by
 rw [List.take_add_one, List.getElem?_eq_getElem h]
 rfl
theorem copyS (l : List S48) (hl : l.length ≤ 1048576) (hf : ∀ y, y ∈ l → FewN y) : ∀ (d k i : Nat), l.length - i = d → i ≤ l.length → d < k → spec_l7All.l0 k l (l.take i) (i : Int) = some l := by
 intro d
 induction d with
 | zero =>
  intro k i hd hi hk
  obtain ⟨k, rfl⟩ : ∃ m, k = m + 1 := ⟨k - 1, by omega⟩
  simp only [spec_l7All.l0]
  rw [if_neg (by omega), List.take_of_length_le (by omega)]
 | succ d ih =>
  intro k i hd hi hk
  obtain ⟨k, rfl⟩ : ∃ m, k = m + 1 := ⟨k - 1, by omega⟩
  have h : i < l.length := by omega
  have ht : (l.take i).length < 925904528653 := by rw [List.length_take]; omega
  simp only [spec_l7All.l0]
  rw [if_pos (by omega), if_pos (by omega), rdN_i l i h, copy1S l[i] (hf _ (List.getElem_mem h)), Option.bind_some, if_pos ht, w1 (by omega)]
  have := ih k (i + 1) (by omega) (by omega) (by omega)
  rw [← take_next l i h] at this
  exact this
theorem copyI (l : List S48) (hl : l.length ≤ 1048576) (hf : ∀ y, y ∈ l → FewN y) : ∀ (d k i : Nat), l.length - i = d → i ≤ l.length → d < k → impl_copyTable.l0 k (l.take i) l (l.length : Int) (i : Int) = some l := by
 intro d
 induction d with
 | zero =>
  intro k i hd hi hk
  obtain ⟨k, rfl⟩ : ∃ m, k = m + 1 := ⟨k - 1, by omega⟩
  simp only [impl_copyTable.l0]
  rw [if_neg (by omega), List.take_of_length_le (by omega)]
 | succ d ih =>
  intro k i hd hi hk
  obtain ⟨k, rfl⟩ : ∃ m, k = m + 1 := ⟨k - 1, by omega⟩
  have h : i < l.length := by omega
  have hI : (i : Int) < (l.length : Int) := by omega
  have ht : (l.take i).length < 925904528653 := by rw [List.length_take]; omega
  simp only [impl_copyTable.l0]
  rw [if_pos hI, if_pos (by omega), if_pos hI, rdN_i l i h, copy1I l[i] (hf _ (List.getElem_mem h)), Option.bind_some, if_pos ht, w1 (by omega)]
  have := ih k (i + 1) (by omega) (by omega) (by omega)
  rw [← take_next l i h] at this
  exact this
def clearOf (l : List S48) (a g : Int) : List S48 :=
 if 0 ≤ a ∧ a < (l.length : Int) then (if (rd_T48 l a).f1 ≥ g then l.set a.toNat ⟨3, (rd_T48 l a).f1, 0, 0, 0, 0, 0, 0, [], 0, 0, [], []⟩ else l.set a.toNat ⟨0, wrap64 ((rd_T48 l a).f1 + 1), 0, 0, 0, 0, 0, 0, [], 0, 0, [], []⟩) else l
theorem clear_spec (l : List S48) (hl : l.length ≤ 1048576) (hf : ∀ y, y ∈ l → FewN y) (a g : Int) {k : Nat} (hk : 1048577 < k) : spec_Clear.f k l a g = some (clearOf l a g) := by
 have e : wrap64 ((l.length : Int) - 1) = (l.length : Int) - 1 := by unfold wrap64; omega
 have ec := copyS l hl hf l.length k 0 (by omega) (by omega) (by omega)
 have ec' : spec_l7All.f k l = some l := ec
 unfold spec_Clear.f clearOf
 rw [ec', Option.bind_some, e, within_some, Option.bind_some]
 by_cases h : 0 ≤ a ∧ a < (l.length : Int)
 ·rw [if_pos (show decide (0 ≤ a ∧ a ≤ (l.length : Int) - 1) = true by rw [decide_eq_true_iff]; omega), if_pos h.1, if_pos h.2, if_pos h]
  by_cases c : (rd_T48 l a).f1 ≥ g
  ·rw [if_pos c, if_pos h.2, if_pos c]
  ·rw [if_neg c, if_neg c]
   have s0 : spec_NodeNew.f (wrap64 ((rd_T48 l a).f1 + 1)) = some (0, wrap64 ((rd_T48 l a).f1 + 1), 0, 0, 0, 0, 0, 0, [], 0, 0, [], []) := rfl
   rw [s0, Option.bind_some, if_pos h.2]
 ·rw [if_neg (show ¬ decide (0 ≤ a ∧ a ≤ (l.length : Int) - 1) = true by rw [decide_eq_true_iff]; omega), if_neg h]
theorem clear_impl (l : List S48) (hl : l.length ≤ 1048576) (hf : ∀ y, y ∈ l → FewN y) (a g : Int) {k : Nat} (hk : 1048577 < k) : impl_Clear.f k l a g = some (clearOf l a g) := by
 have ec := copyI l hl hf l.length k 0 (by omega) (by omega) (by omega)
 have ec' : impl_copyTable.f k l = some l := ec
 unfold impl_Clear.f clearOf
 rw [ec', Option.bind_some, slot_some l hl, Option.bind_some]
 by_cases h : 0 ≤ a ∧ a < (l.length : Int)
 ·rw [decide_eq_true h, if_pos rfl, if_pos h.1, if_pos h.2, if_pos h]
  by_cases c : (rd_T48 l a).f1 ≥ g
  ·rw [if_pos c, if_pos h.2, if_pos c]
  ·rw [if_neg c, if_pos h.2, if_neg c]
 ·rw [decide_eq_false h, if_neg Bool.false_ne_true, if_neg h]
theorem clear_few (l : List S48) (hf : ∀ y, y ∈ l → FewN y) (a g : Int) : (clearOf l a g).length = l.length ∧ ∀ y, y ∈ clearOf l a g → FewN y := by
 unfold clearOf
 by_cases h : 0 ≤ a ∧ a < (l.length : Int)
 ·rw [if_pos h]
  by_cases c : (rd_T48 l a).f1 ≥ g
  ·rw [if_pos c]
   refine ⟨List.length_set, fun y hy => ?_⟩
   rcases List.mem_or_eq_of_mem_set hy with hy | rfl
   ·exact hf y hy
   ·exact ⟨by simp, by simp, by simp⟩
  ·rw [if_neg c]
   refine ⟨List.length_set, fun y hy => ?_⟩
   rcases List.mem_or_eq_of_mem_set hy with hy | rfl
   ·exact hf y hy
   ·exact ⟨by simp, by simp, by simp⟩
 ·rw [if_neg h]
  exact ⟨rfl, hf⟩
theorem once_some (l : List Int) (hl : l.length ≤ 1048576) (i s : Int) (hi : St l i) (n : Int) : ∃ b i' s', spec_l1Once.f l i s n = some (b, i', s') ∧ St l i' := by
 unfold spec_l1Once.f
 obtain ⟨v, i1, s1, e1, _, _, _, hi1⟩ := below_some l hl i s hi n
 rw [e1]; exact ⟨_, _, _, rfl, hi1⟩
theorem l3conf_some (l : List Int) (hl : l.length ≤ 1048576) (i s : Int) (hi : St l i) : ∃ a b c d e f i' s', spec_l3Conf.f l i s = some (a, b, c, d, e, f, i', s') ∧ St l i' := by
 unfold spec_l3Conf.f
 obtain ⟨v1, i1, s1, e1, _, _, _, h1⟩ := below_some l hl i s hi 11
 rw [e1, Option.bind_some]
 obtain ⟨v2, i2, s2, e2, _, h2⟩ := int_some l hl i1 s1 h1 [8, 8, 9, 12, 16] (by decide)
 rw [e2, Option.bind_some]
 obtain ⟨v3, i3, s3, e3, _, _, _, h3⟩ := below_some l hl i2 s2 h2 7
 rw [e3, Option.bind_some]
 obtain ⟨v4, i4, s4, e4, _, _, _, h4⟩ := below_some l hl i3 s3 h3 6
 rw [e4, Option.bind_some]
 obtain ⟨v5, i5, s5, e5, _, h5⟩ := int_some l hl i4 s4 h4 [1, 3, 4, 8, 16] (by decide)
 rw [e5, Option.bind_some]
 obtain ⟨v6, i6, s6, e6, _, _, _, h6⟩ := below_some l hl i5 s5 h5 4
 rw [e6, Option.bind_some]
 exact ⟨_, _, _, _, _, _, _, _, rfl, h6⟩
theorem thing7_some (l : List Int) (hl : l.length ≤ 1048576) (i s : Int) (hi : St l i) (a b c d e f : Int) {k : Nat} (hk : 0 < k) : ∃ p q r i' s', spec_l7Thing.f k l i s a b c d e f = some (p, q, r, i', s') ∧ St l i' := by
 obtain ⟨k, rfl⟩ : ∃ m, k = m + 1 := ⟨k - 1, by omega⟩
 have hj : ∀ (x : Bool) (i s : Int), St l i → ∃ p q r i' s', spec_l7Thing.j0 (k + 1) x l i s a b c d e f = some (p, q, r, i', s') ∧ St l i' := by
  intro x i s hi
  rw [spec_l7Thing.j0]
  by_cases hx : x = true
  ·rw [if_pos hx]
   obtain ⟨v1, i1, s1, e1, _, _, _, h1⟩ := below_some l hl i s hi (wrap64 (a - 1))
   rw [e1, Option.bind_some]
   obtain ⟨v2, i2, s2, e2, _, _, _, h2⟩ := below_some l hl i1 s1 h1 b
   rw [e2, Option.bind_some]
   exact ⟨_, _, _, _, _, rfl, h2⟩
  ·rw [if_neg hx]
   obtain ⟨v1, i1, s1, e1, _, _, _, h1⟩ := below_some l hl i s hi a
   rw [e1, Option.bind_some]
   obtain ⟨v2, i2, s2, e2, _, _, _, h2⟩ := below_some l hl i1 s1 h1 b
   rw [e2, Option.bind_some]
   obtain ⟨v3, i3, s3, e3, _, _, _, h3⟩ := below_some l hl i2 s2 h2 (wrap64 (b - v2))
   rw [e3, Option.bind_some]
   exact ⟨_, _, _, _, _, rfl, h3⟩
 unfold spec_l7Thing.f
 obtain ⟨v0, i0, s0, e0, h0⟩ := once_some l hl i s hi 4
 rw [e0, Option.bind_some]
 by_cases hv : v0 = true
 ·rw [if_pos hv]; exact hj _ _ _ h0
 ·rw [if_neg hv]; exact hj _ _ _ h0
theorem l7_l2 (l : List Int) (hl : l.length ≤ 1048576) (b0 b1 b2 b3 b4 b5 b6 b7 : Int) (l8 : List Int) (b9 b10 : Int) (l11 : List S74) : ∀ (n k : Nat) (x : Int) (i s : Int) (l12 : List Int), St l i → x ≤ (n : Int) → n ≤ 3 → n < k → l12.length + n ≤ 100 →
  ∃ l12' i' s', spec_l7Draw.l2 k x l i s b0 b1 b2 b3 b4 b5 b6 b7 l8 b9 b10 l11 l12 = some (b0, b1, b2, b3, b4, b5, b6, b7, l8, b9, b10, l11, l12', i', s') ∧ St l i' ∧ l12'.length ≤ l12.length + n := by
 intro n
 induction n with
 | zero =>
  intro k x i s l12 hi hx _ hk _
  obtain ⟨k, rfl⟩ : ∃ m, k = m + 1 := ⟨k - 1, by omega⟩
  rw [spec_l7Draw.l2, if_neg (by omega)]
  exact ⟨_, _, _, rfl, hi, by omega⟩
 | succ n ih =>
  intro k x i s l12 hi hx hn hk hlen
  obtain ⟨k, rfl⟩ : ∃ m, k = m + 1 := ⟨k - 1, by omega⟩
  rw [spec_l7Draw.l2]
  by_cases h : x > 0
  ·obtain ⟨v1, i1, s1, e1, _, _, _, h1⟩ := below_some l hl i s hi 256
   have ex : wrap64 (x - 1) = x - 1 := by unfold wrap64; omega
   rw [if_pos h, e1, Option.bind_some, if_pos (by omega), ex]
   obtain ⟨l', i', s', e', hi', hl'⟩ := ih k (x - 1) i1 s1 (l12 ++ [v1]) h1 (by omega) (by omega) (by omega) (by simp only [List.length_append, List.length_singleton]; omega)
   exact ⟨l', i', s', e', hi', by simp only [List.length_append, List.length_singleton] at hl'; omega⟩
  ·rw [if_neg h]
   exact ⟨_, _, _, rfl, hi, by omega⟩
theorem l7_l1 (l : List Int) (hl : l.length ≤ 1048576) (a b c d e f : Int) (b0 b1 b2 b3 b4 b5 b6 b7 : Int) (l8 : List Int) (b9 b10 : Int) : ∀ (n k : Nat) (x : Int) (i s : Int) (l11 : List S74) (l12 : List Int), St l i → x ≤ (n : Int) → n ≤ 3 → n + 5 < k → l11.length + n ≤ 100 → l12.length ≤ 50 →
  ∃ l11' l12' i' s', spec_l7Draw.l1 k x l i s a b c d e f b0 b1 b2 b3 b4 b5 b6 b7 l8 b9 b10 l11 l12 = some (b0, b1, b2, b3, b4, b5, b6, b7, l8, b9, b10, l11', l12', i', s') ∧ St l i' ∧ l11'.length ≤ l11.length + n ∧ l12'.length ≤ l12.length + 3 := by
 intro n
 induction n with
 | zero =>
  intro k x i s l11 l12 hi hx _ hk _ h12
  obtain ⟨k, rfl⟩ : ∃ m, k = m + 1 := ⟨k - 1, by omega⟩
  obtain ⟨v1, i1, s1, e1, _, q1, _, h1⟩ := below_some l hl i s hi 3
  have q2 := q1 (by omega)
  rw [spec_l7Draw.l1, if_neg (by omega), e1, Option.bind_some]
  obtain ⟨l', i', s', e', hi', hl'⟩ := l7_l2 l hl b0 b1 b2 b3 b4 b5 b6 b7 l8 b9 b10 l11 3 k v1 i1 s1 l12 h1 (by omega) (by omega) (by omega) (by omega)
  exact ⟨_, l', i', s', e', hi', by omega, hl'⟩
 | succ n ih =>
  intro k x i s l11 l12 hi hx hn hk h11 h12
  obtain ⟨k, rfl⟩ : ∃ m, k = m + 1 := ⟨k - 1, by omega⟩
  rw [spec_l7Draw.l1]
  by_cases h : x > 0
  ·obtain ⟨p, q, r, i1, s1, e1, h1⟩ := thing7_some l hl i s hi a b c d e f (k := k) (by omega)
   have ex : wrap64 (x - 1) = x - 1 := by unfold wrap64; omega
   rw [if_pos h, e1, Option.bind_some, if_pos (by omega), ex]
   obtain ⟨l11', l12', i', s', e', hi', hl', hl2⟩ := ih k (x - 1) i1 s1 (l11 ++ [⟨p, q, r⟩]) l12 h1 (by omega) (by omega) (by omega) (by simp only [List.length_append, List.length_singleton]; omega) h12
   exact ⟨l11', l12', i', s', e', hi', by simp only [List.length_append, List.length_singleton] at hl'; omega, hl2⟩
  ·obtain ⟨v1, i1, s1, e1, _, q1, _, h1⟩ := below_some l hl i s hi 3
   have q2 := q1 (by omega)
   rw [if_neg h, e1, Option.bind_some]
   obtain ⟨l', i', s', e', hi', hl'⟩ := l7_l2 l hl b0 b1 b2 b3 b4 b5 b6 b7 l8 b9 b10 l11 3 k v1 i1 s1 l12 h1 (by omega) (by omega) (by omega) (by omega)
   exact ⟨_, l', i', s', e', hi', by omega, hl'⟩
theorem l7_j1 (l : List Int) (hl : l.length ≤ 1048576) (a b c d e f : Int) (b0 b1 b2 b3 b4 b5 b6 b7 : Int) (l8 : List Int) (b9 b10 : Int) (k : Nat) (hk : 10 < k) (i s : Int) (hi : St l i) :
  ∃ l11' l12' i' s', spec_l7Draw.j1 k l i s a b c d e f b0 b1 b2 b3 b4 b5 b6 b7 l8 b9 b10 [] [] = some (b0, b1, b2, b3, b4, b5, b6, b7, l8, b9, b10, l11', l12', i', s') ∧ St l i' ∧ l11'.length ≤ 3 ∧ l12'.length ≤ 3 := by
 obtain ⟨k, rfl⟩ : ∃ m, k = m + 1 := ⟨k - 1, by omega⟩
 obtain ⟨v1, i1, s1, e1, _, q1, _, h1⟩ := below_some l hl i s hi 3
 have q2 := q1 (by omega)
 rw [spec_l7Draw.j1, e1, Option.bind_some]
 obtain ⟨l11', l12', i', s', e', hi', g1, g2⟩ := l7_l1 l hl a b c d e f b0 b1 b2 b3 b4 b5 b6 b7 l8 b9 b10 3 k v1 i1 s1 [] [] h1 (by omega) (by omega) (by omega) (by simp) (by simp)
 exact ⟨l11', l12', i', s', e', hi', by simpa using g1, by simpa using g2⟩
theorem l7_l0 (l : List Int) (hl : l.length ≤ 1048576) (a b c d e f : Int) (b0 b1 b2 b3 b4 b5 b6 b7 : Int) (b9 b10 : Int) : ∀ (n k : Nat) (x : Int) (i s : Int) (l8 : List Int), St l i → x ≤ (n : Int) → n ≤ 3 → n + 15 < k → l8.length + n ≤ 100 →
  ∃ l8' b9' b10' l11' l12' i' s', spec_l7Draw.l0 k x l i s a b c d e f b0 b1 b2 b3 b4 b5 b6 b7 l8 b9 b10 [] [] = some (b0, b1, b2, b3, b4, b5, b6, b7, l8', b9', b10', l11', l12', i', s') ∧ St l i' ∧ l8'.length ≤ l8.length + n ∧ l11'.length ≤ 3 ∧ l12'.length ≤ 3 := by
 have fin : ∀ (k : Nat) (i s : Int) (l8 : List Int), St l i → 10 < k →
   ∃ l8' b9' b10' l11' l12' i' s', (if (l8.length : Int) > 0 then (if 0 < (l8.length : Int) then ((spec_l1Below.f l i s (wrap64 (b + 1))).bind fun bt208 => (spec_l7Draw.j1 k l bt208.2.1 bt208.2.2 a b c d e f b0 b1 b2 b3 b4 b5 b6 b7 l8 (wrap64 ((rd l8 0) + 1)) bt208.1 [] [])) else (none)) else (spec_l7Draw.j1 k l i s a b c d e f b0 b1 b2 b3 b4 b5 b6 b7 l8 b9 b10 [] [])) = some (b0, b1, b2, b3, b4, b5, b6, b7, l8', b9', b10', l11', l12', i', s') ∧ St l i' ∧ l8'.length = l8.length ∧ l11'.length ≤ 3 ∧ l12'.length ≤ 3 := by
  intro k i s l8 hi hk
  by_cases h : (l8.length : Int) > 0
  ·obtain ⟨v1, i1, s1, e1, _, _, _, h1⟩ := below_some l hl i s hi (wrap64 (b + 1))
   rw [if_pos h, if_pos (show 0 < (l8.length : Int) from h), e1, Option.bind_some]
   obtain ⟨l11', l12', i', s', e', hi', g1, g2⟩ := l7_j1 l hl a b c d e f b0 b1 b2 b3 b4 b5 b6 b7 l8 (wrap64 ((rd l8 0) + 1)) v1 k hk i1 s1 h1
   exact ⟨_, _, _, _, _, _, _, e', hi', rfl, g1, g2⟩
  ·rw [if_neg h]
   obtain ⟨l11', l12', i', s', e', hi', g1, g2⟩ := l7_j1 l hl a b c d e f b0 b1 b2 b3 b4 b5 b6 b7 l8 b9 b10 k hk i s hi
   exact ⟨_, _, _, _, _, _, _, e', hi', rfl, g1, g2⟩
 intro n
 induction n with
 | zero =>
  intro k x i s l8 hi hx _ hk _
  obtain ⟨k, rfl⟩ : ∃ m, k = m + 1 := ⟨k - 1, by omega⟩
  rw [spec_l7Draw.l0, if_neg (by omega)]
  obtain ⟨l8', b9', b10', l11', l12', i', s', e', hi', g0, g1, g2⟩ := fin k i s l8 hi (by omega)
  exact ⟨l8', b9', b10', l11', l12', i', s', e', hi', by omega, g1, g2⟩
 | succ n ih =>
  intro k x i s l8 hi hx hn hk h8
  obtain ⟨k, rfl⟩ : ∃ m, k = m + 1 := ⟨k - 1, by omega⟩
  rw [spec_l7Draw.l0]
  by_cases h : x > 0
  ·have ex : wrap64 (x - 1) = x - 1 := by unfold wrap64; omega
   rw [if_pos h, if_pos (by omega), ex]
   obtain ⟨l8', b9', b10', l11', l12', i', s', e', hi', g0, g1, g2⟩ := ih k (x - 1) i s (l8 ++ [x - 1]) hi (by omega) (by omega) (by omega) (by simp only [List.length_append, List.length_singleton]; omega)
   exact ⟨l8', b9', b10', l11', l12', i', s', e', hi', by simp only [List.length_append, List.length_singleton] at g0; omega, g1, g2⟩
  ·rw [if_neg h]
   obtain ⟨l8', b9', b10', l11', l12', i', s', e', hi', g0, g1, g2⟩ := fin k i s l8 hi (by omega)
   exact ⟨l8', b9', b10', l11', l12', i', s', e', hi', by omega, g1, g2⟩
theorem l7draw_some (l : List Int) (hl : l.length ≤ 1048576) (i s : Int) (hi : St l i) (a b c d e f : Int) {k : Nat} (hk : 20 < k) : ∃ (y : S48) (i' s' : Int), spec_l7Draw.f k l i s a b c d e f = some (y.f0, y.f1, y.f2, y.f3, y.f4, y.f5, y.f6, y.f7, y.f8, y.f9, y.f10, y.f11, y.f12, i', s') ∧ St l i' ∧ FewN y := by
 unfold spec_l7Draw.f
 obtain ⟨v1, i1, s1, e1, _, _, _, h1⟩ := below_some l hl i s hi f
 have s0 : spec_NodeNew.f (wrap64 (1 + v1)) = some (0, wrap64 (1 + v1), 0, 0, 0, 0, 0, 0, [], 0, 0, [], []) := rfl
 rw [e1, Option.bind_some, s0, Option.bind_some]
 obtain ⟨v2, i2, s2, e2, _, _, _, h2⟩ := below_some l hl i1 s1 h1 4
 rw [e2, Option.bind_some]
 by_cases h : v2 = 1
 ·rw [if_pos h]
  obtain ⟨v3, i3, s3, e3, _, _, _, h3⟩ := below_some l hl i2 s2 h2 3
  rw [e3, Option.bind_some]
  obtain ⟨v4, i4, s4, e4, _, q4, _, h4⟩ := below_some l hl i3 s3 h3 3
  have q5 := q4 (by omega)
  rw [e4, Option.bind_some]
  obtain ⟨l8', b9', b10', l11', l12', i', s', e', hi', g0, g1, g2⟩ := l7_l0 l hl a b c d e f v2 (wrap64 (1 + v1)) v3 0 0 0 0 0 0 0 3 k v4 i4 s4 [] h4 (by omega) (by omega) (by omega) (by simp)
  exact ⟨⟨v2, wrap64 (1 + v1), v3, 0, 0, 0, 0, 0, l8', b9', b10', l11', l12'⟩, i', s', e', hi', by simp only [List.length_nil] at g0; exact Nat.le_trans g0 (by omega), Nat.le_trans g1 (by omega), Nat.le_trans g2 (by omega)⟩
 ·rw [if_neg h]
  exact ⟨⟨v2, wrap64 (1 + v1), 0, 0, 0, 0, 0, 0, [], 0, 0, [], []⟩, _, _, rfl, h2, Nat.zero_le _, Nat.zero_le _, Nat.zero_le _⟩
theorem l8_l0 (l : List Int) (hl : l.length ≤ 1048576) (a b c d e f : Int) : ∀ (n k : Nat) (x : Int) (i s : Int) (t : List S48), St l i → x ≤ (n : Int) → n ≤ 5 → n + 30 < k → t.length + n ≤ 100 → (∀ y, y ∈ t → FewN y) →
  ∃ t' i' s', spec_l8Draw.l0 k t x l i s a b c d e f = some (t', i', s') ∧ St l i' ∧ t'.length ≤ t.length + n ∧ ∀ y, y ∈ t' → FewN y := by
 intro n
 induction n with
 | zero =>
  intro k x i s t hi hx _ hk _ hf
  obtain ⟨k, rfl⟩ : ∃ m, k = m + 1 := ⟨k - 1, by omega⟩
  rw [spec_l8Draw.l0, if_neg (by omega)]
  exact ⟨_, _, _, rfl, hi, by omega, hf⟩
 | succ n ih =>
  intro k x i s t hi hx hn hk ht hf
  obtain ⟨k, rfl⟩ : ∃ m, k = m + 1 := ⟨k - 1, by omega⟩
  rw [spec_l8Draw.l0]
  by_cases h : x > 0
  ·obtain ⟨y, i1, s1, e1, h1, hy⟩ := l7draw_some l hl i s hi a b c d e f (k := k) (by omega)
   have ex : wrap64 (x - 1) = x - 1 := by unfold wrap64; omega
   rw [if_pos h, e1, Option.bind_some, if_pos (by omega), ex]
   obtain ⟨t', i', s', e', hi', g1, g2⟩ := ih k (x - 1) i1 s1 (t ++ [y]) h1 (by omega) (by omega) (by omega) (by simp only [List.length_append, List.length_singleton]; omega) (fun z hz => by
    rcases List.mem_append.1 hz with hz | hz
    ·exact hf z hz
    ·rw [List.mem_singleton.1 hz]; exact hy)
   exact ⟨t', i', s', e', hi', by simp only [List.length_append, List.length_singleton] at g1; omega, g2⟩
  ·rw [if_neg h]
   exact ⟨_, _, _, rfl, hi, by omega, hf⟩
theorem l8draw_some (l : List Int) (hl : l.length ≤ 1048576) (i s : Int) (hi : St l i) {k : Nat} (hk : 40 < k) : ∃ (t : List S48) (i' s' : Int), spec_l8Draw.f k l i s = some (t, i', s') ∧ St l i' ∧ t.length ≤ 5 ∧ ∀ y, y ∈ t → FewN y := by
 unfold spec_l8Draw.f
 obtain ⟨a, b, c, d, e, f, i1, s1, e1, h1⟩ := l3conf_some l hl i s hi
 rw [e1, Option.bind_some]
 obtain ⟨v2, i2, s2, e2, _, q2, _, h2⟩ := below_some l hl i1 s1 h1 5
 have q3 := q2 (by omega)
 rw [e2, Option.bind_some]
 obtain ⟨t', i', s', e', hi', g1, g2⟩ := l8_l0 l hl a b c d e f 5 k v2 i2 s2 [] h2 (by omega) (by omega) (by omega) (by simp) (by simp)
 exact ⟨t', i', s', e', hi', by simpa using g1, g2⟩
theorem l3any_some (l : List Int) (hl : l.length ≤ 1048576) (i s : Int) (hi : St l i) : ∃ a b c d e f i' s', spec_l3Any.f l i s = some (a, b, c, d, e, f, i', s') ∧ St l i' := by
 unfold spec_l3Any.f
 obtain ⟨a, b, c, d, e, f, i0, s0, e0, h0⟩ := l3conf_some l hl i s hi
 rw [e0, Option.bind_some]
 obtain ⟨v1, i1, s1, e1, _, _, _, h1⟩ := below_some l hl i0 s0 h0 14
 rw [e1, Option.bind_some]
 by_cases c0 : v1 = 0
 ·rw [if_pos c0]
  obtain ⟨v2, i2, s2, e2, _, h2⟩ := int_some l hl i1 s1 h1 [1, 2, 12, 13] (by decide)
  rw [e2, Option.bind_some]
  exact ⟨_, _, _, _, _, _, _, _, rfl, h2⟩
 rw [if_neg c0]
 by_cases c1 : v1 = 1
 ·rw [if_pos c1]
  obtain ⟨v2, i2, s2, e2, _, h2⟩ := int_some l hl i1 s1 h1 [7, 8, 16, 17] (by decide)
  rw [e2, Option.bind_some]
  exact ⟨_, _, _, _, _, _, _, _, rfl, h2⟩
 rw [if_neg c1]
 by_cases c2 : v1 = 2
 ·rw [if_pos c2]
  obtain ⟨v2, i2, s2, e2, _, h2⟩ := int_some l hl i1 s1 h1 [1, 8, 9] (by decide)
  rw [e2, Option.bind_some]
  exact ⟨_, _, _, _, _, _, _, _, rfl, h2⟩
 rw [if_neg c2]
 by_cases c3 : v1 = 3
 ·rw [if_pos c3]
  obtain ⟨v2, i2, s2, e2, _, h2⟩ := int_some l hl i1 s1 h1 [0, 8, 9] (by decide)
  rw [e2, Option.bind_some]
  exact ⟨_, _, _, _, _, _, _, _, rfl, h2⟩
 rw [if_neg c3]
 by_cases c4 : v1 = 4
 ·rw [if_pos c4]
  obtain ⟨v2, i2, s2, e2, _, h2⟩ := int_some l hl i1 s1 h1 [0, 17] (by decide)
  rw [e2, Option.bind_some]
  exact ⟨_, _, _, _, _, _, _, _, rfl, h2⟩
 rw [if_neg c4]
 by_cases c5 : v1 = 5
 ·rw [if_pos c5]
  obtain ⟨v2, i2, s2, e2, _, h2⟩ := int_some l hl i1 s1 h1 [0, 5] (by decide)
  rw [e2, Option.bind_some]
  exact ⟨_, _, _, _, _, _, _, _, rfl, h2⟩
 rw [if_neg c5]
 exact ⟨_, _, _, _, _, _, _, _, rfl, h1⟩
def n1 : S48 := ⟨0, 1, 0, 0, 0, 0, 0, 0, [], 0, 0, [], []⟩
theorem spec_l0 (a b c d e f : Int) (h : ConfIn a b c d e f) : ∀ (j k i : Nat) (x : List S48), c.toNat - i = j → i ≤ c.toNat → j < k → x.length = i → x = List.replicate i n1 →
  spec_TableNew.l0 k x (i : Int) a b c d e f = some (List.replicate c.toNat n1) := by
 have hc := h.2.2.1
 intro j
 induction j with
 | zero =>
  intro k i x hj hi hk hx he
  obtain ⟨k, rfl⟩ : ∃ m, k = m + 1 := ⟨k - 1, by omega⟩
  simp only [spec_TableNew.l0]
  rw [if_neg (by omega), he, show i = c.toNat by omega]
 | succ j ih =>
  intro k i x hj hi hk hx he
  obtain ⟨k, rfl⟩ : ∃ m, k = m + 1 := ⟨k - 1, by omega⟩
  simp only [spec_TableNew.l0]
  have s0 : spec_NodeNew.f 1 = some (0, 1, 0, 0, 0, 0, 0, 0, [], 0, 0, [], []) := rfl
  rw [if_pos (by omega), conf_some, Option.bind_some, decide_eq_true h, if_pos rfl, s0, Option.bind_some, if_pos (by omega), w1 (by omega)]
  refine ih k (i + 1) _ (by omega) (by omega) (by omega) (by simp [hx]) ?_
  rw [he, List.replicate_succ']
  rfl
theorem spec_out (a b c d e f : Int) (h : ¬ ConfIn a b c d e f) (k : Nat) : spec_TableNew.f (k + 1) a b c d e f = some [] := by
 unfold spec_TableNew.f
 simp only [spec_TableNew.l0]
 by_cases c0 : (0 : Int) < c
 ·rw [if_pos c0, conf_some, Option.bind_some, decide_eq_false h, if_neg (by decide)]
 ·rw [if_neg c0]
theorem table_both (a b c d e f : Int) (k : Nat) (hk : 20 < k) : ∃ l : List S48, spec_TableNew.f k a b c d e f = some l ∧ impl_TableNew.f a b c d e f = some l ∧ l.length ≤ 8 ∧ ∀ y, y ∈ l → y = n1 := by
 have ic : impl_ConfOk.f a b c d e f = some (decide (ConfIn a b c d e f)) := conf_some a b c d e f
 by_cases h : ConfIn a b c d e f
 ·have hc := h.2.2.1
  refine ⟨List.replicate c.toNat n1, ?_, ?_, by rw [List.length_replicate]; omega, fun y hy => List.eq_of_mem_replicate hy⟩
  ·unfold spec_TableNew.f
   exact spec_l0 a b c d e f h c.toNat k 0 [] (by omega) (by omega) (by omega) rfl rfl
  ·unfold impl_TableNew.f
   rw [ic, Option.bind_some, decide_eq_true h, if_pos rfl, if_pos (by omega)]
   rfl
 ·obtain ⟨k, rfl⟩ : ∃ m, k = m + 1 := ⟨k - 1, by omega⟩
  refine ⟨[], spec_out a b c d e f h k, ?_, by simp, by simp⟩
  unfold impl_TableNew.f
  rw [ic, Option.bind_some, decide_eq_false h, if_neg (by decide)]
theorem count_same (xs : List S48) (hx : xs.length ≤ 1048576) (a : Int) : ∀ (d k i : Nat) (c : Int), xs.length - i = d → i ≤ xs.length → d < k → ∃ r, spec_CountNodes.l0 k xs a c (i : Int) = some r ∧ impl_CountNodes.l0 k a c xs (xs.length : Int) (i : Int) = some r := by
 intro d
 induction d with
 | zero =>
  intro k i c hd hi hk
  obtain ⟨k, rfl⟩ : ∃ m, k = m + 1 := ⟨k - 1, by omega⟩
  have c : ¬ (i : Int) < (xs.length : Int) := by omega
  rw [spec_CountNodes.l0, impl_CountNodes.l0, if_neg c, if_neg c]
  exact ⟨_, rfl, rfl⟩
 | succ d ih =>
  intro k i q hd hi hk
  obtain ⟨k, rfl⟩ : ∃ m, k = m + 1 := ⟨k - 1, by omega⟩
  have c : (i : Int) < (xs.length : Int) := by omega
  have c0 : (0 : Int) ≤ (i : Int) := by omega
  rw [spec_CountNodes.l0, impl_CountNodes.l0, if_pos c, if_pos c, if_pos c0, if_pos c0, if_pos c, w1 (i := i) (by omega)]
  by_cases g : (rd_T48 xs (i : Int)).f0 = a
  ·rw [if_pos g, if_pos g]
   exact ih k (i + 1) _ (by omega) (by omega) (by omega)
  ·rw [if_neg g, if_neg g]
   exact ih k (i + 1) _ (by omega) (by omega) (by omega)
theorem free_same (xs : List S48) (hx : xs.length ≤ 1048576) : ∀ (d k i : Nat), xs.length - i = d → i ≤ xs.length → d < k → ∃ r, spec_FreePlace.l0 k xs (i : Int) = some r ∧ impl_Node_41.l0 k xs (xs.length : Int) (i : Int) = some r := by
 intro d
 induction d with
 | zero =>
  intro k i hd hi hk
  obtain ⟨k, rfl⟩ : ∃ m, k = m + 1 := ⟨k - 1, by omega⟩
  have c : ¬ (i : Int) < (xs.length : Int) := by omega
  rw [spec_FreePlace.l0, impl_Node_41.l0, if_neg c, if_neg c]
  exact ⟨_, rfl, rfl⟩
 | succ d ih =>
  intro k i hd hi hk
  obtain ⟨k, rfl⟩ : ∃ m, k = m + 1 := ⟨k - 1, by omega⟩
  have c : (i : Int) < (xs.length : Int) := by omega
  have c0 : (0 : Int) ≤ (i : Int) := by omega
  rw [spec_FreePlace.l0, impl_Node_41.l0, if_pos c, if_pos c, if_pos c0, if_pos c0, if_pos c, rdN_i xs i (by omega), w1 (by omega)]
  unfold impl_FreePlace_1.f
  rw [Option.bind_some]
  by_cases g : (xs[i]'(by omega)).f0 = 0
  ·rw [if_pos g, if_pos (by simp only [beq_iff_eq]; exact g)]
   exact ⟨_, rfl, rfl⟩
  ·rw [if_neg g, if_neg (by simp only [beq_iff_eq]; exact g)]
   exact ih k (i + 1) (by omega) (by omega) (by omega)
/-- A loop that compares two slices of one length. -/
theorem cmp_gen {β : Type} (G : Nat → Int → Option Bool) (a b : List β) (hl : a.length = b.length)
  (yes : ∀ (k i : Nat) (h : i < a.length), a[i] = b[i]'(hl ▸ h) → G (k + 1) (i : Int) = G k ((i + 1 : Nat) : Int))
  (no : ∀ (k i : Nat) (h : i < a.length), a[i] ≠ b[i]'(hl ▸ h) → G (k + 1) (i : Int) = some false)
  (last : ∀ (k : Nat), G (k + 1) (a.length : Int) = some true) :
  ∀ (d k i : Nat), a.length - i = d → i ≤ a.length → d < k → ∃ r, G k (i : Int) = some r ∧ (r = true ↔ ∀ (j : Nat) (h : j < a.length), i ≤ j → a[j] = b[j]'(hl ▸ h)) := by
 intro d
 induction d with
 | zero =>
  intro k i hd hi hk
  obtain ⟨k, rfl⟩ : ∃ m, k = m + 1 := ⟨k - 1, by omega⟩
  have e : i = a.length := by omega
  subst e
  exact ⟨true, last k, by simp only [true_iff]; exact fun j h hj => absurd h (by omega)⟩
 | succ d ih =>
  intro k i hd hi hk
  obtain ⟨k, rfl⟩ : ∃ m, k = m + 1 := ⟨k - 1, by omega⟩
  have hi' : i < a.length := by omega
  by_cases c : a[i] = b[i]'(hl ▸ hi')
  ·obtain ⟨r, e, g⟩ := ih k (i + 1) (by omega) (by omega) (by omega)
   refine ⟨r, by rw [yes k i hi' c]; exact e, g.trans ⟨fun f j h hj => ?_, fun f j h hj => f j h (by omega)⟩⟩
   by_cases ej : j = i
   ·subst ej; exact c
   ·exact f j h (by omega)
  ·refine ⟨false, no k i hi' c, ?_⟩
   simp only [Bool.false_eq_true, false_iff]
   exact fun f => c (f i hi' (Nat.le_refl _))
theorem all_eq {β : Type} (a b : List β) (hl : a.length = b.length) (h : ∀ (j : Nat) (h : j < a.length), 0 ≤ j → a[j] = b[j]'(hl ▸ h)) : a = b := List.ext_getElem hl (fun j h1 _ => h j h1 (Nat.zero_le _))
theorem rd_at (r : List Int) (i : Nat) (h : i < r.length) : rd r (i : Int) = r[i] := by rw [rd_nat, getD_lt r i h]
theorem slEq_some (a b : List Int) (hn : a.length ≤ 1048576) {k : Nat} (hk : 1048577 < k) : ∃ r, slices_Equal_int_int.f k a b = some r ∧ (r = true ↔ a = b) := by
 unfold slices_Equal_int_int.f
 by_cases hl : a.length = b.length
 ·rw [if_pos (by omega)]
  have yes_ : ∀ (k i : Nat) (h : i < a.length), a[i] = b[i]'(hl ▸ h) → (fun k i => slices_Equal_int_int.l0 k a b (a.length : Int) i) (k + 1) (i : Int) = (fun k i => slices_Equal_int_int.l0 k a b (a.length : Int) i) k ((i + 1 : Nat) : Int) := by
   intro k i h c
   have c1 : (i : Int) < (a.length : Int) := by omega
   have c2 : (0 : Int) ≤ (i : Int) := by omega
   have c3 : (i : Int) < (b.length : Int) := by omega
   show slices_Equal_int_int.l0 (k + 1) a b (a.length : Int) (i : Int) = _
   rw [slices_Equal_int_int.l0, if_pos c1, if_pos c2, if_pos c1, if_pos c3, rd_at a i h, rd_at b i (hl ▸ h), if_pos c, w1 (by omega)]
  have no_ : ∀ (k i : Nat) (h : i < a.length), a[i] ≠ b[i]'(hl ▸ h) → (fun k i => slices_Equal_int_int.l0 k a b (a.length : Int) i) (k + 1) (i : Int) = some false := by
   intro k i h c
   have c1 : (i : Int) < (a.length : Int) := by omega
   have c2 : (0 : Int) ≤ (i : Int) := by omega
   have c3 : (i : Int) < (b.length : Int) := by omega
   show slices_Equal_int_int.l0 (k + 1) a b (a.length : Int) (i : Int) = _
   rw [slices_Equal_int_int.l0, if_pos c1, if_pos c2, if_pos c1, if_pos c3, rd_at a i h, rd_at b i (hl ▸ h), if_neg c]
  have last_ : ∀ (k : Nat), (fun k i => slices_Equal_int_int.l0 k a b (a.length : Int) i) (k + 1) (a.length : Int) = some true := by
   intro k
   show slices_Equal_int_int.l0 (k + 1) a b (a.length : Int) (a.length : Int) = _
   rw [slices_Equal_int_int.l0, if_neg (Int.lt_irrefl _)]
  obtain ⟨r, e, g⟩ := cmp_gen (fun k i => slices_Equal_int_int.l0 k a b (a.length : Int) i) a b hl yes_ no_ last_ a.length k 0 (by omega) (by omega) (by omega)
  exact ⟨r, e, g.trans ⟨fun f => all_eq a b hl f, fun f => by subst f; exact fun _ _ _ => rfl⟩⟩
 ·rw [if_neg (by omega)]
  exact ⟨false, rfl, by simp only [Bool.false_eq_true, false_iff]; exact fun e => hl (by rw [e])⟩
theorem sints_some (a b : List Int) (hn : a.length ≤ 1048576) {k : Nat} (hk : 1048577 < k) : ∃ r, laws_sameInts.f k a b = some r ∧ (r = true ↔ a = b) := by
 unfold laws_sameInts.f
 by_cases hl : a.length = b.length
 ·rw [if_pos (by omega)]
  have yes_ : ∀ (k i : Nat) (h : i < a.length), a[i] = b[i]'(hl ▸ h) → (fun k i => laws_sameInts.l0 k a b i) (k + 1) (i : Int) = (fun k i => laws_sameInts.l0 k a b i) k ((i + 1 : Nat) : Int) := by
   intro k i h c
   have c1 : (i : Int) < (a.length : Int) := by omega
   have c2 : (0 : Int) ≤ (i : Int) := by omega
   have c3 : (i : Int) < (b.length : Int) := by omega
   show laws_sameInts.l0 (k + 1) a b (i : Int) = _
   rw [laws_sameInts.l0, if_pos c1, if_pos c2, if_pos c3, rd_at a i h, rd_at b i (hl ▸ h), if_pos c, w1 (by omega)]
  have no_ : ∀ (k i : Nat) (h : i < a.length), a[i] ≠ b[i]'(hl ▸ h) → (fun k i => laws_sameInts.l0 k a b i) (k + 1) (i : Int) = some false := by
   intro k i h c
   have c1 : (i : Int) < (a.length : Int) := by omega
   have c2 : (0 : Int) ≤ (i : Int) := by omega
   have c3 : (i : Int) < (b.length : Int) := by omega
   show laws_sameInts.l0 (k + 1) a b (i : Int) = _
   rw [laws_sameInts.l0, if_pos c1, if_pos c2, if_pos c3, rd_at a i h, rd_at b i (hl ▸ h), if_neg c]
  have last_ : ∀ (k : Nat), (fun k i => laws_sameInts.l0 k a b i) (k + 1) (a.length : Int) = some true := by
   intro k
   show laws_sameInts.l0 (k + 1) a b (a.length : Int) = _
   rw [laws_sameInts.l0, if_neg (Int.lt_irrefl _)]
  obtain ⟨r, e, g⟩ := cmp_gen (fun k i => laws_sameInts.l0 k a b i) a b hl yes_ no_ last_ a.length k 0 (by omega) (by omega) (by omega)
  exact ⟨r, e, g.trans ⟨fun f => all_eq a b hl f, fun f => by subst f; exact fun _ _ _ => rfl⟩⟩
 ·rw [if_neg (by omega)]
  exact ⟨false, rfl, by simp only [Bool.false_eq_true, false_iff]; exact fun e => hl (by rw [e])⟩
theorem thing_differ (x y : S74) : ((!(x.f0 == y.f0) || (!(x.f1 == y.f1) || (!(x.f2 == y.f2)))) = true) ↔ x ≠ y := by
 obtain ⟨a, b, c⟩ := x
 obtain ⟨p, q, r⟩ := y
 simp only [Bool.or_eq_true, Bool.not_eq_true', beq_eq_false_iff_ne, ne_eq, S74.mk.injEq]
 by_cases h1 : a = p <;> by_cases h2 : b = q <;> by_cases h3 : c = r <;> simp [h1, h2, h3]
theorem implThing_some (a b : List S74) (hn : a.length ≤ 1048576) {k : Nat} (hk : 1048577 < k) : ∃ r, impl_Thing_56.f k a b = some r ∧ (r = true ↔ a = b) := by
 unfold impl_Thing_56.f
 by_cases hl : a.length = b.length
 ·rw [if_pos (by omega)]
  have yes_ : ∀ (k i : Nat) (h : i < a.length), a[i] = b[i]'(hl ▸ h) → (fun k i => impl_Thing_56.l0 k a b (a.length : Int) i) (k + 1) (i : Int) = (fun k i => impl_Thing_56.l0 k a b (a.length : Int) i) k ((i + 1 : Nat) : Int) := by
   intro k i h c
   have c1 : (i : Int) < (a.length : Int) := by omega
   have c2 : (0 : Int) ≤ (i : Int) := by omega
   have c3 : (i : Int) < (b.length : Int) := by omega
   show impl_Thing_56.l0 (k + 1) a b (a.length : Int) (i : Int) = _
   rw [impl_Thing_56.l0, if_pos c1, if_pos c2, if_pos c1, if_pos c3, rdT_i a i h, rdT_i b i (hl ▸ h), if_neg (fun d => (thing_differ _ _).mp d c), w1 (by omega)]
  have no_ : ∀ (k i : Nat) (h : i < a.length), a[i] ≠ b[i]'(hl ▸ h) → (fun k i => impl_Thing_56.l0 k a b (a.length : Int) i) (k + 1) (i : Int) = some false := by
   intro k i h c
   have c1 : (i : Int) < (a.length : Int) := by omega
   have c2 : (0 : Int) ≤ (i : Int) := by omega
   have c3 : (i : Int) < (b.length : Int) := by omega
   show impl_Thing_56.l0 (k + 1) a b (a.length : Int) (i : Int) = _
   rw [impl_Thing_56.l0, if_pos c1, if_pos c2, if_pos c1, if_pos c3, rdT_i a i h, rdT_i b i (hl ▸ h), if_pos ((thing_differ _ _).mpr c)]
  have last_ : ∀ (k : Nat), (fun k i => impl_Thing_56.l0 k a b (a.length : Int) i) (k + 1) (a.length : Int) = some true := by
   intro k
   show impl_Thing_56.l0 (k + 1) a b (a.length : Int) (a.length : Int) = _
   rw [impl_Thing_56.l0, if_neg (Int.lt_irrefl _)]
  obtain ⟨r, e, g⟩ := cmp_gen (fun k i => impl_Thing_56.l0 k a b (a.length : Int) i) a b hl yes_ no_ last_ a.length k 0 (by omega) (by omega) (by omega)
  exact ⟨r, e, g.trans ⟨fun f => all_eq a b hl f, fun f => by subst f; exact fun _ _ _ => rfl⟩⟩
 ·rw [if_neg (by omega)]
  exact ⟨false, rfl, by simp only [Bool.false_eq_true, false_iff]; exact fun e => hl (by rw [e])⟩
theorem lthings_l0 (a0 : Int) (a1 : Int) (a2 : Int) (a3 : Int) (a4 : Int) (a5 : Int) (a6 : Int) (a7 : Int) (la8 : List Int) (a9 : Int) (a10 : Int) (la11 : List S74) (la12 : List Int) (b0 : Int) (b1 : Int) (b2 : Int) (b3 : Int) (b4 : Int) (b5 : Int) (b6 : Int) (b7 : Int) (lb8 : List Int) (b9 : Int) (b10 : Int) (lb11 : List S74) (lb12 : List Int) (hl : la11.length = lb11.length) (h11 : la11.length ≤ 1048576) {k : Nat} (hk : 1048577 < k) : ∃ r, laws_sameNode.l0 k 0 a0 a1 a2 a3 a4 a5 a6 a7 la8 a9 a10 la11 la12 b0 b1 b2 b3 b4 b5 b6 b7 lb8 b9 b10 lb11 lb12 = some r ∧ (r = true ↔ la11 = lb11) := by
 have yes_ : ∀ (k i : Nat) (h : i < la11.length), la11[i] = lb11[i]'(hl ▸ h) → (fun k i => laws_sameNode.l0 k i a0 a1 a2 a3 a4 a5 a6 a7 la8 a9 a10 la11 la12 b0 b1 b2 b3 b4 b5 b6 b7 lb8 b9 b10 lb11 lb12) (k + 1) (i : Int) = (fun k i => laws_sameNode.l0 k i a0 a1 a2 a3 a4 a5 a6 a7 la8 a9 a10 la11 la12 b0 b1 b2 b3 b4 b5 b6 b7 lb8 b9 b10 lb11 lb12) k ((i + 1 : Nat) : Int) := by
  intro k i h c
  have c1 : (i : Int) < (la11.length : Int) := by omega
  have c2 : (0 : Int) ≤ (i : Int) := by omega
  have c3 : (i : Int) < (lb11.length : Int) := by omega
  show laws_sameNode.l0 (k + 1) (i : Int) a0 a1 a2 a3 a4 a5 a6 a7 la8 a9 a10 la11 la12 b0 b1 b2 b3 b4 b5 b6 b7 lb8 b9 b10 lb11 lb12 = _
  rw [laws_sameNode.l0, if_pos c1, if_pos c2, if_pos c3, rdT_i la11 i h, rdT_i lb11 i (hl ▸ h), if_neg (fun d => (thing_differ _ _).mp d c), w1 (by omega)]
 have no_ : ∀ (k i : Nat) (h : i < la11.length), la11[i] ≠ lb11[i]'(hl ▸ h) → (fun k i => laws_sameNode.l0 k i a0 a1 a2 a3 a4 a5 a6 a7 la8 a9 a10 la11 la12 b0 b1 b2 b3 b4 b5 b6 b7 lb8 b9 b10 lb11 lb12) (k + 1) (i : Int) = some false := by
  intro k i h c
  have c1 : (i : Int) < (la11.length : Int) := by omega
  have c2 : (0 : Int) ≤ (i : Int) := by omega
  have c3 : (i : Int) < (lb11.length : Int) := by omega
  show laws_sameNode.l0 (k + 1) (i : Int) a0 a1 a2 a3 a4 a5 a6 a7 la8 a9 a10 la11 la12 b0 b1 b2 b3 b4 b5 b6 b7 lb8 b9 b10 lb11 lb12 = _
  rw [laws_sameNode.l0, if_pos c1, if_pos c2, if_pos c3, rdT_i la11 i h, rdT_i lb11 i (hl ▸ h), if_pos ((thing_differ _ _).mpr c)]
 have last_ : ∀ (k : Nat), (fun k i => laws_sameNode.l0 k i a0 a1 a2 a3 a4 a5 a6 a7 la8 a9 a10 la11 la12 b0 b1 b2 b3 b4 b5 b6 b7 lb8 b9 b10 lb11 lb12) (k + 1) (la11.length : Int) = some true := by
  intro k
  show laws_sameNode.l0 (k + 1) (la11.length : Int) a0 a1 a2 a3 a4 a5 a6 a7 la8 a9 a10 la11 la12 b0 b1 b2 b3 b4 b5 b6 b7 lb8 b9 b10 lb11 lb12 = _
  rw [laws_sameNode.l0, if_neg (Int.lt_irrefl _)]
 obtain ⟨r, e, g⟩ := cmp_gen (fun k i => laws_sameNode.l0 k i a0 a1 a2 a3 a4 a5 a6 a7 la8 a9 a10 la11 la12 b0 b1 b2 b3 b4 b5 b6 b7 lb8 b9 b10 lb11 lb12) la11 lb11 hl yes_ no_ last_ la11.length k 0 (by omega) (by omega) (by omega)
 exact ⟨r, e, g.trans ⟨fun f => all_eq la11 lb11 hl f, fun f => by subst f; exact fun _ _ _ => rfl⟩⟩
theorem same_law (a0 : Int) (a1 : Int) (a2 : Int) (a3 : Int) (a4 : Int) (a5 : Int) (a6 : Int) (a7 : Int) (la8 : List Int) (a9 : Int) (a10 : Int) (la11 : List S74) (la12 : List Int) (b0 : Int) (b1 : Int) (b2 : Int) (b3 : Int) (b4 : Int) (b5 : Int) (b6 : Int) (b7 : Int) (lb8 : List Int) (b9 : Int) (b10 : Int) (lb11 : List S74) (lb12 : List Int) (h8 : la8.length ≤ 1048576) (h11 : la11.length ≤ 1048576) (h12 : la12.length ≤ 1048576) {k : Nat} (hk : 1048578 < k) : ∃ r, laws_sameNode.f k a0 a1 a2 a3 a4 a5 a6 a7 la8 a9 a10 la11 la12 b0 b1 b2 b3 b4 b5 b6 b7 lb8 b9 b10 lb11 lb12 = some r ∧ (r = true ↔ (a0 = b0 ∧ a1 = b1 ∧ a2 = b2 ∧ a3 = b3 ∧ a4 = b4 ∧ a5 = b5 ∧ a6 = b6 ∧ a7 = b7 ∧ la8 = lb8 ∧ a9 = b9 ∧ a10 = b10 ∧ la11 = lb11 ∧ la12 = lb12)) := by
 obtain ⟨k, rfl⟩ : ∃ m, k = m + 1 := ⟨k - 1, by omega⟩
 have ff : laws_sameNode.j0 (k + 1) true a0 a1 a2 a3 a4 a5 a6 a7 la8 a9 a10 la11 la12 b0 b1 b2 b3 b4 b5 b6 b7 lb8 b9 b10 lb11 lb12 = some false := by rw [laws_sameNode.j0, if_pos rfl]
 unfold laws_sameNode.f
 by_cases c0 : a0 = b0
 rotate_left
 ·rw [if_neg c0, ff]; exact ⟨false, rfl, by simp only [Bool.false_eq_true, false_iff]; exact fun h => c0 h.1⟩
 rw [if_pos c0]
 by_cases c1 : a1 = b1
 rotate_left
 ·rw [if_neg c1, ff]; exact ⟨false, rfl, by simp only [Bool.false_eq_true, false_iff]; exact fun h => c1 h.2.1⟩
 rw [if_pos c1]
 by_cases c2 : a2 = b2
 rotate_left
 ·rw [if_neg c2, ff]; exact ⟨false, rfl, by simp only [Bool.false_eq_true, false_iff]; exact fun h => c2 h.2.2.1⟩
 rw [if_pos c2]
 by_cases c3 : a3 = b3
 rotate_left
 ·rw [if_neg c3, ff]; exact ⟨false, rfl, by simp only [Bool.false_eq_true, false_iff]; exact fun h => c3 h.2.2.2.1⟩
 rw [if_pos c3]
 by_cases c4 : a4 = b4
 rotate_left
 ·rw [if_neg c4, ff]; exact ⟨false, rfl, by simp only [Bool.false_eq_true, false_iff]; exact fun h => c4 h.2.2.2.2.1⟩
 rw [if_pos c4]
 by_cases c5 : a5 = b5
 rotate_left
 ·rw [if_neg c5, ff]; exact ⟨false, rfl, by simp only [Bool.false_eq_true, false_iff]; exact fun h => c5 h.2.2.2.2.2.1⟩
 rw [if_pos c5]
 by_cases c6 : a6 = b6
 rotate_left
 ·rw [if_neg c6, ff]; exact ⟨false, rfl, by simp only [Bool.false_eq_true, false_iff]; exact fun h => c6 h.2.2.2.2.2.2.1⟩
 rw [if_pos c6]
 by_cases c7 : a7 = b7
 rotate_left
 ·rw [if_neg c7, ff]; exact ⟨false, rfl, by simp only [Bool.false_eq_true, false_iff]; exact fun h => c7 h.2.2.2.2.2.2.2.1⟩
 rw [if_pos c7]
 obtain ⟨r8, e8, g8⟩ := sints_some la8 lb8 h8 (k := k + 1) (by omega)
 rw [e8, Option.bind_some]
 by_cases c8 : r8 = true
 rotate_left
 ·rw [if_neg c8, ff]; exact ⟨false, rfl, by simp only [Bool.false_eq_true, false_iff]; exact fun h => c8 (g8.mpr h.2.2.2.2.2.2.2.2.1)⟩
 rw [if_pos c8]
 by_cases c9 : a9 = b9
 rotate_left
 ·rw [if_neg c9, ff]; exact ⟨false, rfl, by simp only [Bool.false_eq_true, false_iff]; exact fun h => c9 h.2.2.2.2.2.2.2.2.2.1⟩
 rw [if_pos c9]
 by_cases c10 : a10 = b10
 rotate_left
 ·rw [if_neg c10, ff]; exact ⟨false, rfl, by simp only [Bool.false_eq_true, false_iff]; exact fun h => c10 h.2.2.2.2.2.2.2.2.2.2.1⟩
 rw [if_pos c10]
 by_cases c11 : la11.length = lb11.length
 rotate_left
 ·rw [if_neg (by omega), ff]; exact ⟨false, rfl, by simp only [Bool.false_eq_true, false_iff]; exact fun h => c11 (by rw [h.2.2.2.2.2.2.2.2.2.2.2.1])⟩
 rw [if_pos (by omega)]
 obtain ⟨r12, e12, g12⟩ := sints_some la12 lb12 h12 (k := k + 1) (by omega)
 rw [e12, Option.bind_some]
 by_cases c12 : r12 = true
 rotate_left
 ·have : r12 = false := by simpa using c12
  rw [this, Bool.not_false, ff]; exact ⟨false, rfl, by simp only [Bool.false_eq_true, false_iff]; exact fun h => c12 (g12.mpr h.2.2.2.2.2.2.2.2.2.2.2.2)⟩
 rw [c12, Bool.not_true, laws_sameNode.j0, if_neg Bool.false_ne_true]
 obtain ⟨r, e, g⟩ := lthings_l0 a0 a1 a2 a3 a4 a5 a6 a7 la8 a9 a10 la11 la12 b0 b1 b2 b3 b4 b5 b6 b7 lb8 b9 b10 lb11 lb12 c11 h11 (k := k) (by omega)
 exact ⟨r, e, g.trans ⟨fun h => ⟨c0, c1, c2, c3, c4, c5, c6, c7, g8.mp c8, c9, c10, h, g12.mp c12⟩, fun h => h.2.2.2.2.2.2.2.2.2.2.2.1⟩⟩
theorem same_impl (a0 : Int) (a1 : Int) (a2 : Int) (a3 : Int) (a4 : Int) (a5 : Int) (a6 : Int) (a7 : Int) (la8 : List Int) (a9 : Int) (a10 : Int) (la11 : List S74) (la12 : List Int) (b0 : Int) (b1 : Int) (b2 : Int) (b3 : Int) (b4 : Int) (b5 : Int) (b6 : Int) (b7 : Int) (lb8 : List Int) (b9 : Int) (b10 : Int) (lb11 : List S74) (lb12 : List Int) (h8 : la8.length ≤ 1048576) (h11 : la11.length ≤ 1048576) (h12 : la12.length ≤ 1048576) {k : Nat} (hk : 1048578 < k) : ∃ r, impl_SameNode.f k a0 a1 a2 a3 a4 a5 a6 a7 la8 a9 a10 la11 la12 b0 b1 b2 b3 b4 b5 b6 b7 lb8 b9 b10 lb11 lb12 = some r ∧ (r = true ↔ (a0 = b0 ∧ a1 = b1 ∧ a2 = b2 ∧ a3 = b3 ∧ a4 = b4 ∧ a5 = b5 ∧ a6 = b6 ∧ a7 = b7 ∧ la8 = lb8 ∧ a9 = b9 ∧ a10 = b10 ∧ la11 = lb11 ∧ la12 = lb12)) := by
 unfold impl_SameNode.f
 by_cases c0 : a0 = b0
 rotate_left
 ·rw [if_neg c0]; exact ⟨false, rfl, by simp only [Bool.false_eq_true, false_iff]; exact fun h => c0 h.1⟩
 rw [if_pos c0]
 by_cases c1 : a1 = b1
 rotate_left
 ·rw [if_neg c1]; exact ⟨false, rfl, by simp only [Bool.false_eq_true, false_iff]; exact fun h => c1 h.2.1⟩
 rw [if_pos c1]
 by_cases c2 : a2 = b2
 rotate_left
 ·rw [if_neg c2]; exact ⟨false, rfl, by simp only [Bool.false_eq_true, false_iff]; exact fun h => c2 h.2.2.1⟩
 rw [if_pos c2]
 by_cases c3 : a3 = b3
 rotate_left
 ·rw [if_neg c3]; exact ⟨false, rfl, by simp only [Bool.false_eq_true, false_iff]; exact fun h => c3 h.2.2.2.1⟩
 rw [if_pos c3]
 by_cases c4 : a4 = b4
 rotate_left
 ·rw [if_neg c4]; exact ⟨false, rfl, by simp only [Bool.false_eq_true, false_iff]; exact fun h => c4 h.2.2.2.2.1⟩
 rw [if_pos c4]
 by_cases c5 : a5 = b5
 rotate_left
 ·rw [if_neg c5]; exact ⟨false, rfl, by simp only [Bool.false_eq_true, false_iff]; exact fun h => c5 h.2.2.2.2.2.1⟩
 rw [if_pos c5]
 by_cases c6 : a6 = b6
 rotate_left
 ·rw [if_neg c6]; exact ⟨false, rfl, by simp only [Bool.false_eq_true, false_iff]; exact fun h => c6 h.2.2.2.2.2.2.1⟩
 rw [if_pos c6]
 by_cases c7 : a7 = b7
 rotate_left
 ·rw [if_neg c7]; exact ⟨false, rfl, by simp only [Bool.false_eq_true, false_iff]; exact fun h => c7 h.2.2.2.2.2.2.2.1⟩
 rw [if_pos c7]
 obtain ⟨r8, e8, g8⟩ := slEq_some la8 lb8 h8 (k := k) (by omega)
 rw [e8, Option.bind_some]
 by_cases c8 : r8 = true
 rotate_left
 ·rw [if_neg c8]; exact ⟨false, rfl, by simp only [Bool.false_eq_true, false_iff]; exact fun h => c8 (g8.mpr h.2.2.2.2.2.2.2.2.1)⟩
 rw [if_pos c8]
 by_cases c9 : a9 = b9
 rotate_left
 ·rw [if_neg c9]; exact ⟨false, rfl, by simp only [Bool.false_eq_true, false_iff]; exact fun h => c9 h.2.2.2.2.2.2.2.2.2.1⟩
 rw [if_pos c9]
 by_cases c10 : a10 = b10
 rotate_left
 ·rw [if_neg c10]; exact ⟨false, rfl, by simp only [Bool.false_eq_true, false_iff]; exact fun h => c10 h.2.2.2.2.2.2.2.2.2.2.1⟩
 rw [if_pos c10]
 obtain ⟨r11, e11, g11⟩ := implThing_some la11 lb11 h11 (k := k) (by omega)
 rw [e11, Option.bind_some]
 by_cases c11 : r11 = true
 rotate_left
 ·rw [if_neg c11]; exact ⟨false, rfl, by simp only [Bool.false_eq_true, false_iff]; exact fun h => c11 (g11.mpr h.2.2.2.2.2.2.2.2.2.2.2.1)⟩
 rw [if_pos c11]
 obtain ⟨r12, e12, g12⟩ := slEq_some la12 lb12 h12 (k := k) (by omega)
 rw [e12, Option.bind_some]
 exact ⟨r12, rfl, g12.trans ⟨fun h => ⟨c0, c1, c2, c3, c4, c5, c6, c7, g8.mp c8, c9, c10, g11.mp c11, h⟩, fun h => h.2.2.2.2.2.2.2.2.2.2.2.2⟩⟩
theorem lawtab_l0 (xs ys : List S48) (hl : xs.length = ys.length) (hn : xs.length ≤ 1048576) (hf : ∀ y, y ∈ xs → FewN y) : ∀ (d k i : Nat), xs.length - i = d → i ≤ xs.length → d + 1048579 < k →
  ∃ r, laws_sameTable.l0 k xs ys (i : Int) = some r ∧ impl_Node_43.l0 k ys xs (xs.length : Int) (i : Int) = some r ∧ (xs = ys → r = true) := by
 intro d
 induction d with
 | zero =>
  intro k i hd hi hk
  obtain ⟨k, rfl⟩ : ∃ m, k = m + 1 := ⟨k - 1, by omega⟩
  have c : ¬ (i : Int) < (xs.length : Int) := by omega
  rw [laws_sameTable.l0, impl_Node_43.l0, if_neg c, if_neg c]
  exact ⟨_, rfl, rfl, fun _ => rfl⟩
 | succ d ih =>
  intro k i hd hi hk
  obtain ⟨k, rfl⟩ : ∃ m, k = m + 1 := ⟨k - 1, by omega⟩
  have c : (i : Int) < (xs.length : Int) := by omega
  have c0 : (0 : Int) ≤ (i : Int) := by omega
  have c1 : (i : Int) < (ys.length : Int) := by omega
  have hi' : i < xs.length := by omega
  have hi2 : i < ys.length := by omega
  have g := hf xs[i] (List.getElem_mem _)
  obtain ⟨r, e1, g1⟩ := same_law xs[i].f0 xs[i].f1 xs[i].f2 xs[i].f3 xs[i].f4 xs[i].f5 xs[i].f6 xs[i].f7 xs[i].f8 xs[i].f9 xs[i].f10 xs[i].f11 xs[i].f12 ys[i].f0 ys[i].f1 ys[i].f2 ys[i].f3 ys[i].f4 ys[i].f5 ys[i].f6 ys[i].f7 ys[i].f8 ys[i].f9 ys[i].f10 ys[i].f11 ys[i].f12 g.1 g.2.1 g.2.2 (k := k) (by omega)
  obtain ⟨r', e2, g2⟩ := same_impl xs[i].f0 xs[i].f1 xs[i].f2 xs[i].f3 xs[i].f4 xs[i].f5 xs[i].f6 xs[i].f7 xs[i].f8 xs[i].f9 xs[i].f10 xs[i].f11 xs[i].f12 ys[i].f0 ys[i].f1 ys[i].f2 ys[i].f3 ys[i].f4 ys[i].f5 ys[i].f6 ys[i].f7 ys[i].f8 ys[i].f9 ys[i].f10 ys[i].f11 ys[i].f12 g.1 g.2.1 g.2.2 (k := k) (by omega)
  obtain rfl : r = r' := by rw [Bool.eq_iff_iff]; exact g1.trans g2.symm
  rw [laws_sameTable.l0, impl_Node_43.l0, if_pos c, if_pos c, if_pos c0, if_pos c0, if_pos c1, if_pos c, if_pos c1, rdN_i xs i hi', rdN_i ys i hi2, e1, e2, Option.bind_some, Option.bind_some, w1 (by omega)]
  by_cases h : r = true
  ·rw [if_pos h, if_pos h]
   exact ih k (i + 1) (by omega) (by omega) (by omega)
  ·rw [if_neg h, if_neg h]
   refine ⟨_, rfl, rfl, fun he => absurd (g1.mpr ?_) h⟩
   subst he
   exact ⟨rfl, rfl, rfl, rfl, rfl, rfl, rfl, rfl, rfl, rfl, rfl, rfl, rfl⟩
theorem lawtab_both (xs ys : List S48) (hn : xs.length ≤ 1048576) (hf : ∀ y, y ∈ xs → FewN y) {k : Nat} (hk : 2097156 < k) :
  ∃ r, laws_sameTable.f k xs ys = some r ∧ impl_SameTable.f k xs ys = some r ∧ (xs = ys → r = true) := by
 unfold laws_sameTable.f impl_SameTable.f impl_Node_43.f
 by_cases hl : xs.length = ys.length
 ·obtain ⟨r, e1, e2, e3⟩ := lawtab_l0 xs ys hl hn hf xs.length k 0 (by omega) (by omega) (by omega)
  rw [if_pos (by omega), if_pos (by omega)]
  exact ⟨r, e1, by rw [show (0 : Int) = ((0 : Nat) : Int) from rfl, e2]; rfl, e3⟩
 ·rw [if_neg (by omega), if_neg (by omega)]
  exact ⟨false, rfl, rfl, fun he => absurd (by rw [he]) hl⟩
theorem lawtab_refl (xs : List S48) (hn : xs.length ≤ 1048576) (hf : ∀ y, y ∈ xs → FewN y) {k : Nat} (hk : 2097156 < k) : laws_sameTable.f k xs xs = some true := by
 obtain ⟨r, e1, _, e3⟩ := lawtab_both xs xs hn hf hk
 rw [e1, e3 rfl]
theorem rd_set (t : List S48) (a : Int) (y : S48) (h0 : 0 ≤ a) (h1 : a < (t.length : Int)) : rd_T48 (t.set a.toNat y) a = y := by
 obtain ⟨i, rfl⟩ : ∃ i : Nat, a = (i : Int) := ⟨a.toNat, by omega⟩
 rw [Int.toNat_natCast, rdN_i _ i (by rw [List.length_set]; omega), List.getElem_set_self]
def placeV (xs : List S48) (a b : Int) : Int := if 0 ≤ a ∧ a < (xs.length : Int) ∧ (rd_T48 xs a).f0 = 1 ∧ (rd_T48 xs a).f1 = b then a else -1
theorem place_impl (xs : List S48) (hn : xs.length ≤ 1048576) (a b : Int) {k : Nat} (hk : 0 < k) : impl_PlaceOf.f k xs a b = some (placeV xs a b) := by
 obtain ⟨k, rfl⟩ : ∃ m, k = m + 1 := ⟨k - 1, by omega⟩
 have o1 : impl_PlaceOf.j0 (k + 1) true a b = some (-1) := by rw [impl_PlaceOf.j0, if_pos rfl]
 unfold impl_PlaceOf.f placeV
 rw [slot_some xs hn, Option.bind_some]
 by_cases h : 0 ≤ a ∧ a < (xs.length : Int)
 ·rw [decide_eq_true h, if_pos rfl, if_pos h.1, if_pos h.2]
  by_cases g0 : (rd_T48 xs a).f0 = 1
  ·rw [if_pos g0]
   by_cases g1 : (rd_T48 xs a).f1 = b
   ·have e : ((rd_T48 xs a).f1 != b) = false := by simp [g1]
    rw [e, impl_PlaceOf.j0, if_neg Bool.false_ne_true, if_pos ⟨h.1, h.2, g0, g1⟩]
   ·have e : ((rd_T48 xs a).f1 != b) = true := by simp [g1]
    rw [e, o1, if_neg (fun c => g1 c.2.2.2)]
  ·rw [if_neg g0, o1, if_neg (fun c => g0 c.2.2.1)]
 ·rw [decide_eq_false h, if_neg Bool.false_ne_true, o1, if_neg (fun c => h ⟨c.1, c.2.1⟩)]
theorem place_spec (xs : List S48) (hn : xs.length ≤ 1048576) (a b : Int) {k : Nat} (hk : 0 < k) : spec_PlaceOf.f k xs a b = some (placeV xs a b) := by
 obtain ⟨k, rfl⟩ : ∃ m, k = m + 1 := ⟨k - 1, by omega⟩
 have o1 : spec_PlaceOf.j0 (k + 1) true a b = some (-1) := by rw [spec_PlaceOf.j0, if_pos rfl]
 unfold spec_PlaceOf.f placeV
 rw [in_some _ hn, Option.bind_some]
 by_cases h : 0 ≤ a ∧ a < (xs.length : Int)
 ·rw [decide_eq_true h, if_pos rfl, if_pos h.1, if_pos h.2]
  by_cases g0 : (rd_T48 xs a).f0 = 1
  ·rw [if_pos g0]
   by_cases g1 : (rd_T48 xs a).f1 = b
   ·have e : ((rd_T48 xs a).f1 != b) = false := by simp [g1]
    rw [e, spec_PlaceOf.j0, if_neg Bool.false_ne_true, if_pos ⟨h.1, h.2, g0, g1⟩]
   ·have e : ((rd_T48 xs a).f1 != b) = true := by simp [g1]
    rw [e, o1, if_neg (fun c => g1 c.2.2.2)]
  ·rw [if_neg g0, o1, if_neg (fun c => g0 c.2.2.1)]
 ·rw [decide_eq_false h, if_neg Bool.false_ne_true, o1, if_neg (fun c => h ⟨c.1, c.2.1⟩)]
theorem placeV_pos {xs : List S48} {a b : Int} (h : placeV xs a b ≥ 0) : placeV xs a b = a ∧ 0 ≤ a ∧ a < (xs.length : Int) ∧ (rd_T48 xs a).f0 = 1 ∧ (rd_T48 xs a).f1 = b := by
 unfold placeV at h ⊢
 by_cases c : 0 ≤ a ∧ a < (xs.length : Int) ∧ (rd_T48 xs a).f0 = 1 ∧ (rd_T48 xs a).f1 = b
 ·rw [if_pos c]; exact ⟨rfl, c⟩
 ·rw [if_neg c] at h; omega
def handleV (xs : List S48) (a : Int) : Int × Int := if 0 ≤ a ∧ a < (xs.length : Int) then (a, (rd_T48 xs a).f1) else (0, 0)
theorem handle_impl (xs : List S48) (hn : xs.length ≤ 1048576) (a : Int) : impl_HandleAt.f xs a = some (handleV xs a) := by
 unfold impl_HandleAt.f handleV
 rw [slot_some xs hn, Option.bind_some]
 by_cases h : 0 ≤ a ∧ a < (xs.length : Int)
 ·rw [decide_eq_true h, if_pos rfl, if_pos h.1, if_pos h.2, if_pos h]
 ·rw [decide_eq_false h, if_neg Bool.false_ne_true, if_neg h]
theorem handle_spec (xs : List S48) (hn : xs.length ≤ 1048576) (a : Int) : spec_HandleAt.f xs a = some (handleV xs a) := by
 unfold spec_HandleAt.f handleV
 rw [in_some _ hn, Option.bind_some]
 by_cases h : 0 ≤ a ∧ a < (xs.length : Int)
 ·rw [decide_eq_true h, if_pos rfl, if_pos h.1, if_pos h.2, if_pos h]
 ·rw [decide_eq_false h, if_neg Bool.false_ne_true, if_neg h]
theorem drawClear_some (l : List Int) (hl : l.length ≤ 1048576) {k : Nat} (hk : 1048600 < k) : ∃ t a g, spec_DrawClear.f k l = some (t, a, g) ∧ t.length ≤ 5 ∧ ∀ y, y ∈ t → FewN y := by
 unfold spec_DrawClear.f
 obtain ⟨s0, e0⟩ := new_some l hl (k := k) (by omega)
 rw [e0, Option.bind_some]
 obtain ⟨t, i1, s1, e1, h1, g1, g2⟩ := l8draw_some l hl 0 s0 ⟨by omega, by omega⟩ (k := k) (by omega)
 rw [e1, Option.bind_some]
 obtain ⟨v2, i2, s2, e2, _, _, _, h2⟩ := below_some l hl i1 s1 h1 6
 rw [e2, Option.bind_some]
 obtain ⟨v3, i3, s3, e3, _, _, _, h3⟩ := below_some l hl i2 s2 h2 4
 rw [e3, Option.bind_some]
 exact ⟨_, _, _, rfl, g1, g2⟩
theorem drawHandleAt_some (l : List Int) (hl : l.length ≤ 1048576) {k : Nat} (hk : 1048600 < k) : ∃ t a, spec_DrawHandleAt.f k l = some (t, a) ∧ t.length ≤ 5 ∧ ∀ y, y ∈ t → FewN y := by
 unfold spec_DrawHandleAt.f
 obtain ⟨s0, e0⟩ := new_some l hl (k := k) (by omega)
 rw [e0, Option.bind_some]
 obtain ⟨t, i1, s1, e1, h1, g1, g2⟩ := l8draw_some l hl 0 s0 ⟨by omega, by omega⟩ (k := k) (by omega)
 rw [e1, Option.bind_some]
 obtain ⟨v2, i2, s2, e2, _, _, _, h2⟩ := below_some l hl i1 s1 h1 6
 rw [e2, Option.bind_some]
 exact ⟨_, _, rfl, g1, g2⟩
theorem drawCountNodes_some (l : List Int) (hl : l.length ≤ 1048576) {k : Nat} (hk : 1048600 < k) : ∃ t a, spec_DrawCountNodes.f k l = some (t, a) ∧ t.length ≤ 5 ∧ ∀ y, y ∈ t → FewN y := by
 unfold spec_DrawCountNodes.f
 obtain ⟨s0, e0⟩ := new_some l hl (k := k) (by omega)
 rw [e0, Option.bind_some]
 obtain ⟨t, i1, s1, e1, h1, g1, g2⟩ := l8draw_some l hl 0 s0 ⟨by omega, by omega⟩ (k := k) (by omega)
 rw [e1, Option.bind_some]
 obtain ⟨v2, i2, s2, e2, _, _, _, h2⟩ := below_some l hl i1 s1 h1 5
 rw [e2, Option.bind_some]
 exact ⟨_, _, rfl, g1, g2⟩
theorem l6any_some (l : List Int) (hl : l.length ≤ 1048576) (i s : Int) (hi : St l i) : ∃ a b i' s', spec_l6Any.f l i s = some (a, b, i', s') ∧ St l i' := by
 unfold spec_l6Any.f spec_l6Handle.f
 obtain ⟨v1, i1, s1, e1, _, _, _, h1⟩ := below_some l hl i s hi 5
 rw [e1, Option.bind_some]
 obtain ⟨v2, i2, s2, e2, _, _, _, h2⟩ := below_some l hl i1 s1 h1 3
 rw [e2, Option.bind_some, Option.bind_some]
 obtain ⟨v3, i3, s3, e3, _, _, _, h3⟩ := below_some l hl i2 s2 h2 8
 rw [e3, Option.bind_some]
 by_cases c0 : v3 = 0
 ·rw [if_pos c0]
  obtain ⟨v4, i4, s4, e4, _, h4⟩ := int_some l hl i3 s3 h3 [(-1), 1000000000, 9] (by decide)
  rw [e4, Option.bind_some]
  exact ⟨_, _, _, _, rfl, h4⟩
 rw [if_neg c0]
 by_cases c1 : v3 = 1
 ·rw [if_pos c1]
  obtain ⟨v4, i4, s4, e4, _, h4⟩ := int_some l hl i3 s3 h3 [0, (-1), 5] (by decide)
  rw [e4, Option.bind_some]
  exact ⟨_, _, _, _, rfl, h4⟩
 rw [if_neg c1]
 exact ⟨_, _, _, _, rfl, h3⟩
theorem drawPlaceOf_some (l : List Int) (hl : l.length ≤ 1048576) {k : Nat} (hk : 1048600 < k) : ∃ t a b, spec_DrawPlaceOf.f k l = some (t, a, b) ∧ t.length ≤ 5 ∧ ∀ y, y ∈ t → FewN y := by
 obtain ⟨k, rfl⟩ : ∃ m, k = m + 1 := ⟨k - 1, by omega⟩
 unfold spec_DrawPlaceOf.f
 obtain ⟨s0, e0⟩ := new_some l hl (k := k + 1) (by omega)
 rw [e0, Option.bind_some]
 obtain ⟨t, i1, s1, e1, h1, g1, g2⟩ := l8draw_some l hl 0 s0 ⟨by omega, by omega⟩ (k := k + 1) (by omega)
 rw [e1, Option.bind_some]
 have hj : ∀ (x : Bool) (i s : Int), St l i → ∃ a b, spec_DrawPlaceOf.j0 (k + 1) t x l i s = some (t, a, b) := by
  intro x i s hi
  rw [spec_DrawPlaceOf.j0]
  by_cases hx : x = true
  ·obtain ⟨v2, i2, s2, e2, _, _, _, h2⟩ := below_some l hl i s hi (t.length : Int)
   rw [if_pos hx, e2, Option.bind_some, handle_spec t (by omega), Option.bind_some]
   exact ⟨_, _, rfl⟩
  ·obtain ⟨a, b, i2, s2, e2, h2⟩ := l6any_some l hl i s hi
   rw [if_neg hx, e2, Option.bind_some]
   exact ⟨_, _, rfl⟩
 by_cases ht : (t.length : Int) > 0
 ·obtain ⟨v2, i2, s2, e2, h2⟩ := once_some l hl i1 s1 h1 2
  rw [if_pos ht, e2, Option.bind_some]
  obtain ⟨a, b, e3⟩ := hj v2 i2 s2 h2
  exact ⟨t, a, b, e3, g1, g2⟩
 ·rw [if_neg ht]
  obtain ⟨a, b, e3⟩ := hj false i1 s1 h1
  exact ⟨t, a, b, e3, g1, g2⟩
theorem drawTableNew_some (l : List Int) (hl : l.length ≤ 1048576) {k : Nat} (hk : 1048600 < k) : ∃ a b c d e f, spec_DrawTableNew.f k l = some (a, b, c, d, e, f) := by
 unfold spec_DrawTableNew.f
 obtain ⟨s0, e0⟩ := new_some l hl (k := k) (by omega)
 rw [e0, Option.bind_some]
 obtain ⟨a, b, c, d, e, f, i1, s1, e1, h1⟩ := l3any_some l hl 0 s0 ⟨by omega, by omega⟩
 rw [e1, Option.bind_some]
 exact ⟨_, _, _, _, _, _, rfl⟩
theorem drawSameTable_some (l : List Int) (hl : l.length ≤ 1048576) {k : Nat} (hk : 1048600 < k) : ∃ p q, spec_DrawSameTable.f k l = some (p, q) ∧ p.length ≤ 5 ∧ ∀ y, y ∈ p → FewN y := by
 obtain ⟨k, rfl⟩ : ∃ m, k = m + 2 := ⟨k - 2, by omega⟩
 unfold spec_DrawSameTable.f
 obtain ⟨s0, e0⟩ := new_some l hl (k := k + 2) (by omega)
 rw [e0, Option.bind_some]
 obtain ⟨t, i1, s1, e1, h1, g1, g2⟩ := l8draw_some l hl 0 s0 ⟨by omega, by omega⟩ (k := k + 2) (by omega)
 have ec : spec_l7All.f (k + 2) t = some t := copyS t (by omega) g2 t.length (k + 2) 0 (by omega) (by omega) (by omega)
 rw [e1, Option.bind_some, ec, Option.bind_some]
 have hj1 : ∀ (q : List S48) (i s : Int), St l i → ∃ q', spec_DrawSameTable.j1 (k + 1) t q l i s = some (t, q') := by
  intro q i s hi
  obtain ⟨v2, i2, s2, e2, h2⟩ := once_some l hl i s hi 4
  rw [spec_DrawSameTable.j1, e2, Option.bind_some]
  by_cases hv : v2 = true
  ·obtain ⟨t', i', s', e', _, _, _⟩ := l8draw_some l hl i2 s2 h2 (k := k) (by omega)
   rw [if_pos hv, e', Option.bind_some]
   exact ⟨_, rfl⟩
  ·rw [if_neg hv]
   exact ⟨_, rfl⟩
 by_cases ht : (t.length : Int) > 0
 ·obtain ⟨v2, i2, s2, e2, h2⟩ := once_some l hl i1 s1 h1 3
  rw [if_pos ht, e2, Option.bind_some, spec_DrawSameTable.j0]
  by_cases hv : v2 = true
  ·rw [if_pos hv, if_pos (show 0 < (t.length : Int) from ht)]
   obtain ⟨q', e'⟩ := hj1 _ i2 s2 h2
   exact ⟨t, q', e', g1, g2⟩
  ·rw [if_neg hv]
   obtain ⟨q', e'⟩ := hj1 t i2 s2 h2
   exact ⟨t, q', e', g1, g2⟩
 ·rw [if_neg ht, spec_DrawSameTable.j0, if_neg Bool.false_ne_true]
  obtain ⟨q', e'⟩ := hj1 t i1 s1 h1
  exact ⟨t, q', e', g1, g2⟩
theorem tables_j2 (t : List S48) (ht : t.length ≤ 5) (hf : ∀ y, y ∈ t → FewN y) (a g : Int) {k : Nat} (hk : 3000000 < k) : laws_FnTables.j1 k t a g (clearOf t a g) false = some true := by
 obtain ⟨k, rfl⟩ : ∃ m, k = m + 2 := ⟨k - 2, by omega⟩
 obtain ⟨q1, q2⟩ := clear_few t hf a g
 have out : ¬ (0 ≤ a ∧ a < (t.length : Int)) → laws_FnTables.j2 (k + 1) t a g (clearOf t a g) true = some true := by
  intro h
  have ec : clearOf t a g = t := by unfold clearOf; rw [if_neg h]
  rw [laws_FnTables.j2, if_pos rfl, ec, lawtab_refl t (by omega) hf (by omega), Option.bind_some]
 rw [laws_FnTables.j1, if_neg Bool.false_ne_true]
 by_cases h0 : a < 0
 ·rw [if_pos h0, out (by omega)]
 rw [if_neg h0]
 by_cases h1 : a ≥ (t.length : Int)
 ·rw [decide_eq_true h1, out (by omega)]
 rw [decide_eq_false h1, laws_FnTables.j2, if_neg Bool.false_ne_true, handle_impl t (by omega), Option.bind_some]
 have hin : 0 ≤ a ∧ a < (t.length : Int) := by omega
 have hh : handleV t a = (a, (rd_T48 t a).f1) := by unfold handleV; rw [if_pos hin]
 have c2 : a < ((clearOf t a g).length : Int) := by rw [q1]; exact hin.2
 rw [hh, place_impl _ (by omega) _ _ (by omega), Option.bind_some]
 by_cases c : (rd_T48 t a).f1 ≥ g
 ·have ec : clearOf t a g = t.set a.toNat ⟨3, (rd_T48 t a).f1, 0, 0, 0, 0, 0, 0, [], 0, 0, [], []⟩ := by unfold clearOf; rw [if_pos hin, if_pos c]
  have er := rd_set t a ⟨3, (rd_T48 t a).f1, 0, 0, 0, 0, 0, 0, [], 0, 0, [], []⟩ hin.1 hin.2
  rw [← ec] at er
  have ep : placeV (clearOf t a g) a (rd_T48 t a).f1 = -1 := by unfold placeV; rw [er]; exact if_neg (fun z => by simpa using z.2.2.1)
  rw [ep, if_pos (by omega), if_pos hin.1, if_pos c2, if_pos hin.2, er, decide_eq_true c]
  rfl
 ·have ec : clearOf t a g = t.set a.toNat ⟨0, wrap64 ((rd_T48 t a).f1 + 1), 0, 0, 0, 0, 0, 0, [], 0, 0, [], []⟩ := by unfold clearOf; rw [if_pos hin, if_neg c]
  have er := rd_set t a ⟨0, wrap64 ((rd_T48 t a).f1 + 1), 0, 0, 0, 0, 0, 0, [], 0, 0, [], []⟩ hin.1 hin.2
  rw [← ec] at er
  have ep : placeV (clearOf t a g) a (rd_T48 t a).f1 = -1 := by unfold placeV; rw [er]; exact if_neg (fun z => by simpa using z.2.2.1)
  rw [ep, if_pos (by omega), if_pos hin.1, if_pos c2, if_pos hin.2, er, decide_eq_false c]
  simp
theorem FnTables : laws_FnTables.Pure := by
 intro l _ _ _
 obtain ⟨k, hk⟩ : ∃ k : Nat, 4000000 < k := ⟨_, Nat.lt_succ_self _⟩
 refine ⟨k + 1, ?_⟩
 unfold laws_FnTables.f laws_big.f
 rw [Option.bind_some]
 by_cases hb : (l.length : Int) > 1048576
 ·rw [decide_eq_true hb, if_pos rfl]
 rw [decide_eq_false hb, if_neg Bool.false_ne_true]
 have hl : l.length ≤ 1048576 := by omega
 obtain ⟨t, a, g, eC, tl, tf⟩ := drawClear_some l hl (k := k + 1) (by omega)
 obtain ⟨m, h0, h1, eP, ml, mf⟩ := drawPlaceOf_some l hl (k := k + 1) (by omega)
 obtain ⟨c0, c1, c2, c3, c4, c5, eT⟩ := drawTableNew_some l hl (k := k + 1) (by omega)
 obtain ⟨u, st, eN, ul, uf⟩ := drawCountNodes_some l hl (k := k + 1) (by omega)
 obtain ⟨p, q, eS, pl, pf⟩ := drawSameTable_some l hl (k := k + 1) (by omega)
 obtain ⟨w, j, eH, wl, wf⟩ := drawHandleAt_some l hl (k := k + 1) (by omega)
 obtain ⟨q1, q2⟩ := clear_few t tf a g
 obtain ⟨n, n1, n2, n3, n4⟩ := table_both c0 c1 c2 c3 c4 c5 (k + 1) (by omega)
 have nf : ∀ y, y ∈ n → FewN y := fun y hy => by rw [n4 y hy]; exact ⟨Nat.zero_le _, Nat.zero_le _, Nat.zero_le _⟩
 obtain ⟨cn, d1, d2⟩ := count_same u (by omega) st u.length (k + 1) 0 0 (by omega) (by omega) (by omega)
 have d1' : spec_CountNodes.f (k + 1) u st = some cn := d1
 have d2' : impl_CountNodes.f (k + 1) u st = some cn := d2
 obtain ⟨fp, f1, f2⟩ := free_same u (by omega) u.length (k + 1) 0 (by omega) (by omega) (by omega)
 have f1' : spec_FreePlace.f (k + 1) u = some fp := f1
 have f2' : impl_FreePlace.f (k + 1) u = some fp := by
  unfold impl_FreePlace.f impl_Node_41.f
  rw [show (0 : Int) = ((0 : Nat) : Int) from rfl, f2]; rfl
 obtain ⟨sr, s1, s2, _⟩ := lawtab_both p q (by omega) pf (k := k + 1) (by omega)
 have hbb : (sr != sr) = true ↔ False := by simp
 simp only [eC, eP, eT, eN, eS, eH, Option.bind_some, clear_impl t (by omega) tf a g (show 1048577 < k + 1 by omega), clear_spec t (by omega) tf a g (show 1048577 < k + 1 by omega), lawtab_refl (clearOf t a g) (by omega) q2 (show 2097156 < k + 1 by omega), place_impl m (by omega) h0 h1 (show 0 < k + 1 by omega), place_spec m (by omega) h0 h1 (show 0 < k + 1 by omega), n1, n2, lawtab_refl n (by omega) nf (show 2097156 < k + 1 by omega), d1', d2', f1', f2', s1, s2, hbb, handle_impl w (by omega) j, handle_spec w (by omega) j, ↓reduceIte, if_false, beq_self_eq_true, Bool.not_true, Bool.or_self]
 rw [laws_FnTables.j0, if_neg Bool.false_ne_true, place_impl m (by omega) h0 h1 (by omega), Option.bind_some]
 by_cases hp : placeV m h0 h1 ≥ 0
 ·obtain ⟨p1, p2, p3, p4, p5⟩ := placeV_pos hp
  have hh : handleV m h0 = (h0, (rd_T48 m h0).f1) := by unfold handleV; rw [if_pos ⟨p2, p3⟩]
  rw [if_pos hp, p1, if_pos p2, if_pos p3, if_pos p4, handle_impl m (by omega), Option.bind_some, hh, p5]
  simp only [beq_self_eq_true, Bool.not_true, Bool.or_self]
  exact tables_j2 t tl tf a g (by omega)
 ·rw [if_neg hp]
  exact tables_j2 t tl tf a g (by omega)
end Go.Proofs.Ytofpmdgndegalab.Pure
