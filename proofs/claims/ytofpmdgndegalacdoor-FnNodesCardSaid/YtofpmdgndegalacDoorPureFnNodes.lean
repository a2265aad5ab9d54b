/- What the law FnNodes computes is the answer true, for all arguments within the bounds that the statement's own reading gives. No other condition. -/
import Derived.OpenShut
import Derived.Test.YtofpmdgndegalacDoorQFnNodesx23
namespace Go.Proofs.YtofpmdgndegalacDoor.Pure
open Go.RowKit Go.Proofs.YtofpmdgndegalacDoor.QFnNodes Go.Proofs.YtofpmdgndegalacDoorW.PrintWords Go.Proofs.YtofpmdgndegalacDoorW.PrintLast
set_option linter.unusedVariables false
set_option linter.unusedSimpArgs false
def laws_FnNodes.Pure : Prop := ∀ (l0 : List Int), l0.length ≤ maxLen → l0.length * 1 ≤ 140737488351232 → (∀ x ∈ l0, (Lit.int .u8 x).wf = true) → ∃ k, laws_FnNodes.f k l0 = some true
theorem w1 {i : Nat} (h : i < 9223372036854775807) : wrap64 ((i : Int) + 1) = ((i + 1 : Nat) : Int) := by unfold wrap64; omega
theorem rd_nat (xs : List Int) (i : Nat) : rd xs (i : Int) = xs.getD i 0 := by simp [rd]
theorem getD_lt (xs : List Int) (i : Nat) (h : i < xs.length) : xs.getD i 0 = xs[i] := by simp [List.getD, List.getElem?_eq_getElem h]
theorem drop_cons (xs : List Int) (i : Nat) (h : i < xs.length) : xs.drop i = xs.getD i 0 :: xs.drop (i + 1) := by rw [getD_lt xs i h]; exact List.drop_eq_getElem_cons h
theorem set_take {x l : List Int} {i : Nat} (hi : i < l.length) (hx : x.length = l.length) (ht : x.take i = l.take i) : (x.set i (l.getD i 0)).take (i + 1) = l.take (i + 1) := by
 apply List.ext_getElem?
 intro j
 have hj := congrArg (fun z => z[j]?) ht
 simp only [List.getElem?_take] at hj ⊢
 by_cases h1 : j < i + 1
 ·rw [if_pos h1, if_pos h1, List.getElem?_set]
  by_cases h2 : i = j
  ·subst h2
   rw [if_pos rfl, if_pos (by omega), List.getElem?_eq_getElem hi, getD_lt l i hi]
  ·rw [if_neg h2]
   rw [if_pos (by omega), if_pos (by omega)] at hj
   exact hj
 ·rw [if_neg h1, if_neg h1]
structure S29 where
 (f0 f1 f2 f3 f4 f5 f6 f7 : Int)
 (f8 : List Int)
 (f9 f10 : Int)
 (f11 : List S33)
 (f12 : List Int)
theorem iwithin_some (a l h : Int) : impl_within.f a l h = some (decide (l ≤ a ∧ a ≤ h)) := by
 unfold impl_within.f; by_cases g : a ≥ l
 ·rw [if_pos g]; congr 1; simp; omega
 ·rw [if_neg g]; congr 1; simp; omega
theorem within_some (a l h : Int) : spec_l1In.f a l h = some (decide (l ≤ a ∧ a ≤ h)) := by
 unfold spec_l1In.f; by_cases g : a ≥ l
 ·rw [if_pos g]; congr 1; simp; omega
 ·rw [if_neg g]; congr 1; simp; omega
def ConfIn (a b c d e f : Int) : Prop := (2 ≤ a ∧ a ≤ 12) ∧ (8 ≤ b ∧ b ≤ 16) ∧ (2 ≤ c ∧ c ≤ 8) ∧ (1 ≤ d ∧ d ≤ 8) ∧ (1 ≤ e ∧ e ≤ 16) ∧ (1 ≤ f ∧ f ≤ 4)
instance (a b c d e f : Int) : Decidable (ConfIn a b c d e f) := by unfold ConfIn; infer_instance
theorem conf_some (a b c d e f : Int) : spec_ConfOk.f a b c d e f = some (decide (ConfIn a b c d e f)) := by
 unfold spec_ConfOk.f
 simp only [within_some, Option.bind_some, decide_eq_true_eq]
 unfold ConfIn
 by_cases h1 : 2 ≤ a ∧ a ≤ 12
 ·rw [if_pos h1]
  by_cases h2 : 8 ≤ b ∧ b ≤ 16
  ·rw [if_pos h2]
   by_cases h3 : 2 ≤ c ∧ c ≤ 8
   ·rw [if_pos h3]
    by_cases h4 : 1 ≤ d ∧ d ≤ 8
    ·rw [if_pos h4]
     by_cases h5 : 1 ≤ e ∧ e ≤ 16
     ·rw [if_pos h5]; congr 1; simp [h1, h2, h3, h4, h5]
     ·rw [if_neg h5]; congr 1; simp [h1, h2, h3, h4, h5]
    ·rw [if_neg h4]; congr 1; simp [h1, h2, h3, h4]
   ·rw [if_neg h3]; congr 1; simp [h1, h2, h3]
  ·rw [if_neg h2]; congr 1; simp [h1, h2]
 ·rw [if_neg h1]; congr 1; simp [h1]
theorem bytes_in (a b c d e f : Int) (h : ConfIn a b c d e f) : spec_BytesOf.f a b c d e f = some (a * b) ∧ 16 ≤ a * b ∧ a * b ≤ 192 := by
 have m0 : 2 * 8 ≤ a * b := Int.mul_le_mul h.1.1 h.2.1.1 (by omega) (by have := h.1.1; omega)
 have m1 : a * b ≤ 12 * 16 := Int.mul_le_mul h.1.2 h.2.1.2 (by have := h.2.1.1; omega) (by omega)
 have e : wrap64 (a * b) = a * b := by unfold wrap64; omega
 refine ⟨?_, by omega, by omega⟩
 unfold spec_BytesOf.f
 rw [conf_some]
 simp only [Option.bind_some, decide_eq_true_eq]
 rw [if_pos h, e]
theorem bytes_out (a b c d e f : Int) (h : ¬ ConfIn a b c d e f) : spec_BytesOf.f a b c d e f = some 0 := by
 unfold spec_BytesOf.f
 rw [conf_some]
 simp only [Option.bind_some, decide_eq_true_eq]
 rw [if_neg h]
theorem bytes_some (a b c d e f : Int) : ∃ r, spec_BytesOf.f a b c d e f = some r := by
 by_cases h : ConfIn a b c d e f
 ·exact ⟨_, (bytes_in a b c d e f h).1⟩
 ·exact ⟨_, bytes_out a b c d e f h⟩
theorem ceil_in (a b : Int) (h : 0 ≤ a ∧ a ≤ 1000000000) (g : 1 ≤ b ∧ b ≤ 1000000000) : spec_CeilDiv.f a b = some ((a + b - 1) / b) := by
 unfold spec_CeilDiv.f
 simp only [within_some, Option.bind_some, decide_eq_true_eq]
 rw [if_pos h, if_pos g, if_neg (by omega)]
 have e1 : wrap64 (a + b) = a + b := by unfold wrap64; omega
 have e2 : wrap64 (a + b - 1) = a + b - 1 := by unfold wrap64; omega
 rw [e1, e2, Int.tdiv_eq_ediv_of_nonneg (by omega)]
 have h1 : 0 ≤ (a + b - 1) / b := Int.ediv_nonneg (by omega) (by omega)
 have h2 : (a + b - 1) / b ≤ a + b - 1 := Int.ediv_le_self _ (by omega)
 have e3 : wrap64 ((a + b - 1) / b) = (a + b - 1) / b := by unfold wrap64; omega
 rw [e3]
theorem ceil_out (a b : Int) (h : ¬ ((0 ≤ a ∧ a ≤ 1000000000) ∧ (1 ≤ b ∧ b ≤ 1000000000))) : spec_CeilDiv.f a b = some 0 := by
 unfold spec_CeilDiv.f
 simp only [within_some, Option.bind_some, decide_eq_true_eq]
 by_cases g : 0 ≤ a ∧ a ≤ 1000000000
 ·rw [if_pos g, if_neg (fun q => h ⟨g, q⟩)]
 ·rw [if_neg g]
theorem ceil_some (a b : Int) : ∃ r, spec_CeilDiv.f a b = some r := by
 by_cases h : (0 ≤ a ∧ a ≤ 1000000000) ∧ (1 ≤ b ∧ b ≤ 1000000000)
 ·exact ⟨_, ceil_in a b h.1 h.2⟩
 ·exact ⟨_, ceil_out a b h⟩
theorem large_some (a b c d e f n : Int) : spec_IsLarge.f a b c d e f n = some (decide (n > b)) := rfl
theorem chunks_some (a b c d e f n : Int) : ∃ r, spec_ChunksFor.f a b c d e f n = some r := by
 obtain ⟨r, h⟩ := ceil_some n b
 unfold spec_ChunksFor.f
 rw [h]; exact ⟨_, rfl⟩
theorem tail_same (k : Nat) (x : Bool) (a b c d e f p q r : Int) : impl_ThingOk.j0 k x a b c d e f p q r = spec_ThingOk.j0 k x a b c d e f p q r := by
 cases k with
 | zero => rfl
 | succ k => rfl
theorem tail_some (k : Nat) (x : Bool) (a b c d e f p q r : Int) (h : x = false → b ≠ 0) : ∃ z, spec_ThingOk.j0 (k + 1) x a b c d e f p q r = some z := by
 simp only [spec_ThingOk.j0]
 cases x with
 | true => exact ⟨_, rfl⟩
 | false =>
  have hb := h rfl
  rw [if_neg (by simp)]
  by_cases h1 : r = 0
  ·rw [if_pos h1]
   by_cases h2 : q ≤ b
   ·rw [if_pos h2, if_neg hb]; exact ⟨_, rfl⟩
   ·rw [if_neg h2]; exact ⟨_, rfl⟩
  ·rw [if_neg h1, large_some]
   simp only [Option.bind_some]
   by_cases h2 : decide (q > b) = true
   ·rw [if_pos h2]
    obtain ⟨t, ht⟩ := chunks_some a b c d e f q
    rw [ht]
    simp only [Option.bind_some]
    by_cases h3 : r = t
    ·rw [if_pos h3, if_neg hb]; exact ⟨_, rfl⟩
    ·rw [if_neg h3]; exact ⟨_, rfl⟩
   ·rw [if_neg h2]; exact ⟨_, rfl⟩
theorem head_s (k : Nat) (a b c d e f p q r n : Int) (hn : spec_BytesOf.f a b c d e f = some n) (h0 : 0 ≤ n) (h1 : n ≤ 192) : spec_ThingOk.f k a b c d e f p q r = spec_ThingOk.j0 k (decide (n = 0 ∨ q < 1 ∨ p < 0 ∨ p > n ∨ q > n - p)) a b c d e f p q r := by
 unfold spec_ThingOk.f
 rw [hn]
 simp only [Option.bind_some]
 by_cases g0 : n = 0
 ·rw [if_pos g0]; simp [g0]
 ·rw [if_neg g0]
  by_cases g1 : q < 1
  ·rw [if_pos g1]; simp [g1]
  ·rw [if_neg g1]
   by_cases g2 : p < 0
   ·rw [if_pos g2]; simp [g2]
   ·rw [if_neg g2]
    by_cases g3 : p > n
    ·rw [if_pos g3]; simp [g3]
    ·rw [if_neg g3]
     have e1 : wrap64 (n - p) = n - p := by unfold wrap64; omega
     rw [e1]
     have : decide (n = 0 ∨ q < 1 ∨ p < 0 ∨ p > n ∨ q > n - p) = decide (q > n - p) := by
      rw [Bool.eq_iff_iff]; simp only [decide_eq_true_eq]; omega
     rw [this]
theorem head_i (k : Nat) (a b c d e f p q r n : Int) (hn : spec_BytesOf.f a b c d e f = some n) (h0 : 0 ≤ n) (h1 : n ≤ 192) : impl_ThingOk.f k a b c d e f p q r = spec_ThingOk.j0 k (decide (n = 0 ∨ q < 1 ∨ p < 0 ∨ p > n ∨ q > n - p)) a b c d e f p q r := by
 unfold impl_ThingOk.f
 have hb : impl_BytesOf.f a b c d e f = spec_BytesOf.f a b c d e f := rfl
 rw [hb, hn]
 simp only [Option.bind_some, tail_same]
 by_cases g1 : q ≤ 0
 ·rw [if_pos g1]
  have : decide (n = 0 ∨ q < 1 ∨ p < 0 ∨ p > n ∨ q > n - p) = true := by simp only [decide_eq_true_eq]; omega
  rw [this]
 ·rw [if_neg g1]
  by_cases g2 : p < 0
  ·rw [if_pos g2]; simp [g2]
  ·rw [if_neg g2]
   by_cases g3 : q > n
   ·rw [if_pos g3]
    have : decide (n = 0 ∨ q < 1 ∨ p < 0 ∨ p > n ∨ q > n - p) = true := by simp only [decide_eq_true_eq]; omega
    rw [this]
   ·rw [if_neg g3]
    have e1 : wrap64 (n - q) = n - q := by unfold wrap64; omega
    rw [e1]
    have : decide (n = 0 ∨ q < 1 ∨ p < 0 ∨ p > n ∨ q > n - p) = decide (p > n - q) := by
     rw [Bool.eq_iff_iff]; simp only [decide_eq_true_eq]; omega
    rw [this]
theorem thing_same (k : Nat) (a b c d e f p q r : Int) : ∃ z, spec_ThingOk.f (k + 1) a b c d e f p q r = some z ∧ impl_ThingOk.f (k + 1) a b c d e f p q r = some z := by
 by_cases h : ConfIn a b c d e f
 ·obtain ⟨h1, h2, h3⟩ := bytes_in a b c d e f h
  obtain ⟨z, hz⟩ := tail_some k (decide (a * b = 0 ∨ q < 1 ∨ p < 0 ∨ p > a * b ∨ q > a * b - p)) a b c d e f p q r (fun _ => by have := h.2.1.1; omega)
  exact ⟨z, by rw [head_s _ a b c d e f p q r _ h1 (by omega) h3]; exact hz, by rw [head_i _ a b c d e f p q r _ h1 (by omega) h3]; exact hz⟩
 ·have h1 := bytes_out a b c d e f h
  obtain ⟨z, hz⟩ := tail_some k (decide ((0 : Int) = 0 ∨ q < 1 ∨ p < 0 ∨ p > 0 ∨ q > 0 - p)) a b c d e f p q r (fun g => by simp at g)
  exact ⟨z, by rw [head_s _ a b c d e f p q r _ h1 (by omega) (by omega)]; exact hz, by rw [head_i _ a b c d e f p q r _ h1 (by omega) (by omega)]; exact hz⟩
theorem rdT_i (xs : List S33) (i : Nat) (h : i < xs.length) : rd_T33 xs (i : Int) = xs[i] := by simp [rd_T33, List.getElem?_eq_getElem h]
theorem i64_and255 (n : Int) : Go.bits .and .i64 n 255 = n % 256 := by
 have h : (BitVec.ofInt 64 255).toNat = 2 ^ 8 - 1 := by decide
 have key : (BitVec.ofInt 64 n &&& BitVec.ofInt 64 255).toNat = (n % ((2 ^ 64 : Nat) : Int)).toNat % 2 ^ 8 := by
  rw [BitVec.toNat_and, BitVec.toNat_ofInt, h, Nat.and_two_pow_sub_one_eq_mod]
 show IntKind.i64.wrap ((BitVec.ofInt 64 n &&& BitVec.ofInt 64 255).toNat : Nat) = n % 256
 rw [key, IntKind.wrap_i64]
 omega
def St (l : List Int) (i : Int) : Prop := 0 ≤ i ∧ i ≤ l.length
theorem new_l0 (l : List Int) (hl : l.length ≤ 1048576) : ∀ (d k i : Nat) (s : Int), l.length - i = d → i ≤ l.length → d < k → ∃ s', spec_l1New.l0 k l s (i : Int) = some (l, 0, s') := by
 intro d
 induction d with
 | zero =>
  intro k i s hd hi hk
  obtain ⟨k, rfl⟩ : ∃ m, k = m + 1 := ⟨k - 1, by omega⟩
  simp only [spec_l1New.l0]
  rw [if_neg (by omega)]; exact ⟨_, rfl⟩
 | succ d ih =>
  intro k i s hd hi hk
  obtain ⟨k, rfl⟩ : ∃ m, k = m + 1 := ⟨k - 1, by omega⟩
  simp only [spec_l1New.l0]
  rw [if_pos (by omega)]
  by_cases h : (i : Int) < 4000
  ·rw [if_pos h, if_pos (by omega), w1 (by omega)]
   exact ih k (i + 1) _ (by omega) (by omega) (by omega)
  ·rw [if_neg h]; exact ⟨_, rfl⟩
theorem new_some (l : List Int) (hl : l.length ≤ 1048576) {k : Nat} (hk : 1048576 < k) : ∃ s, spec_l1New.f k l = some (l, 0, s) := by
 unfold spec_l1New.f
 exact new_l0 l hl l.length k 0 _ (by omega) (by omega) (by omega)
theorem byte_some (l : List Int) (hl : l.length ≤ 1048576) (i s : Int) (hi : St l i) : ∃ v i' s', spec_l1Byte.f l i s = some (v, i', s') ∧ 0 ≤ v ∧ v ≤ 255 ∧ St l i' := by
 unfold spec_l1Byte.f
 obtain ⟨h0, h1⟩ := hi
 by_cases h : i < (l.length : Int)
 ·rw [if_pos h, if_pos h0]
  refine ⟨_, _, _, rfl, ?_, ?_, ?_⟩
  ·rw [i64_and255]; omega
  ·rw [i64_and255]; omega
  ·have e : wrap64 (i + 1) = i + 1 := by unfold wrap64; omega
   rw [e]; exact ⟨by omega, by omega⟩
 ·rw [if_neg h]
  refine ⟨_, _, _, rfl, ?_, ?_, ⟨h0, h1⟩⟩
  ·rw [i64_and255]; omega
  ·rw [i64_and255]; omega
theorem below_some (l : List Int) (hl : l.length ≤ 1048576) (i s : Int) (hi : St l i) (n : Int) : ∃ v i' s', spec_l1Below.f l i s n = some (v, i', s') ∧ 0 ≤ v ∧ (0 < n → v < n) ∧ (n ≤ 0 → v = 0) ∧ St l i' := by
 unfold spec_l1Below.f
 by_cases h0 : n ≤ 0
 ·rw [if_pos h0]; exact ⟨_, _, _, rfl, by omega, by omega, fun _ => rfl, hi⟩
 ·rw [if_neg h0]
  obtain ⟨v, i1, s1, e1, v0, v1, hi1⟩ := byte_some l hl i s hi
  by_cases h1 : n ≤ 256
  ·rw [if_pos h1, e1]
   simp only [Option.bind_some]
   rw [if_neg (by omega), Int.tmod_eq_emod_of_nonneg v0]
   exact ⟨_, _, _, rfl, Int.emod_nonneg _ (by omega), fun _ => Int.emod_lt_of_pos _ (by omega), by omega, hi1⟩
  ·rw [if_neg h1, e1]
   simp only [Option.bind_some]
   obtain ⟨v', i2, s2, e2, v0', v1', hi2⟩ := byte_some l hl i1 s1 hi1
   rw [e2]
   simp only [Option.bind_some]
   obtain ⟨v'', i3, s3, e3, v0'', v1'', hi3⟩ := byte_some l hl i2 s2 hi2
   rw [e3]
   simp only [Option.bind_some]
   have q : 0 ≤ wrap64 (wrap64 (wrap64 (v * 65536) + wrap64 (v' * 256)) + v'') := by unfold wrap64; omega
   rw [if_neg (by omega), Int.tmod_eq_emod_of_nonneg q]
   exact ⟨_, _, _, rfl, Int.emod_nonneg _ (by omega), fun _ => Int.emod_lt_of_pos _ (by omega), by omega, hi3⟩
theorem int_some (l : List Int) (hl : l.length ≤ 1048576) (i s : Int) (hi : St l i) (xs : List Int) (hx : 0 < xs.length) : ∃ v i' s', spec_l1Int.f l i s xs = some (v, i', s') ∧ v ∈ xs ∧ St l i' := by
 unfold spec_l1Int.f
 obtain ⟨v, i1, s1, e1, h0, h1, _, hi1⟩ := below_some l hl i s hi (xs.length : Int)
 rw [e1]
 simp only [Option.bind_some]
 have h2 := h1 (by omega)
 rw [if_pos h0, if_pos h2]
 refine ⟨_, _, _, rfl, ?_, hi1⟩
 have h3 : v.toNat < xs.length := by omega
 unfold rd
 rw [getD_lt xs _ h3]
 exact List.getElem_mem h3
def FewN (y : S29) : Prop := y.f8.length ≤ 1048576 ∧ y.f11.length ≤ 1048576 ∧ y.f12.length ≤ 1048576
theorem copy1S (y : S29) (h : FewN y) : spec_l7Copy.f y.f0 y.f1 y.f2 y.f3 y.f4 y.f5 y.f6 y.f7 y.f8 y.f9 y.f10 y.f11 y.f12 = some (y.f0, y.f1, y.f2, y.f3, y.f4, y.f5, y.f6, y.f7, y.f8, y.f9, y.f10, y.f11, y.f12) := by
 obtain ⟨h1, h2, h3⟩ := h
 unfold spec_l7Copy.f
 simp only [Option.bind_some, List.length_nil, Nat.zero_add, List.nil_append]
 rw [if_pos (by omega), if_pos (by omega), if_pos (by omega)]
theorem once_some (l : List Int) (hl : l.length ≤ 1048576) (i s : Int) (hi : St l i) (n : Int) : ∃ b i' s', spec_l1Once.f l i s n = some (b, i', s') ∧ St l i' := by
 unfold spec_l1Once.f
 obtain ⟨v, i1, s1, e1, _, _, _, hi1⟩ := below_some l hl i s hi n
 rw [e1]; exact ⟨_, _, _, rfl, hi1⟩
theorem l3conf_some (l : List Int) (hl : l.length ≤ 1048576) (i s : Int) (hi : St l i) : ∃ a b c d e f i' s', spec_l3Conf.f l i s = some (a, b, c, d, e, f, i', s') ∧ St l i' := by
 unfold spec_l3Conf.f
 obtain ⟨v1, i1, s1, e1, _, _, _, h1⟩ := below_some l hl i s hi 11
 rw [e1, Option.bind_some]
 obtain ⟨v2, i2, s2, e2, _, h2⟩ := int_some l hl i1 s1 h1 [8, 8, 9, 12, 16] (by decide)
 rw [e2, Option.bind_some]
 obtain ⟨v3, i3, s3, e3, _, _, _, h3⟩ := below_some l hl i2 s2 h2 7
 rw [e3, Option.bind_some]
 obtain ⟨v4, i4, s4, e4, _, _, _, h4⟩ := below_some l hl i3 s3 h3 6
 rw [e4, Option.bind_some]
 obtain ⟨v5, i5, s5, e5, _, h5⟩ := int_some l hl i4 s4 h4 [1, 3, 4, 8, 16] (by decide)
 rw [e5, Option.bind_some]
 obtain ⟨v6, i6, s6, e6, _, _, _, h6⟩ := below_some l hl i5 s5 h5 4
 rw [e6, Option.bind_some]
 exact ⟨_, _, _, _, _, _, _, _, rfl, h6⟩
theorem thing7_some (l : List Int) (hl : l.length ≤ 1048576) (i s : Int) (hi : St l i) (a b c d e f : Int) {k : Nat} (hk : 0 < k) : ∃ p q r i' s', spec_l7Thing.f k l i s a b c d e f = some (p, q, r, i', s') ∧ St l i' := by
 obtain ⟨k, rfl⟩ : ∃ m, k = m + 1 := ⟨k - 1, by omega⟩
 have hj : ∀ (x : Bool) (i s : Int), St l i → ∃ p q r i' s', spec_l7Thing.j0 (k + 1) x l i s a b c d e f = some (p, q, r, i', s') ∧ St l i' := by
  intro x i s hi
  rw [spec_l7Thing.j0]
  by_cases hx : x = true
  ·rw [if_pos hx]
   obtain ⟨v1, i1, s1, e1, _, _, _, h1⟩ := below_some l hl i s hi (wrap64 (a - 1))
   rw [e1, Option.bind_some]
   obtain ⟨v2, i2, s2, e2, _, _, _, h2⟩ := below_some l hl i1 s1 h1 b
   rw [e2, Option.bind_some]
   exact ⟨_, _, _, _, _, rfl, h2⟩
  ·rw [if_neg hx]
   obtain ⟨v1, i1, s1, e1, _, _, _, h1⟩ := below_some l hl i s hi a
   rw [e1, Option.bind_some]
   obtain ⟨v2, i2, s2, e2, _, _, _, h2⟩ := below_some l hl i1 s1 h1 b
   rw [e2, Option.bind_some]
   obtain ⟨v3, i3, s3, e3, _, _, _, h3⟩ := below_some l hl i2 s2 h2 (wrap64 (b - v2))
   rw [e3, Option.bind_some]
   exact ⟨_, _, _, _, _, rfl, h3⟩
 unfold spec_l7Thing.f
 obtain ⟨v0, i0, s0, e0, h0⟩ := once_some l hl i s hi 4
 rw [e0, Option.bind_some]
 by_cases hv : v0 = true
 ·rw [if_pos hv]; exact hj _ _ _ h0
 ·rw [if_neg hv]; exact hj _ _ _ h0
theorem l7_l2 (l : List Int) (hl : l.length ≤ 1048576) (b0 b1 b2 b3 b4 b5 b6 b7 : Int) (l8 : List Int) (b9 b10 : Int) (l11 : List S33) : ∀ (n k : Nat) (x : Int) (i s : Int) (l12 : List Int), St l i → x ≤ (n : Int) → n ≤ 3 → n < k → l12.length + n ≤ 100 →
  ∃ l12' i' s', spec_l7Draw.l2 k x l i s b0 b1 b2 b3 b4 b5 b6 b7 l8 b9 b10 l11 l12 = some (b0, b1, b2, b3, b4, b5, b6, b7, l8, b9, b10, l11, l12', i', s') ∧ St l i' ∧ l12'.length ≤ l12.length + n := by
 intro n
 induction n with
 | zero =>
  intro k x i s l12 hi hx _ hk _
  obtain ⟨k, rfl⟩ : ∃ m, k = m + 1 := ⟨k - 1, by omega⟩
  rw [spec_l7Draw.l2, if_neg (by omega)]
  exact ⟨_, _, _, rfl, hi, by omega⟩
 | succ n ih =>
  intro k x i s l12 hi hx hn hk hlen
  obtain ⟨k, rfl⟩ : ∃ m, k = m + 1 := ⟨k - 1, by omega⟩
  rw [spec_l7Draw.l2]
  by_cases h : x > 0
  ·obtain ⟨v1, i1, s1, e1, _, _, _, h1⟩ := below_some l hl i s hi 256
   have ex : wrap64 (x - 1) = x - 1 := by unfold wrap64; omega
   rw [if_pos h, e1, Option.bind_some, if_pos (by omega), ex]
   obtain ⟨l', i', s', e', hi', hl'⟩ := ih k (x - 1) i1 s1 (l12 ++ [v1]) h1 (by omega) (by omega) (by omega) (by simp only [List.length_append, List.length_singleton]; omega)
   exact ⟨l', i', s', e', hi', by simp only [List.length_append, List.length_singleton] at hl'; omega⟩
  ·rw [if_neg h]
   exact ⟨_, _, _, rfl, hi, by omega⟩
theorem l7_l1 (l : List Int) (hl : l.length ≤ 1048576) (a b c d e f : Int) (b0 b1 b2 b3 b4 b5 b6 b7 : Int) (l8 : List Int) (b9 b10 : Int) : ∀ (n k : Nat) (x : Int) (i s : Int) (l11 : List S33) (l12 : List Int), St l i → x ≤ (n : Int) → n ≤ 3 → n + 5 < k → l11.length + n ≤ 100 → l12.length ≤ 50 →
  ∃ l11' l12' i' s', spec_l7Draw.l1 k x l i s a b c d e f b0 b1 b2 b3 b4 b5 b6 b7 l8 b9 b10 l11 l12 = some (b0, b1, b2, b3, b4, b5, b6, b7, l8, b9, b10, l11', l12', i', s') ∧ St l i' ∧ l11'.length ≤ l11.length + n ∧ l12'.length ≤ l12.length + 3 := by
 intro n
 induction n with
 | zero =>
  intro k x i s l11 l12 hi hx _ hk _ h12
  obtain ⟨k, rfl⟩ : ∃ m, k = m + 1 := ⟨k - 1, by omega⟩
  obtain ⟨v1, i1, s1, e1, _, q1, _, h1⟩ := below_some l hl i s hi 3
  have q2 := q1 (by omega)
  rw [spec_l7Draw.l1, if_neg (by omega), e1, Option.bind_some]
  obtain ⟨l', i', s', e', hi', hl'⟩ := l7_l2 l hl b0 b1 b2 b3 b4 b5 b6 b7 l8 b9 b10 l11 3 k v1 i1 s1 l12 h1 (by omega) (by omega) (by omega) (by omega)
  exact ⟨_, l', i', s', e', hi', by omega, hl'⟩
 | succ n ih =>
  intro k x i s l11 l12 hi hx hn hk h11 h12
  obtain ⟨k, rfl⟩ : ∃ m, k = m + 1 := ⟨k - 1, by omega⟩
  rw [spec_l7Draw.l1]
  by_cases h : x > 0
  ·obtain ⟨p, q, r, i1, s1, e1, h1⟩ := thing7_some l hl i s hi a b c d e f (k := k) (by omega)
   have ex : wrap64 (x - 1) = x - 1 := by unfold wrap64; omega
   rw [if_pos h, e1, Option.bind_some, if_pos (by omega), ex]
   obtain ⟨l11', l12', i', s', e', hi', hl', hl2⟩ := ih k (x - 1) i1 s1 (l11 ++ [⟨p, q, r⟩]) l12 h1 (by omega) (by omega) (by omega) (by simp only [List.length_append, List.length_singleton]; omega) h12
   exact ⟨l11', l12', i', s', e', hi', by simp only [List.length_append, List.length_singleton] at hl'; omega, hl2⟩
  ·obtain ⟨v1, i1, s1, e1, _, q1, _, h1⟩ := below_some l hl i s hi 3
   have q2 := q1 (by omega)
   rw [if_neg h, e1, Option.bind_some]
   obtain ⟨l', i', s', e', hi', hl'⟩ := l7_l2 l hl b0 b1 b2 b3 b4 b5 b6 b7 l8 b9 b10 l11 3 k v1 i1 s1 l12 h1 (by omega) (by omega) (by omega) (by omega)
   exact ⟨_, l', i', s', e', hi', by omega, hl'⟩
theorem l7_j1 (l : List Int) (hl : l.length ≤ 1048576) (a b c d e f : Int) (b0 b1 b2 b3 b4 b5 b6 b7 : Int) (l8 : List Int) (b9 b10 : Int) (k : Nat) (hk : 10 < k) (i s : Int) (hi : St l i) :
  ∃ l11' l12' i' s', spec_l7Draw.j1 k l i s a b c d e f b0 b1 b2 b3 b4 b5 b6 b7 l8 b9 b10 [] [] = some (b0, b1, b2, b3, b4, b5, b6, b7, l8, b9, b10, l11', l12', i', s') ∧ St l i' ∧ l11'.length ≤ 3 ∧ l12'.length ≤ 3 := by
 obtain ⟨k, rfl⟩ : ∃ m, k = m + 1 := ⟨k - 1, by omega⟩
 obtain ⟨v1, i1, s1, e1, _, q1, _, h1⟩ := below_some l hl i s hi 3
 have q2 := q1 (by omega)
 rw [spec_l7Draw.j1, e1, Option.bind_some]
 obtain ⟨l11', l12', i', s', e', hi', g1, g2⟩ := l7_l1 l hl a b c d e f b0 b1 b2 b3 b4 b5 b6 b7 l8 b9 b10 3 k v1 i1 s1 [] [] h1 (by omega) (by omega) (by omega) (by simp) (by simp)
 exact ⟨l11', l12', i', s', e', hi', by simpa using g1, by simpa using g2⟩
theorem l7_l0 (l : List Int) (hl : l.length ≤ 1048576) (a b c d e f : Int) (b0 b1 b2 b3 b4 b5 b6 b7 : Int) (b9 b10 : Int) : ∀ (n k : Nat) (x : Int) (i s : Int) (l8 : List Int), St l i → x ≤ (n : Int) → n ≤ 3 → n + 15 < k → l8.length + n ≤ 100 →
  ∃ l8' b9' b10' l11' l12' i' s', spec_l7Draw.l0 k x l i s a b c d e f b0 b1 b2 b3 b4 b5 b6 b7 l8 b9 b10 [] [] = some (b0, b1, b2, b3, b4, b5, b6, b7, l8', b9', b10', l11', l12', i', s') ∧ St l i' ∧ l8'.length ≤ l8.length + n ∧ l11'.length ≤ 3 ∧ l12'.length ≤ 3 := by
 have fin : ∀ (k : Nat) (i s : Int) (l8 : List Int), St l i → 10 < k →
   ∃ l8' b9' b10' l11' l12' i' s', (if (l8.length : Int) > 0 then (if 0 < (l8.length : Int) then ((spec_l1Below.f l i s (wrap64 (b + 1))).bind fun bt208 => (spec_l7Draw.j1 k l bt208.2.1 bt208.2.2 a b c d e f b0 b1 b2 b3 b4 b5 b6 b7 l8 (wrap64 ((rd l8 0) + 1)) bt208.1 [] [])) else (none)) else (spec_l7Draw.j1 k l i s a b c d e f b0 b1 b2 b3 b4 b5 b6 b7 l8 b9 b10 [] [])) = some (b0, b1, b2, b3, b4, b5, b6, b7, l8', b9', b10', l11', l12', i', s') ∧ St l i' ∧ l8'.length = l8.length ∧ l11'.length ≤ 3 ∧ l12'.length ≤ 3 := by
  intro k i s l8 hi hk
  by_cases h : (l8.length : Int) > 0
  ·obtain ⟨v1, i1, s1, e1, _, _, _, h1⟩ := below_some l hl i s hi (wrap64 (b + 1))
   rw [if_pos h, if_pos (show 0 < (l8.length : Int) from h), e1, Option.bind_some]
   obtain ⟨l11', l12', i', s', e', hi', g1, g2⟩ := l7_j1 l hl a b c d e f b0 b1 b2 b3 b4 b5 b6 b7 l8 (wrap64 ((rd l8 0) + 1)) v1 k hk i1 s1 h1
   exact ⟨_, _, _, _, _, _, _, e', hi', rfl, g1, g2⟩
  ·rw [if_neg h]
   obtain ⟨l11', l12', i', s', e', hi', g1, g2⟩ := l7_j1 l hl a b c d e f b0 b1 b2 b3 b4 b5 b6 b7 l8 b9 b10 k hk i s hi
   exact ⟨_, _, _, _, _, _, _, e', hi', rfl, g1, g2⟩
 intro n
 induction n with
 | zero =>
  intro k x i s l8 hi hx _ hk _
  obtain ⟨k, rfl⟩ : ∃ m, k = m + 1 := ⟨k - 1, by omega⟩
  rw [spec_l7Draw.l0, if_neg (by omega)]
  obtain ⟨l8', b9', b10', l11', l12', i', s', e', hi', g0, g1, g2⟩ := fin k i s l8 hi (by omega)
  exact ⟨l8', b9', b10', l11', l12', i', s', e', hi', by omega, g1, g2⟩
 | succ n ih =>
  intro k x i s l8 hi hx hn hk h8
  obtain ⟨k, rfl⟩ : ∃ m, k = m + 1 := ⟨k - 1, by omega⟩
  rw [spec_l7Draw.l0]
  by_cases h : x > 0
  ·have ex : wrap64 (x - 1) = x - 1 := by unfold wrap64; omega
   rw [if_pos h, if_pos (by omega), ex]
   obtain ⟨l8', b9', b10', l11', l12', i', s', e', hi', g0, g1, g2⟩ := ih k (x - 1) i s (l8 ++ [x - 1]) hi (by omega) (by omega) (by omega) (by simp only [List.length_append, List.length_singleton]; omega)
   exact ⟨l8', b9', b10', l11', l12', i', s', e', hi', by simp only [List.length_append, List.length_singleton] at g0; omega, g1, g2⟩
  ·rw [if_neg h]
   obtain ⟨l8', b9', b10', l11', l12', i', s', e', hi', g0, g1, g2⟩ := fin k i s l8 hi (by omega)
   exact ⟨l8', b9', b10', l11', l12', i', s', e', hi', by omega, g1, g2⟩
theorem l3any_some (l : List Int) (hl : l.length ≤ 1048576) (i s : Int) (hi : St l i) {k : Nat} (hk : 0 < k) : ∃ a b c d e f i' s', spec_l3Any.f k l i s = some (a, b, c, d, e, f, i', s') ∧ St l i' := by
 obtain ⟨k, rfl⟩ : ∃ m, k = m + 1 := ⟨k - 1, by omega⟩
 unfold spec_l3Any.f
 obtain ⟨a, b, c, d, e, f, i0, s0, e0, h0⟩ := l3conf_some l hl i s hi
 rw [e0, Option.bind_some]
 obtain ⟨v1, i1, s1, e1, _, _, _, h1⟩ := below_some l hl i0 s0 h0 14
 rw [e1, Option.bind_some]
 by_cases c0 : v1 = 0
 ·rw [if_pos c0]
  obtain ⟨v2, i2, s2, e2, _, h2⟩ := int_some l hl i1 s1 h1 [1, 2, 12, 13] (by decide)
  rw [e2, Option.bind_some, spec_l3Any.j0]
  exact ⟨_, _, _, _, _, _, _, _, rfl, h2⟩
 rw [if_neg c0]
 by_cases c1 : v1 = 1
 ·rw [if_pos c1]
  obtain ⟨v2, i2, s2, e2, _, h2⟩ := int_some l hl i1 s1 h1 [7, 8, 16, 17] (by decide)
  rw [e2, Option.bind_some, spec_l3Any.j0]
  exact ⟨_, _, _, _, _, _, _, _, rfl, h2⟩
 rw [if_neg c1]
 by_cases c2 : v1 = 2
 ·rw [if_pos c2]
  obtain ⟨v2, i2, s2, e2, _, h2⟩ := int_some l hl i1 s1 h1 [1, 8, 9] (by decide)
  rw [e2, Option.bind_some, spec_l3Any.j0]
  exact ⟨_, _, _, _, _, _, _, _, rfl, h2⟩
 rw [if_neg c2]
 by_cases c3 : v1 = 3
 ·rw [if_pos c3]
  obtain ⟨v2, i2, s2, e2, _, h2⟩ := int_some l hl i1 s1 h1 [0, 8, 9] (by decide)
  rw [e2, Option.bind_some, spec_l3Any.j0]
  exact ⟨_, _, _, _, _, _, _, _, rfl, h2⟩
 rw [if_neg c3]
 by_cases c4 : v1 = 4
 ·rw [if_pos c4]
  obtain ⟨v2, i2, s2, e2, _, h2⟩ := int_some l hl i1 s1 h1 [0, 17] (by decide)
  rw [e2, Option.bind_some, spec_l3Any.j0]
  exact ⟨_, _, _, _, _, _, _, _, rfl, h2⟩
 rw [if_neg c4]
 by_cases c5 : v1 = 5
 ·rw [if_pos c5]
  obtain ⟨v2, i2, s2, e2, _, h2⟩ := int_some l hl i1 s1 h1 [0, 5] (by decide)
  rw [e2, Option.bind_some, spec_l3Any.j0]
  exact ⟨_, _, _, _, _, _, _, _, rfl, h2⟩
 rw [if_neg c5, spec_l3Any.j0]
 exact ⟨_, _, _, _, _, _, _, _, rfl, h1⟩
/-- A loop that compares two slices of one length. -/
theorem cmp_gen {β : Type} (G : Nat → Int → Option Bool) (a b : List β) (hl : a.length = b.length)
  (yes : ∀ (k i : Nat) (h : i < a.length), a[i] = b[i]'(hl ▸ h) → G (k + 1) (i : Int) = G k ((i + 1 : Nat) : Int))
  (no : ∀ (k i : Nat) (h : i < a.length), a[i] ≠ b[i]'(hl ▸ h) → G (k + 1) (i : Int) = some false)
  (last : ∀ (k : Nat), G (k + 1) (a.length : Int) = some true) :
  ∀ (d k i : Nat), a.length - i = d → i ≤ a.length → d < k → ∃ r, G k (i : Int) = some r ∧ (r = true ↔ ∀ (j : Nat) (h : j < a.length), i ≤ j → a[j] = b[j]'(hl ▸ h)) := by
 intro d
 induction d with
 | zero =>
  intro k i hd hi hk
  obtain ⟨k, rfl⟩ : ∃ m, k = m + 1 := ⟨k - 1, by omega⟩
  have e : i = a.length := by omega
  subst e
  exact ⟨true, last k, by simp only [true_iff]; exact fun j h hj => absurd h (by omega)⟩
 | succ d ih =>
  intro k i hd hi hk
  obtain ⟨k, rfl⟩ : ∃ m, k = m + 1 := ⟨k - 1, by omega⟩
  have hi' : i < a.length := by omega
  by_cases c : a[i] = b[i]'(hl ▸ hi')
  ·obtain ⟨r, e, g⟩ := ih k (i + 1) (by omega) (by omega) (by omega)
   refine ⟨r, by rw [yes k i hi' c]; exact e, g.trans ⟨fun f j h hj => ?_, fun f j h hj => f j h (by omega)⟩⟩
   by_cases ej : j = i
   ·subst ej; exact c
   ·exact f j h (by omega)
  ·refine ⟨false, no k i hi' c, ?_⟩
   simp only [Bool.false_eq_true, false_iff]
   exact fun f => c (f i hi' (Nat.le_refl _))
theorem all_eq {β : Type} (a b : List β) (hl : a.length = b.length) (h : ∀ (j : Nat) (h : j < a.length), 0 ≤ j → a[j] = b[j]'(hl ▸ h)) : a = b := List.ext_getElem hl (fun j h1 _ => h j h1 (Nat.zero_le _))
theorem rd_at (r : List Int) (i : Nat) (h : i < r.length) : rd r (i : Int) = r[i] := by rw [rd_nat, getD_lt r i h]
theorem slEq_some (a b : List Int) (hn : a.length ≤ 1048576) {k : Nat} (hk : 1048577 < k) : ∃ r, slices_Equal_int_int.f k a b = some r ∧ (r = true ↔ a = b) := by
 unfold slices_Equal_int_int.f
 by_cases hl : a.length = b.length
 ·rw [if_pos (by omega)]
  have yes_ : ∀ (k i : Nat) (h : i < a.length), a[i] = b[i]'(hl ▸ h) → (fun k i => slices_Equal_int_int.l0 k a b (a.length : Int) i) (k + 1) (i : Int) = (fun k i => slices_Equal_int_int.l0 k a b (a.length : Int) i) k ((i + 1 : Nat) : Int) := by
   intro k i h c
   have c1 : (i : Int) < (a.length : Int) := by omega
   have c2 : (0 : Int) ≤ (i : Int) := by omega
   have c3 : (i : Int) < (b.length : Int) := by omega
   show slices_Equal_int_int.l0 (k + 1) a b (a.length : Int) (i : Int) = _
   rw [slices_Equal_int_int.l0, if_pos c1, if_pos c2, if_pos c1, if_pos c3, rd_at a i h, rd_at b i (hl ▸ h), if_pos c, w1 (by omega)]
  have no_ : ∀ (k i : Nat) (h : i < a.length), a[i] ≠ b[i]'(hl ▸ h) → (fun k i => slices_Equal_int_int.l0 k a b (a.length : Int) i) (k + 1) (i : Int) = some false := by
   intro k i h c
   have c1 : (i : Int) < (a.length : Int) := by omega
   have c2 : (0 : Int) ≤ (i : Int) := by omega
   have c3 : (i : Int) < (b.length : Int) := by omega
   show slices_Equal_int_int.l0 (k + 1) a b (a.length : Int) (i : Int) = _
   rw [slices_Equal_int_int.l0, if_pos c1, if_pos c2, if_pos c1, if_pos c3, rd_at a i h, rd_at b i (hl ▸ h), if_neg c]
  have last_ : ∀ (k : Nat), (fun k i => slices_Equal_int_int.l0 k a b (a.length : Int) i) (k + 1) (a.length : Int) = some true := by
   intro k
   show slices_Equal_int_int.l0 (k + 1) a b (a.length : Int) (a.length : Int) = _
   rw [slices_Equal_int_int.l0, if_neg (Int.lt_irrefl _)]
  obtain ⟨r, e, g⟩ := cmp_gen (fun k i => slices_Equal_int_int.l0 k a b (a.length : Int) i) a b hl yes_ no_ last_ a.length k 0 (by omega) (by omega) (by omega)
  exact ⟨r, e, g.trans ⟨fun f => all_eq a b hl f, fun f => by subst f; exact fun _ _ _ => rfl⟩⟩
 ·rw [if_neg (by omega)]
  exact ⟨false, rfl, by simp only [Bool.false_eq_true, false_iff]; exact fun e => hl (by rw [e])⟩
theorem sints_some (a b : List Int) (hn : a.length ≤ 1048576) {k : Nat} (hk : 1048577 < k) : ∃ r, laws_sameInts.f k a b = some r ∧ (r = true ↔ a = b) := by
 unfold laws_sameInts.f
 by_cases hl : a.length = b.length
 ·rw [if_pos (by omega)]
  have yes_ : ∀ (k i : Nat) (h : i < a.length), a[i] = b[i]'(hl ▸ h) → (fun k i => laws_sameInts.l0 k a b i) (k + 1) (i : Int) = (fun k i => laws_sameInts.l0 k a b i) k ((i + 1 : Nat) : Int) := by
   intro k i h c
   have c1 : (i : Int) < (a.length : Int) := by omega
   have c2 : (0 : Int) ≤ (i : Int) := by omega
   have c3 : (i : Int) < (b.length : Int) := by omega
   show laws_sameInts.l0 (k + 1) a b (i : Int) = _
   rw [laws_sameInts.l0, if_pos c1, if_pos c2, if_pos c3, rd_at a i h, rd_at b i (hl ▸ h), if_pos c, w1 (by omega)]
  have no_ : ∀ (k i : Nat) (h : i < a.length), a[i] ≠ b[i]'(hl ▸ h) → (fun k i => laws_sameInts.l0 k a b i) (k + 1) (i : Int) = some false := by
   intro k i h c
   have c1 : (i : Int) < (a.length : Int) := by omega
   have c2 : (0 : Int) ≤ (i : Int) := by omega
   have c3 : (i : Int) < (b.length : Int) := by omega
   show laws_sameInts.l0 (k + 1) a b (i : Int) = _
   rw [laws_sameInts.l0, if_pos c1, if_pos c2, if_pos c3, rd_at a i h, rd_at b i (hl ▸ h), if_neg c]
  have last_ : ∀ (k : Nat), (fun k i => laws_sameInts.l0 k a b i) (k + 1) (a.length : Int) = some true := by
   intro k
   show laws_sameInts.l0 (k + 1) a b (a.length : Int) = _
   rw [laws_sameInts.l0, if_neg (Int.lt_irrefl _)]
  obtain ⟨r, e, g⟩ := cmp_gen (fun k i => laws_sameInts.l0 k a b i) a b hl yes_ no_ last_ a.length k 0 (by omega) (by omega) (by omega)
  exact ⟨r, e, g.trans ⟨fun f => all_eq a b hl f, fun f => by subst f; exact fun _ _ _ => rfl⟩⟩
 ·rw [if_neg (by omega)]
  exact ⟨false, rfl, by simp only [Bool.false_eq_true, false_iff]; exact fun e => hl (by rw [e])⟩
theorem thing_differ (x y : S33) : ((!(x.f0 == y.f0) || (!(x.f1 == y.f1) || (!(x.f2 == y.f2)))) = true) ↔ x ≠ y := by
 obtain ⟨a, b, c⟩ := x
 obtain ⟨p, q, r⟩ := y
 simp only [Bool.or_eq_true, Bool.not_eq_true', beq_eq_false_iff_ne, ne_eq, S33.mk.injEq]
 by_cases h1 : a = p <;> by_cases h2 : b = q <;> by_cases h3 : c = r <;> simp [h1, h2, h3]
theorem implThing_some (a b : List S33) (hn : a.length ≤ 1048576) {k : Nat} (hk : 1048577 < k) : ∃ r, impl_Thing_46.f k a b = some r ∧ (r = true ↔ a = b) := by
 unfold impl_Thing_46.f
 by_cases hl : a.length = b.length
 ·rw [if_pos (by omega)]
  have yes_ : ∀ (k i : Nat) (h : i < a.length), a[i] = b[i]'(hl ▸ h) → (fun k i => impl_Thing_46.l0 k a b (a.length : Int) i) (k + 1) (i : Int) = (fun k i => impl_Thing_46.l0 k a b (a.length : Int) i) k ((i + 1 : Nat) : Int) := by
   intro k i h c
   have c1 : (i : Int) < (a.length : Int) := by omega
   have c2 : (0 : Int) ≤ (i : Int) := by omega
   have c3 : (i : Int) < (b.length : Int) := by omega
   show impl_Thing_46.l0 (k + 1) a b (a.length : Int) (i : Int) = _
   rw [impl_Thing_46.l0, if_pos c1, if_pos c2, if_pos c1, if_pos c3, rdT_i a i h, rdT_i b i (hl ▸ h), if_neg (fun d => (thing_differ _ _).mp d c), w1 (by omega)]
  have no_ : ∀ (k i : Nat) (h : i < a.length), a[i] ≠ b[i]'(hl ▸ h) → (fun k i => impl_Thing_46.l0 k a b (a.length : Int) i) (k + 1) (i : Int) = some false := by
   intro k i h c
   have c1 : (i : Int) < (a.length : Int) := by omega
   have c2 : (0 : Int) ≤ (i : Int) := by omega
   have c3 : (i : Int) < (b.length : Int) := by omega
   show impl_Thing_46.l0 (k + 1) a b (a.length : Int) (i : Int) = _
   rw [impl_Thing_46.l0, if_pos c1, if_pos c2, if_pos c1, if_pos c3, rdT_i a i h, rdT_i b i (hl ▸ h), if_pos ((thing_differ _ _).mpr c)]
  have last_ : ∀ (k : Nat), (fun k i => impl_Thing_46.l0 k a b (a.length : Int) i) (k + 1) (a.length : Int) = some true := by
   intro k
   show impl_Thing_46.l0 (k + 1) a b (a.length : Int) (a.length : Int) = _
   rw [impl_Thing_46.l0, if_neg (Int.lt_irrefl _)]
  obtain ⟨r, e, g⟩ := cmp_gen (fun k i => impl_Thing_46.l0 k a b (a.length : Int) i) a b hl yes_ no_ last_ a.length k 0 (by omega) (by omega) (by omega)
  exact ⟨r, e, g.trans ⟨fun f => all_eq a b hl f, fun f => by subst f; exact fun _ _ _ => rfl⟩⟩
 ·rw [if_neg (by omega)]
  exact ⟨false, rfl, by simp only [Bool.false_eq_true, false_iff]; exact fun e => hl (by rw [e])⟩
theorem lthings_l0 (a0 : Int) (a1 : Int) (a2 : Int) (a3 : Int) (a4 : Int) (a5 : Int) (a6 : Int) (a7 : Int) (la8 : List Int) (a9 : Int) (a10 : Int) (la11 : List S33) (la12 : List Int) (b0 : Int) (b1 : Int) (b2 : Int) (b3 : Int) (b4 : Int) (b5 : Int) (b6 : Int) (b7 : Int) (lb8 : List Int) (b9 : Int) (b10 : Int) (lb11 : List S33) (lb12 : List Int) (hl : la11.length = lb11.length) (h11 : la11.length ≤ 1048576) {k : Nat} (hk : 1048577 < k) : ∃ r, laws_sameNode.l0 k 0 a0 a1 a2 a3 a4 a5 a6 a7 la8 a9 a10 la11 la12 b0 b1 b2 b3 b4 b5 b6 b7 lb8 b9 b10 lb11 lb12 = some r ∧ (r = true ↔ la11 = lb11) := by
 have yes_ : ∀ (k i : Nat) (h : i < la11.length), la11[i] = lb11[i]'(hl ▸ h) → (fun k i => laws_sameNode.l0 k i a0 a1 a2 a3 a4 a5 a6 a7 la8 a9 a10 la11 la12 b0 b1 b2 b3 b4 b5 b6 b7 lb8 b9 b10 lb11 lb12) (k + 1) (i : Int) = (fun k i => laws_sameNode.l0 k i a0 a1 a2 a3 a4 a5 a6 a7 la8 a9 a10 la11 la12 b0 b1 b2 b3 b4 b5 b6 b7 lb8 b9 b10 lb11 lb12) k ((i + 1 : Nat) : Int) := by
  intro k i h c
  have c1 : (i : Int) < (la11.length : Int) := by omega
  have c2 : (0 : Int) ≤ (i : Int) := by omega
  have c3 : (i : Int) < (lb11.length : Int) := by omega
  show laws_sameNode.l0 (k + 1) (i : Int) a0 a1 a2 a3 a4 a5 a6 a7 la8 a9 a10 la11 la12 b0 b1 b2 b3 b4 b5 b6 b7 lb8 b9 b10 lb11 lb12 = _
  rw [laws_sameNode.l0, if_pos c1, if_pos c2, if_pos c3, rdT_i la11 i h, rdT_i lb11 i (hl ▸ h), if_neg (fun d => (thing_differ _ _).mp d c), w1 (by omega)]
 have no_ : ∀ (k i : Nat) (h : i < la11.length), la11[i] ≠ lb11[i]'(hl ▸ h) → (fun k i => laws_sameNode.l0 k i a0 a1 a2 a3 a4 a5 a6 a7 la8 a9 a10 la11 la12 b0 b1 b2 b3 b4 b5 b6 b7 lb8 b9 b10 lb11 lb12) (k + 1) (i : Int) = some false := by
  intro k i h c
  have c1 : (i : Int) < (la11.length : Int) := by omega
  have c2 : (0 : Int) ≤ (i : Int) := by omega
  have c3 : (i : Int) < (lb11.length : Int) := by omega
  show laws_sameNode.l0 (k + 1) (i : Int) a0 a1 a2 a3 a4 a5 a6 a7 la8 a9 a10 la11 la12 b0 b1 b2 b3 b4 b5 b6 b7 lb8 b9 b10 lb11 lb12 = _
  rw [laws_sameNode.l0, if_pos c1, if_pos c2, if_pos c3, rdT_i la11 i h, rdT_i lb11 i (hl ▸ h), if_pos ((thing_differ _ _).mpr c)]
 have last_ : ∀ (k : Nat), (fun k i => laws_sameNode.l0 k i a0 a1 a2 a3 a4 a5 a6 a7 la8 a9 a10 la11 la12 b0 b1 b2 b3 b4 b5 b6 b7 lb8 b9 b10 lb11 lb12) (k + 1) (la11.length : Int) = some true := by
  intro k
  show laws_sameNode.l0 (k + 1) (la11.length : Int) a0 a1 a2 a3 a4 a5 a6 a7 la8 a9 a10 la11 la12 b0 b1 b2 b3 b4 b5 b6 b7 lb8 b9 b10 lb11 lb12 = _
  rw [laws_sameNode.l0, if_neg (Int.lt_irrefl _)]
 obtain ⟨r, e, g⟩ := cmp_gen (fun k i => laws_sameNode.l0 k i a0 a1 a2 a3 a4 a5 a6 a7 la8 a9 a10 la11 la12 b0 b1 b2 b3 b4 b5 b6 b7 lb8 b9 b10 lb11 lb12) la11 lb11 hl yes_ no_ last_ la11.length k 0 (by omega) (by omega) (by omega)
 exact ⟨r, e, g.trans ⟨fun f => all_eq la11 lb11 hl f, fun f => by subst f; exact fun _ _ _ => rfl⟩⟩
theorem same_law (a0 : Int) (a1 : Int) (a2 : Int) (a3 : Int) (a4 : Int) (a5 : Int) (a6 : Int) (a7 : Int) (la8 : List Int) (a9 : Int) (a10 : Int) (la11 : List S33) (la12 : List Int) (b0 : Int) (b1 : Int) (b2 : Int) (b3 : Int) (b4 : Int) (b5 : Int) (b6 : Int) (b7 : Int) (lb8 : List Int) (b9 : Int) (b10 : Int) (lb11 : List S33) (lb12 : List Int) (h8 : la8.length ≤ 1048576) (h11 : la11.length ≤ 1048576) (h12 : la12.length ≤ 1048576) {k : Nat} (hk : 1048578 < k) : ∃ r, laws_sameNode.f k a0 a1 a2 a3 a4 a5 a6 a7 la8 a9 a10 la11 la12 b0 b1 b2 b3 b4 b5 b6 b7 lb8 b9 b10 lb11 lb12 = some r ∧ (r = true ↔ (a0 = b0 ∧ a1 = b1 ∧ a2 = b2 ∧ a3 = b3 ∧ a4 = b4 ∧ a5 = b5 ∧ a6 = b6 ∧ a7 = b7 ∧ la8 = lb8 ∧ a9 = b9 ∧ a10 = b10 ∧ la11 = lb11 ∧ la12 = lb12)) := by
 obtain ⟨k, rfl⟩ : ∃ m, k = m + 1 := ⟨k - 1, by omega⟩
 have ff : laws_sameNode.j0 (k + 1) true a0 a1 a2 a3 a4 a5 a6 a7 la8 a9 a10 la11 la12 b0 b1 b2 b3 b4 b5 b6 b7 lb8 b9 b10 lb11 lb12 = some false := by rw [laws_sameNode.j0, if_pos rfl]
 unfold laws_sameNode.f
 by_cases c0 : a0 = b0
 rotate_left
 ·rw [if_neg c0, ff]; exact ⟨false, rfl, by simp only [Bool.false_eq_true, false_iff]; exact fun h => c0 h.1⟩
 rw [if_pos c0]
 by_cases c1 : a1 = b1
 rotate_left
 ·rw [if_neg c1, ff]; exact ⟨false, rfl, by simp only [Bool.false_eq_true, false_iff]; exact fun h => c1 h.2.1⟩
 rw [if_pos c1]
 by_cases c2 : a2 = b2
 rotate_left
 ·rw [if_neg c2, ff]; exact ⟨false, rfl, by simp only [Bool.false_eq_true, false_iff]; exact fun h => c2 h.2.2.1⟩
 rw [if_pos c2]
 by_cases c3 : a3 = b3
 rotate_left
 ·rw [if_neg c3, ff]; exact ⟨false, rfl, by simp only [Bool.false_eq_true, false_iff]; exact fun h => c3 h.2.2.2.1⟩
 rw [if_pos c3]
 by_cases c4 : a4 = b4
 rotate_left
 ·rw [if_neg c4, ff]; exact ⟨false, rfl, by simp only [Bool.false_eq_true, false_iff]; exact fun h => c4 h.2.2.2.2.1⟩
 rw [if_pos c4]
 by_cases c5 : a5 = b5
 rotate_left
 ·rw [if_neg c5, ff]; exact ⟨false, rfl, by simp only [Bool.false_eq_true, false_iff]; exact fun h => c5 h.2.2.2.2.2.1⟩
 rw [if_pos c5]
 by_cases c6 : a6 = b6
 rotate_left
 ·rw [if_neg c6, ff]; exact ⟨false, rfl, by simp only [Bool.false_eq_true, false_iff]; exact fun h => c6 h.2.2.2.2.2.2.1⟩
 rw [if_pos c6]
 by_cases c7 : a7 = b7
 rotate_left
 ·rw [if_neg c7, ff]; exact ⟨false, rfl, by simp only [Bool.false_eq_true, false_iff]; exact fun h => c7 h.2.2.2.2.2.2.2.1⟩
 rw [if_pos c7]
 obtain ⟨r8, e8, g8⟩ := sints_some la8 lb8 h8 (k := k + 1) (by omega)
 rw [e8, Option.bind_some]
 by_cases c8 : r8 = true
 rotate_left
 ·rw [if_neg c8, ff]; exact ⟨false, rfl, by simp only [Bool.false_eq_true, false_iff]; exact fun h => c8 (g8.mpr h.2.2.2.2.2.2.2.2.1)⟩
 rw [if_pos c8]
 by_cases c9 : a9 = b9
 rotate_left
 ·rw [if_neg c9, ff]; exact ⟨false, rfl, by simp only [Bool.false_eq_true, false_iff]; exact fun h => c9 h.2.2.2.2.2.2.2.2.2.1⟩
 rw [if_pos c9]
 by_cases c10 : a10 = b10
 rotate_left
 ·rw [if_neg c10, ff]; exact ⟨false, rfl, by simp only [Bool.false_eq_true, false_iff]; exact fun h => c10 h.2.2.2.2.2.2.2.2.2.2.1⟩
 rw [if_pos c10]
 by_cases c11 : la11.length = lb11.length
 rotate_left
 ·rw [if_neg (by omega), ff]; exact ⟨false, rfl, by simp only [Bool.false_eq_true, false_iff]; exact fun h => c11 (by rw [h.2.2.2.2.2.2.2.2.2.2.2.1])⟩
 rw [if_pos (by omega)]
 obtain ⟨r12, e12, g12⟩ := sints_some la12 lb12 h12 (k := k + 1) (by omega)
 rw [e12, Option.bind_some]
 by_cases c12 : r12 = true
 rotate_left
 ·have : r12 = false := by simpa using c12
  rw [this, Bool.not_false, ff]; exact ⟨false, rfl, by simp only [Bool.false_eq_true, false_iff]; exact fun h => c12 (g12.mpr h.2.2.2.2.2.2.2.2.2.2.2.2)⟩
 rw [c12, Bool.not_true, laws_sameNode.j0, if_neg Bool.false_ne_true]
 obtain ⟨r, e, g⟩ := lthings_l0 a0 a1 a2 a3 a4 a5 a6 a7 la8 a9 a10 la11 la12 b0 b1 b2 b3 b4 b5 b6 b7 lb8 b9 b10 lb11 lb12 c11 h11 (k := k) (by omega)
 exact ⟨r, e, g.trans ⟨fun h => ⟨c0, c1, c2, c3, c4, c5, c6, c7, g8.mp c8, c9, c10, h, g12.mp c12⟩, fun h => h.2.2.2.2.2.2.2.2.2.2.2.1⟩⟩
theorem same_impl (a0 : Int) (a1 : Int) (a2 : Int) (a3 : Int) (a4 : Int) (a5 : Int) (a6 : Int) (a7 : Int) (la8 : List Int) (a9 : Int) (a10 : Int) (la11 : List S33) (la12 : List Int) (b0 : Int) (b1 : Int) (b2 : Int) (b3 : Int) (b4 : Int) (b5 : Int) (b6 : Int) (b7 : Int) (lb8 : List Int) (b9 : Int) (b10 : Int) (lb11 : List S33) (lb12 : List Int) (h8 : la8.length ≤ 1048576) (h11 : la11.length ≤ 1048576) (h12 : la12.length ≤ 1048576) {k : Nat} (hk : 1048578 < k) : ∃ r, impl_SameNode.f k a0 a1 a2 a3 a4 a5 a6 a7 la8 a9 a10 la11 la12 b0 b1 b2 b3 b4 b5 b6 b7 lb8 b9 b10 lb11 lb12 = some r ∧ (r = true ↔ (a0 = b0 ∧ a1 = b1 ∧ a2 = b2 ∧ a3 = b3 ∧ a4 = b4 ∧ a5 = b5 ∧ a6 = b6 ∧ a7 = b7 ∧ la8 = lb8 ∧ a9 = b9 ∧ a10 = b10 ∧ la11 = lb11 ∧ la12 = lb12)) := by
 unfold impl_SameNode.f
 by_cases c0 : a0 = b0
 rotate_left
 ·rw [if_neg c0]; exact ⟨false, rfl, by simp only [Bool.false_eq_true, false_iff]; exact fun h => c0 h.1⟩
 rw [if_pos c0]
 by_cases c1 : a1 = b1
 rotate_left
 ·rw [if_neg c1]; exact ⟨false, rfl, by simp only [Bool.false_eq_true, false_iff]; exact fun h => c1 h.2.1⟩
 rw [if_pos c1]
 by_cases c2 : a2 = b2
 rotate_left
 ·rw [if_neg c2]; exact ⟨false, rfl, by simp only [Bool.false_eq_true, false_iff]; exact fun h => c2 h.2.2.1⟩
 rw [if_pos c2]
 by_cases c3 : a3 = b3
 rotate_left
 ·rw [if_neg c3]; exact ⟨false, rfl, by simp only [Bool.false_eq_true, false_iff]; exact fun h => c3 h.2.2.2.1⟩
 rw [if_pos c3]
 by_cases c4 : a4 = b4
 rotate_left
 ·rw [if_neg c4]; exact ⟨false, rfl, by simp only [Bool.false_eq_true, false_iff]; exact fun h => c4 h.2.2.2.2.1⟩
 rw [if_pos c4]
 by_cases c5 : a5 = b5
 rotate_left
 ·rw [if_neg c5]; exact ⟨false, rfl, by simp only [Bool.false_eq_true, false_iff]; exact fun h => c5 h.2.2.2.2.2.1⟩
 rw [if_pos c5]
 by_cases c6 : a6 = b6
 rotate_left
 ·rw [if_neg c6]; exact ⟨false, rfl, by simp only [Bool.false_eq_true, false_iff]; exact fun h => c6 h.2.2.2.2.2.2.1⟩
 rw [if_pos c6]
 by_cases c7 : a7 = b7
 rotate_left
 ·rw [if_neg c7]; exact ⟨false, rfl, by simp only [Bool.false_eq_true, false_iff]; exact fun h => c7 h.2.2.2.2.2.2.2.1⟩
 rw [if_pos c7]
 obtain ⟨r8, e8, g8⟩ := slEq_some la8 lb8 h8 (k := k) (by omega)
 rw [e8, Option.bind_some]
 by_cases c8 : r8 = true
 rotate_left
 ·rw [if_neg c8]; exact ⟨false, rfl, by simp only [Bool.false_eq_true, false_iff]; exact fun h => c8 (g8.mpr h.2.2.2.2.2.2.2.2.1)⟩
 rw [if_pos c8]
 by_cases c9 : a9 = b9
 rotate_left
 ·rw [if_neg c9]; exact ⟨false, rfl, by simp only [Bool.false_eq_true, false_iff]; exact fun h => c9 h.2.2.2.2.2.2.2.2.2.1⟩
 rw [if_pos c9]
 by_cases c10 : a10 = b10
 rotate_left
 ·rw [if_neg c10]; exact ⟨false, rfl, by simp only [Bool.false_eq_true, false_iff]; exact fun h => c10 h.2.2.2.2.2.2.2.2.2.2.1⟩
 rw [if_pos c10]
 obtain ⟨r11, e11, g11⟩ := implThing_some la11 lb11 h11 (k := k) (by omega)
 rw [e11, Option.bind_some]
 by_cases c11 : r11 = true
 rotate_left
 ·rw [if_neg c11]; exact ⟨false, rfl, by simp only [Bool.false_eq_true, false_iff]; exact fun h => c11 (g11.mpr h.2.2.2.2.2.2.2.2.2.2.2.1)⟩
 rw [if_pos c11]
 obtain ⟨r12, e12, g12⟩ := slEq_some la12 lb12 h12 (k := k) (by omega)
 rw [e12, Option.bind_some]
 exact ⟨r12, rfl, g12.trans ⟨fun h => ⟨c0, c1, c2, c3, c4, c5, c6, c7, g8.mp c8, c9, c10, g11.mp c11, h⟩, fun h => h.2.2.2.2.2.2.2.2.2.2.2.2⟩⟩
theorem bare_same (a0 a1 a2 a3 a4 a5 a6 a7 : Int) (l8 : List Int) (a9 a10 : Int) (l11 : List S33) (l12 : List Int) (h8 : l8.length ≤ 1048576) (h11 : l11.length ≤ 1048576) (h12 : l12.length ≤ 1048576) {k : Nat} (hk : 1048577 < k) :
  ∃ r, spec_Bare.f a0 a1 a2 a3 a4 a5 a6 a7 l8 a9 a10 l11 l12 = some r ∧ impl_Bare.f k a0 a1 a2 a3 a4 a5 a6 a7 l8 a9 a10 l11 l12 = some r := by
 unfold spec_Bare.f impl_Bare.f impl_SameNode.f
 rw [if_pos rfl, if_pos rfl]
 obtain ⟨r8, e8, g8⟩ := slEq_some l8 [] h8 hk
 obtain ⟨r12, e12, g12⟩ := slEq_some l12 [] h12 hk
 obtain ⟨r11, e11, g11⟩ := implThing_some l11 [] h11 hk
 rw [e8, e12, e11]
 by_cases c_a2 : a2 = 0
 rotate_left
 ·simp only [if_neg c_a2, Option.bind_some]; exact ⟨_, rfl, rfl⟩
 simp only [if_pos c_a2]
 by_cases c_a3 : a3 = 0
 rotate_left
 ·simp only [if_neg c_a3, Option.bind_some]; exact ⟨_, rfl, rfl⟩
 simp only [if_pos c_a3]
 by_cases c_a4 : a4 = 0
 rotate_left
 ·simp only [if_neg c_a4, Option.bind_some]; exact ⟨_, rfl, rfl⟩
 simp only [if_pos c_a4]
 by_cases c_a5 : a5 = 0
 rotate_left
 ·simp only [if_neg c_a5, Option.bind_some]; exact ⟨_, rfl, rfl⟩
 simp only [if_pos c_a5]
 by_cases c_a6 : a6 = 0
 rotate_left
 ·simp only [if_neg c_a6, Option.bind_some]; exact ⟨_, rfl, rfl⟩
 simp only [if_pos c_a6]
 by_cases c_a7 : a7 = 0
 rotate_left
 ·simp only [if_neg c_a7, Option.bind_some]; exact ⟨_, rfl, rfl⟩
 simp only [if_pos c_a7]
 have z8 : (l8.length : Int) = 0 ↔ l8 = [] := by
  cases l8 <;> simp <;> omega
 have z11 : (l11.length : Int) = 0 ↔ l11 = [] := by
  cases l11 <;> simp <;> omega
 have z12 : (l12.length : Int) = 0 ↔ l12 = [] := by
  cases l12 <;> simp <;> omega
 by_cases c8 : l8 = []
 rotate_left
 ·have := (not_congr g8).mpr c8
  simp only [if_neg ((not_congr z8).mpr c8), Option.bind_some, if_neg this]; exact ⟨_, rfl, rfl⟩
 simp only [if_pos (z8.mpr c8), Option.bind_some, if_pos (g8.mpr c8)]
 by_cases c9 : a9 = 0
 rotate_left
 ·simp only [if_neg c9, Option.bind_some]; exact ⟨_, rfl, rfl⟩
 simp only [if_pos c9]
 by_cases c10 : a10 = 0
 rotate_left
 ·simp only [if_neg c10, Option.bind_some]; exact ⟨_, rfl, rfl⟩
 simp only [if_pos c10]
 by_cases c11 : l11 = []
 rotate_left
 ·have := (not_congr g11).mpr c11
  simp only [if_neg ((not_congr z11).mpr c11), Option.bind_some, if_neg this]; exact ⟨_, rfl, rfl⟩
 simp only [if_pos (z11.mpr c11), Option.bind_some, if_pos (g11.mpr c11)]
 refine ⟨r12, ?_, rfl⟩
 congr 1
 by_cases c12 : l12 = []
 ·rw [g12.mpr c12]; simp only [beq_iff_eq]; exact z12.mpr c12
 ·have := (not_congr g12).mpr c12
  simp only [Bool.not_eq_true] at this
  rw [this]; simp only [beq_eq_false_iff_ne]; exact (not_congr z12).mpr c12
def allB (n : Nat) (P : Nat → Bool) : Bool := decide (∀ j, j < n → P j = true)
theorem allB_step (n : Nat) (P : Nat → Bool) : allB n P = true ↔ ∀ j, j < n → P j = true := by unfold allB; simp
/-- A loop that goes on while each element answers true. -/
theorem all_gen {γ : Type} (G : Nat → Int → Option γ) (n : Nat) (P : Nat → Bool) (bad : Nat → γ) (E : γ) (K : Nat)
  (yes : ∀ (k i : Nat), i < n → K ≤ k → P i = true → G (k + 1) (i : Int) = G k ((i + 1 : Nat) : Int))
  (no : ∀ (k i : Nat), i < n → K ≤ k → P i = false → G (k + 1) (i : Int) = some (bad i))
  (last : ∀ (k : Nat), K ≤ k → G (k + 1) (n : Int) = some E) :
  ∀ (d k i : Nat), n - i = d → i ≤ n → d + K < k → ((∀ j, i ≤ j → j < n → P j = true) ∧ G k (i : Int) = some E) ∨ (¬ (∀ j, i ≤ j → j < n → P j = true) ∧ ∃ j, G k (i : Int) = some (bad j)) := by
 intro d
 induction d with
 | zero =>
  intro k i hd hi hk
  obtain ⟨k, rfl⟩ : ∃ m, k = m + 1 := ⟨k - 1, by omega⟩
  have e : i = n := by omega
  subst e
  exact .inl ⟨fun j h1 h2 => absurd h2 (by omega), last k (by omega)⟩
 | succ d ih =>
  intro k i hd hi hk
  obtain ⟨k, rfl⟩ : ∃ m, k = m + 1 := ⟨k - 1, by omega⟩
  have hi' : i < n := by omega
  cases c : P i with
  | true =>
   rw [yes k i hi' (by omega) c]
   rcases ih k (i + 1) (by omega) (by omega) (by omega) with ⟨h, e⟩ | ⟨h, e⟩
   ·refine .inl ⟨fun j h1 h2 => ?_, e⟩
    by_cases ej : j = i
    ·subst ej; exact c
    ·exact h j (by omega) h2
   ·exact .inr ⟨fun f => h (fun j h1 h2 => f j (by omega) h2), e⟩
  | false =>
   refine .inr ⟨fun f => ?_, i, no k i hi' (by omega) c⟩
   have := f i (Nat.le_refl _) hi'
   rw [c] at this
   exact Bool.false_ne_true this
theorem all_bool (G : Nat → Int → Option Bool) (n : Nat) (P : Nat → Bool) (E : Bool) (K : Nat)
  (yes : ∀ (k i : Nat), i < n → K ≤ k → P i = true → G (k + 1) (i : Int) = G k ((i + 1 : Nat) : Int))
  (no : ∀ (k i : Nat), i < n → K ≤ k → P i = false → G (k + 1) (i : Int) = some false)
  (last : ∀ (k : Nat), K ≤ k → G (k + 1) (n : Int) = some E) (k : Nat) (hk : n + K < k) : G k 0 = some (allB n P && E) := by
 rcases all_gen G n P (fun _ => false) E K yes no last n k 0 (by omega) (by omega) hk with ⟨h, e⟩ | ⟨h, j, e⟩
 ·have : allB n P = true := (allB_step n P).mpr (fun j hj => h j (Nat.zero_le _) hj)
  rw [this]; exact e
 ·have : allB n P = false := by
   rw [Bool.eq_false_iff]; exact fun g => h (fun j _ hj => (allB_step n P).mp g j hj)
  rw [this]; exact e
theorem all_has (G : Nat → Int → Option Bool) (n : Nat) (P : Nat → Bool) (K : Nat)
  (yes : ∀ (k i : Nat), i < n → K ≤ k → P i = true → G (k + 1) (i : Int) = G k ((i + 1 : Nat) : Int))
  (no : ∀ (k i : Nat), i < n → K ≤ k → P i = false → G (k + 1) (i : Int) = some true)
  (last : ∀ (k : Nat), K ≤ k → G (k + 1) (n : Int) = some false) (k : Nat) (hk : n + K < k) : G k 0 = some (!allB n P) := by
 rcases all_gen G n P (fun _ => true) false K yes no last n k 0 (by omega) (by omega) hk with ⟨h, e⟩ | ⟨h, j, e⟩
 ·have : allB n P = true := (allB_step n P).mpr (fun j hj => h j (Nat.zero_le _) hj)
  rw [this]; exact e
 ·have : allB n P = false := by
   rw [Bool.eq_false_iff]; exact fun g => h (fun j _ hj => (allB_step n P).mp g j hj)
  rw [this]; exact e
theorem all_idx (G : Nat → Int → Option Int) (n : Nat) (P : Nat → Bool) (K : Nat)
  (yes : ∀ (k i : Nat), i < n → K ≤ k → P i = true → G (k + 1) (i : Int) = G k ((i + 1 : Nat) : Int))
  (no : ∀ (k i : Nat), i < n → K ≤ k → P i = false → G (k + 1) (i : Int) = some (i : Int))
  (last : ∀ (k : Nat), K ≤ k → G (k + 1) (n : Int) = some (-1)) (k : Nat) (hk : n + K < k) : (G k 0).bind (fun z => some (decide (z ≥ 0))) = some (!allB n P) := by
 rcases all_gen G n P (fun j => (j : Int)) (-1) K yes no last n k 0 (by omega) (by omega) hk with ⟨h, e⟩ | ⟨h, j, e⟩
 ·have : allB n P = true := (allB_step n P).mpr (fun j hj => h j (Nat.zero_le _) hj)
  rw [this]; rw [show G k 0 = some (-1) from e]; rfl
 ·have : allB n P = false := by
   rw [Bool.eq_false_iff]; exact fun g => h (fun j _ hj => (allB_step n P).mp g j hj)
  rw [this]; rw [show G k 0 = some (j : Int) from e]; simp
def Byte (x : Int) : Bool := decide (0 ≤ x ∧ x ≤ 255)
def Has (l : List Int) (x : Int) : Bool := !allB l.length (fun j => !decide (rd l (j : Int) = x))
theorem specHas (l : List Int) (x : Int) (hl : l.length ≤ 1048576) {k : Nat} (hk : 1048576 < k) : spec_l7Has.f k l x = some (Has l x) := by
 unfold spec_l7Has.f Has
 refine all_has (fun k i => spec_l7Has.l0 k l x i) l.length _ 0 ?_ ?_ ?_ k (by omega)
 ·intro k i h _ c
  have c1 : (i : Int) < (l.length : Int) := by omega
  have c2 : (0 : Int) ≤ (i : Int) := by omega
  have c3 : ¬ rd l (i : Int) = x := by simpa using c
  show spec_l7Has.l0 (k + 1) l x (i : Int) = _
  rw [spec_l7Has.l0, if_pos c1, if_pos c2, if_neg c3, w1 (by omega)]
 ·intro k i h _ c
  have c1 : (i : Int) < (l.length : Int) := by omega
  have c2 : (0 : Int) ≤ (i : Int) := by omega
  have c3 : rd l (i : Int) = x := by simpa using c
  show spec_l7Has.l0 (k + 1) l x (i : Int) = _
  rw [spec_l7Has.l0, if_pos c1, if_pos c2, if_pos c3]
 ·intro k _
  show spec_l7Has.l0 (k + 1) l x (l.length : Int) = _
  rw [spec_l7Has.l0, if_neg (Int.lt_irrefl _)]
theorem implHas (l : List Int) (x : Int) (hl : l.length ≤ 1048576) {k : Nat} (hk : 1048576 < k) : slices_Contains_int_int.f k l x = some (Has l x) := by
 unfold slices_Contains_int_int.f slices_Index_int_int.f Has
 refine all_idx (fun k i => slices_Index_int_int.l0 k l x (l.length : Int) i) l.length _ 0 ?_ ?_ ?_ k (by omega)
 ·intro k i h _ c
  have c1 : (i : Int) < (l.length : Int) := by omega
  have c2 : (0 : Int) ≤ (i : Int) := by omega
  have c3 : ¬ rd l (i : Int) = x := by simpa using c
  have c4 : ¬ x = rd l (i : Int) := fun g => c3 g.symm
  show slices_Index_int_int.l0 (k + 1) l x (l.length : Int) (i : Int) = _
  rw [slices_Index_int_int.l0, if_pos c1, if_pos c2, if_pos c1, if_neg c4, w1 (by omega)]
 ·intro k i h _ c
  have c1 : (i : Int) < (l.length : Int) := by omega
  have c2 : (0 : Int) ≤ (i : Int) := by omega
  have c3 : rd l (i : Int) = x := by simpa using c
  show slices_Index_int_int.l0 (k + 1) l x (l.length : Int) (i : Int) = _
  rw [slices_Index_int_int.l0, if_pos c1, if_pos c2, if_pos c1, if_pos c3.symm]
 ·intro k _
  show slices_Index_int_int.l0 (k + 1) l x (l.length : Int) (l.length : Int) = _
  rw [slices_Index_int_int.l0, if_neg (Int.lt_irrefl _)]
def Tags (l : List Int) : Bool := allB l.length (fun j => Byte (rd l (j : Int)))
theorem implTags (l : List Int) (hl : l.length ≤ 1048576) {k : Nat} (hk : 1048576 < k) : impl_areBytes.f k l = some (Tags l) := by
 unfold impl_areBytes.f slices_ContainsFunc_int_int.f slices_IndexFunc_int_int.f
 have := all_idx (fun k i => slices_IndexFunc_int_int.l0 k l (l.length : Int) i) l.length (fun j => Byte (rd l (j : Int))) 0 ?_ ?_ ?_ k (by omega)
 ·rw [show ((slices_IndexFunc_int_int.l0 k l (l.length : Int) 0).bind fun t => some (decide (t ≥ 0))) = _ from this, Option.bind_some, Bool.not_not]; rfl
 ·intro k i h _ c
  have c1 : (i : Int) < (l.length : Int) := by omega
  have c2 : (0 : Int) ≤ (i : Int) := by omega
  show slices_IndexFunc_int_int.l0 (k + 1) l (l.length : Int) (i : Int) = _
  unfold Byte at c
  rw [slices_IndexFunc_int_int.l0, if_pos c1, if_pos c2, if_pos c1, impl_areBytes_1.f, iwithin_some, Option.bind_some, Option.bind_some, c, if_neg (by simp), w1 (by omega)]
 ·intro k i h _ c
  have c1 : (i : Int) < (l.length : Int) := by omega
  have c2 : (0 : Int) ≤ (i : Int) := by omega
  show slices_IndexFunc_int_int.l0 (k + 1) l (l.length : Int) (i : Int) = _
  unfold Byte at c
  rw [slices_IndexFunc_int_int.l0, if_pos c1, if_pos c2, if_pos c1, impl_areBytes_1.f, iwithin_some, Option.bind_some, Option.bind_some, c, if_pos (by simp)]
 ·intro k _
  show slices_IndexFunc_int_int.l0 (k + 1) l (l.length : Int) (l.length : Int) = _
  rw [slices_IndexFunc_int_int.l0, if_neg (Int.lt_irrefl _)]
theorem specTags (n0 n1 n2 n3 n4 n5 n6 n7 : Int) (l8 : List Int) (n9 n10 : Int) (l11 : List S33) (l12 : List Int) (hl : l12.length ≤ 1048576) {k : Nat} (hk : 1048576 < k) : spec_NodeOk.l1 k 0 n0 n1 n2 n3 n4 n5 n6 n7 l8 n9 n10 l11 l12 = some (Tags l12) := by
 have := all_bool (fun k i => spec_NodeOk.l1 k i n0 n1 n2 n3 n4 n5 n6 n7 l8 n9 n10 l11 l12) l12.length (fun j => Byte (rd l12 (j : Int))) true 0 ?_ ?_ ?_ k (by omega)
 ·rw [Bool.and_true] at this; exact this
 ·intro k i h _ c
  have c1 : (i : Int) < (l12.length : Int) := by omega
  have c2 : (0 : Int) ≤ (i : Int) := by omega
  show spec_NodeOk.l1 (k + 1) (i : Int) n0 n1 n2 n3 n4 n5 n6 n7 l8 n9 n10 l11 l12 = _
  unfold Byte at c
  rw [spec_NodeOk.l1, if_pos c1, if_pos c2, within_some, Option.bind_some, c, if_pos rfl, w1 (by omega)]
 ·intro k i h _ c
  have c1 : (i : Int) < (l12.length : Int) := by omega
  have c2 : (0 : Int) ≤ (i : Int) := by omega
  show spec_NodeOk.l1 (k + 1) (i : Int) n0 n1 n2 n3 n4 n5 n6 n7 l8 n9 n10 l11 l12 = _
  unfold Byte at c
  rw [spec_NodeOk.l1, if_pos c1, if_pos c2, within_some, Option.bind_some, c, if_neg Bool.false_ne_true]
 ·intro k _
  show spec_NodeOk.l1 (k + 1) (l12.length : Int) n0 n1 n2 n3 n4 n5 n6 n7 l8 n9 n10 l11 l12 = _
  rw [spec_NodeOk.l1, if_neg (Int.lt_irrefl _)]
def Thg (a b c d e f : Int) (t : S33) : Bool := (spec_ThingOk.f 1 a b c d e f t.f0 t.f1 t.f2).getD false
theorem spec_up (k : Nat) (a b c d e f : Int) (p q r : Int) : spec_ThingOk.f (k + 1) a b c d e f p q r = spec_ThingOk.f 1 a b c d e f p q r := rfl
theorem impl_up (k : Nat) (a b c d e f : Int) (p q r : Int) : impl_ThingOk.f (k + 1) a b c d e f p q r = impl_ThingOk.f 1 a b c d e f p q r := rfl
theorem thg_spec (a b c d e f : Int) (t : S33) {k : Nat} (hk : 0 < k) : spec_ThingOk.f k a b c d e f t.f0 t.f1 t.f2 = some (Thg a b c d e f t) := by
 obtain ⟨k, rfl⟩ : ∃ m, k = m + 1 := ⟨k - 1, by omega⟩
 obtain ⟨z, h1, h2⟩ := thing_same 0 a b c d e f t.f0 t.f1 t.f2
 unfold Thg
 rw [spec_up, show spec_ThingOk.f 1 a b c d e f t.f0 t.f1 t.f2 = some z from h1]; rfl
theorem thg_impl (a b c d e f : Int) (t : S33) {k : Nat} (hk : 0 < k) : impl_ThingOk.f k a b c d e f t.f0 t.f1 t.f2 = some (Thg a b c d e f t) := by
 obtain ⟨k, rfl⟩ : ∃ m, k = m + 1 := ⟨k - 1, by omega⟩
 obtain ⟨z, h1, h2⟩ := thing_same 0 a b c d e f t.f0 t.f1 t.f2
 unfold Thg
 rw [impl_up, show impl_ThingOk.f 1 a b c d e f t.f0 t.f1 t.f2 = some z from h2, show spec_ThingOk.f 1 a b c d e f t.f0 t.f1 t.f2 = some z from h1]; rfl
def Thgs (a b c d e f : Int) (l : List S33) : Bool := allB l.length (fun j => Thg a b c d e f (rd_T33 l (j : Int)))
theorem implThgs (a b c d e f : Int) (l : List S33) (hl : l.length ≤ 1048576) {k : Nat} (hk : 1048577 < k) : impl_Thing_36.f k l a b c d e f = some (!Thgs a b c d e f l) := by
 unfold impl_Thing_36.f Thgs
 refine all_idx (fun k i => impl_Thing_36.ix k l a b c d e f i) l.length _ 1 ?_ ?_ ?_ k (by omega)
 ·intro k i h hk cc
  have c1 : (i : Int) < (l.length : Int) := by omega
  have c2 : (0 : Int) ≤ (i : Int) := by omega
  show impl_Thing_36.ix (k + 1) l a b c d e f (i : Int) = _
  rw [impl_Thing_36.ix, if_pos c1, if_pos c2, thg_impl a b c d e f _ (by omega), Option.bind_some, if_pos cc, w1 (by omega)]
 ·intro k i h hk cc
  have c1 : (i : Int) < (l.length : Int) := by omega
  have c2 : (0 : Int) ≤ (i : Int) := by omega
  show impl_Thing_36.ix (k + 1) l a b c d e f (i : Int) = _
  have c3 : ¬ Thg a b c d e f (rd_T33 l (i : Int)) = true := by
   intro g
   rw [g] at cc
   exact Bool.false_ne_true cc.symm
  rw [impl_Thing_36.ix, if_pos c1, if_pos c2, thg_impl a b c d e f _ (by omega), Option.bind_some, if_neg c3]
 ·intro k _
  show impl_Thing_36.ix (k + 1) l a b c d e f (l.length : Int) = _
  rw [impl_Thing_36.ix, if_neg (Int.lt_irrefl _)]
theorem specThgs (a b c d e f : Int) (n0 n1 n2 n3 n4 n5 n6 n7 : Int) (l8 : List Int) (n9 n10 : Int) (l11 : List S33) (l12 : List Int) (h11 : l11.length ≤ 1048576) (h12 : l12.length ≤ 1048576) {k : Nat} (hk : 2097154 < k) : spec_NodeOk.l0 k 0 a b c d e f n0 n1 n2 n3 n4 n5 n6 n7 l8 n9 n10 l11 l12 = some (Thgs a b c d e f l11 && Tags l12) := by
 refine all_bool (fun k i => spec_NodeOk.l0 k i a b c d e f n0 n1 n2 n3 n4 n5 n6 n7 l8 n9 n10 l11 l12) l11.length (fun j => Thg a b c d e f (rd_T33 l11 (j : Int))) (Tags l12) 1048577 ?_ ?_ ?_ k (by omega)
 ·intro k i h hk cc
  have c1 : (i : Int) < (l11.length : Int) := by omega
  have c2 : (0 : Int) ≤ (i : Int) := by omega
  show spec_NodeOk.l0 (k + 1) (i : Int) a b c d e f n0 n1 n2 n3 n4 n5 n6 n7 l8 n9 n10 l11 l12 = _
  rw [spec_NodeOk.l0, if_pos c1, if_pos c2, thg_spec a b c d e f _ (by omega), Option.bind_some, if_pos cc, w1 (by omega)]
 ·intro k i h hk cc
  have c1 : (i : Int) < (l11.length : Int) := by omega
  have c2 : (0 : Int) ≤ (i : Int) := by omega
  show spec_NodeOk.l0 (k + 1) (i : Int) a b c d e f n0 n1 n2 n3 n4 n5 n6 n7 l8 n9 n10 l11 l12 = _
  have c3 : ¬ Thg a b c d e f (rd_T33 l11 (i : Int)) = true := by
   intro g
   rw [g] at cc
   exact Bool.false_ne_true cc.symm
  rw [spec_NodeOk.l0, if_pos c1, if_pos c2, thg_spec a b c d e f _ (by omega), Option.bind_some, if_neg c3]
 ·intro k hk
  show spec_NodeOk.l0 (k + 1) (l11.length : Int) a b c d e f n0 n1 n2 n3 n4 n5 n6 n7 l8 n9 n10 l11 l12 = _
  rw [spec_NodeOk.l0, if_neg (Int.lt_irrefl _), specTags n0 n1 n2 n3 n4 n5 n6 n7 l8 n9 n10 l11 l12 h12 (by omega)]
def Chk (a : Int) (l : List Int) (j : Nat) : Bool := decide (0 ≤ rd l (j : Int) ∧ rd l (j : Int) ≤ wrap64 (a - 1)) && !Has (l.take j) (rd l (j : Int))
def Chks (a : Int) (l : List Int) : Bool := allB l.length (Chk a l)
theorem chk_no (a : Int) (l : List Int) (j : Nat) (g : 0 ≤ rd l (j : Int) ∧ rd l (j : Int) ≤ wrap64 (a - 1)) (h : Chk a l j = false) : Has (l.take j) (rd l (j : Int)) = true := by
 unfold Chk at h
 rw [decide_eq_true g] at h
 simpa using h
theorem chk_yes (a : Int) (l : List Int) (j : Nat) (h : Chk a l j = true) : (0 ≤ rd l (j : Int) ∧ rd l (j : Int) ≤ wrap64 (a - 1)) ∧ Has (l.take j) (rd l (j : Int)) = false := by
 unfold Chk at h
 simpa using h
theorem implChks (a b c d e f : Int) (l : List Int) (hl : l.length ≤ 1048576) {k : Nat} (hk : 2097154 < k) : impl_distinct.f k a b c d e f l = some (Chks a l) := by
 unfold impl_distinct.f
 have := all_bool (fun k i => impl_distinct.l0 k l l (l.length : Int) i a b c d e f) l.length (Chk a l) true 1048577 ?_ ?_ ?_ k (by omega)
 ·rw [Bool.and_true] at this; exact this
 ·intro k i h hk cc
  have c1 : (i : Int) < (l.length : Int) := by omega
  have c2 : (0 : Int) ≤ (i : Int) := by omega
  have c3 : (i : Int) ≤ (l.length : Int) := by omega
  have ht : (l.take i).length ≤ 1048576 := by rw [List.length_take]; omega
  show impl_distinct.l0 (k + 1) l l (l.length : Int) (i : Int) a b c d e f = _
  obtain ⟨g1, g2⟩ := chk_yes a l i cc
  rw [impl_distinct.l0, if_pos c1, if_pos c2, if_pos c1, iwithin_some, Option.bind_some, if_pos (decide_eq_true g1), if_pos c3, Int.toNat_natCast, implHas _ _ ht (by omega), Option.bind_some, g2, if_neg Bool.false_ne_true, w1 (by omega)]
 ·intro k i h hk cc
  have c1 : (i : Int) < (l.length : Int) := by omega
  have c2 : (0 : Int) ≤ (i : Int) := by omega
  have c3 : (i : Int) ≤ (l.length : Int) := by omega
  have ht : (l.take i).length ≤ 1048576 := by rw [List.length_take]; omega
  show impl_distinct.l0 (k + 1) l l (l.length : Int) (i : Int) a b c d e f = _
  rw [impl_distinct.l0, if_pos c1, if_pos c2, if_pos c1, iwithin_some, Option.bind_some]
  by_cases g : 0 ≤ rd l (i : Int) ∧ rd l (i : Int) ≤ wrap64 (a - 1)
  ·rw [if_pos (decide_eq_true g), if_pos c3, Int.toNat_natCast, implHas _ _ ht (by omega), Option.bind_some, if_pos (chk_no a l i g cc)]
  ·rw [if_neg (by simpa using g)]
 ·intro k hk
  show impl_distinct.l0 (k + 1) l l (l.length : Int) (l.length : Int) a b c d e f = _
  rw [impl_distinct.l0, if_neg (Int.lt_irrefl _)]
def Cur (b : Int) (l : List Int) (x y : Int) : Bool := if x = 0 then y == 0 else Has l (wrap64 (x - 1)) && decide (0 ≤ y ∧ y ≤ b)
theorem specChks (a b c d e f : Int) (n0 n1 n2 n3 n4 n5 n6 n7 : Int) (l8 : List Int) (n9 n10 : Int) (l11 : List S33) (l12 : List Int) (hl : l8.length ≤ 1048576) {k : Nat} (hk : 2097154 < k) : spec_l7Chunks.f k a b c d e f n0 n1 n2 n3 n4 n5 n6 n7 l8 n9 n10 l11 l12 = some (Chks a l8 && Cur b l8 n9 n10) := by
 unfold spec_l7Chunks.f
 refine all_bool (fun k i => spec_l7Chunks.l0 k i a b c d e f n0 n1 n2 n3 n4 n5 n6 n7 l8 n9 n10 l11 l12) l8.length (Chk a l8) (Cur b l8 n9 n10) 1048577 ?_ ?_ ?_ k (by omega)
 ·intro k i h hk cc
  have c1 : (i : Int) < (l8.length : Int) := by omega
  have c2 : (0 : Int) ≤ (i : Int) := by omega
  have c3 : (i : Int) ≤ (l8.length : Int) := by omega
  have ht : (l8.take i).length ≤ 1048576 := by rw [List.length_take]; omega
  show spec_l7Chunks.l0 (k + 1) (i : Int) a b c d e f n0 n1 n2 n3 n4 n5 n6 n7 l8 n9 n10 l11 l12 = _
  obtain ⟨g1, g2⟩ := chk_yes a l8 i cc
  rw [spec_l7Chunks.l0, if_pos c1, if_pos c2, within_some, Option.bind_some, if_pos (decide_eq_true g1), if_pos c3, Int.toNat_natCast, specHas _ _ ht (by omega), Option.bind_some, g2, if_neg Bool.false_ne_true, w1 (by omega)]
 ·intro k i h hk cc
  have c1 : (i : Int) < (l8.length : Int) := by omega
  have c2 : (0 : Int) ≤ (i : Int) := by omega
  have c3 : (i : Int) ≤ (l8.length : Int) := by omega
  have ht : (l8.take i).length ≤ 1048576 := by rw [List.length_take]; omega
  show spec_l7Chunks.l0 (k + 1) (i : Int) a b c d e f n0 n1 n2 n3 n4 n5 n6 n7 l8 n9 n10 l11 l12 = _
  rw [spec_l7Chunks.l0, if_pos c1, if_pos c2, within_some, Option.bind_some]
  by_cases g : 0 ≤ rd l8 (i : Int) ∧ rd l8 (i : Int) ≤ wrap64 (a - 1)
  ·rw [if_pos (decide_eq_true g), if_pos c3, Int.toNat_natCast, specHas _ _ ht (by omega), Option.bind_some, if_pos (chk_no a l8 i g cc)]
  ·rw [if_neg (by simpa using g)]
 ·intro k hk
  show spec_l7Chunks.l0 (k + 1) (l8.length : Int) a b c d e f n0 n1 n2 n3 n4 n5 n6 n7 l8 n9 n10 l11 l12 = _
  rw [spec_l7Chunks.l0, if_neg (Int.lt_irrefl _)]
  unfold Cur
  by_cases g : n9 = 0
  ·rw [if_pos g, if_pos g]
  ·rw [if_neg g, if_neg g, specHas _ _ hl (by omega), Option.bind_some]
   cases Has l8 (wrap64 (n9 - 1)) with
   | true => rw [if_pos rfl, within_some, Option.bind_some]; rfl
   | false => rw [if_neg Bool.false_ne_true]; rfl
theorem specJ1 (x : Bool) (a b c d e f : Int) (n0 n1 n2 n3 n4 n5 n6 n7 : Int) (l8 : List Int) (n9 n10 : Int) (l11 : List S33) (l12 : List Int) (h11 : l11.length ≤ 1048576) (h12 : l12.length ≤ 1048576) {k : Nat} (hk : 2097155 < k) : spec_NodeOk.j1 k x a b c d e f n0 n1 n2 n3 n4 n5 n6 n7 l8 n9 n10 l11 l12 = some (!x && (Thgs a b c d e f l11 && Tags l12)) := by
 obtain ⟨k, rfl⟩ : ∃ m, k = m + 1 := ⟨k - 1, by omega⟩
 rw [spec_NodeOk.j1]
 cases x with
 | true => rw [if_pos rfl]; rfl
 | false => rw [if_neg Bool.false_ne_true, specThgs a b c d e f n0 n1 n2 n3 n4 n5 n6 n7 l8 n9 n10 l11 l12 h11 h12 (by omega)]; rfl
theorem implJ2 (x : Bool) (a b c d e f : Int) (n0 n1 n2 n3 n4 n5 n6 n7 : Int) (l8 : List Int) (n9 n10 : Int) (l11 : List S33) (l12 : List Int) (h11 : l11.length ≤ 1048576) (h12 : l12.length ≤ 1048576) {k : Nat} (hk : 2097155 < k) : impl_NodeOk.j2 k x a b c d e f n0 n1 n2 n3 n4 n5 n6 n7 l8 n9 n10 l11 l12 = some (!x && (decide ((l11.length : Int) ≤ 12) && (decide ((l12.length : Int) ≤ 6) && (Thgs a b c d e f l11 && Tags l12)))) := by
 obtain ⟨k, rfl⟩ : ∃ m, k = m + 1 := ⟨k - 1, by omega⟩
 rw [impl_NodeOk.j2]
 cases x with
 | true => rw [if_pos rfl]; rfl
 | false =>
  rw [if_neg Bool.false_ne_true]
  by_cases g1 : (l11.length : Int) ≤ 12
  ·rw [if_pos g1]
   by_cases g2 : (l12.length : Int) ≤ 6
   ·rw [if_pos g2, implTags l12 h12 (by omega), Option.bind_some, implThgs a b c d e f l11 h11 (by omega), Option.bind_some, decide_eq_true g1, decide_eq_true g2]
    cases Tags l12 <;> cases Thgs a b c d e f l11 <;> rfl
   ·rw [if_neg g2, decide_eq_true g1, decide_eq_false g2]; rfl
  ·rw [if_neg g1, decide_eq_false g1]; rfl
def In (c x : Int) : Prop := 0 ≤ x ∧ x ≤ c
instance (c x : Int) : Decidable (In c x) := by unfold In; infer_instance
theorem links (a b c d e f : Int) (n0 n1 n2 n3 n4 n5 n6 n7 : Int) (l8 : List Int) (n9 n10 : Int) (l11 : List S33) (l12 : List Int) (p q r s : Int) (k : Nat) : impl_NodeOk.l0 (k + 5) [p, q, r, s] 4 0 a b c d e f n0 n1 n2 n3 n4 n5 n6 n7 l8 n9 n10 l11 l12 = if In c p then (if In c q then (if In c r then (if In c s then impl_NodeOk.l0 (k + 1) [p, q, r, s] 4 4 a b c d e f n0 n1 n2 n3 n4 n5 n6 n7 l8 n9 n10 l11 l12 else some false) else some false) else some false) else some false := by
 have e0 : rd [p, q, r, s] 0 = p := rfl
 have e1 : rd [p, q, r, s] 1 = q := rfl
 have e2 : rd [p, q, r, s] 2 = r := rfl
 have e3 : rd [p, q, r, s] 3 = s := rfl
 have f0 : wrap64 (0 + 1) = 1 := by unfold wrap64; omega
 have f1 : wrap64 (1 + 1) = 2 := by unfold wrap64; omega
 have f2 : wrap64 (2 + 1) = 3 := by unfold wrap64; omega
 have f3 : wrap64 (3 + 1) = 4 := by unfold wrap64; omega
 have g : (([p, q, r, s] : List Int).length : Int) = 4 := rfl
 have step : ∀ (m : Nat) (i x : Int), 0 ≤ i → i < 4 → rd [p, q, r, s] i = x → impl_NodeOk.l0 (m + 1) [p, q, r, s] 4 i a b c d e f n0 n1 n2 n3 n4 n5 n6 n7 l8 n9 n10 l11 l12 = if In c x then impl_NodeOk.l0 m [p, q, r, s] 4 (wrap64 (i + 1)) a b c d e f n0 n1 n2 n3 n4 n5 n6 n7 l8 n9 n10 l11 l12 else some false := by
  intro m i x h0 h1 hx
  have h2 : i < (([p, q, r, s] : List Int).length : Int) := by rw [g]; exact h1
  rw [impl_NodeOk.l0, if_pos h1, if_pos h0, if_pos h2, hx, iwithin_some, Option.bind_some]
  by_cases c0 : In c x
  ·rw [if_pos c0, if_pos (decide_eq_true (show 0 ≤ x ∧ x ≤ c from c0))]
  ·rw [if_neg c0, if_neg (by simpa using (show ¬ (0 ≤ x ∧ x ≤ c) from c0))]
 rw [step (k + 4) 0 p (by omega) (by omega) e0, f0, step (k + 3) 1 q (by omega) (by omega) e1, f1, step (k + 2) 2 r (by omega) (by omega) e2, f2, step (k + 1) 3 s (by omega) (by omega) e3, f3]
theorem rest (a b c d e f : Int) (n0 n1 n2 n3 n4 n5 n6 n7 : Int) (l8 : List Int) (n9 n10 : Int) (l11 : List S33) (l12 : List Int) (L : List Int) (h8 : l8.length ≤ 1048576) (h11 : l11.length ≤ 1048576) (h12 : l12.length ≤ 1048576) {k : Nat} (hk : 2097156 < k) :
  impl_NodeOk.l0 (k + 1) L 4 4 a b c d e f n0 n1 n2 n3 n4 n5 n6 n7 l8 n9 n10 l11 l12 = some (decide (0 ≤ n2) && (decide (0 ≤ n4) && (Chks a l8 && (Cur b l8 n9 n10 && (decide (0 ≤ b) && (decide ((l11.length : Int) ≤ 12) && (decide ((l12.length : Int) ≤ 6) && (Thgs a b c d e f l11 && Tags l12)))))))) := by
 rw [impl_NodeOk.l0, if_neg (Int.lt_irrefl _)]
 by_cases g1 : n2 < 0
 ·rw [if_pos g1, implJ2 true a b c d e f n0 n1 n2 n3 n4 n5 n6 n7 l8 n9 n10 l11 l12 h11 h12 (by omega), decide_eq_false (show ¬ 0 ≤ n2 by omega)]; rfl
 rw [if_neg g1, decide_eq_true (show 0 ≤ n2 by omega)]
 by_cases g2 : n4 < 0
 ·rw [if_pos g2, implJ2 true a b c d e f n0 n1 n2 n3 n4 n5 n6 n7 l8 n9 n10 l11 l12 h11 h12 (by omega), decide_eq_false (show ¬ 0 ≤ n4 by omega)]; rfl
 rw [if_neg g2, decide_eq_true (show 0 ≤ n4 by omega), implChks a b c d e f l8 h8 (by omega), Option.bind_some]
 cases Chks a l8 with
 | false => rw [if_neg Bool.false_ne_true, implJ2 true a b c d e f n0 n1 n2 n3 n4 n5 n6 n7 l8 n9 n10 l11 l12 h11 h12 (by omega)]; rfl
 | true =>
  rw [if_pos rfl]
  unfold Cur
  by_cases g3 : n9 = 0
  ·rw [if_pos g3, if_pos g3, iwithin_some, Option.bind_some]
   by_cases g4 : 0 ≤ n10 ∧ n10 ≤ b
   ·rw [if_pos (decide_eq_true g4), implJ2 _ a b c d e f n0 n1 n2 n3 n4 n5 n6 n7 l8 n9 n10 l11 l12 h11 h12 (by omega), decide_eq_true (show 0 ≤ b by omega)]
    cases c0 : n10 == 0 <;> simp only [bne, c0] <;> rfl
   ·rw [if_neg (by simpa using g4), implJ2 true a b c d e f n0 n1 n2 n3 n4 n5 n6 n7 l8 n9 n10 l11 l12 h11 h12 (by omega)]
    by_cases g5 : n10 = 0
    ·rw [decide_eq_false (show ¬ 0 ≤ b by omega)]; simp
    ·rw [beq_false_of_ne g5]; rfl
  ·rw [if_neg g3, if_neg g3, implHas l8 _ h8 (by omega), Option.bind_some]
   cases Has l8 (wrap64 (n9 - 1)) with
   | false => rw [if_neg Bool.false_ne_true, implJ2 true a b c d e f n0 n1 n2 n3 n4 n5 n6 n7 l8 n9 n10 l11 l12 h11 h12 (by omega)]; rfl
   | true =>
    rw [if_pos rfl, iwithin_some, Option.bind_some]
    by_cases g4 : 0 ≤ n10 ∧ n10 ≤ b
    ·rw [if_pos (decide_eq_true g4), implJ2 false a b c d e f n0 n1 n2 n3 n4 n5 n6 n7 l8 n9 n10 l11 l12 h11 h12 (by omega), decide_eq_true g4, decide_eq_true (show 0 ≤ b by omega)]; rfl
    ·rw [if_neg (by simpa using g4), implJ2 true a b c d e f n0 n1 n2 n3 n4 n5 n6 n7 l8 n9 n10 l11 l12 h11 h12 (by omega), decide_eq_false g4]; rfl
theorem specLive (a b c d e f : Int) (n0 n1 n2 n3 n4 n5 n6 n7 : Int) (l8 : List Int) (n9 n10 : Int) (l11 : List S33) (l12 : List Int) (hb : 0 ≤ b) (h8 : l8.length ≤ 1048576) (h11 : l11.length ≤ 1048576) (h12 : l12.length ≤ 1048576) (h0 : n0 = 1) {k : Nat} (hk : 2097156 < k) :
  spec_NodeOk.j0 (k + 1) false a b c d e f n0 n1 n2 n3 n4 n5 n6 n7 l8 n9 n10 l11 l12 = if In c n3 then (if In c n5 then (if In c n6 then (if In c n7 then some (decide (0 ≤ n2) && (decide (0 ≤ n4) && (Chks a l8 && (Cur b l8 n9 n10 && (decide (0 ≤ b) && (decide ((l11.length : Int) ≤ 12) && (decide ((l12.length : Int) ≤ 6) && (Thgs a b c d e f l11 && Tags l12)))))))) else some false) else some false) else some false) else some false := by
 have J : ∀ x, spec_NodeOk.j1 k x a b c d e f n0 n1 n2 n3 n4 n5 n6 n7 l8 n9 n10 l11 l12 = _ := fun x => specJ1 x a b c d e f n0 n1 n2 n3 n4 n5 n6 n7 l8 n9 n10 l11 l12 h11 h12 (by omega)
 have JT : spec_NodeOk.j1 k true a b c d e f n0 n1 n2 n3 n4 n5 n6 n7 l8 n9 n10 l11 l12 = some false := J true
 rw [spec_NodeOk.j0, if_neg Bool.false_ne_true, if_pos h0, JT]
 by_cases g1 : n2 < 0
 ·rw [if_pos g1, decide_eq_false (show ¬ 0 ≤ n2 by omega)]
  simp only [Bool.false_and, ite_self]
 rw [if_neg g1, decide_eq_true (show 0 ≤ n2 by omega)]
 by_cases g2 : n4 < 0
 ·rw [if_pos g2, decide_eq_false (show ¬ 0 ≤ n4 by omega)]
  simp only [Bool.false_and, Bool.and_false, ite_self]
 rw [if_neg g2, decide_eq_true (show 0 ≤ n4 by omega)]
 simp only [within_some, Option.bind_some]
 by_cases i3 : In c n3
 rotate_left
 ·rw [if_neg i3, if_neg (by simpa using (show ¬ (0 ≤ n3 ∧ n3 ≤ c) from i3))]
 rw [if_pos i3, if_pos (decide_eq_true (show 0 ≤ n3 ∧ n3 ≤ c from i3))]
 by_cases i5 : In c n5
 rotate_left
 ·rw [if_neg i5, if_neg (by simpa using (show ¬ (0 ≤ n5 ∧ n5 ≤ c) from i5))]
 rw [if_pos i5, if_pos (decide_eq_true (show 0 ≤ n5 ∧ n5 ≤ c from i5))]
 by_cases i6 : In c n6
 rotate_left
 ·rw [if_neg i6, if_neg (by simpa using (show ¬ (0 ≤ n6 ∧ n6 ≤ c) from i6))]
 rw [if_pos i6, if_pos (decide_eq_true (show 0 ≤ n6 ∧ n6 ≤ c from i6))]
 by_cases i7 : In c n7
 rotate_left
 ·rw [if_neg i7, if_neg (by simpa using (show ¬ (0 ≤ n7 ∧ n7 ≤ c) from i7))]
 rw [if_pos i7, if_pos (decide_eq_true (show 0 ≤ n7 ∧ n7 ≤ c from i7)), specChks a b c d e f n0 n1 n2 n3 n4 n5 n6 n7 l8 n9 n10 l11 l12 h8 (by omega), Option.bind_some, decide_eq_true hb]
 cases Chks a l8 with
 | false => rw [Bool.false_and, if_neg Bool.false_ne_true]; rfl
 | true =>
  cases Cur b l8 n9 n10 with
  | false => rw [Bool.and_false, if_neg Bool.false_ne_true]; rfl
  | true =>
   rw [Bool.and_true, if_pos rfl]
   by_cases g3 : (l11.length : Int) > 12
   ·rw [if_pos g3, decide_eq_false (show ¬ (l11.length : Int) ≤ 12 by omega)]; rfl
   ·rw [if_neg g3, J, decide_eq_true (show (l11.length : Int) ≤ 12 by omega)]
    by_cases g4 : (l12.length : Int) > 6
    ·rw [decide_eq_true g4, decide_eq_false (show ¬ (l12.length : Int) ≤ 6 by omega)]; rfl
    ·rw [decide_eq_false g4, decide_eq_true (show (l12.length : Int) ≤ 6 by omega)]; rfl
theorem nodeok_same (a b c d e f : Int) (n0 n1 n2 n3 n4 n5 n6 n7 : Int) (l8 : List Int) (n9 n10 : Int) (l11 : List S33) (l12 : List Int) (h8 : l8.length ≤ 1048576) (h11 : l11.length ≤ 1048576) (h12 : l12.length ≤ 1048576) {k : Nat} (hk : 3000000 < k) :
  ∃ r, spec_NodeOk.f k a b c d e f n0 n1 n2 n3 n4 n5 n6 n7 l8 n9 n10 l11 l12 = some r ∧ impl_NodeOk.f k a b c d e f n0 n1 n2 n3 n4 n5 n6 n7 l8 n9 n10 l11 l12 = some r := by
 obtain ⟨k, rfl⟩ : ∃ m, k = m + 7 := ⟨k - 7, by omega⟩
 have sf : spec_NodeOk.j0 (k + 7) true a b c d e f n0 n1 n2 n3 n4 n5 n6 n7 l8 n9 n10 l11 l12 = some false := by rw [spec_NodeOk.j0, if_pos rfl]
 have mf : impl_NodeOk.j0 (k + 7) true a b c d e f n0 n1 n2 n3 n4 n5 n6 n7 l8 n9 n10 l11 l12 = some false := by rw [impl_NodeOk.j0, if_pos rfl]
 unfold spec_NodeOk.f impl_NodeOk.f
 have hc : impl_ConfOk.f a b c d e f = spec_ConfOk.f a b c d e f := rfl
 rw [hc, conf_some, Option.bind_some, Option.bind_some]
 by_cases g0 : ConfIn a b c d e f
 rotate_left
 ·rw [if_neg (by simpa using g0), if_neg (by simpa using g0), sf, mf]; exact ⟨_, rfl, rfl⟩
 rw [if_pos (decide_eq_true g0), if_pos (decide_eq_true g0), within_some, iwithin_some, Option.bind_some, Option.bind_some]
 by_cases g1 : 0 ≤ n0 ∧ n0 ≤ 3
 rotate_left
 ·rw [if_neg (by simpa using g1), if_neg (by simpa using g1), sf, mf]; exact ⟨_, rfl, rfl⟩
 rw [if_pos (decide_eq_true g1), if_pos (decide_eq_true g1), within_some, iwithin_some, Option.bind_some, Option.bind_some]
 by_cases g2 : 1 ≤ n1 ∧ n1 ≤ f
 rotate_left
 ·rw [decide_eq_false g2, Bool.not_false, sf, mf]; exact ⟨_, rfl, rfl⟩
 rw [decide_eq_true g2, Bool.not_true]
 by_cases g3 : n0 = 1
 ·have hb : 0 ≤ b := by have := g0.2.1.1; omega
  rw [specLive a b c d e f n0 n1 n2 n3 n4 n5 n6 n7 l8 n9 n10 l11 l12 hb h8 h11 h12 g3 (k := k + 6) (by omega)]
  rw [impl_NodeOk.j0, if_neg Bool.false_ne_true, if_pos g3, Option.bind_some]
  rw [show (([n3, n5, n6, n7] : List Int).length : Int) = 4 from rfl, links a b c d e f n0 n1 n2 n3 n4 n5 n6 n7 l8 n9 n10 l11 l12 n3 n5 n6 n7 (k + 1), rest a b c d e f n0 n1 n2 n3 n4 n5 n6 n7 l8 n9 n10 l11 l12 [n3, n5, n6, n7] h8 h11 h12 (k := k + 1) (by omega)]
  by_cases i3 : In c n3
  rotate_left
  ·rw [if_neg i3]; exact ⟨_, rfl, rfl⟩
  by_cases i5 : In c n5
  rotate_left
  ·rw [if_pos i3, if_neg i5]; exact ⟨_, rfl, rfl⟩
  by_cases i6 : In c n6
  rotate_left
  ·rw [if_pos i3, if_pos i5, if_neg i6]; exact ⟨_, rfl, rfl⟩
  by_cases i7 : In c n7
  rotate_left
  ·rw [if_pos i3, if_pos i5, if_pos i6, if_neg i7]; exact ⟨_, rfl, rfl⟩
  ·rw [if_pos i3, if_pos i5, if_pos i6, if_pos i7]; exact ⟨_, rfl, rfl⟩
 ·obtain ⟨r, e1, e2⟩ := bare_same n0 n1 n2 n3 n4 n5 n6 n7 l8 n9 n10 l11 l12 h8 h11 h12 (k := k + 6) (by omega)
  refine ⟨r, ?_, ?_⟩
  ·rw [spec_NodeOk.j0, if_neg Bool.false_ne_true, if_neg g3, e1]; rfl
  ·rw [impl_NodeOk.j0, if_neg Bool.false_ne_true, if_neg g3, e2]; rfl
theorem digW (x : Int) (h0 : -9223372036854775808 ≤ x) (h1 : x ≤ 9223372036854775807) :
  (if (Int.tmod x 10) < 0 then wrap64 (48 + (wrap64 (-(Int.tmod x 10)))) % 256 else wrap64 (48 + (Int.tmod x 10)) % 256) = ((48 + x.natAbs % 10 : Nat) : Int) ∧ (wrap64 (Int.tdiv x 10)).natAbs = x.natAbs / 10 ∧ wrap64 (Int.tdiv x 10) = Int.tdiv x 10 ∧ -9223372036854775808 ≤ Int.tdiv x 10 ∧ Int.tdiv x 10 ≤ 9223372036854775807 := by
 rcases Int.eq_nat_or_neg x with ⟨u, hu | hu⟩
 ·subst hu
  have e1 : Int.tmod (u : Int) 10 = ((u % 10 : Nat) : Int) := (Int.ofNat_tmod u 10).symm
  have e2 : Int.tdiv (u : Int) 10 = ((u / 10 : Nat) : Int) := (Int.ofNat_tdiv u 10).symm
  have e3 : (u : Int).natAbs = u := Int.natAbs_natCast u
  have w : wrap64 ((u / 10 : Nat) : Int) = ((u / 10 : Nat) : Int) := by unfold wrap64; omega
  rw [e1, e2, e3, w, if_neg (by omega)]
  refine ⟨?_, ?_, rfl, ?_, ?_⟩ <;> (try unfold wrap64) <;> omega
 ·subst hu
  have e1 : Int.tmod (-(u : Int)) 10 = -((u % 10 : Nat) : Int) := by rw [Int.neg_tmod, show Int.tmod (u : Int) 10 = ((u % 10 : Nat) : Int) from (Int.ofNat_tmod u 10).symm]
  have e2 : Int.tdiv (-(u : Int)) 10 = -((u / 10 : Nat) : Int) := by rw [Int.neg_tdiv, show Int.tdiv (u : Int) 10 = ((u / 10 : Nat) : Int) from (Int.ofNat_tdiv u 10).symm]
  have e3 : (-(u : Int)).natAbs = u := by rw [Int.natAbs_neg]; exact Int.natAbs_natCast u
  have w : wrap64 (-((u / 10 : Nat) : Int)) = -((u / 10 : Nat) : Int) := by unfold wrap64; omega
  have w2 : wrap64 (-(-((u % 10 : Nat) : Int))) = ((u % 10 : Nat) : Int) := by unfold wrap64; omega
  rw [e1, e2, e3, w, w2]
  refine ⟨?_, ?_, rfl, ?_, ?_⟩
  ·by_cases c : (-((u % 10 : Nat) : Int)) < 0
   ·rw [if_pos c]; unfold wrap64; omega
   ·rw [if_neg c]; unfold wrap64; omega
  all_goals omega
def digs (u : Nat) : List UInt8 := if u = 0 then [] else Lib.decDigits u
theorem digs_step (u : Nat) (h : u ≠ 0) : digs u = digs (u / 10) ++ [UInt8.ofNat (48 + u % 10)] := by
 unfold digs
 rw [if_neg h, Lib.decDigits]
 by_cases c : u < 10
 ·rw [dif_pos c, if_pos (by omega), show u % 10 = u by omega]
  rfl
 ·rw [dif_neg c, if_neg (by omega)]
def finN (a0 : Int) (l : List UInt8) : List UInt8 := if a0 < 0 then 45 :: l else l
theorem digs_len : ∀ (j u : Nat), u < 10 ^ j → (digs u).length ≤ j
 | 0, u, h => by
  have : u = 0 := by simp at h; exact h
  subst this
  simp [digs]
 | j + 1, u, h => by
  by_cases c : u = 0
  ·subst c
   simp [digs]
  ·rw [digs_step u c, List.length_append]
   have := digs_len j (u / 10) (by rw [Nat.pow_succ] at h; omega)
   simp
   omega
theorem numS_l0 (a0 : Int) : ∀ (j k : Nat) (x : Int) (l : List UInt8), x.natAbs < 10 ^ j → j < k → -9223372036854775808 ≤ x → x ≤ 9223372036854775807 → l.length + j ≤ 1000 →
  spec_NumText.l0 k a0 (⟨l.toArray⟩ : ByteArray) x = some (⟨(finN a0 (digs x.natAbs ++ l)).toArray⟩ : ByteArray) := by
 have stop : ∀ (k : Nat) (l : List UInt8), l.length ≤ 1000 → spec_NumText.l0 (k + 1) a0 (⟨l.toArray⟩ : ByteArray) 0 = some (⟨(finN a0 (digs (0 : Int).natAbs ++ l)).toArray⟩ : ByteArray) := by
  intro k l hl
  have hd : digs (0 : Int).natAbs = [] := rfl
  have hs : (⟨l.toArray⟩ : ByteArray).size = l.length := by simp [ByteArray.size]
  rw [hd]
  simp only [spec_NumText.l0, if_true, List.nil_append, finN]
  by_cases c : a0 < 0
  ·rw [if_pos c, if_pos (by omega), if_pos c]
   rfl
  ·rw [if_neg c, if_neg c]
 intro j
 induction j with
 | zero =>
  intro k x l h hk _ _ hl
  obtain ⟨k, rfl⟩ : ∃ m, k = m + 1 := ⟨k - 1, by omega⟩
  have e : x = 0 := by simp at h; exact h
  subst e
  exact stop k l (by omega)
 | succ j ih =>
  intro k x l h hk h0 h1 hl
  obtain ⟨k, rfl⟩ : ∃ m, k = m + 1 := ⟨k - 1, by omega⟩
  by_cases c : x = 0
  ·subst c
   exact stop k l (by omega)
  ·obtain ⟨e1, e2, e3, e4, e5⟩ := digW x h0 h1
   have hs : (⟨l.toArray⟩ : ByteArray).size = l.length := by simp [ByteArray.size]
   have hn : x.natAbs ≠ 0 := by omega
   have app : ∀ d : Nat, (strOfNums [(d : Int)]) ++ (⟨l.toArray⟩ : ByteArray) = (⟨(UInt8.ofNat d :: l).toArray⟩ : ByteArray) := by
    intro d
    apply ByteArray.ext
    simp [strOfNums]
   have sz : ∀ d : Nat, (strOfNums [(d : Int)]).size = 1 := by
    intro d
    rw [strOfNums_size]
    rfl
   have R := ih k (Int.tdiv x 10) (UInt8.ofNat (48 + x.natAbs % 10) :: l) (by rw [e3] at e2; rw [e2]; rw [Nat.pow_succ] at h; omega) (by omega) e4 e5 (by simp; omega)
   have G : spec_NumText.l0 k a0 (⟨(UInt8.ofNat (48 + x.natAbs % 10) :: l).toArray⟩ : ByteArray) (Int.tdiv x 10) = some (⟨(finN a0 (digs x.natAbs ++ l)).toArray⟩ : ByteArray) := by
    rw [R]
    rw [e3] at e2
    rw [e2, digs_step x.natAbs hn, List.append_assoc]
    rfl
   simp only [spec_NumText.l0]
   rw [if_neg c]
   by_cases c2 : (Int.tmod x 10) < 0
   ·rw [if_pos c2] at e1
    rw [if_pos c2, e1]
    simp only [Option.bind_some]
    rw [if_pos (by rw [sz, hs]; omega), app, e3]
    exact G
   ·rw [if_neg c2] at e1
    rw [if_neg c2, e1]
    simp only [Option.bind_some]
    rw [if_pos (by rw [sz, hs]; omega), app, e3]
    exact G
theorem itoa_fin (n : Int) (h : n ≠ 0) : Lib.itoa n = finN n (digs n.natAbs) := by
 unfold Lib.itoa finN digs
 by_cases c : n < 0
 ·rw [if_pos c, if_pos c, if_neg (by omega)]
 ·rw [if_neg c, if_neg c, if_neg (by omega), show n.toNat = n.natAbs by omega]
theorem numS (n : Int) (h0 : -9223372036854775808 ≤ n) (h1 : n ≤ 9223372036854775807) {k : Nat} (hk : 20 < k) : spec_NumText.f k n = some (⟨(Lib.itoa n).toArray⟩ : ByteArray) := by
 unfold spec_NumText.f
 by_cases c : n = 0
 ·rw [if_pos c]
  subst c
  congr 1
  apply ByteArray.ext
  have : Lib.itoa 0 = [48] := by unfold Lib.itoa; rw [if_neg (by decide)]; unfold Lib.decDigits; rfl
  rw [this]
 ·rw [if_neg c]
  have := numS_l0 n 20 k n [] (by omega) hk h0 h1 (by decide)
  rw [List.append_nil, ← itoa_fin n c] at this
  exact this
theorem numI (n : Int) (h0 : -9223372036854775808 ≤ n) (h1 : n ≤ 9223372036854775807) : impl_NumText.f n = some (⟨(Lib.itoa n).toArray⟩ : ByteArray) := by
 unfold impl_NumText.f strconv_Itoa.f
 rw [if_pos ⟨h0, h1⟩]
 rfl
def nt (n : Int) : ByteArray := ⟨(Lib.itoa n).toArray⟩
theorem nt_size (n : Int) (h0 : -9223372036854775808 ≤ n) (h1 : n ≤ 9223372036854775807) : (nt n).size ≤ 21 := by
 have := Lib.itoa_length_le n h0 h1
 show (Lib.itoa n).toArray.size ≤ 21
 simpa using this
def chain (x : ByteArray) (p q r s : Option ByteArray) : Option ByteArray := (if x.size + 1 ≤ 9223372036854775807 then (p.bind fun t1 => (if (x ++ (⟨#[32]⟩ : ByteArray)).size + t1.size ≤ 9223372036854775807 then (if ((x ++ (⟨#[32]⟩ : ByteArray)) ++ t1).size + 1 ≤ 9223372036854775807 then (q.bind fun t2 => (if (((x ++ (⟨#[32]⟩ : ByteArray)) ++ t1) ++ (⟨#[32]⟩ : ByteArray)).size + t2.size ≤ 9223372036854775807 then (if ((((x ++ (⟨#[32]⟩ : ByteArray)) ++ t1) ++ (⟨#[32]⟩ : ByteArray)) ++ t2).size + 1 ≤ 9223372036854775807 then (r.bind fun t3 => (if (((((x ++ (⟨#[32]⟩ : ByteArray)) ++ t1) ++ (⟨#[32]⟩ : ByteArray)) ++ t2) ++ (⟨#[32]⟩ : ByteArray)).size + t3.size ≤ 9223372036854775807 then (if ((((((x ++ (⟨#[32]⟩ : ByteArray)) ++ t1) ++ (⟨#[32]⟩ : ByteArray)) ++ t2) ++ (⟨#[32]⟩ : ByteArray)) ++ t3).size + 1 ≤ 9223372036854775807 then (s.bind fun t4 => (if (((((((x ++ (⟨#[32]⟩ : ByteArray)) ++ t1) ++ (⟨#[32]⟩ : ByteArray)) ++ t2) ++ (⟨#[32]⟩ : ByteArray)) ++ t3) ++ (⟨#[32]⟩ : ByteArray)).size + t4.size ≤ 9223372036854775807 then (some ((((((((x ++ (⟨#[32]⟩ : ByteArray)) ++ t1) ++ (⟨#[32]⟩ : ByteArray)) ++ t2) ++ (⟨#[32]⟩ : ByteArray)) ++ t3) ++ (⟨#[32]⟩ : ByteArray)) ++ t4)) else none)) else none) else none)) else none) else none)) else none) else none)) else none)
theorem space_ : (⟨#[32]⟩ : ByteArray).size = 1 := rfl
theorem chain_some (x p q r s : ByteArray) (hx : x.size ≤ 21) (hp : p.size ≤ 21) (hq : q.size ≤ 21) (hr : r.size ≤ 21) (hs : s.size ≤ 21) : ∃ z, chain x (some p) (some q) (some r) (some s) = some z := by
 refine ⟨((((((((x ++ (⟨#[32]⟩ : ByteArray)) ++ p) ++ (⟨#[32]⟩ : ByteArray)) ++ q) ++ (⟨#[32]⟩ : ByteArray)) ++ r) ++ (⟨#[32]⟩ : ByteArray)) ++ s), ?_⟩
 unfold chain
 simp only [Option.bind_some, ByteArray.size_append, space_]
 rw [if_pos (by omega), if_pos (by omega), if_pos (by omega), if_pos (by omega), if_pos (by omega), if_pos (by omega), if_pos (by omega), if_pos (by omega)]
theorem tailS (k : Nat) (x : ByteArray) (a0 a1 a2 a3 a4 a5 a6 a7 : Int) (l8 : List Int) (a9 a10 : Int) (l11 : List S33) (l12 : List Int) :
  spec_TextOf.j0 (k + 1) x a0 a1 a2 a3 a4 a5 a6 a7 l8 a9 a10 l11 l12 = chain x (spec_NumText.f k a1) (spec_NumText.f k (l8.length : Int)) (spec_NumText.f k (l11.length : Int)) (spec_NumText.f k (l12.length : Int)) := rfl
theorem tailI (k : Nat) (x : ByteArray) (a0 a1 a2 a3 a4 a5 a6 a7 : Int) (l8 : List Int) (a9 a10 : Int) (l11 : List S33) (l12 : List Int) :
  impl_TextOf.j0 (k + 1) x a0 a1 a2 a3 a4 a5 a6 a7 l8 a9 a10 l11 l12 = chain x (impl_NumText.f a1) (impl_NumText.f (l8.length : Int)) (impl_NumText.f (l11.length : Int)) (impl_NumText.f (l12.length : Int)) := rfl
theorem ttail_same (k : Nat) (x : ByteArray) (hx : x.size ≤ 21) (a0 a1 a2 a3 a4 a5 a6 a7 : Int) (l8 : List Int) (a9 a10 : Int) (l11 : List S33) (l12 : List Int) (h1 : -9223372036854775808 ≤ a1 ∧ a1 ≤ 9223372036854775807) (h8 : l8.length ≤ 1048576) (h11 : l11.length ≤ 1048576) (h12 : l12.length ≤ 1048576) (hk : 20 < k) :
  ∃ z, spec_TextOf.j0 (k + 1) x a0 a1 a2 a3 a4 a5 a6 a7 l8 a9 a10 l11 l12 = some z ∧ impl_TextOf.j0 (k + 1) x a0 a1 a2 a3 a4 a5 a6 a7 l8 a9 a10 l11 l12 = some z := by
 rw [tailS, tailI, numS a1 h1.1 h1.2 hk, numI a1 h1.1 h1.2, numS (l8.length : Int) (by omega) (by omega) hk, numI (l8.length : Int) (by omega) (by omega), numS (l11.length : Int) (by omega) (by omega) hk, numI (l11.length : Int) (by omega) (by omega), numS (l12.length : Int) (by omega) (by omega) hk, numI (l12.length : Int) (by omega) (by omega)]
 obtain ⟨z, hz⟩ := chain_some x (nt a1) (nt (l8.length : Int)) (nt (l11.length : Int)) (nt (l12.length : Int)) hx (nt_size _ h1.1 h1.2) (nt_size _ (by omega) (by omega)) (nt_size _ (by omega) (by omega)) (nt_size _ (by omega) (by omega))
 exact ⟨z, hz, hz⟩
theorem text_same (a0 a1 a2 a3 a4 a5 a6 a7 : Int) (l8 : List Int) (a9 a10 : Int) (l11 : List S33) (l12 : List Int) (h1 : -9223372036854775808 ≤ a1 ∧ a1 ≤ 9223372036854775807) (h8 : l8.length ≤ 1048576) (h11 : l11.length ≤ 1048576) (h12 : l12.length ≤ 1048576) {k : Nat} (hk : 21 < k) :
  ∃ z, spec_TextOf.f k a0 a1 a2 a3 a4 a5 a6 a7 l8 a9 a10 l11 l12 = some z ∧ impl_TextOf.f k a0 a1 a2 a3 a4 a5 a6 a7 l8 a9 a10 l11 l12 = some z := by
 obtain ⟨k, rfl⟩ : ∃ m, k = m + 1 := ⟨k - 1, by omega⟩
 unfold spec_TextOf.f impl_TextOf.f
 have ew : impl_within.f a0 0 3 = spec_l1In.f a0 0 3 := rfl
 rw [ew]
 unfold spec_l1In.f
 by_cases c0 : a0 ≥ 0
 ·have c0' : 0 ≤ a0 := c0
  rw [if_pos c0]
  simp only [Option.bind_some]
  by_cases c1 : a0 ≤ 3
  ·rw [decide_eq_true c1]
   simp only [↓reduceIte, Option.bind_some, List.length_cons, List.length_nil]
   have c2 : a0 < ((0 + 1 + 1 + 1 + 1 : Nat) : Int) := by omega
   rw [if_pos c0', if_pos c0', if_pos c2, if_pos c2]
   refine ttail_same k _ ?_ a0 a1 a2 a3 a4 a5 a6 a7 l8 a9 a10 l11 l12 h1 h8 h11 h12 (by omega)
   have hs : a0 = 0 ∨ a0 = 1 ∨ a0 = 2 ∨ a0 = 3 := by omega
   rcases hs with rfl | rfl | rfl | rfl <;> decide
  ·rw [decide_eq_false c1]
   simp only [Bool.false_eq_true, ↓reduceIte]
   exact ttail_same k _ (by decide) a0 a1 a2 a3 a4 a5 a6 a7 l8 a9 a10 l11 l12 h1 h8 h11 h12 (by omega)
 ·rw [if_neg c0]
  simp only [Option.bind_some, Bool.false_eq_true, ↓reduceIte]
  exact ttail_same k _ (by decide) a0 a1 a2 a3 a4 a5 a6 a7 l8 a9 a10 l11 l12 h1 h8 h11 h12 (by omega)
theorem w64in (x : Int) : -9223372036854775808 ≤ wrap64 x ∧ wrap64 x ≤ 9223372036854775807 := by unfold wrap64; omega
/-- A drawn node: short rows, a number of its own that is an int. -/
def Drawn (y : S29) : Prop := (y.f8.length ≤ 4 ∧ y.f11.length ≤ 4 ∧ y.f12.length ≤ 4) ∧ -9223372036854775808 ≤ y.f1 ∧ y.f1 ≤ 9223372036854775807
theorem l3confB (l : List Int) (hl : l.length ≤ 1048576) (i s : Int) (hi : St l i) : ∃ a b c d e f i' s', spec_l3Conf.f l i s = some (a, b, c, d, e, f, i', s') ∧ St l i' ∧ ConfIn a b c d e f := by
 unfold spec_l3Conf.f
 obtain ⟨v1, i1, s1, e1, p1, q1, _, h1⟩ := below_some l hl i s hi 11
 rw [e1, Option.bind_some]
 obtain ⟨v2, i2, s2, e2, p2, h2⟩ := int_some l hl i1 s1 h1 [8, 8, 9, 12, 16] (by decide)
 rw [e2, Option.bind_some]
 obtain ⟨v3, i3, s3, e3, p3, q3, _, h3⟩ := below_some l hl i2 s2 h2 7
 rw [e3, Option.bind_some]
 obtain ⟨v4, i4, s4, e4, p4, q4, _, h4⟩ := below_some l hl i3 s3 h3 6
 rw [e4, Option.bind_some]
 obtain ⟨v5, i5, s5, e5, p5, h5⟩ := int_some l hl i4 s4 h4 [1, 3, 4, 8, 16] (by decide)
 rw [e5, Option.bind_some]
 obtain ⟨v6, i6, s6, e6, p6, q6, _, h6⟩ := below_some l hl i5 s5 h5 4
 rw [e6, Option.bind_some]
 have q1 := q1 (by omega); have q3 := q3 (by omega); have q4 := q4 (by omega); have q6 := q6 (by omega)
 refine ⟨_, _, _, _, _, _, _, _, rfl, h6, ?_⟩
 simp only [List.mem_cons, List.not_mem_nil, or_false] at p2 p5
 unfold ConfIn wrap64
 omega
theorem l7draw3 (l : List Int) (hl : l.length ≤ 1048576) (i s : Int) (hi : St l i) (a b c d e f : Int) {k : Nat} (hk : 20 < k) : ∃ (y : S29) (i' s' : Int), spec_l7Draw.f k l i s a b c d e f = some (y.f0, y.f1, y.f2, y.f3, y.f4, y.f5, y.f6, y.f7, y.f8, y.f9, y.f10, y.f11, y.f12, i', s') ∧ St l i' ∧ (y.f8.length ≤ 3 ∧ y.f11.length ≤ 3 ∧ y.f12.length ≤ 3) ∧ -9223372036854775808 ≤ y.f1 ∧ y.f1 ≤ 9223372036854775807 := by
 unfold spec_l7Draw.f
 obtain ⟨v1, i1, s1, e1, _, _, _, h1⟩ := below_some l hl i s hi f
 have s0 : spec_NodeNew.f (wrap64 (1 + v1)) = some (0, wrap64 (1 + v1), 0, 0, 0, 0, 0, 0, [], 0, 0, [], []) := rfl
 rw [e1, Option.bind_some, s0, Option.bind_some]
 obtain ⟨v2, i2, s2, e2, _, _, _, h2⟩ := below_some l hl i1 s1 h1 4
 rw [e2, Option.bind_some]
 by_cases h : v2 = 1
 ·rw [if_pos h]
  obtain ⟨v3, i3, s3, e3, _, _, _, h3⟩ := below_some l hl i2 s2 h2 3
  rw [e3, Option.bind_some]
  obtain ⟨v4, i4, s4, e4, _, q4, _, h4⟩ := below_some l hl i3 s3 h3 3
  have q5 := q4 (by omega)
  rw [e4, Option.bind_some]
  obtain ⟨l8', b9', b10', l11', l12', i', s', e', hi', g0, g1, g2⟩ := l7_l0 l hl a b c d e f v2 (wrap64 (1 + v1)) v3 0 0 0 0 0 0 0 3 k v4 i4 s4 [] h4 (by omega) (by omega) (by omega) (by simp)
  exact ⟨⟨v2, wrap64 (1 + v1), v3, 0, 0, 0, 0, 0, l8', b9', b10', l11', l12'⟩, i', s', e', hi', ⟨by simpa using g0, g1, g2⟩, w64in _⟩
 ·rw [if_neg h]
  exact ⟨⟨v2, wrap64 (1 + v1), 0, 0, 0, 0, 0, 0, [], 0, 0, [], []⟩, _, _, rfl, h2, ⟨Nat.zero_le _, Nat.zero_le _, Nat.zero_le _⟩, w64in _⟩
theorem snoc4 {α : Type} (l : List α) (x : α) (h : l.length ≤ 3) : (l ++ [x]).length ≤ 4 := by simp only [List.length_append, List.length_singleton]; omega
theorem l7any_some (l : List Int) (hl : l.length ≤ 1048576) (i s : Int) (hi : St l i) (a b c d e f : Int) {k : Nat} (hk : 20 < k) : ∃ (y : S29) (i' s' : Int), spec_l7Any.f k l i s a b c d e f = some (y.f0, y.f1, y.f2, y.f3, y.f4, y.f5, y.f6, y.f7, y.f8, y.f9, y.f10, y.f11, y.f12, i', s') ∧ St l i' ∧ Drawn y := by
 obtain ⟨k, rfl⟩ : ∃ m, k = m + 1 := ⟨k - 1, by omega⟩
 unfold spec_l7Any.f
 obtain ⟨⟨y0, y1, y2, y3, y4, y5, y6, y7, y8, y9, y10, y11, y12⟩, i1, s1, e1, h1, ⟨g8, g11, g12⟩, g1⟩ := l7draw3 l hl i s hi a b c d e f hk
 rw [e1, Option.bind_some]
 dsimp only at g8 g11 g12 g1 ⊢
 have m8 := Nat.le_succ_of_le g8
 have m11 := Nat.le_succ_of_le g11
 have m12 := Nat.le_succ_of_le g12
 obtain ⟨v2, i2, s2, e2, _, _, _, h2⟩ := below_some l hl i1 s1 h1 14
 rw [e2, Option.bind_some]
 dsimp only
 by_cases c0 : v2 = 0
 ·rw [if_pos c0]
  obtain ⟨v3, i3, s3, e3, _, _, _, h3⟩ := below_some l hl i2 s2 h2 6
  rw [e3, Option.bind_some, spec_l7Any.j0]
  exact ⟨⟨wrap64 (v3 - 1), y1, y2, y3, y4, y5, y6, y7, y8, y9, y10, y11, y12⟩, _, _, rfl, h3, ⟨m8, m11, m12⟩, g1⟩
 rw [if_neg c0]
 by_cases c1 : v2 = 1
 ·rw [if_pos c1]
  obtain ⟨v3, i3, s3, e3, p3, h3⟩ := int_some l hl i2 s2 h2 [0, 4, 5] (by decide)
  rw [e3, Option.bind_some, spec_l7Any.j0]
  simp only [List.mem_cons, List.not_mem_nil, or_false] at p3
  exact ⟨⟨y0, v3, y2, y3, y4, y5, y6, y7, y8, y9, y10, y11, y12⟩, _, _, rfl, h3, ⟨m8, m11, m12⟩, by dsimp only; omega⟩
 rw [if_neg c1]
 by_cases c2 : v2 = 2
 ·rw [if_pos c2]
  obtain ⟨v3, i3, s3, e3, _, h3⟩ := int_some l hl i2 s2 h2 [(-1), 1, 8, 9] (by decide)
  rw [e3, Option.bind_some, spec_l7Any.j0]
  exact ⟨⟨y0, y1, y2, v3, y4, y5, y6, y7, y8, y9, y10, y11, y12⟩, _, _, rfl, h3, ⟨m8, m11, m12⟩, g1⟩
 rw [if_neg c2]
 by_cases c3 : v2 = 3
 ·rw [if_pos c3]
  obtain ⟨v3, i3, s3, e3, _, h3⟩ := int_some l hl i2 s2 h2 [0, 12, (-1)] (by decide)
  rw [e3, Option.bind_some, if_pos (by omega), spec_l7Any.j0]
  exact ⟨⟨y0, y1, y2, y3, y4, y5, y6, y7, y8 ++ [v3], y9, y10, y11, y12⟩, _, _, rfl, h3, ⟨snoc4 _ _ g8, m11, m12⟩, g1⟩
 rw [if_neg c3]
 by_cases c4 : v2 = 4
 ·rw [if_pos c4]
  obtain ⟨v3, i3, s3, e3, _, _, _, h3⟩ := below_some l hl i2 s2 h2 4
  rw [e3, Option.bind_some, spec_l7Any.j0]
  exact ⟨⟨y0, y1, y2, y3, y4, y5, y6, y7, y8, v3, y10, y11, y12⟩, _, _, rfl, h3, ⟨m8, m11, m12⟩, g1⟩
 rw [if_neg c4]
 by_cases c5 : v2 = 5
 ·rw [if_pos c5]
  obtain ⟨v3, i3, s3, e3, _, h3⟩ := int_some l hl i2 s2 h2 [0, 8, 17, (-1)] (by decide)
  rw [e3, Option.bind_some, spec_l7Any.j0]
  exact ⟨⟨y0, y1, y2, y3, y4, y5, y6, y7, y8, y9, v3, y11, y12⟩, _, _, rfl, h3, ⟨m8, m11, m12⟩, g1⟩
 rw [if_neg c5]
 by_cases c6 : v2 = 6
 ·rw [if_pos c6]
  obtain ⟨v3, i3, s3, e3, _, h3⟩ := int_some l hl i2 s2 h2 [255, 256, (-1)] (by decide)
  rw [e3, Option.bind_some, if_pos (by omega), spec_l7Any.j0]
  exact ⟨⟨y0, y1, y2, y3, y4, y5, y6, y7, y8, y9, y10, y11, y12 ++ [v3]⟩, _, _, rfl, h3, ⟨m8, m11, snoc4 _ _ g12⟩, g1⟩
 rw [if_neg c6]
 by_cases c7 : v2 = 7
 ·rw [if_pos c7]
  obtain ⟨v3, i3, s3, e3, _, _, _, h3⟩ := below_some l hl i2 s2 h2 100
  rw [e3, Option.bind_some]
  obtain ⟨v4, i4, s4, e4, _, _, _, h4⟩ := below_some l hl i3 s3 h3 20
  rw [e4, Option.bind_some]
  obtain ⟨v5, i5, s5, e5, _, _, _, h5⟩ := below_some l hl i4 s4 h4 3
  rw [e5, Option.bind_some, if_pos (by omega), spec_l7Any.j0]
  exact ⟨⟨y0, y1, y2, y3, y4, y5, y6, y7, y8, y9, y10, y11 ++ [⟨v3, v4, v5⟩], y12⟩, _, _, rfl, h5, ⟨m8, snoc4 _ _ g11, m12⟩, g1⟩
 rw [if_neg c7, spec_l7Any.j0]
 exact ⟨⟨y0, y1, y2, y3, y4, y5, y6, y7, y8, y9, y10, y11, y12⟩, _, _, rfl, h2, ⟨m8, m11, m12⟩, g1⟩
theorem drawNodeOk_some (l : List Int) (hl : l.length ≤ 1048576) {k : Nat} (hk : 1048600 < k) : ∃ a b c d e f, ∃ y : S29, spec_DrawNodeOk.f k l = some (a, b, c, d, e, f, y.f0, y.f1, y.f2, y.f3, y.f4, y.f5, y.f6, y.f7, y.f8, y.f9, y.f10, y.f11, y.f12) ∧ ConfIn a b c d e f ∧ Drawn y := by
 unfold spec_DrawNodeOk.f
 obtain ⟨s0, e0⟩ := new_some l hl (k := k) (by omega)
 rw [e0, Option.bind_some]
 obtain ⟨a, b, c, d, e, f, i1, s1, e1, h1, hc⟩ := l3confB l hl 0 s0 ⟨by omega, by omega⟩
 rw [e1, Option.bind_some]
 obtain ⟨y, i2, s2, e2, h2, hy⟩ := l7any_some l hl i1 s1 h1 a b c d e f (k := k) (by omega)
 rw [e2, Option.bind_some]
 exact ⟨_, _, _, _, _, _, y, rfl, hc, hy⟩
theorem drawBare_some (l : List Int) (hl : l.length ≤ 1048576) {k : Nat} (hk : 1048600 < k) : ∃ y : S29, spec_DrawBare.f k l = some (y.f0, y.f1, y.f2, y.f3, y.f4, y.f5, y.f6, y.f7, y.f8, y.f9, y.f10, y.f11, y.f12) ∧ Drawn y := by
 unfold spec_DrawBare.f
 obtain ⟨s0, e0⟩ := new_some l hl (k := k) (by omega)
 rw [e0, Option.bind_some]
 obtain ⟨a, b, c, d, e, f, i1, s1, e1, h1, hc⟩ := l3confB l hl 0 s0 ⟨by omega, by omega⟩
 rw [e1, Option.bind_some]
 obtain ⟨y, i2, s2, e2, h2, hy⟩ := l7any_some l hl i1 s1 h1 a b c d e f (k := k) (by omega)
 rw [e2, Option.bind_some]
 exact ⟨y, rfl, hy⟩
theorem drawSameNode_some (l : List Int) (hl : l.length ≤ 1048576) {k : Nat} (hk : 1048600 < k) : ∃ y z : S29, spec_DrawSameNode.f k l = some (y.f0, y.f1, y.f2, y.f3, y.f4, y.f5, y.f6, y.f7, y.f8, y.f9, y.f10, y.f11, y.f12, z.f0, z.f1, z.f2, z.f3, z.f4, z.f5, z.f6, z.f7, z.f8, z.f9, z.f10, z.f11, z.f12) ∧ Drawn y := by
 obtain ⟨k, rfl⟩ : ∃ m, k = m + 1 := ⟨k - 1, by omega⟩
 unfold spec_DrawSameNode.f
 obtain ⟨s0, e0⟩ := new_some l hl (k := k + 1) (by omega)
 rw [e0, Option.bind_some]
 obtain ⟨a, b, c, d, e, f, i1, s1, e1, h1, hc⟩ := l3confB l hl 0 s0 ⟨by omega, by omega⟩
 rw [e1, Option.bind_some]
 obtain ⟨y, i2, s2, e2, h2, hy⟩ := l7any_some l hl i1 s1 h1 a b c d e f (k := k + 1) (by omega)
 rw [e2, Option.bind_some, copy1S y ⟨by have := hy.1.1; omega, by have := hy.1.2.1; omega, by have := hy.1.2.2; omega⟩, Option.bind_some]
 obtain ⟨v3, i3, s3, e3, _, _, _, h3⟩ := below_some l hl i2 s2 h2 4
 rw [e3, Option.bind_some]
 dsimp only
 by_cases c0 : v3 = 0
 ·rw [if_pos c0]
  obtain ⟨z, i4, s4, e4, h4, hz⟩ := l7any_some l hl i3 s3 h3 a b c d e f (k := k + 1) (by omega)
  rw [e4, Option.bind_some, spec_DrawSameNode.j0]
  exact ⟨y, z, rfl, hy⟩
 rw [if_neg c0]
 by_cases c1 : v3 = 1
 ·rw [if_pos c1, spec_DrawSameNode.j0]
  exact ⟨y, ⟨y.f0, y.f1, wrap64 (y.f2 + 1), y.f3, y.f4, y.f5, y.f6, y.f7, y.f8, y.f9, y.f10, y.f11, y.f12⟩, rfl, hy⟩
 ·rw [if_neg c1, spec_DrawSameNode.j0]
  exact ⟨y, y, rfl, hy⟩
theorem drawThingOk_some (l : List Int) (hl : l.length ≤ 1048576) {k : Nat} (hk : 1048600 < k) : ∃ a b c d e f p q r, spec_DrawThingOk.f k l = some (a, b, c, d, e, f, p, q, r) := by
 obtain ⟨k, rfl⟩ : ∃ m, k = m + 2 := ⟨k - 2, by omega⟩
 unfold spec_DrawThingOk.f
 obtain ⟨s0, e0⟩ := new_some l hl (k := k + 2) (by omega)
 rw [e0, Option.bind_some]
 obtain ⟨a, b, c, d, e, f, i1, s1, e1, h1⟩ := l3any_some l hl 0 s0 ⟨by omega, by omega⟩ (k := k + 2) (by omega)
 rw [e1, Option.bind_some]
 obtain ⟨v2, i2, s2, e2, _, _, _, h2⟩ := below_some l hl i1 s1 h1 100
 rw [e2, Option.bind_some]
 obtain ⟨v3, i3, s3, e3, _, _, _, h3⟩ := below_some l hl i2 s2 h2 20
 rw [e3, Option.bind_some]
 obtain ⟨v4, i4, s4, e4, _, _, _, h4⟩ := below_some l hl i3 s3 h3 3
 rw [e4, Option.bind_some, conf_some, Option.bind_some]
 have hj : ∀ (x : Bool) (i s p q r : Int), St l i → ∃ p' q' r', spec_DrawThingOk.j0 (k + 2) x l i s a b c d e f p q r = some (a, b, c, d, e, f, p', q', r') := by
  intro x i s p q r hi
  rw [spec_DrawThingOk.j0]
  by_cases hx : x = true
  ·obtain ⟨p', q', r', i', s', e', h'⟩ := thing7_some l hl i s hi a b c d e f (k := k + 1) (by omega)
   rw [if_pos hx, e', Option.bind_some, spec_DrawThingOk.j1]
   exact ⟨_, _, _, rfl⟩
  ·rw [if_neg hx, spec_DrawThingOk.j1]
   exact ⟨_, _, _, rfl⟩
 by_cases hc : decide (ConfIn a b c d e f) = true
 ·obtain ⟨v5, i5, s5, e5, h5⟩ := once_some l hl i4 s4 h4 4
  rw [if_pos hc, e5, Option.bind_some]
  obtain ⟨p', q', r', ej⟩ := hj (!v5) i5 s5 (wrap64 (v2 - 1)) v3 v4 h5
  exact ⟨_, _, _, _, _, _, p', q', r', ej⟩
 ·rw [if_neg hc]
  obtain ⟨p', q', r', ej⟩ := hj false i4 s4 (wrap64 (v2 - 1)) v3 v4 h4
  exact ⟨_, _, _, _, _, _, p', q', r', ej⟩
theorem thing_true (k : Nat) (a b c d e f p q r : Int) (h : spec_ThingOk.f (k + 1) a b c d e f p q r = some true) :
  ConfIn a b c d e f ∧ 0 ≤ p ∧ 1 ≤ q ∧ p + q ≤ a * b ∧ (r = 0 ∧ q ≤ b ∨ r ≠ 0 ∧ r = (q + b - 1) / b) := by
 by_cases hc : ConfIn a b c d e f
 ·obtain ⟨h1, h2, h3⟩ := bytes_in a b c d e f hc
  rw [head_s _ a b c d e f p q r _ h1 (by omega) h3] at h
  by_cases g : a * b = 0 ∨ q < 1 ∨ p < 0 ∨ p > a * b ∨ q > a * b - p
  ·rw [decide_eq_true g, spec_ThingOk.j0, if_pos rfl] at h
   simp at h
  ·rw [decide_eq_false g, spec_ThingOk.j0, if_neg Bool.false_ne_true] at h
   refine ⟨hc, by omega, by omega, by omega, ?_⟩
   by_cases g1 : r = 0
   ·rw [if_pos g1] at h
    by_cases g2 : q ≤ b
    ·exact .inl ⟨g1, g2⟩
    ·rw [if_neg g2] at h; simp at h
   ·rw [if_neg g1, large_some, Option.bind_some] at h
    by_cases g2 : decide (q > b) = true
    ·have e1 : spec_ChunksFor.f a b c d e f q = some ((q + b - 1) / b) := by
      unfold spec_ChunksFor.f
      rw [ceil_in q b ⟨by omega, by omega⟩ ⟨by have := hc.2.1.1; omega, by have := hc.2.1.2; omega⟩]; rfl
     rw [if_pos g2, e1, Option.bind_some] at h
     by_cases g3 : r = (q + b - 1) / b
     ·exact .inr ⟨g1, g3⟩
     ·rw [if_neg g3] at h; simp at h
    ·rw [if_neg g2] at h; simp at h
 ·have h1 := bytes_out a b c d e f hc
  rw [head_s _ a b c d e f p q r _ h1 (by omega) (by omega), decide_eq_true (.inl rfl), spec_ThingOk.j0, if_pos rfl] at h
  simp at h
theorem node_new (a b c d e f : Int) (hc : ConfIn a b c d e f) {k : Nat} (hk : 3000000 < k) : impl_NodeOk.f k a b c d e f 0 1 0 0 0 0 0 0 [] 0 0 [] [] = some true := by
 obtain ⟨r, e1, e2⟩ := nodeok_same a b c d e f 0 1 0 0 0 0 0 0 [] 0 0 [] [] (by simp) (by simp) (by simp) hk
 obtain ⟨k, rfl⟩ : ∃ m, k = m + 1 := ⟨k - 1, by omega⟩
 unfold spec_NodeOk.f at e1
 have g2 : (1 : Int) ≤ 1 ∧ 1 ≤ f := ⟨by omega, hc.2.2.2.2.2.1⟩
 rw [conf_some, Option.bind_some, if_pos (decide_eq_true hc), within_some, Option.bind_some, if_pos (by decide), within_some, Option.bind_some, decide_eq_true g2, Bool.not_true, spec_NodeOk.j0, if_neg Bool.false_ne_true, if_neg (by decide)] at e1
 have e3 : some true = some r := e1
 rw [e2, e3]
theorem node_true (a b c d e f : Int) (n0 n1 n2 n3 n4 n5 n6 n7 : Int) (l8 : List Int) (n9 n10 : Int) (l11 : List S33) (l12 : List Int) (zb : Bool) (hb : spec_Bare.f n0 n1 n2 n3 n4 n5 n6 n7 l8 n9 n10 l11 l12 = some zb) (hc : ConfIn a b c d e f) {k : Nat} (hk : 0 < k)
  (h : spec_NodeOk.f k a b c d e f n0 n1 n2 n3 n4 n5 n6 n7 l8 n9 n10 l11 l12 = some true) (h1 : ¬ n0 = 1) : zb = true := by
 obtain ⟨k, rfl⟩ : ∃ m, k = m + 1 := ⟨k - 1, by omega⟩
 unfold spec_NodeOk.f at h
 rw [conf_some, Option.bind_some, if_pos (decide_eq_true hc), within_some, Option.bind_some] at h
 by_cases g1 : 0 ≤ n0 ∧ n0 ≤ 3
 rotate_left
 ·rw [if_neg (by simpa using g1), spec_NodeOk.j0, if_pos rfl] at h
  simp at h
 rw [if_pos (decide_eq_true g1), within_some, Option.bind_some] at h
 by_cases g2 : 1 ≤ n1 ∧ n1 ≤ f
 rotate_left
 ·rw [decide_eq_false g2, Bool.not_false, spec_NodeOk.j0, if_pos rfl] at h
  simp at h
 rw [decide_eq_true g2, Bool.not_true, spec_NodeOk.j0, if_neg Bool.false_ne_true, if_neg h1, hb] at h
 have h2 : some zb = some true := h
 exact Option.some.inj h2
theorem nodes_j1 (a b c d e f : Int) (y : S29) (hc : ConfIn a b c d e f) (hy : Drawn y) {k : Nat} (hk : 4000000 < k) : laws_FnNodes.j1 k false a b c d e f y.f0 y.f1 y.f2 y.f3 y.f4 y.f5 y.f6 y.f7 y.f8 y.f9 y.f10 y.f11 y.f12 = some true := by
 obtain ⟨k, rfl⟩ : ∃ m, k = m + 1 := ⟨k - 1, by omega⟩
 obtain ⟨⟨g8, g11, g12⟩, _⟩ := hy
 have m8 : y.f8.length ≤ 1048576 := Nat.le_trans g8 (by decide)
 have m11 : y.f11.length ≤ 1048576 := Nat.le_trans g11 (by decide)
 have m12 : y.f12.length ≤ 1048576 := Nat.le_trans g12 (by decide)
 have s0 : impl_NodeNew.f 1 = some (0, 1, 0, 0, 0, 0, 0, 0, [], 0, 0, [], []) := rfl
 obtain ⟨rb, b1, b2⟩ := bare_same 0 1 0 0 0 0 0 0 [] 0 0 [] [] (by simp) (by simp) (by simp) (k := k) (by omega)
 have b3 : some true = some rb := b1
 obtain ⟨z, z1, z2⟩ := nodeok_same a b c d e f y.f0 y.f1 y.f2 y.f3 y.f4 y.f5 y.f6 y.f7 y.f8 y.f9 y.f10 y.f11 y.f12 m8 m11 m12 (k := k) (by omega)
 obtain ⟨zb, c1, c2⟩ := bare_same y.f0 y.f1 y.f2 y.f3 y.f4 y.f5 y.f6 y.f7 y.f8 y.f9 y.f10 y.f11 y.f12 m8 m11 m12 (k := k) (by omega)
 rw [laws_FnNodes.j1, if_neg Bool.false_ne_true, s0]
 simp only [Option.bind_some]
 rw [node_new a b c d e f hc (by omega), Option.bind_some, if_pos rfl, b2, ← b3, Option.bind_some, if_pos rfl, z2, Option.bind_some]
 by_cases hz : z = true
 ·rw [if_pos hz]
  by_cases h1 : y.f0 = 1
  ·rw [if_pos h1]
  ·rw [hz] at z1
   rw [if_neg h1, c2, Option.bind_some, node_true a b c d e f y.f0 y.f1 y.f2 y.f3 y.f4 y.f5 y.f6 y.f7 y.f8 y.f9 y.f10 y.f11 y.f12 zb c1 hc (by omega) z1 h1]
 ·rw [if_neg hz]
theorem run_small (q b r : Int) (hb : 8 ≤ b ∧ b ≤ 16) (hq : 1 ≤ q ∧ q ≤ 192) (hr : r = (q + b - 1) / b) : ¬ wrap64 (r * b) < q := by
 have h1 := Int.emod_add_mul_ediv (q + b - 1) b
 have h2 := Int.emod_lt_of_pos (q + b - 1) (show 0 < b by omega)
 have h3 := Int.emod_nonneg (q + b - 1) (show b ≠ 0 by omega)
 rw [← hr, Int.mul_comm] at h1
 generalize (q + b - 1) % b = m at h1 h2 h3
 generalize r * b = x at h1 ⊢
 unfold wrap64
 omega
theorem FnNodes : laws_FnNodes.Pure := by
 intro l _ _ _
 obtain ⟨k, hk⟩ : ∃ k : Nat, 5000000 < k := ⟨_, Nat.lt_succ_self _⟩
 refine ⟨k + 1, ?_⟩
 unfold laws_FnNodes.f laws_big.f
 rw [Option.bind_some]
 by_cases hb : (l.length : Int) > 1048576
 ·rw [decide_eq_true hb, if_pos rfl]
 rw [decide_eq_false hb, if_neg Bool.false_ne_true]
 have hl : l.length ≤ 1048576 := by omega
 obtain ⟨a, b, c, d, e, f, n, eN, hc, hn⟩ := drawNodeOk_some l hl (k := k + 1) (by omega)
 obtain ⟨a', b', c', d', e', f', p, q, r, eT⟩ := drawThingOk_some l hl (k := k + 1) (by omega)
 obtain ⟨y, eB, hy⟩ := drawBare_some l hl (k := k + 1) (by omega)
 obtain ⟨u, v, eS, hu⟩ := drawSameNode_some l hl (k := k + 1) (by omega)
 have n8 : n.f8.length ≤ 1048576 := Nat.le_trans hn.1.1 (by decide)
 have n11 : n.f11.length ≤ 1048576 := Nat.le_trans hn.1.2.1 (by decide)
 have n12 : n.f12.length ≤ 1048576 := Nat.le_trans hn.1.2.2 (by decide)
 have y8 : y.f8.length ≤ 1048576 := Nat.le_trans hy.1.1 (by decide)
 have y11 : y.f11.length ≤ 1048576 := Nat.le_trans hy.1.2.1 (by decide)
 have y12 : y.f12.length ≤ 1048576 := Nat.le_trans hy.1.2.2 (by decide)
 have u8 : u.f8.length ≤ 1048576 := Nat.le_trans hu.1.1 (by decide)
 have u11 : u.f11.length ≤ 1048576 := Nat.le_trans hu.1.2.1 (by decide)
 have u12 : u.f12.length ≤ 1048576 := Nat.le_trans hu.1.2.2 (by decide)
 obtain ⟨z, z1, z2⟩ := nodeok_same a b c d e f n.f0 n.f1 n.f2 n.f3 n.f4 n.f5 n.f6 n.f7 n.f8 n.f9 n.f10 n.f11 n.f12 n8 n11 n12 (k := k + 1) (by omega)
 obtain ⟨zt, t1, t2⟩ := thing_same k a' b' c' d' e' f' p q r
 obtain ⟨zb, b1, b2⟩ := bare_same y.f0 y.f1 y.f2 y.f3 y.f4 y.f5 y.f6 y.f7 y.f8 y.f9 y.f10 y.f11 y.f12 y8 y11 y12 (k := k + 1) (by omega)
 obtain ⟨zs, s1, g1⟩ := same_impl u.f0 u.f1 u.f2 u.f3 u.f4 u.f5 u.f6 u.f7 u.f8 u.f9 u.f10 u.f11 u.f12 v.f0 v.f1 v.f2 v.f3 v.f4 v.f5 v.f6 v.f7 v.f8 v.f9 v.f10 v.f11 v.f12 u8 u11 u12 (k := k + 1) (by omega)
 obtain ⟨zs', s2, g2⟩ := same_law u.f0 u.f1 u.f2 u.f3 u.f4 u.f5 u.f6 u.f7 u.f8 u.f9 u.f10 u.f11 u.f12 v.f0 v.f1 v.f2 v.f3 v.f4 v.f5 v.f6 v.f7 v.f8 v.f9 v.f10 v.f11 v.f12 u8 u11 u12 (k := k + 1) (by omega)
 have zz : zs' = zs := Bool.eq_iff_iff.mpr (g2.trans g1.symm)
 rw [zz] at s2
 obtain ⟨x, x1, x2⟩ := text_same y.f0 y.f1 y.f2 y.f3 y.f4 y.f5 y.f6 y.f7 y.f8 y.f9 y.f10 y.f11 y.f12 hy.2 y8 y11 y12 (k := k + 1) (by omega)
 have w1 : impl_NodeNew.f 3 = some (0, 3, 0, 0, 0, 0, 0, 0, [], 0, 0, [], []) := rfl
 have w2 : spec_NodeNew.f 3 = some (0, 3, 0, 0, 0, 0, 0, 0, [], 0, 0, [], []) := rfl
 obtain ⟨wn, w3, w4⟩ := same_law 0 3 0 0 0 0 0 0 [] 0 0 [] [] 0 3 0 0 0 0 0 0 [] 0 0 [] [] (by simp) (by simp) (by simp) (k := k + 1) (by omega)
 have w5 : wn = true := w4.mpr ⟨rfl, rfl, rfl, rfl, rfl, rfl, rfl, rfl, rfl, rfl, rfl, rfl, rfl⟩
 rw [w5] at w3
 have hz : (z != z) = true ↔ False := by simp
 have ht : (zt != zt) = true ↔ False := by simp
 have hbb : (zb != zb) = true ↔ False := by simp
 have hs : (zs != zs) = true ↔ False := by simp
 simp only [eN, eT, eB, eS, Option.bind_some, z1, z2, t1, t2, b1, b2, s1, s2, x1, x2, w1, w2, w3, hz, ht, hbb, hs, if_false, ↓reduceIte, Bool.not_true]
 rw [laws_FnNodes.j0, if_neg Bool.false_ne_true]
 obtain ⟨k, rfl⟩ : ∃ m, k = m + 1 := ⟨k - 1, by omega⟩
 have t3 : impl_ThingOk.f (k + 1) a' b' c' d' e' f' p q r = some zt := by rw [← t2]; rfl
 rw [t3, Option.bind_some]
 by_cases hz : zt = true
 ·rw [hz] at t1
  obtain ⟨tc, p0, q0, pq, rr⟩ := thing_true (k + 1) a' b' c' d' e' f' p q r t1
  obtain ⟨bi, b16, b192⟩ := bytes_in a' b' c' d' e' f' tc
  have bi' : impl_BytesOf.f a' b' c' d' e' f' = some (a' * b') := bi
  have wp : wrap64 (p + q) = p + q := by unfold wrap64; omega
  rw [if_pos hz, if_neg (by omega), bi', Option.bind_some, wp, if_neg (by omega)]
  rcases rr with ⟨r0, qb⟩ | ⟨r0, re⟩
  ·rw [if_pos r0, if_neg (by omega), if_neg (by omega)]
   exact nodes_j1 a b c d e f n hc hn (by omega)
  ·rw [if_neg r0]
   by_cases rp : r > 0
   ·rw [if_pos rp, decide_eq_false (run_small q b' r tc.2.1 ⟨q0, by omega⟩ re)]
    exact nodes_j1 a b c d e f n hc hn (by omega)
   ·rw [if_neg rp]
    exact nodes_j1 a b c d e f n hc hn (by omega)
 ·rw [if_neg hz]
  exact nodes_j1 a b c d e f n hc hn (by omega)
end Go.Proofs.YtofpmdgndegalacDoor.Pure
