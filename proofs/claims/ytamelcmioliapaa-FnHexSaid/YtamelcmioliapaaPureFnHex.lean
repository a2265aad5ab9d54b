/- What the law FnHex computes is the answer true, for all arguments within the bounds that the statement's own reading gives. No other condition. -/
import Derived.OpenShut
import Derived.Test.YtamelcmioliapaaQFnHexx4
namespace Go.Proofs.Ytamelcmioliapaa.Pure
open Go.RowKit Go.Proofs.Ytamelcmioliapaa.QFnHex Go.Proofs.YtamelcmioliapaaW.PrintWords Go.Proofs.YtamelcmioliapaaW.PrintLast
set_option linter.unusedVariables false
set_option linter.unusedSimpArgs false
def laws_FnHex.Pure : Prop := ∀ (l0 : List Int), l0.length ≤ maxLen → l0.length * 1 ≤ 140737488351232 → (∀ x ∈ l0, (Lit.int .u8 x).wf = true) → ∃ k, laws_FnHex.f k l0 = some true
theorem w1 {i : Nat} (h : i < 9223372036854775807) : wrap64 ((i : Int) + 1) = ((i + 1 : Nat) : Int) := by unfold wrap64; omega
theorem rd_nat (xs : List Int) (i : Nat) : rd xs (i : Int) = xs.getD i 0 := by simp [rd]
theorem getD_lt (xs : List Int) (i : Nat) (h : i < xs.length) : xs.getD i 0 = xs[i] := by simp [List.getD, List.getElem?_eq_getElem h]
theorem drop_cons (xs : List Int) (i : Nat) (h : i < xs.length) : xs.drop i = xs.getD i 0 :: xs.drop (i + 1) := by rw [getD_lt xs i h]; exact List.drop_eq_getElem_cons h
theorem set_take {x l : List Int} {i : Nat} (hi : i < l.length) (hx : x.length = l.length) (ht : x.take i = l.take i) : (x.set i (l.getD i 0)).take (i + 1) = l.take (i + 1) := by
  apply List.ext_getElem?
  intro j
  have hj := congrArg (fun z => z[j]?) ht
  simp only [List.getElem?_take] at hj ⊢
  by_cases h1 : j < i + 1
  · rw [if_pos h1, if_pos h1, List.getElem?_set]
    by_cases h2 : i = j
    · subst h2
      rw [if_pos rfl, if_pos (by omega), List.getElem?_eq_getElem hi, getD_lt l i hi]
    · rw [if_neg h2]
      rw [if_pos (by omega), if_pos (by omega)] at hj
      exact hj
  · rw [if_neg h1, if_neg h1]
theorem i64_and255 (n : Int) : Go.bits .and .i64 n 255 = n % 256 := by
  have h : (BitVec.ofInt 64 255).toNat = 2 ^ 8 - 1 := by decide
  have key : (BitVec.ofInt 64 n &&& BitVec.ofInt 64 255).toNat = (n % ((2 ^ 64 : Nat) : Int)).toNat % 2 ^ 8 := by
    rw [BitVec.toNat_and, BitVec.toNat_ofInt, h, Nat.and_two_pow_sub_one_eq_mod]
  show IntKind.i64.wrap ((BitVec.ofInt 64 n &&& BitVec.ofInt 64 255).toNat : Nat) = n % 256
  rw [key, IntKind.wrap_i64]
  omega
def St (l : List Int) (i : Int) : Prop := 0 ≤ i ∧ i ≤ l.length
theorem new_l0 (l : List Int) (hl : l.length ≤ 1048576) : ∀ (d k i : Nat) (s : Int), l.length - i = d → i ≤ l.length → d < k → ∃ s', spec_l1New.l0 k l s (i : Int) = some (l, 0, s') := by
  intro d
  induction d with
  | zero =>
    intro k i s hd hi hk
    obtain ⟨k, rfl⟩ : ∃ m, k = m + 1 := ⟨k - 1, by omega⟩
    simp only [spec_l1New.l0]
    rw [if_neg (by omega)]; exact ⟨_, rfl⟩
  | succ d ih =>
    intro k i s hd hi hk
    obtain ⟨k, rfl⟩ : ∃ m, k = m + 1 := ⟨k - 1, by omega⟩
    simp only [spec_l1New.l0]
    rw [if_pos (by omega)]
    by_cases h : (i : Int) < 4000
    · rw [if_pos h, if_pos (by omega), w1 (by omega)]
      exact ih k (i + 1) _ (by omega) (by omega) (by omega)
    · rw [if_neg h]; exact ⟨_, rfl⟩
theorem new_some (l : List Int) (hl : l.length ≤ 1048576) {k : Nat} (hk : 1048576 < k) : ∃ s, spec_l1New.f k l = some (l, 0, s) := by
  unfold spec_l1New.f
  exact new_l0 l hl l.length k 0 _ (by omega) (by omega) (by omega)
theorem byte_some (l : List Int) (hl : l.length ≤ 1048576) (i s : Int) (hi : St l i) : ∃ v i' s', spec_l1Byte.f l i s = some (v, i', s') ∧ 0 ≤ v ∧ v ≤ 255 ∧ St l i' := by
  unfold spec_l1Byte.f
  obtain ⟨h0, h1⟩ := hi
  by_cases h : i < (l.length : Int)
  · rw [if_pos h, if_pos h0]
    refine ⟨_, _, _, rfl, ?_, ?_, ?_⟩
    · rw [i64_and255]; omega
    · rw [i64_and255]; omega
    · have e : wrap64 (i + 1) = i + 1 := by unfold wrap64; omega
      rw [e]; exact ⟨by omega, by omega⟩
  · rw [if_neg h]
    refine ⟨_, _, _, rfl, ?_, ?_, ⟨h0, h1⟩⟩
    · rw [i64_and255]; omega
    · rw [i64_and255]; omega
theorem below_some (l : List Int) (hl : l.length ≤ 1048576) (i s : Int) (hi : St l i) (n : Int) : ∃ v i' s', spec_l1Below.f l i s n = some (v, i', s') ∧ 0 ≤ v ∧ (0 < n → v < n) ∧ (n ≤ 0 → v = 0) ∧ St l i' := by
  unfold spec_l1Below.f
  by_cases h0 : n ≤ 0
  · rw [if_pos h0]; exact ⟨_, _, _, rfl, by omega, by omega, fun _ => rfl, hi⟩
  · rw [if_neg h0]
    obtain ⟨v, i1, s1, e1, v0, v1, hi1⟩ := byte_some l hl i s hi
    by_cases h1 : n ≤ 256
    · rw [if_pos h1, e1]
      simp only [Option.bind_some]
      rw [if_neg (by omega), Int.tmod_eq_emod_of_nonneg v0]
      exact ⟨_, _, _, rfl, Int.emod_nonneg _ (by omega), fun _ => Int.emod_lt_of_pos _ (by omega), by omega, hi1⟩
    · rw [if_neg h1, e1]
      simp only [Option.bind_some]
      obtain ⟨v', i2, s2, e2, v0', v1', hi2⟩ := byte_some l hl i1 s1 hi1
      rw [e2]
      simp only [Option.bind_some]
      obtain ⟨v'', i3, s3, e3, v0'', v1'', hi3⟩ := byte_some l hl i2 s2 hi2
      rw [e3]
      simp only [Option.bind_some]
      have q : 0 ≤ wrap64 (wrap64 (wrap64 (v * 65536) + wrap64 (v' * 256)) + v'') := by unfold wrap64; omega
      rw [if_neg (by omega), Int.tmod_eq_emod_of_nonneg q]
      exact ⟨_, _, _, rfl, Int.emod_nonneg _ (by omega), fun _ => Int.emod_lt_of_pos _ (by omega), by omega, hi3⟩
def Byts (l : List Int) : Prop := ∀ x ∈ l, (Lit.int .u8 x).wf = true
theorem wf_u8 {x : Int} (h : 0 ≤ x) (g : x ≤ 255) : (Lit.int .u8 x).wf = true := by
  simp [Lit.wf, IntKind.min, IntKind.max, IntKind.signed, IntKind.bits]; omega
theorem bytes_l0 (l : List Int) (hl : l.length ≤ 1048576) (n : Int) (hn : n ≤ 1000) : ∀ (d k : Nat) (j : Nat) (acc : List Int) (i s : Int), n.toNat - j = d → (j : Int) ≤ n ∨ j = 0 → d < k → acc.length = j → Byts acc → St l i →
    ∃ r i' s', (∀ k', d < k' → spec_l1Bytes.l0 k' n acc (j : Int) l i s = some (r, i', s')) ∧ r.length = j + d ∧ Byts r ∧ St l i' := by
  intro d
  induction d with
  | zero =>
    intro k j acc i s hd hj hk ha hb hi
    refine ⟨acc, i, s, fun k' hk' => ?_, by omega, hb, hi⟩
    obtain ⟨k', rfl⟩ : ∃ m, k' = m + 1 := ⟨k' - 1, by omega⟩
    have c : ¬ (j : Int) < n := by omega
    rw [spec_l1Bytes.l0, if_neg c]
  | succ d ih =>
    intro k j acc i s hd hj hk ha hb hi
    obtain ⟨v, i1, s1, e1, v0, v1, hi1⟩ := byte_some l hl i s hi
    have hm : v % 256 = v := by omega
    obtain ⟨r, i', s', h1, h2, h3, h4⟩ := ih (k - 1) (j + 1) (acc ++ [v]) i1 s1 (by omega) (by omega) (by omega) (by rw [List.length_append, List.length_singleton]; omega) (by
      intro x hx
      rcases List.mem_append.mp hx with hx | hx
      · exact hb x hx
      · obtain rfl := List.mem_singleton.mp hx; exact wf_u8 v0 v1) hi1
    refine ⟨r, i', s', fun k' hk' => ?_, by omega, h3, h4⟩
    obtain ⟨k', rfl⟩ : ∃ m, k' = m + 1 := ⟨k' - 1, by omega⟩
    have c : (j : Int) < n := by omega
    have c2 : acc.length < 140737488355328 := by omega
    rw [spec_l1Bytes.l0, if_pos c, e1, Option.bind_some, if_pos c2]
    simp only [hm]
    rw [w1 (by omega)]
    exact h1 k' (by omega)
theorem bytes_some (l : List Int) (hl : l.length ≤ 1048576) (i s : Int) (hi : St l i) (n : Int) (hn : n ≤ 1000) : ∃ r i' s', (∀ k : Nat, 2000 < k → spec_l1Bytes.f k l i s n = some (r, i', s')) ∧ r.length = n.toNat ∧ Byts r ∧ St l i' := by
  obtain ⟨r, i', s', h1, h2, h3, h4⟩ := bytes_l0 l hl n hn n.toNat (n.toNat + 1) 0 [] i s (by omega) (by omega) (by omega) rfl (fun x hx => by cases hx) hi
  exact ⟨r, i', s', fun k hk => h1 k (by omega), by omega, h3, h4⟩
theorem zero_same (l : List Int) (hl : l.length ≤ 1048576) : ∀ (d k i : Nat), l.length - i = d → i ≤ l.length → d < k → ∃ (b : Bool) (j : Int), spec_IsZero.l0 k l (i : Int) = some b ∧ slices_IndexFunc_byte_byte.l0 k l (l.length : Int) (i : Int) = some j ∧ (b = true ↔ j < 0) := by
  intro d
  induction d with
  | zero =>
    intro k i hd hi hk
    obtain ⟨k, rfl⟩ : ∃ m, k = m + 1 := ⟨k - 1, by omega⟩
    have c : ¬ (i : Int) < (l.length : Int) := by omega
    rw [spec_IsZero.l0, slices_IndexFunc_byte_byte.l0, if_neg c, if_neg c]
    exact ⟨true, -1, rfl, rfl, by simp⟩
  | succ d ih =>
    intro k i hd hi hk
    obtain ⟨k, rfl⟩ : ∃ m, k = m + 1 := ⟨k - 1, by omega⟩
    have c : (i : Int) < (l.length : Int) := by omega
    have c0 : (0 : Int) ≤ (i : Int) := by omega
    rw [spec_IsZero.l0, slices_IndexFunc_byte_byte.l0, if_pos c, if_pos c, if_pos c0, if_pos c0, if_pos c, w1 (by omega)]
    unfold impl_IsZero_1.f
    rw [Option.bind_some]
    by_cases g : rd l (i : Int) = 0
    · rw [if_pos g, if_neg (by simp only [bne_iff_ne]; exact fun h => h g)]
      exact ih k (i + 1) (by omega) (by omega) (by omega)
    · rw [if_neg g, if_pos (by simp only [bne_iff_ne]; exact g)]
      exact ⟨false, _, rfl, rfl, by simp only [Bool.false_eq_true, false_iff]; omega⟩
theorem zero_both (l : List Int) (hl : l.length ≤ 1048576) : ∃ b, (∀ k : Nat, 1048577 < k → spec_IsZero.f k l = some b) ∧ (∀ k : Nat, 1048577 < k → impl_IsZero.f k l = some b) := by
  obtain ⟨b, j, e1, e2, g⟩ := zero_same l hl l.length 1048578 0 (by omega) (by omega) (by omega)
  refine ⟨b, fun k hk => ?_, fun k hk => ?_⟩
  · obtain ⟨b', j', e1', e2', g'⟩ := zero_same l hl l.length k 0 (by omega) (by omega) (by omega)
    have h := at_rounds (fun k => spec_IsZero.mono_l k l 0) (show 1048578 ≤ k by omega) e1
    exact h
  · have h := at_rounds (fun k => slices_IndexFunc_byte_byte.mono_l k l (l.length : Int) 0) (show 1048578 ≤ k by omega) e2
    unfold impl_IsZero.f slices_ContainsFunc_byte_byte.f slices_IndexFunc_byte_byte.f
    have h' : slices_IndexFunc_byte_byte.l0 k l (l.length : Int) 0 = some j := h
    rw [h', Option.bind_some, Option.bind_some]
    congr 1
    cases b with
    | true => have := g.mp rfl; simp; omega
    | false =>
      have : ¬ j < 0 := fun h => Bool.false_ne_true (g.mpr h)
      simp; omega
theorem same_l0 (a b : List Int) (hab : a.length = b.length) (hn : a.length ≤ 4611686018427387904) : ∀ (d k i : Nat), a.length - i = d → i ≤ a.length → d < k → laws_same.l0 k a b (i : Int) = some (decide (a.drop i = b.drop i)) := by
  intro d
  induction d with
  | zero =>
    intro k i hd hi hk
    obtain ⟨k, rfl⟩ : ∃ m, k = m + 1 := ⟨k - 1, by omega⟩
    simp only [laws_same.l0]
    rw [if_neg (by omega), List.drop_eq_nil_of_le (by omega), List.drop_eq_nil_of_le (by omega)]
    simp
  | succ d ih =>
    intro k i hd hi hk
    obtain ⟨k, rfl⟩ : ∃ m, k = m + 1 := ⟨k - 1, by omega⟩
    simp only [laws_same.l0]
    rw [if_pos (by omega), if_pos (by omega), if_pos (by omega), rd_nat, rd_nat, drop_cons a i (by omega), drop_cons b i (by omega)]
    by_cases h : a.getD i 0 = b.getD i 0
    · rw [if_pos h, w1 (by omega), ih k (i + 1) (by omega) (by omega) (by omega), h]
      simp
    · rw [if_neg h]
      simp only [List.cons.injEq, h, false_and, decide_false]
theorem same_some (a b : List Int) (hn : a.length ≤ 4611686018427387904) {k : Nat} (hk : a.length < k) : laws_same.f k a b = some (decide (a = b)) := by
  unfold laws_same.f
  by_cases h : a.length = b.length
  · rw [if_pos (by omega)]
    have := same_l0 a b h hn a.length k 0 (by omega) (by omega) hk
    simpa using this
  · rw [if_neg (by omega)]
    have : a ≠ b := fun e => h (by rw [e])
    simp [this]
theorem same_same (a : List Int) (hn : a.length ≤ 4611686018427387904) {k : Nat} (hk : a.length < k) : laws_same.f k a a = some true := by
  rw [same_some a a hn hk]; simp
def hexOf (x : Int) : List Int := [bt (⟨#[48, 49, 50, 51, 52, 53, 54, 55, 56, 57, 97, 98, 99, 100, 101, 102]⟩ : ByteArray) (x / 16), bt (⟨#[48, 49, 50, 51, 52, 53, 54, 55, 56, 57, 97, 98, 99, 100, 101, 102]⟩ : ByteArray) (Go.bits .and .u8 x 15)]
def hexL : List Int → List Int
  | [] => []
  | x :: xs => hexOf x ++ hexL xs
theorem hexL_length (l : List Int) : (hexL l).length = 2 * l.length := by
  induction l with
  | nil => rfl
  | cons x xs ih => simp [hexL, hexOf, ih]; omega
theorem byte_of (l : List Int) (hw : ∀ x ∈ l, (Lit.int .u8 x).wf = true) (i : Nat) (hi : i < l.length) : 0 ≤ l.getD i 0 ∧ l.getD i 0 ≤ 255 := by
  rw [getD_lt l i hi]
  exact bounds_u8 (hw _ (List.getElem_mem hi))
theorem hexs_l0 (l : List Int) (hl : l.length ≤ 1048576) (hw : ∀ x ∈ l, (Lit.int .u8 x).wf = true) : ∀ (d k i : Nat) (acc : List Int), l.length - i = d → i ≤ l.length → d < k → acc.length = 2 * i → spec_HexText.l0 k l acc (i : Int) = some (strOfNums (acc ++ hexL (l.drop i))) := by
  intro d
  induction d with
  | zero =>
    intro k i acc hd hi hk ha
    obtain ⟨k, rfl⟩ : ∃ m, k = m + 1 := ⟨k - 1, by omega⟩
    simp only [spec_HexText.l0]
    rw [if_neg (by omega), List.drop_eq_nil_of_le (by omega)]
    simp [hexL]
  | succ d ih =>
    intro k i acc hd hi hk ha
    obtain ⟨k, rfl⟩ : ∃ m, k = m + 1 := ⟨k - 1, by omega⟩
    have hb := byte_of l hw i (by omega)
    have hm := Go.u8_and15 (x := l.getD i 0) hb.1 (by omega)
    simp only [spec_HexText.l0]
    rw [if_pos (by omega), if_pos (by omega), rd_nat, if_pos (by omega), if_pos (by omega), if_pos (by omega), if_pos (by omega)]
    simp only [Option.bind_some]
    rw [if_pos (by simp; omega), w1 (by omega), drop_cons l i (by omega)]
    have := ih k (i + 1) (acc ++ hexOf (l.getD i 0)) (by omega) (by omega) (by omega) (by simp [hexOf]; omega)
    simp only [hexL]
    rw [← List.append_assoc]
    exact this
theorem hexi_l0 (l : List Int) (hl : l.length ≤ 1048576) (hw : ∀ x ∈ l, (Lit.int .u8 x).wf = true) : ∀ (d k i : Nat) (acc : List Int), l.length - i = d → i ≤ l.length → d < k → acc.length = 2 * i → impl_HexText.l0 k acc l (l.length : Int) (i : Int) = some (strOfNums (acc ++ hexL (l.drop i))) := by
  intro d
  induction d with
  | zero =>
    intro k i acc hd hi hk ha
    obtain ⟨k, rfl⟩ : ∃ m, k = m + 1 := ⟨k - 1, by omega⟩
    simp only [impl_HexText.l0]
    rw [if_neg (by omega), List.drop_eq_nil_of_le (by omega)]
    simp [hexL]
  | succ d ih =>
    intro k i acc hd hi hk ha
    obtain ⟨k, rfl⟩ : ∃ m, k = m + 1 := ⟨k - 1, by omega⟩
    have hb := byte_of l hw i (by omega)
    have hm := Go.u8_and15 (x := l.getD i 0) hb.1 (by omega)
    have hlt : (i : Int) < (l.length : Int) := by omega
    have hi0 : (0 : Int) ≤ (i : Int) := by omega
    simp only [impl_HexText.l0, hlt, hi0, ↓reduceIte]
    rw [rd_nat, if_pos (by omega), if_pos (by omega), if_pos (by omega), if_pos (by omega)]
    simp only [Option.bind_some]
    rw [if_pos (by simp; omega), w1 (by omega), drop_cons l i (by omega)]
    have := ih k (i + 1) (acc ++ hexOf (l.getD i 0)) (by omega) (by omega) (by omega) (by simp [hexOf]; omega)
    simp only [hexL]
    rw [← List.append_assoc]
    exact this
theorem hex_spec (l : List Int) (hl : l.length ≤ 1048576) (hw : ∀ x ∈ l, (Lit.int .u8 x).wf = true) {k : Nat} (hk : l.length < k) : spec_HexText.f k l = some (strOfNums (hexL l)) := by
  unfold spec_HexText.f
  exact hexs_l0 l hl hw l.length k 0 [] (by omega) (by omega) hk rfl
theorem hex_impl (l : List Int) (hl : l.length ≤ 1048576) (hw : ∀ x ∈ l, (Lit.int .u8 x).wf = true) {k : Nat} (hk : l.length < k) : impl_HexText.f k l = some (strOfNums (hexL l)) := by
  unfold impl_HexText.f
  exact hexi_l0 l hl hw l.length k 0 [] (by omega) (by omega) hk rfl
def hv (n : Int) : Int := if 48 ≤ n ∧ n ≤ 57 then n - 48 else if 97 ≤ n ∧ n ≤ 102 then n - 87 else -1
theorem hv_le (n : Int) : -1 ≤ hv n ∧ hv n ≤ 15 := by
  unfold hv
  by_cases c : 48 ≤ n ∧ n ≤ 57
  · rw [if_pos c]; omega
  rw [if_neg c]
  by_cases c2 : 97 ≤ n ∧ n ≤ 102
  · rw [if_pos c2]; omega
  · rw [if_neg c2]; omega
theorem l2_hv (b : Int) (h0 : 0 ≤ b) (h1 : b ≤ 255) : spec_l2Hex.f b = some (hv b) := by
  unfold spec_l2Hex.f spec_l1In.f hv
  have e : wrap64 b = b := by unfold wrap64; omega
  rw [e]
  by_cases c1 : b ≥ 48
  · rw [if_pos c1, Option.bind_some]
    by_cases c2 : b ≤ 57
    · rw [decide_eq_true c2, if_pos rfl, if_pos ⟨c1, c2⟩]; congr 1; unfold wrap64; omega
    · have n1 : ¬ (48 ≤ b ∧ b ≤ 57) := by omega
      rw [decide_eq_false c2, if_neg Bool.false_ne_true, if_neg n1]
      by_cases c3 : b ≥ 97
      · rw [if_pos c3, Option.bind_some]
        by_cases c4 : b ≤ 102
        · rw [decide_eq_true c4, if_pos rfl, if_pos ⟨c3, c4⟩]; congr 1; unfold wrap64; omega
        · rw [decide_eq_false c4, if_neg Bool.false_ne_true, if_neg (fun h => c4 h.2)]
      · rw [if_neg c3, Option.bind_some, if_neg Bool.false_ne_true, if_neg (fun h => c3 h.1)]
  · have n1 : ¬ (48 ≤ b ∧ b ≤ 57) := by omega
    have n2 : ¬ (97 ≤ b ∧ b ≤ 102) := by omega
    have n3 : ¬ b ≥ 97 := by omega
    rw [if_neg c1, Option.bind_some, if_neg Bool.false_ne_true, if_neg n1, if_neg n2, if_neg n3, Option.bind_some, if_neg Bool.false_ne_true]
theorem ix_nat : ∀ n : Nat, n < 256 → Lib.indexByte (⟨#[48, 49, 50, 51, 52, 53, 54, 55, 56, 57, 97, 98, 99, 100, 101, 102]⟩ : ByteArray).data.toList n.toUInt8 = (if 48 ≤ n ∧ n ≤ 57 then (n : Int) - 48 else if 97 ≤ n ∧ n ≤ 102 then (n : Int) - 87 else -1) := by decide +kernel
theorem ix_hv (b : Int) (h0 : 0 ≤ b) (h1 : b ≤ 255) : strings_IndexByte.f (⟨#[48, 49, 50, 51, 52, 53, 54, 55, 56, 57, 97, 98, 99, 100, 101, 102]⟩ : ByteArray) b = some (hv b) := by
  unfold strings_IndexByte.f hv
  obtain ⟨n, rfl⟩ : ∃ n : Nat, b = (n : Int) := ⟨b.toNat, by omega⟩
  rw [Int.toNat_natCast, ix_nat n (by omega)]
  congr 1
  by_cases c : 48 ≤ n ∧ n ≤ 57
  · have p1 : 48 ≤ (n : Int) ∧ (n : Int) ≤ 57 := by omega
    rw [if_pos c, if_pos p1]
  have n1 : ¬ (48 ≤ (n : Int) ∧ (n : Int) ≤ 57) := by omega
  rw [if_neg c, if_neg n1]
  by_cases c2 : 97 ≤ n ∧ n ≤ 102
  · have p2 : 97 ≤ (n : Int) ∧ (n : Int) ≤ 102 := by omega
    rw [if_pos c2, if_pos p2]
  · have n2 : ¬ (97 ≤ (n : Int) ∧ (n : Int) ≤ 102) := by omega
    rw [if_neg c2, if_neg n2]
/-- The bytes of pairs of digits. -/
def hp : List Int → Option (List Int)
  | [] => some []
  | [_] => none
  | a :: b :: t => if hv a < 0 then none else if hv b < 0 then none else (hp t).map ((16 * hv a + hv b) :: ·)
def hres (acc : List Int) : Option (List Int) → List Int × Bool
  | some r => (acc ++ r, true)
  | none => ([], false)
theorem hp_len : ∀ (n : Nat) (l r : List Int), l.length ≤ n → hp l = some r → 2 * r.length = l.length := by
  intro n
  induction n with
  | zero =>
    intro l r hl h
    obtain rfl := List.eq_nil_of_length_eq_zero (by omega : l.length = 0)
    obtain rfl := Option.some.inj h
    rfl
  | succ n ih =>
    intro l r hl h
    match l, hl, h with
    | [], _, h => obtain rfl := Option.some.inj h; rfl
    | [_], _, h => cases h
    | a :: b :: t, hl, h =>
      rw [hp] at h
      by_cases c1 : hv a < 0
      · rw [if_pos c1] at h; cases h
      rw [if_neg c1] at h
      by_cases c2 : hv b < 0
      · rw [if_pos c2] at h; cases h
      rw [if_neg c2] at h
      obtain ⟨q, hq, rfl⟩ := Option.map_eq_some_iff.mp h
      have := ih t q (by simp only [List.length_cons] at hl; omega) hq
      simp only [List.length_cons]
      omega
theorem ph_step (x y : Int) (h1 : 0 ≤ x ∧ x ≤ 15) (h2 : 0 ≤ y ∧ y ≤ 15) : (wrap64 ((wrap64 (16 * x)) + y)) % 256 = 16 * x + y := by
  have e : wrap64 (16 * x) = 16 * x := by unfold wrap64; omega
  rw [e]
  unfold wrap64; omega
theorem w2 {i : Nat} (h : i < 9223372036854775806) : wrap64 ((i : Int) + 2) = ((i + 2 : Nat) : Int) := by unfold wrap64; omega
theorem ph_spec (s : ByteArray) (hs : s.size ≤ 1048576) : ∀ (d k i : Nat) (acc : List Int), s.size - i ≤ 2 * d → i % 2 = 0 → i ≤ s.size → d < k → acc.length ≤ i → spec_ParseHex.l0 k s acc (i : Int) = some (hres acc (hp ((bytesOf s).drop i))) := by
  have hL := bytesOf_length s
  intro d
  induction d with
  | zero =>
    intro k i acc hd hi hi2 hk ha
    obtain ⟨k, rfl⟩ : ∃ m, k = m + 1 := ⟨k - 1, by omega⟩
    obtain rfl : i = s.size := by omega
    rw [spec_ParseHex.l0, w1 (by omega), if_neg (by omega), if_pos (by omega), List.drop_eq_nil_of_le (by omega), hp, hres, List.append_nil]
  | succ d ih =>
    intro k i acc hd hi hi2 hk ha
    obtain ⟨k, rfl⟩ : ∃ m, k = m + 1 := ⟨k - 1, by omega⟩
    rw [spec_ParseHex.l0, w1 (by omega)]
    by_cases c : ((i + 1 : Nat) : Int) < (s.size : Int)
    · have b1 := bt_range s (i : Int)
      have b2 := bt_range s ((i + 1 : Nat) : Int)
      have v1 := hv_le (bt s (i : Int))
      have v2 := hv_le (bt s ((i + 1 : Nat) : Int))
      have g1 : (bytesOf s).getD i 0 = bt s (i : Int) := by rw [← rd_bytesOf, rd_nat]
      have g2 : (bytesOf s).getD (i + 1) 0 = bt s ((i + 1 : Nat) : Int) := by rw [← rd_bytesOf, rd_nat]
      rw [if_pos c, if_pos (by omega), if_pos (by omega), l2_hv _ b1.1 b1.2, Option.bind_some, if_pos (by omega), l2_hv _ b2.1 b2.2, Option.bind_some, drop_cons _ i (by omega), drop_cons _ (i + 1) (by omega), g1, g2, hp]
      by_cases d1 : hv (bt s (i : Int)) < 0
      · rw [if_pos d1, if_pos d1, hres]
      rw [if_neg d1, if_neg d1]
      by_cases d2 : hv (bt s ((i + 1 : Nat) : Int)) < 0
      · rw [if_pos d2, if_pos d2, hres]
      rw [if_neg d2, if_neg d2, if_pos (by omega), ph_step _ _ (by omega) (by omega), w2 (by omega), ih k (i + 2) _ (by omega) (by omega) (by omega) (by omega) (by rw [List.length_append, List.length_singleton]; omega)]
      cases hp ((bytesOf s).drop (i + 2)) with
      | none => rfl
      | some r => simp [hres]
    · rw [if_neg c]
      by_cases e : i = s.size
      · subst e
        rw [if_pos (by omega), List.drop_eq_nil_of_le (by omega), hp, hres, List.append_nil]
      · rw [if_neg (by omega), drop_cons _ i (by omega), List.drop_eq_nil_of_le (by omega), hp, hres]
theorem ph_impl (s : ByteArray) (hs : s.size ≤ 1048576) (hev : s.size % 2 = 0) : ∀ (d k i : Nat) (acc : List Int), s.size - i ≤ 2 * d → i % 2 = 0 → i ≤ s.size → d < k → acc.length ≤ i → impl_ParseHex.l0 k s acc (i : Int) = some (hres acc (hp ((bytesOf s).drop i))) := by
  have hL := bytesOf_length s
  intro d
  induction d with
  | zero =>
    intro k i acc hd hi hi2 hk ha
    obtain ⟨k, rfl⟩ : ∃ m, k = m + 1 := ⟨k - 1, by omega⟩
    obtain rfl : i = s.size := by omega
    rw [impl_ParseHex.l0, if_neg (by omega), List.drop_eq_nil_of_le (by omega), hp, hres, List.append_nil]
  | succ d ih =>
    intro k i acc hd hi hi2 hk ha
    obtain ⟨k, rfl⟩ : ∃ m, k = m + 1 := ⟨k - 1, by omega⟩
    rw [impl_ParseHex.l0, w1 (by omega)]
    by_cases c : (i : Int) < (s.size : Int)
    · have b1 := bt_range s (i : Int)
      have b2 := bt_range s ((i + 1 : Nat) : Int)
      have v1 := hv_le (bt s (i : Int))
      have v2 := hv_le (bt s ((i + 1 : Nat) : Int))
      have g1 : (bytesOf s).getD i 0 = bt s (i : Int) := by rw [← rd_bytesOf, rd_nat]
      have g2 : (bytesOf s).getD (i + 1) 0 = bt s ((i + 1 : Nat) : Int) := by rw [← rd_bytesOf, rd_nat]
      rw [if_pos c, if_pos (by omega), ix_hv _ b1.1 b1.2, Option.bind_some, if_pos (by omega), if_pos (by omega), ix_hv _ b2.1 b2.2, Option.bind_some, drop_cons _ i (by omega), drop_cons _ (i + 1) (by omega), g1, g2, hp]
      by_cases d1 : hv (bt s (i : Int)) < 0
      · rw [if_pos d1, if_pos d1, hres]
      rw [if_neg d1, if_neg d1]
      by_cases d2 : hv (bt s ((i + 1 : Nat) : Int)) < 0
      · rw [if_pos d2, if_pos d2, hres]
      rw [if_neg d2, if_neg d2, if_pos (by omega), ph_step _ _ (by omega) (by omega), w2 (by omega), ih k (i + 2) _ (by omega) (by omega) (by omega) (by omega) (by rw [List.length_append, List.length_singleton]; omega)]
      cases hp ((bytesOf s).drop (i + 2)) with
      | none => rfl
      | some r => simp [hres]
    · obtain rfl : i = s.size := by omega
      rw [if_neg c, List.drop_eq_nil_of_le (by omega), hp, hres, List.append_nil]
theorem hp_odd : ∀ (n : Nat) (l : List Int), l.length ≤ n → l.length % 2 = 1 → hp l = none := by
  intro n l hl ho
  cases h : hp l with
  | none => rfl
  | some r => have := hp_len n l r hl h; omega
theorem parse_spec (s : ByteArray) (hs : s.size ≤ 1048576) {k : Nat} (hk : 1048576 < k) : spec_ParseHex.f k s = some (hres [] (hp (bytesOf s))) := by
  unfold spec_ParseHex.f
  have h := ph_spec s hs s.size k 0 [] (by omega) (by omega) (by omega) (by omega) (by simp)
  simpa using h
theorem parse_impl (s : ByteArray) (hs : s.size ≤ 1048576) {k : Nat} (hk : 1048576 < k) : impl_ParseHex.f k s = some (hres [] (hp (bytesOf s))) := by
  unfold impl_ParseHex.f
  have hL := bytesOf_length s
  by_cases c : (s.size : Int) % 2 = 1
  · rw [if_pos c, hp_odd s.size (bytesOf s) (by omega) (by omega), hres]
  · rw [if_neg c]
    have h := ph_impl s hs (by omega) s.size k 0 [] (by omega) (by omega) (by omega) (by omega) (by simp)
    simpa using h
theorem hres_len (s : ByteArray) : (hres [] (hp (bytesOf s))).1.length ≤ s.size := by
  have hL := bytesOf_length s
  cases h : hp (bytesOf s) with
  | none => simp [hres]
  | some r => have := hp_len s.size (bytesOf s) r (by omega) h; simp [hres]; omega
theorem bytesOf_nums (l : List Int) (hb : Byts l) : bytesOf (strOfNums l) = l := by
  unfold bytesOf
  rw [strOfNums_data, List.map_map]
  apply List.ext_getElem (by simp)
  intro i h1 h2
  have h := bounds_u8 (hb _ (List.getElem_mem h2))
  simp only [List.getElem_map, Function.comp_apply, UInt8.toNat_ofNat']
  omega
theorem nums_bytesOf (s : ByteArray) : strOfNums (bytesOf s) = s := by
  apply ByteArray.ext
  apply Array.ext'
  rw [strOfNums_data]
  unfold bytesOf
  rw [List.map_map]
  apply List.ext_getElem (by simp)
  intro i h1 h2
  simp
theorem dig_nat : ∀ n : Nat, n < 16 → hv (bt (⟨#[48, 49, 50, 51, 52, 53, 54, 55, 56, 57, 97, 98, 99, 100, 101, 102]⟩ : ByteArray) (n : Int)) = (n : Int) := by decide +kernel
theorem dig_hv (n : Int) (h0 : 0 ≤ n) (h1 : n < 16) : hv (bt (⟨#[48, 49, 50, 51, 52, 53, 54, 55, 56, 57, 97, 98, 99, 100, 101, 102]⟩ : ByteArray) n) = n := by
  obtain ⟨m, rfl⟩ : ∃ m : Nat, n = (m : Int) := ⟨n.toNat, by omega⟩
  exact dig_nat m (by omega)
theorem dig_back : ∀ n : Nat, n < 256 → 0 ≤ hv (n : Int) → bt (⟨#[48, 49, 50, 51, 52, 53, 54, 55, 56, 57, 97, 98, 99, 100, 101, 102]⟩ : ByteArray) (hv (n : Int)) = (n : Int) := by decide +kernel
theorem dig_back' (x : Int) (h0 : 0 ≤ x) (h1 : x ≤ 255) (h : 0 ≤ hv x) : bt (⟨#[48, 49, 50, 51, 52, 53, 54, 55, 56, 57, 97, 98, 99, 100, 101, 102]⟩ : ByteArray) (hv x) = x := by
  obtain ⟨m, rfl⟩ : ∃ m : Nat, x = (m : Int) := ⟨x.toNat, by omega⟩
  exact dig_back m (by omega) h
theorem hexOf_eq (x : Int) (h0 : 0 ≤ x) (h1 : x ≤ 255) : hexOf x = [bt (⟨#[48, 49, 50, 51, 52, 53, 54, 55, 56, 57, 97, 98, 99, 100, 101, 102]⟩ : ByteArray) (x / 16), bt (⟨#[48, 49, 50, 51, 52, 53, 54, 55, 56, 57, 97, 98, 99, 100, 101, 102]⟩ : ByteArray) (x % 16)] := by
  unfold hexOf
  rw [Go.u8_and15 (x := x) h0 (by omega)]
theorem hp_hexL : ∀ (l : List Int), Byts l → hp (hexL l) = some l := by
  intro l
  induction l with
  | nil => intro _; rfl
  | cons x xs ih =>
    intro hb
    have h := bounds_u8 (hb x List.mem_cons_self)
    rw [hexL, hexOf_eq x h.1 h.2, List.cons_append, List.cons_append, List.nil_append, hp, dig_hv _ (by omega) (by omega), dig_hv _ (by omega) (by omega), if_neg (by omega), if_neg (by omega), ih (fun y hy => hb y (List.mem_cons_of_mem _ hy)), Option.map_some]
    congr 2
    omega
theorem bt_byte (s : ByteArray) (i : Int) : (Lit.int .u8 (bt s i)).wf = true := by
  have h := bt_range s i
  exact wf_u8 h.1 h.2
theorem hexL_byts (l : List Int) : Byts (hexL l) := by
  induction l with
  | nil => intro x hx; cases hx
  | cons y ys ih =>
    intro x hx
    rw [hexL] at hx
    rcases List.mem_append.mp hx with hx | hx
    · unfold hexOf at hx
      rcases List.mem_cons.mp hx with rfl | hx
      · exact bt_byte _ _
      · obtain rfl := List.mem_singleton.mp hx; exact bt_byte _ _
    · exact ih x hx
theorem hp_back : ∀ (n : Nat) (l r : List Int), l.length ≤ n → Byts l → hp l = some r → hexL r = l ∧ Byts r := by
  intro n
  induction n with
  | zero =>
    intro l r hl hb h
    obtain rfl := List.eq_nil_of_length_eq_zero (by omega : l.length = 0)
    obtain rfl := Option.some.inj h
    exact ⟨rfl, fun x hx => by cases hx⟩
  | succ n ih =>
    intro l r hl hb h
    match l, hl, hb, h with
    | [], _, _, h => obtain rfl := Option.some.inj h; exact ⟨rfl, fun x hx => by cases hx⟩
    | [_], _, _, h => cases h
    | a :: b :: t, hl, hb, h =>
      rw [hp] at h
      by_cases c1 : hv a < 0
      · rw [if_pos c1] at h; cases h
      rw [if_neg c1] at h
      by_cases c2 : hv b < 0
      · rw [if_pos c2] at h; cases h
      rw [if_neg c2] at h
      obtain ⟨q, hq, rfl⟩ := Option.map_eq_some_iff.mp h
      have ha := bounds_u8 (hb a List.mem_cons_self)
      have hb' := bounds_u8 (hb b (List.mem_cons_of_mem _ List.mem_cons_self))
      have v1 := hv_le a
      have v2 := hv_le b
      obtain ⟨h1, h2⟩ := ih t q (by simp only [List.length_cons] at hl; omega) (fun y hy => hb y (List.mem_cons_of_mem _ (List.mem_cons_of_mem _ hy))) hq
      have e1 : (16 * hv a + hv b) / 16 = hv a := by omega
      have e2 : (16 * hv a + hv b) % 16 = hv b := by omega
      refine ⟨?_, fun x hx => ?_⟩
      · rw [hexL, hexOf_eq _ (by omega) (by omega), e1, e2, dig_back' a ha.1 ha.2 (by omega), dig_back' b hb'.1 hb'.2 (by omega), h1]; rfl
      · rcases List.mem_cons.mp hx with rfl | hx
        · exact wf_u8 (by omega) (by omega)
        · exact h2 x hx
theorem bytesOf_byts (s : ByteArray) : Byts (bytesOf s) := by
  intro x hx
  obtain ⟨i, hi, rfl⟩ := List.getElem_of_mem hx
  rw [← getD_lt _ i hi, ← rd_nat, rd_bytesOf]
  exact bt_byte _ _
theorem str_some (l : List Int) (hl : l.length ≤ 1048576) (i s : Int) (hi : St l i) (xs : List ByteArray) (hx : 0 < xs.length) : ∃ v i' s', spec_l1Str.f l i s xs = some (v, i', s') ∧ v ∈ xs ∧ St l i' := by
  unfold spec_l1Str.f
  obtain ⟨v, i1, s1, e1, h0, h1, _, hi1⟩ := below_some l hl i s hi (xs.length : Int)
  rw [e1]
  simp only [Option.bind_some]
  have h2 := h1 (by omega)
  rw [if_pos h0, if_pos h2]
  refine ⟨_, _, _, rfl, ?_, hi1⟩
  have h3 : v.toNat < xs.length := by omega
  unfold rdOf
  rw [List.getD_eq_getElem?_getD, List.getElem?_eq_getElem h3, Option.getD_some]
  exact List.getElem_mem h3
theorem once_some (l : List Int) (hl : l.length ≤ 1048576) (i s : Int) (hi : St l i) (n : Int) : ∃ b i' s', spec_l1Once.f l i s n = some (b, i', s') ∧ St l i' := by
  unfold spec_l1Once.f
  obtain ⟨v, i1, s1, e1, _, _, _, hi1⟩ := below_some l hl i s hi n
  rw [e1]; exact ⟨_, _, _, rfl, hi1⟩
theorem drawHex (l : List Int) (hl : l.length ≤ 1048576) {k : Nat} (hk : 1048576 < k) : ∃ r, spec_DrawHexText.f k l = some r ∧ r.length ≤ 6 ∧ Byts r := by
  unfold spec_DrawHexText.f
  obtain ⟨s0, e0⟩ := new_some l hl hk
  have h0 : St l 0 := ⟨by omega, by omega⟩
  obtain ⟨v, i1, s1, e1, v0, v1, _, hi1⟩ := below_some l hl 0 s0 h0 6
  obtain ⟨r, i2, s2, e2, hr, hb, _⟩ := bytes_some l hl i1 s1 hi1 v (by omega)
  rw [e0]
  simp only [Option.bind_some, e1, e2 k (by omega)]
  exact ⟨r, rfl, by omega, hb⟩
theorem drawParse (l : List Int) (hl : l.length ≤ 1048576) {k : Nat} (hk : 1048576 < k) : ∃ r, spec_DrawParseHex.f k l = some r ∧ r.size ≤ 1048576 := by
  unfold spec_DrawParseHex.f
  obtain ⟨s0, e0⟩ := new_some l hl hk
  have h0 : St l 0 := ⟨by omega, by omega⟩
  obtain ⟨b, i1, s1, e1, hi1⟩ := once_some l hl 0 s0 h0 3
  rw [e0]
  simp only [Option.bind_some, e1]
  by_cases c : b = true
  · subst c
    obtain ⟨v, i2, s2, e2, hv, _⟩ := str_some l hl i1 s1 hi1 [(⟨#[]⟩ : ByteArray), (⟨#[48]⟩ : ByteArray), (⟨#[48, 103]⟩ : ByteArray), (⟨#[65, 66]⟩ : ByteArray), (⟨#[48, 48, 102, 102]⟩ : ByteArray), (⟨#[48, 32]⟩ : ByteArray)] (by simp)
    simp only [if_true, e2, Option.bind_some]
    refine ⟨v, rfl, ?_⟩
    simp only [List.mem_cons, List.not_mem_nil, or_false] at hv
    rcases hv with rfl | rfl | rfl | rfl | rfl | rfl <;> decide
  · obtain rfl := Bool.eq_false_iff.mpr c
    obtain ⟨v, i2, s2, e2, v0, v1, _, hi2⟩ := below_some l hl i1 s1 hi1 5
    obtain ⟨r, i3, s3, e3, hr, hb, _⟩ := bytes_some l hl i2 s2 hi2 v (by omega)
    simp only [Bool.false_eq_true, if_false, e2, Option.bind_some, e3 k (by omega)]
    rw [hex_spec r (by omega) hb (by omega), Option.bind_some]
    refine ⟨_, rfl, ?_⟩
    rw [strOfNums_size, hexL_length]; omega
theorem drawZero (l : List Int) (hl : l.length ≤ 1048576) {k : Nat} (hk : 1048577 < k) : ∃ r, spec_DrawIsZero.f k l = some r ∧ r.length ≤ 6 := by
  unfold spec_DrawIsZero.f
  obtain ⟨k, rfl⟩ : ∃ m, k = m + 1 := ⟨k - 1, by omega⟩
  obtain ⟨s0, e0⟩ := new_some l hl (k := k + 1) (by omega)
  have h0 : St l 0 := ⟨by omega, by omega⟩
  obtain ⟨v, i1, s1, e1, v0, v1, _, hi1⟩ := below_some l hl 0 s0 h0 6
  have v2 := v1 (by omega)
  rw [e0]
  simp only [Option.bind_some, e1]
  rw [if_pos v0, if_pos (by omega)]
  by_cases c : ((List.replicate v.toNat (0 : Int)).length : Int) > 0
  · rw [if_pos c]
    obtain ⟨b, i2, s2, e2, hi2⟩ := once_some l hl i1 s1 hi1 2
    simp only [e2, Option.bind_some]
    rw [spec_DrawIsZero.j0]
    by_cases cb : b = true
    · obtain ⟨p, i3, s3, e3, p0, p1, _, hi3⟩ := below_some l hl i2 s2 hi2 ((List.replicate v.toNat (0 : Int)).length : Int)
      obtain ⟨q, i4, s4, e4, q0, q1, _, hi4⟩ := below_some l hl i3 s3 hi3 256
      rw [if_pos cb, e3]
      simp only [Option.bind_some, e4]
      rw [if_pos p0, if_pos (p1 c)]
      exact ⟨_, rfl, by simp; omega⟩
    · rw [if_neg cb]
      exact ⟨_, rfl, by simp; omega⟩
  · rw [if_neg c, spec_DrawIsZero.j0, if_neg Bool.false_ne_true]
    exact ⟨_, rfl, by simp; omega⟩
theorem FnHex : laws_FnHex.Pure := by
  intro l hm h2 hw
  obtain ⟨k, hk⟩ : ∃ k : Nat, 4000000 < k := ⟨_, Nat.lt_succ_self _⟩
  obtain ⟨k, rfl⟩ : ∃ m, k = m + 1 := ⟨k - 1, by omega⟩
  refine ⟨k + 1, ?_⟩
  unfold laws_FnHex.f laws_big.f
  rw [Option.bind_some]
  by_cases hb : (l.length : Int) > 1048576
  · rw [decide_eq_true hb, if_pos rfl]
  rw [decide_eq_false hb, if_neg Bool.false_ne_true]
  have hl : l.length ≤ 1048576 := by omega
  obtain ⟨b, e1, hb1, hb2⟩ := drawHex l hl (k := k + 1) (by omega)
  obtain ⟨s, e2, hs⟩ := drawParse l hl (k := k + 1) (by omega)
  obtain ⟨d, e3, hd⟩ := drawZero l hl (k := k + 1) (by omega)
  have hsz : (strOfNums (hexL b)).size ≤ 1048576 := by rw [strOfNums_size, hexL_length]; omega
  obtain ⟨z, z1, z2⟩ := zero_both d (by omega)
  have hbk : hres [] (hp (bytesOf (strOfNums (hexL b)))) = (b, true) := by
    rw [bytesOf_nums _ (hexL_byts b), hp_hexL b hb2, hres, List.nil_append]
  obtain ⟨y, is, e⟩ : ∃ y is, hres [] (hp (bytesOf s)) = (y, is) := ⟨_, _, rfl⟩
  have hy := hres_len s
  rw [e] at hy
  simp only at hy
  simp only [e1, e2, Option.bind_some, hex_impl b (by omega) hb2 (show b.length < k + 1 by omega), hex_spec b (by omega) hb2 (show b.length < k + 1 by omega), parse_impl _ hsz (show 1048576 < k + 1 by omega), hbk, parse_impl s hs (show 1048576 < k + 1 by omega), parse_spec s hs (show 1048576 < k + 1 by omega), e, e3, if_true, same_same y (show y.length ≤ 4611686018427387904 by omega) (show y.length < k + 1 by omega), bne_self_eq_false, Bool.false_eq_true, if_false, z1 (k + 1) (by omega), z2 (k + 1) (by omega)]
  rw [laws_FnHex.j0, if_neg Bool.false_ne_true, if_pos rfl, same_same b (by omega) (by omega), Option.bind_some, if_pos rfl]
  by_cases c : is = true
  · subst c
    rw [if_pos rfl]
    have hh : hp (bytesOf s) = some y := by
      cases h : hp (bytesOf s) with
      | none => rw [h, hres] at e; cases e
      | some r => rw [h, hres, List.nil_append] at e; injection e with e4 _; rw [e4]
    obtain ⟨g1, g2⟩ := hp_back s.size (bytesOf s) y (by rw [bytesOf_length]; omega) (bytesOf_byts s) hh
    rw [hex_impl y (by omega) g2 (by omega), g1, nums_bytesOf, Option.bind_some, beq_self_eq_true]
  · rw [if_neg c]
end Go.Proofs.Ytamelcmioliapaa.Pure
