/- What the law FnBytes computes is the answer true, for all arguments within the bounds that the statement's own reading gives. No other condition. -/
import Derived.OpenShut
import Derived.Test.YtamelcmioliapaaQFnBytesx4
namespace Go.Proofs.Ytamelcmioliapaa.Pure
open Go.RowKit Go.Proofs.Ytamelcmioliapaa.QFnBytes Go.Proofs.YtamelcmioliapaaW.PrintWords Go.Proofs.YtamelcmioliapaaW.PrintLast
set_option linter.unusedVariables false
set_option linter.unusedSimpArgs false
def laws_FnBytes.Pure : Prop := ∀ (l0 : List Int), l0.length ≤ maxLen → l0.length * 1 ≤ 140737488351232 → (∀ x ∈ l0, (Lit.int .u8 x).wf = true) → ∃ k, laws_FnBytes.f k l0 = some true
theorem w1 {i : Nat} (h : i < 9223372036854775807) : wrap64 ((i : Int) + 1) = ((i + 1 : Nat) : Int) := by unfold wrap64; omega
theorem rd_nat (xs : List Int) (i : Nat) : rd xs (i : Int) = xs.getD i 0 := by simp [rd]
theorem getD_lt (xs : List Int) (i : Nat) (h : i < xs.length) : xs.getD i 0 = xs[i] := by simp [List.getD, List.getElem?_eq_getElem h]
theorem drop_cons (xs : List Int) (i : Nat) (h : i < xs.length) : xs.drop i = xs.getD i 0 :: xs.drop (i + 1) := by rw [getD_lt xs i h]; exact List.drop_eq_getElem_cons h
theorem set_take {x l : List Int} {i : Nat} (hi : i < l.length) (hx : x.length = l.length) (ht : x.take i = l.take i) : (x.set i (l.getD i 0)).take (i + 1) = l.take (i + 1) := by
  apply List.ext_getElem?
  intro j
  have hj := congrArg (fun z => z[j]?) ht
  simp only [List.getElem?_take] at hj ⊢
  by_cases h1 : j < i + 1
  · rw [if_pos h1, if_pos h1, List.getElem?_set]
    by_cases h2 : i = j
    · subst h2
      rw [if_pos rfl, if_pos (by omega), List.getElem?_eq_getElem hi, getD_lt l i hi]
    · rw [if_neg h2]
      rw [if_pos (by omega), if_pos (by omega)] at hj
      exact hj
  · rw [if_neg h1, if_neg h1]
theorem i64_and255 (n : Int) : Go.bits .and .i64 n 255 = n % 256 := by
  have h : (BitVec.ofInt 64 255).toNat = 2 ^ 8 - 1 := by decide
  have key : (BitVec.ofInt 64 n &&& BitVec.ofInt 64 255).toNat = (n % ((2 ^ 64 : Nat) : Int)).toNat % 2 ^ 8 := by
    rw [BitVec.toNat_and, BitVec.toNat_ofInt, h, Nat.and_two_pow_sub_one_eq_mod]
  show IntKind.i64.wrap ((BitVec.ofInt 64 n &&& BitVec.ofInt 64 255).toNat : Nat) = n % 256
  rw [key, IntKind.wrap_i64]
  omega
def St (l : List Int) (i : Int) : Prop := 0 ≤ i ∧ i ≤ l.length
theorem new_l0 (l : List Int) (hl : l.length ≤ 1048576) : ∀ (d k i : Nat) (s : Int), l.length - i = d → i ≤ l.length → d < k → ∃ s', spec_l1New.l0 k l s (i : Int) = some (l, 0, s') := by
  intro d
  induction d with
  | zero =>
    intro k i s hd hi hk
    obtain ⟨k, rfl⟩ : ∃ m, k = m + 1 := ⟨k - 1, by omega⟩
    simp only [spec_l1New.l0]
    rw [if_neg (by omega)]; exact ⟨_, rfl⟩
  | succ d ih =>
    intro k i s hd hi hk
    obtain ⟨k, rfl⟩ : ∃ m, k = m + 1 := ⟨k - 1, by omega⟩
    simp only [spec_l1New.l0]
    rw [if_pos (by omega)]
    by_cases h : (i : Int) < 4000
    · rw [if_pos h, if_pos (by omega), w1 (by omega)]
      exact ih k (i + 1) _ (by omega) (by omega) (by omega)
    · rw [if_neg h]; exact ⟨_, rfl⟩
theorem new_some (l : List Int) (hl : l.length ≤ 1048576) {k : Nat} (hk : 1048576 < k) : ∃ s, spec_l1New.f k l = some (l, 0, s) := by
  unfold spec_l1New.f
  exact new_l0 l hl l.length k 0 _ (by omega) (by omega) (by omega)
theorem byte_some (l : List Int) (hl : l.length ≤ 1048576) (i s : Int) (hi : St l i) : ∃ v i' s', spec_l1Byte.f l i s = some (v, i', s') ∧ 0 ≤ v ∧ v ≤ 255 ∧ St l i' := by
  unfold spec_l1Byte.f
  obtain ⟨h0, h1⟩ := hi
  by_cases h : i < (l.length : Int)
  · rw [if_pos h, if_pos h0]
    refine ⟨_, _, _, rfl, ?_, ?_, ?_⟩
    · rw [i64_and255]; omega
    · rw [i64_and255]; omega
    · have e : wrap64 (i + 1) = i + 1 := by unfold wrap64; omega
      rw [e]; exact ⟨by omega, by omega⟩
  · rw [if_neg h]
    refine ⟨_, _, _, rfl, ?_, ?_, ⟨h0, h1⟩⟩
    · rw [i64_and255]; omega
    · rw [i64_and255]; omega
theorem below_some (l : List Int) (hl : l.length ≤ 1048576) (i s : Int) (hi : St l i) (n : Int) : ∃ v i' s', spec_l1Below.f l i s n = some (v, i', s') ∧ 0 ≤ v ∧ (0 < n → v < n) ∧ (n ≤ 0 → v = 0) ∧ St l i' := by
  unfold spec_l1Below.f
  by_cases h0 : n ≤ 0
  · rw [if_pos h0]; exact ⟨_, _, _, rfl, by omega, by omega, fun _ => rfl, hi⟩
  · rw [if_neg h0]
    obtain ⟨v, i1, s1, e1, v0, v1, hi1⟩ := byte_some l hl i s hi
    by_cases h1 : n ≤ 256
    · rw [if_pos h1, e1]
      simp only [Option.bind_some]
      rw [if_neg (by omega), Int.tmod_eq_emod_of_nonneg v0]
      exact ⟨_, _, _, rfl, Int.emod_nonneg _ (by omega), fun _ => Int.emod_lt_of_pos _ (by omega), by omega, hi1⟩
    · rw [if_neg h1, e1]
      simp only [Option.bind_some]
      obtain ⟨v', i2, s2, e2, v0', v1', hi2⟩ := byte_some l hl i1 s1 hi1
      rw [e2]
      simp only [Option.bind_some]
      obtain ⟨v'', i3, s3, e3, v0'', v1'', hi3⟩ := byte_some l hl i2 s2 hi2
      rw [e3]
      simp only [Option.bind_some]
      have q : 0 ≤ wrap64 (wrap64 (wrap64 (v * 65536) + wrap64 (v' * 256)) + v'') := by unfold wrap64; omega
      rw [if_neg (by omega), Int.tmod_eq_emod_of_nonneg q]
      exact ⟨_, _, _, rfl, Int.emod_nonneg _ (by omega), fun _ => Int.emod_lt_of_pos _ (by omega), by omega, hi3⟩
theorem once_some (l : List Int) (hl : l.length ≤ 1048576) (i s : Int) (hi : St l i) (n : Int) : ∃ b i' s', spec_l1Once.f l i s n = some (b, i', s') ∧ St l i' := by
  unfold spec_l1Once.f
  obtain ⟨v, i1, s1, e1, _, _, _, hi1⟩ := below_some l hl i s hi n
  rw [e1]; exact ⟨_, _, _, rfl, hi1⟩
theorem int_some (l : List Int) (hl : l.length ≤ 1048576) (i s : Int) (hi : St l i) (xs : List Int) (hx : 0 < xs.length) : ∃ v i' s', spec_l1Int.f l i s xs = some (v, i', s') ∧ v ∈ xs ∧ St l i' := by
  unfold spec_l1Int.f
  obtain ⟨v, i1, s1, e1, h0, h1, _, hi1⟩ := below_some l hl i s hi (xs.length : Int)
  rw [e1]
  simp only [Option.bind_some]
  have h2 := h1 (by omega)
  rw [if_pos h0, if_pos h2]
  refine ⟨_, _, _, rfl, ?_, hi1⟩
  have h3 : v.toNat < xs.length := by omega
  unfold rd
  rw [getD_lt xs _ h3]
  exact List.getElem_mem h3
def Byts (l : List Int) : Prop := ∀ x ∈ l, (Lit.int .u8 x).wf = true
theorem wf_u8 {x : Int} (h : 0 ≤ x) (g : x ≤ 255) : (Lit.int .u8 x).wf = true := by
  simp [Lit.wf, IntKind.min, IntKind.max, IntKind.signed, IntKind.bits]; omega
theorem bytes_l0 (l : List Int) (hl : l.length ≤ 1048576) (n : Int) (hn : n ≤ 1000) : ∀ (d k : Nat) (j : Nat) (acc : List Int) (i s : Int), n.toNat - j = d → (j : Int) ≤ n ∨ j = 0 → d < k → acc.length = j → Byts acc → St l i →
    ∃ r i' s', (∀ k', d < k' → spec_l1Bytes.l0 k' n acc (j : Int) l i s = some (r, i', s')) ∧ r.length = j + d ∧ Byts r ∧ St l i' := by
  intro d
  induction d with
  | zero =>
    intro k j acc i s hd hj hk ha hb hi
    refine ⟨acc, i, s, fun k' hk' => ?_, by omega, hb, hi⟩
    obtain ⟨k', rfl⟩ : ∃ m, k' = m + 1 := ⟨k' - 1, by omega⟩
    have c : ¬ (j : Int) < n := by omega
    rw [spec_l1Bytes.l0, if_neg c]
  | succ d ih =>
    intro k j acc i s hd hj hk ha hb hi
    obtain ⟨v, i1, s1, e1, v0, v1, hi1⟩ := byte_some l hl i s hi
    have hm : v % 256 = v := by omega
    obtain ⟨r, i', s', h1, h2, h3, h4⟩ := ih (k - 1) (j + 1) (acc ++ [v]) i1 s1 (by omega) (by omega) (by omega) (by rw [List.length_append, List.length_singleton]; omega) (by
      intro x hx
      rcases List.mem_append.mp hx with hx | hx
      · exact hb x hx
      · obtain rfl := List.mem_singleton.mp hx; exact wf_u8 v0 v1) hi1
    refine ⟨r, i', s', fun k' hk' => ?_, by omega, h3, h4⟩
    obtain ⟨k', rfl⟩ : ∃ m, k' = m + 1 := ⟨k' - 1, by omega⟩
    have c : (j : Int) < n := by omega
    have c2 : acc.length < 140737488355328 := by omega
    rw [spec_l1Bytes.l0, if_pos c, e1, Option.bind_some, if_pos c2]
    simp only [hm]
    rw [w1 (by omega)]
    exact h1 k' (by omega)
theorem bytes_some (l : List Int) (hl : l.length ≤ 1048576) (i s : Int) (hi : St l i) (n : Int) (hn : n ≤ 1000) : ∃ r i' s', (∀ k : Nat, 2000 < k → spec_l1Bytes.f k l i s n = some (r, i', s')) ∧ r.length = n.toNat ∧ Byts r ∧ St l i' := by
  obtain ⟨r, i', s', h1, h2, h3, h4⟩ := bytes_l0 l hl n hn n.toNat (n.toNat + 1) 0 [] i s (by omega) (by omega) (by omega) rfl (fun x hx => by cases hx) hi
  exact ⟨r, i', s', fun k hk => h1 k (by omega), by omega, h3, h4⟩
theorem odd_some (l : List Int) (hl : l.length ≤ 1048576) (i s : Int) (hi : St l i) : ∃ v i' s', spec_l1Odd.f l i s = some (v, i', s') ∧ St l i' := by
  unfold spec_l1Odd.f
  obtain ⟨v, i1, s1, e1, _, hi1⟩ := int_some l hl i s hi [(-1), 0, 1, 2, 255, 256, 65535, 2147483647, 2147483648, 4294967295, 4294967296, (-2147483648), 9223372036854775807, (-9223372036854775808)] (by simp)
  rw [e1]; exact ⟨_, _, _, rfl, hi1⟩
theorem raw_some (l : List Int) (hl : l.length ≤ 1048576) (i s : Int) (hi : St l i) : ∃ v i' s', spec_l1Raw.f l i s = some (v, i', s') ∧ St l i' := by
  unfold spec_l1Raw.f
  obtain ⟨b, i1, s1, e1, hi1⟩ := once_some l hl i s hi 2
  rw [e1, Option.bind_some]
  by_cases c : b = true
  · subst c
    obtain ⟨v, i2, s2, e2, hi2⟩ := odd_some l hl i1 s1 hi1
    simp only [if_true, e2, Option.bind_some]
    exact ⟨_, _, _, rfl, hi2⟩
  · obtain rfl := Bool.eq_false_iff.mpr c
    obtain ⟨v, i2, s2, e2, _, hi2⟩ := int_some l hl i1 s1 hi1 [(-1), 1000000000, 1000000001] (by simp)
    simp only [Bool.false_eq_true, if_false, e2, Option.bind_some]
    exact ⟨_, _, _, rfl, hi2⟩
theorem spot_some (l : List Int) (hl : l.length ≤ 1048576) (i s : Int) (hi : St l i) (n : Int) : ∃ v i' s', spec_l2Spot.f l i s n = some (v, i', s') ∧ St l i' := by
  unfold spec_l2Spot.f
  obtain ⟨b, i1, s1, e1, hi1⟩ := once_some l hl i s hi 8
  rw [e1, Option.bind_some]
  by_cases c : b = true
  · subst c
    obtain ⟨v, i2, s2, e2, hi2⟩ := raw_some l hl i1 s1 hi1
    simp only [if_true, e2, Option.bind_some]
    exact ⟨_, _, _, rfl, hi2⟩
  · obtain rfl := Bool.eq_false_iff.mpr c
    obtain ⟨v, i2, s2, e2, _, _, _, hi2⟩ := below_some l hl i1 s1 hi1 (wrap64 (n + 2))
    simp only [Bool.false_eq_true, if_false, e2, Option.bind_some]
    exact ⟨_, _, _, rfl, hi2⟩
theorem same_l0 (a b : List Int) (hab : a.length = b.length) (hn : a.length ≤ 4611686018427387904) : ∀ (d k i : Nat), a.length - i = d → i ≤ a.length → d < k → laws_same.l0 k a b (i : Int) = some (decide (a.drop i = b.drop i)) := by
  intro d
  induction d with
  | zero =>
    intro k i hd hi hk
    obtain ⟨k, rfl⟩ : ∃ m, k = m + 1 := ⟨k - 1, by omega⟩
    simp only [laws_same.l0]
    rw [if_neg (by omega), List.drop_eq_nil_of_le (by omega), List.drop_eq_nil_of_le (by omega)]
    simp
  | succ d ih =>
    intro k i hd hi hk
    obtain ⟨k, rfl⟩ : ∃ m, k = m + 1 := ⟨k - 1, by omega⟩
    simp only [laws_same.l0]
    rw [if_pos (by omega), if_pos (by omega), if_pos (by omega), rd_nat, rd_nat, drop_cons a i (by omega), drop_cons b i (by omega)]
    by_cases h : a.getD i 0 = b.getD i 0
    · rw [if_pos h, w1 (by omega), ih k (i + 1) (by omega) (by omega) (by omega), h]
      simp
    · rw [if_neg h]
      simp only [List.cons.injEq, h, false_and, decide_false]
theorem same_some (a b : List Int) (hn : a.length ≤ 4611686018427387904) {k : Nat} (hk : a.length < k) : laws_same.f k a b = some (decide (a = b)) := by
  unfold laws_same.f
  by_cases h : a.length = b.length
  · rw [if_pos (by omega)]
    have := same_l0 a b h hn a.length k 0 (by omega) (by omega) hk
    simpa using this
  · rw [if_neg (by omega)]
    have : a ≠ b := fun e => h (by rw [e])
    simp [this]
theorem same_same (a : List Int) (hn : a.length ≤ 4611686018427387904) {k : Nat} (hk : a.length < k) : laws_same.f k a a = some true := by
  rw [same_some a a hn hk]; simp
theorem set_mid (A B D : List Int) (c z : Int) (i : Nat) (hi : i = A.length + B.length) : (A ++ (B ++ c :: D)).set i z = A ++ (B ++ z :: D) := by
  subst hi
  rw [List.set_append_right _ _ (by omega), Nat.add_sub_cancel_left, List.set_append_right _ _ (by omega), Nat.sub_self, List.set_cons_zero]
theorem wipe_l0 (l : List Int) (a : Nat) (n : Int) (m : Nat) (hm : a + m ≤ l.length) (hs : ∀ j : Nat, j < m ↔ ((a + j : Nat) : Int) < (l.length : Int) ∧ (j : Int) < n) (hl : l.length ≤ 1048576) : ∀ (d k j : Nat), m - j = d → j ≤ m → d < k →
    spec_Wipe.l0 k l (a : Int) n (l.take a ++ (List.replicate j 0 ++ l.drop (a + j))) ((a + j : Nat) : Int) = some (l.take a ++ (List.replicate m 0 ++ l.drop (a + m))) := by
  intro d
  induction d with
  | zero =>
    intro k j hd hj hk
    obtain ⟨k, rfl⟩ : ∃ m, k = m + 1 := ⟨k - 1, by omega⟩
    obtain rfl : j = m := by omega
    have h := hs j
    have e : wrap64 (((a + j : Nat) : Int) - (a : Int)) = (j : Int) := by unfold wrap64; omega
    rw [spec_Wipe.l0, e]
    by_cases c : ((a + j : Nat) : Int) < (l.length : Int)
    · rw [if_pos c, if_neg (fun g => absurd (h.mpr ⟨c, g⟩) (by omega))]
    · rw [if_neg c]
  | succ d ih =>
    intro k j hd hj hk
    obtain ⟨k, rfl⟩ : ∃ m, k = m + 1 := ⟨k - 1, by omega⟩
    have h := (hs j).mp (by omega)
    have e : wrap64 (((a + j : Nat) : Int) - (a : Int)) = (j : Int) := by unfold wrap64; omega
    have c0 : (0 : Int) ≤ ((a + j : Nat) : Int) := by omega
    have hlen : (l.take a ++ (List.replicate j 0 ++ l.drop (a + j))).length = l.length := by
      rw [List.length_append, List.length_append, List.length_take, List.length_replicate, List.length_drop]; omega
    have c1 : ((a + j : Nat) : Int) < ((l.take a ++ (List.replicate j 0 ++ l.drop (a + j))).length : Int) := by rw [hlen]; exact h.1
    rw [spec_Wipe.l0, e, if_pos h.1, if_pos h.2, if_pos c0, if_pos c1, w1 (by omega), Int.toNat_natCast, drop_cons l (a + j) (by omega), set_mid _ _ _ _ _ _ (by rw [List.length_take, List.length_replicate]; omega)]
    have e2 : List.replicate j (0 : Int) ++ (0 : Int) :: l.drop (a + j + 1) = List.replicate (j + 1) 0 ++ l.drop (a + (j + 1)) := by
      rw [List.replicate_succ', List.append_assoc, List.singleton_append]; rfl
    rw [e2]
    exact ih k (j + 1) (by omega) (by omega) (by omega)
def wiped (l : List Int) (a n : Int) : List Int := if a < 0 then l else if n < 0 then l else if (l.length : Int) < a then l else l.take a.toNat ++ (List.replicate (mn n ((l.length : Int) - a)).toNat 0 ++ l.drop (a.toNat + (mn n ((l.length : Int) - a)).toNat))
theorem wipe_impl (l : List Int) (a n : Int) (hl : l.length ≤ 1048576) : impl_Wipe.f l a n = some (wiped l a n) := by
  unfold impl_Wipe.f wiped
  rw [if_pos (by omega)]
theorem mn_cases (a b : Int) : mn a b = a ∧ a ≤ b ∨ mn a b = b ∧ b ≤ a := by
  unfold mn
  by_cases c : b < a
  · rw [if_pos c]; exact .inr ⟨rfl, by omega⟩
  · rw [if_neg c]; exact .inl ⟨rfl, by omega⟩
theorem wiped_len (l : List Int) (a n : Int) : (wiped l a n).length = l.length := by
  unfold wiped
  have h := mn_cases n ((l.length : Int) - a)
  by_cases c1 : a < 0
  · rw [if_pos c1]
  rw [if_neg c1]
  by_cases c2 : n < 0
  · rw [if_pos c2]
  rw [if_neg c2]
  by_cases c3 : (l.length : Int) < a
  · rw [if_pos c3]
  rw [if_neg c3, List.length_append, List.length_append, List.length_take, List.length_replicate, List.length_drop]
  omega
theorem wipe_spec (l : List Int) (a n : Int) (hl : l.length ≤ 1048576) {k : Nat} (hk : 1048578 < k) : spec_Wipe.f k l a n = some (wiped l a n) := by
  obtain ⟨k, rfl⟩ : ∃ m, k = m + 1 := ⟨k - 1, by omega⟩
  unfold spec_Wipe.f wiped
  simp only [Option.bind_some, List.length_nil, List.nil_append, Nat.zero_add]
  rw [if_pos (by omega)]
  by_cases c1 : a < 0
  · rw [if_pos c1, if_pos c1, spec_Wipe.j0, if_pos rfl]
  rw [if_neg c1, if_neg c1]
  by_cases c2 : n < 0
  · rw [if_pos c2, decide_eq_true c2, spec_Wipe.j0, if_pos rfl]
  rw [if_neg c2, decide_eq_false c2, spec_Wipe.j0, if_neg Bool.false_ne_true]
  obtain ⟨b, rfl⟩ : ∃ b : Nat, a = (b : Int) := ⟨a.toNat, by omega⟩
  by_cases c3 : (l.length : Int) < (b : Int)
  · obtain ⟨k, rfl⟩ : ∃ m, k = m + 1 := ⟨k - 1, by omega⟩
    rw [if_pos c3, spec_Wipe.l0, if_neg (by omega)]
  rw [if_neg c3, Int.toNat_natCast]
  have h := mn_cases n ((l.length : Int) - (b : Int))
  obtain ⟨m, hm⟩ : ∃ m : Nat, mn n ((l.length : Int) - (b : Int)) = (m : Int) := ⟨(mn n ((l.length : Int) - (b : Int))).toNat, by omega⟩
  rw [hm, Int.toNat_natCast]
  have w := wipe_l0 l b n m (by omega) (fun j => by omega) hl m k 0 (by omega) (by omega) (by omega)
  simpa using w
theorem put_l0 (l s : List Int) (a : Nat) (hm : a + s.length ≤ l.length) (hl : l.length ≤ 1048576) : ∀ (d k j : Nat), s.length - j = d → j ≤ s.length → d < k →
    spec_PutAt.l0 k (a : Int) s (l.take a ++ (s.take j ++ l.drop (a + j))) (j : Int) = some (l.take a ++ (s ++ l.drop (a + s.length)), true) := by
  intro d
  induction d with
  | zero =>
    intro k j hd hj hk
    obtain ⟨k, rfl⟩ : ∃ m, k = m + 1 := ⟨k - 1, by omega⟩
    obtain rfl : j = s.length := by omega
    rw [spec_PutAt.l0, if_neg (by omega), List.take_length]
  | succ d ih =>
    intro k j hd hj hk
    obtain ⟨k, rfl⟩ : ∃ m, k = m + 1 := ⟨k - 1, by omega⟩
    have e : wrap64 ((a : Int) + (j : Int)) = ((a + j : Nat) : Int) := by unfold wrap64; omega
    have c : (j : Int) < (s.length : Int) := by omega
    have c0 : (0 : Int) ≤ (j : Int) := by omega
    have c1 : (0 : Int) ≤ ((a + j : Nat) : Int) := by omega
    have hlen : (l.take a ++ (s.take j ++ l.drop (a + j))).length = l.length := by
      rw [List.length_append, List.length_append, List.length_take, List.length_take, List.length_drop]; omega
    have c2 : ((a + j : Nat) : Int) < ((l.take a ++ (s.take j ++ l.drop (a + j))).length : Int) := by rw [hlen]; omega
    rw [spec_PutAt.l0, e, if_pos c, if_pos c0, if_pos c1, if_pos c2, w1 (by omega), Int.toNat_natCast, drop_cons l (a + j) (by omega), set_mid _ _ _ _ _ _ (by rw [List.length_take, List.length_take]; omega), rd_nat]
    have e2 : s.take j ++ s.getD j 0 :: l.drop (a + j + 1) = s.take (j + 1) ++ l.drop (a + (j + 1)) := by
      have hj' : j < s.length := by omega
      rw [List.take_add_one, List.getElem?_eq_getElem hj', getD_lt s j hj', List.append_assoc]; rfl
    rw [e2]
    exact ih k (j + 1) (by omega) (by omega) (by omega)
def putl (l : List Int) (a : Int) (s : List Int) : List Int := if 0 ≤ a ∧ a + (s.length : Int) ≤ (l.length : Int) then l.take a.toNat ++ (s ++ l.drop (a.toNat + s.length)) else l
theorem putl_len (l : List Int) (a : Int) (s : List Int) : (putl l a s).length = l.length := by
  unfold putl
  by_cases c : 0 ≤ a ∧ a + (s.length : Int) ≤ (l.length : Int)
  · rw [if_pos c, List.length_append, List.length_append, List.length_take, List.length_drop]; omega
  · rw [if_neg c]
theorem put_impl (l : List Int) (a : Int) (s : List Int) (hl : l.length ≤ 1048576) : impl_PutAt.f l a s = some (putl l a s, decide (0 ≤ a ∧ a + (s.length : Int) ≤ (l.length : Int))) := by
  unfold impl_PutAt.f putl
  rw [if_pos (by omega)]
  by_cases c : 0 ≤ a ∧ a + (s.length : Int) ≤ (l.length : Int)
  · rw [if_pos c, if_pos c, decide_eq_true c]
  · rw [if_neg c, if_neg c, decide_eq_false c]
theorem put_spec (l : List Int) (a : Int) (s : List Int) (hl : l.length ≤ 1048576) (hs : s.length ≤ 1048576) {k : Nat} (hk : 1048576 < k) : spec_PutAt.f k l a s = some (putl l a s, decide (0 ≤ a ∧ a + (s.length : Int) ≤ (l.length : Int))) := by
  unfold spec_PutAt.f putl spec_l2There.f
  simp only [Option.bind_some, List.length_nil, List.nil_append, Nat.zero_add]
  rw [if_pos (by omega)]
  by_cases c : 0 ≤ a ∧ a + (s.length : Int) ≤ (l.length : Int)
  · have e : wrap64 ((l.length : Int) - a) = (l.length : Int) - a := by unfold wrap64; omega
    have c0 : a ≥ 0 := c.1
    have c1 : (s.length : Int) ≥ 0 := by omega
    have c2 : a ≤ (l.length : Int) := by omega
    have c3 : (s.length : Int) ≤ (l.length : Int) - a := by omega
    rw [if_pos c, if_pos c0, if_pos c1, if_pos c2, e, decide_eq_true c3, Option.bind_some, if_pos rfl, decide_eq_true c]
    obtain ⟨b, rfl⟩ : ∃ b : Nat, a = (b : Int) := ⟨a.toNat, by omega⟩
    have w := put_l0 l s b (by omega) hl s.length k 0 (by omega) (by omega) (by omega)
    simpa using w
  · rw [if_neg c, decide_eq_false c]
    by_cases c0 : a ≥ 0
    · rw [if_pos c0, if_pos (by omega)]
      by_cases c2 : a ≤ (l.length : Int)
      · have e : wrap64 ((l.length : Int) - a) = (l.length : Int) - a := by unfold wrap64; omega
        rw [if_pos c2, e, decide_eq_false (by omega), Option.bind_some, if_neg Bool.false_ne_true]
      · rw [if_neg c2, Option.bind_some, if_neg Bool.false_ne_true]
    · rw [if_neg c0, Option.bind_some, if_neg Bool.false_ne_true]
def There (n a b : Int) : Prop := 0 ≤ a ∧ 0 ≤ b ∧ a ≤ n ∧ b ≤ n - a
instance (n a b : Int) : Decidable (There n a b) := by unfold There; infer_instance
theorem there_some (l : List Int) (hl : l.length ≤ 1048576) (a b : Int) : spec_l2There.f l a b = some (decide (There (l.length : Int) a b)) := by
  unfold spec_l2There.f
  by_cases h1 : a ≥ 0
  · rw [if_pos h1]
    by_cases h2 : b ≥ 0
    · rw [if_pos h2]
      by_cases h3 : a ≤ (l.length : Int)
      · have e : wrap64 ((l.length : Int) - a) = (l.length : Int) - a := by unfold wrap64; omega
        rw [if_pos h3, e]
        congr 1
        exact decide_eq_decide.mpr ⟨fun h => ⟨h1, h2, h3, h⟩, fun h => h.2.2.2⟩
      · rw [if_neg h3, decide_eq_false (fun h => h3 h.2.2.1)]
    · rw [if_neg h2, decide_eq_false (fun h => h2 h.2.1)]
  · rw [if_neg h1, decide_eq_false (fun h => h1 h.1)]
theorem has_some (n : Nat) (hl : n ≤ 1048576) (a b : Int) : impl_has.f (n : Int) a b = some (decide (There (n : Int) a b)) := by
  unfold impl_has.f
  by_cases h2 : b ≥ 0
  · rw [if_pos h2]
    by_cases h3 : b ≤ (n : Int)
    · have e : wrap64 ((n : Int) - b) = (n : Int) - b := by unfold wrap64; omega
      rw [if_pos h3, e]
      unfold impl_within.f
      by_cases h1 : a ≥ 0
      · rw [if_pos h1, Option.bind_some]
        congr 1
        exact decide_eq_decide.mpr ⟨fun h => ⟨h1, h2, by omega, by omega⟩, fun h => by have := h.2.2.2; omega⟩
      · rw [if_neg h1, Option.bind_some, decide_eq_false (fun h => h1 h.1)]
    · rw [if_neg h3, decide_eq_false (fun h => by have := h.2.2.2; have := h.1; omega)]
  · rw [if_neg h2, decide_eq_false (fun h => h2 h.2.1)]
def getl (l : List Int) (a b : Int) : List Int × Bool := if There (l.length : Int) a b then ((l.take (a + b).toNat).drop a.toNat, true) else ([], false)
theorem get_both (l : List Int) (hl : l.length ≤ 1048576) (a b : Int) : spec_GetAt.f l a b = some (getl l a b) ∧ impl_GetAt.f l a b = some (getl l a b) := by
  unfold spec_GetAt.f impl_GetAt.f getl
  rw [there_some l hl, has_some l.length hl]
  by_cases h : There (l.length : Int) a b
  · obtain ⟨h1, h2, h3, h4⟩ := id h
    have e : wrap64 (a + b) = a + b := by unfold wrap64; omega
    have c1 : a ≤ a + b := by omega
    have c2 : a + b ≤ (l.length : Int) := by omega
    have hn : ((l.take (a + b).toNat).drop a.toNat).length ≤ 1048576 := by simp; omega
    have c3 : (([] : List Int)).length + ((l.take (a + b).toNat).drop a.toNat).length < 140737488355328 := by simp only [List.length_nil]; omega
    have c4 : slices_Clone_byte_byte.f ((l.take (a + b).toNat).drop a.toNat) = some ((l.take (a + b).toNat).drop a.toNat) := by
      unfold slices_Clone_byte_byte.f
      rw [if_pos (by omega)]
    simp only [decide_eq_true h, Option.bind_some, ↓reduceIte, e, h1, c1, c2, c3, c4, List.nil_append, if_pos h, and_self]
  · simp only [decide_eq_false h, Option.bind_some, Bool.false_eq_true, ↓reduceIte, if_neg h, and_self]
theorem getl_len (l : List Int) (a b : Int) : (getl l a b).1.length ≤ l.length := by
  unfold getl
  by_cases h : There (l.length : Int) a b
  · rw [if_pos h]; simp; omega
  · rw [if_neg h]; simp
theorem zeros_both (a : Int) : ∃ r, spec_Zeros.f a = some (List.replicate r 0) ∧ impl_Zeros.f a = some (List.replicate r 0) ∧ r ≤ 4096 := by
  have e : impl_Zeros.f a = spec_Zeros.f a := rfl
  rw [e]
  unfold spec_Zeros.f spec_l1In.f
  by_cases c : a ≥ 0
  · rw [if_pos c, Option.bind_some]
    by_cases d : a ≤ 4096
    · rw [decide_eq_true d, if_pos rfl, if_pos c, if_pos (by omega)]
      exact ⟨a.toNat, rfl, rfl, by omega⟩
    · rw [decide_eq_false d, if_neg Bool.false_ne_true]; exact ⟨0, rfl, rfl, by omega⟩
  · rw [if_neg c, Option.bind_some, if_neg Bool.false_ne_true]; exact ⟨0, rfl, rfl, by omega⟩
theorem zero_rep (r : Nat) (hr : r ≤ 1048576) {k : Nat} (hk : 1048577 < k) : impl_IsZero.f k (List.replicate r 0) = some true := by
  have hz : ∀ (d k i : Nat), r - i = d → i ≤ r → d < k → slices_IndexFunc_byte_byte.l0 k (List.replicate r (0 : Int)) (r : Int) (i : Int) = some (-1) := by
    intro d
    induction d with
    | zero =>
      intro k i hd hi hk
      obtain ⟨k, rfl⟩ : ∃ m, k = m + 1 := ⟨k - 1, by omega⟩
      have c : ¬ (i : Int) < (r : Int) := by omega
      rw [slices_IndexFunc_byte_byte.l0, if_neg c]
    | succ d ih =>
      intro k i hd hi hk
      obtain ⟨k, rfl⟩ : ∃ m, k = m + 1 := ⟨k - 1, by omega⟩
      have c : (i : Int) < (r : Int) := by omega
      have c0 : (0 : Int) ≤ (i : Int) := by omega
      have c1 : (i : Int) < ((List.replicate r (0 : Int)).length : Int) := by rw [List.length_replicate]; exact c
      have hi' : i < r := by omega
      have e : rd (List.replicate r (0 : Int)) (i : Int) = 0 := by rw [rd_nat, List.getD, List.getElem?_replicate, if_pos hi']; rfl
      rw [slices_IndexFunc_byte_byte.l0, if_pos c, if_pos c0, if_pos c1, e]
      unfold impl_IsZero_1.f
      rw [Option.bind_some, if_neg (by simp), w1 (by omega)]
      exact ih k (i + 1) (by omega) (by omega) (by omega)
  have h := hz r k 0 (by omega) (by omega) (by omega)
  unfold impl_IsZero.f slices_ContainsFunc_byte_byte.f slices_IndexFunc_byte_byte.f
  have h' : slices_IndexFunc_byte_byte.l0 k (List.replicate r (0 : Int)) ((List.replicate r (0 : Int)).length : Int) 0 = some (-1) := by rw [List.length_replicate]; exact h
  rw [h', Option.bind_some, Option.bind_some]
  rfl
theorem wipe_all (b : List Int) (hb : b.length ≤ 1048576) : impl_Wipe.f b 0 (b.length : Int) = some (List.replicate b.length 0) := by
  rw [wipe_impl b 0 _ hb]
  congr 1
  unfold wiped
  have hmv : mn (b.length : Int) ((b.length : Int) - 0) = (b.length : Int) := by rw [Int.sub_zero]; unfold mn; rw [if_neg (Int.lt_irrefl _)]
  have n1 : ¬ (0 : Int) < 0 := Int.lt_irrefl _
  have n2 : ¬ (b.length : Int) < 0 := by omega
  rw [if_neg n1, if_neg n2, if_neg n2, hmv, Int.toNat_natCast, Int.toNat_zero, List.take_zero, List.nil_append, Nat.zero_add, List.drop_length, List.append_nil]
theorem same_few (b : List Int) {k : Nat} (hb : b.length ≤ 1000) (hk : 4000000 < k + 1) : laws_same.f k b b = some true := same_same b (by omega) (by omega)
theorem same_take (b : List Int) (a : Nat) {k : Nat} (hb : b.length ≤ 1000) (hk : 4000000 < k + 1) : laws_same.f k (b.take a) (b.take a) = some true := same_few _ (by rw [List.length_take]; omega) hk
theorem same_drop (b : List Int) (a : Nat) {k : Nat} (hb : b.length ≤ 1000) (hk : 4000000 < k + 1) : laws_same.f k (b.drop a) (b.drop a) = some true := same_few _ (by rw [List.length_drop]; omega) hk
theorem zero_few (r : Nat) {k : Nat} (hr : r ≤ 1000) (hk : 4000000 < k + 1) : impl_IsZero.f k (List.replicate r 0) = some true := zero_rep r (by omega) (by omega)
theorem drawPut (l : List Int) (hl : l.length ≤ 1048576) {k : Nat} (hk : 1048576 < k) : ∃ b a s, spec_DrawPutAt.f k l = some (b, a, s) ∧ b.length ≤ 1000 ∧ s.length ≤ 1000 := by
  unfold spec_DrawPutAt.f
  obtain ⟨s0, e0⟩ := new_some l hl hk
  have h0 : St l 0 := ⟨by omega, by omega⟩
  obtain ⟨v, i1, s1, e1, v0, v1, _, hi1⟩ := below_some l hl 0 s0 h0 12
  obtain ⟨b, i2, s2, e2, hb, _, hi2⟩ := bytes_some l hl i1 s1 hi1 v (by omega)
  obtain ⟨a, i3, s3, e3, hi3⟩ := spot_some l hl i2 s2 hi2 (b.length : Int)
  obtain ⟨u, i4, s4, e4, u0, u1, _, hi4⟩ := below_some l hl i3 s3 hi3 5
  obtain ⟨s, i5, s5, e5, hs, _, _⟩ := bytes_some l hl i4 s4 hi4 u (by omega)
  rw [e0]
  simp only [Option.bind_some, e1, e2 k (by omega), e3, e4, e5 k (by omega)]
  exact ⟨b, a, s, rfl, by omega, by omega⟩
theorem drawGet (l : List Int) (hl : l.length ≤ 1048576) {k : Nat} (hk : 1048576 < k) : ∃ b a n, spec_DrawGetAt.f k l = some (b, a, n) ∧ b.length ≤ 1000 := by
  unfold spec_DrawGetAt.f
  obtain ⟨s0, e0⟩ := new_some l hl hk
  have h0 : St l 0 := ⟨by omega, by omega⟩
  obtain ⟨v, i1, s1, e1, v0, v1, _, hi1⟩ := below_some l hl 0 s0 h0 12
  obtain ⟨b, i2, s2, e2, hb, _, hi2⟩ := bytes_some l hl i1 s1 hi1 v (by omega)
  obtain ⟨a, i3, s3, e3, hi3⟩ := spot_some l hl i2 s2 hi2 (b.length : Int)
  obtain ⟨u, i4, s4, e4, hi4⟩ := spot_some l hl i3 s3 hi3 5
  rw [e0]
  simp only [Option.bind_some, e1, e2 k (by omega), e3, e4]
  exact ⟨b, a, u, rfl, by omega⟩
theorem drawWipe (l : List Int) (hl : l.length ≤ 1048576) {k : Nat} (hk : 1048576 < k) : ∃ b a n, spec_DrawWipe.f k l = some (b, a, n) ∧ b.length ≤ 1000 := by
  unfold spec_DrawWipe.f
  obtain ⟨s0, e0⟩ := new_some l hl hk
  have h0 : St l 0 := ⟨by omega, by omega⟩
  obtain ⟨v, i1, s1, e1, v0, v1, _, hi1⟩ := below_some l hl 0 s0 h0 12
  obtain ⟨b, i2, s2, e2, hb, _, hi2⟩ := bytes_some l hl i1 s1 hi1 v (by omega)
  obtain ⟨a, i3, s3, e3, hi3⟩ := spot_some l hl i2 s2 hi2 (b.length : Int)
  obtain ⟨u, i4, s4, e4, hi4⟩ := spot_some l hl i3 s3 hi3 6
  rw [e0]
  simp only [Option.bind_some, e1, e2 k (by omega), e3, e4]
  exact ⟨b, a, u, rfl, by omega⟩
theorem drawZeros (l : List Int) (hl : l.length ≤ 1048576) {k : Nat} (hk : 1048576 < k) : ∃ n, spec_DrawZeros.f k l = some n := by
  unfold spec_DrawZeros.f
  obtain ⟨s0, e0⟩ := new_some l hl hk
  have h0 : St l 0 := ⟨by omega, by omega⟩
  obtain ⟨v, i1, s1, e1, _, _⟩ := int_some l hl 0 s0 h0 [0, 1, 7, 4096, 4097, (-1)] (by simp)
  rw [e0]
  simp only [Option.bind_some, e1]
  exact ⟨v, rfl⟩
theorem FnBytes : laws_FnBytes.Pure := by
  intro l hm h2 hw
  obtain ⟨k, hk⟩ : ∃ k : Nat, 4000000 < k := ⟨_, Nat.lt_succ_self _⟩
  obtain ⟨k, rfl⟩ : ∃ m, k = m + 1 := ⟨k - 1, by omega⟩
  refine ⟨k + 1, ?_⟩
  unfold laws_FnBytes.f laws_big.f
  rw [Option.bind_some]
  by_cases hb : (l.length : Int) > 1048576
  · rw [decide_eq_true hb, if_pos rfl]
  rw [decide_eq_false hb, if_neg Bool.false_ne_true]
  have hl : l.length ≤ 1048576 := by omega
  obtain ⟨b, i, s, e1, hb1, hs1⟩ := drawPut l hl (k := k + 1) (by omega)
  obtain ⟨c, p, n, e2, hc⟩ := drawGet l hl (k := k + 1) (by omega)
  obtain ⟨w, q, m, e3, hw1⟩ := drawWipe l hl (k := k + 1) (by omega)
  obtain ⟨z, e4⟩ := drawZeros l hl (k := k + 1) (by omega)
  obtain ⟨r, z1, z2, hr⟩ := zeros_both z
  have hp := putl_len b i s
  have hg := getl_len c p n
  have hwl := wiped_len w q m
  obtain ⟨g1, g2⟩ := get_both c (by omega) p n
  obtain ⟨gl, gb, ge⟩ : ∃ gl gb, getl c p n = (gl, gb) := ⟨_, _, rfl⟩
  rw [ge] at g1 g2 hg
  simp only at hg
  simp only [e1, e2, e3, e4, Option.bind_some, put_impl b i s (show b.length ≤ 1048576 by omega), put_spec b i s (show b.length ≤ 1048576 by omega) (show s.length ≤ 1048576 by omega) (show 1048576 < k + 1 by omega), g1, g2, wipe_impl w q m (show w.length ≤ 1048576 by omega), wipe_spec w q m (show w.length ≤ 1048576 by omega) (show 1048578 < k + 1 by omega), z1, z2, same_same (putl b i s) (show (putl b i s).length ≤ 4611686018427387904 by omega) (show (putl b i s).length < k + 1 by omega), same_same gl (show gl.length ≤ 4611686018427387904 by omega) (show gl.length < k + 1 by omega), same_same (wiped w q m) (show (wiped w q m).length ≤ 4611686018427387904 by omega) (show (wiped w q m).length < k + 1 by omega), same_same (List.replicate r 0) (show (List.replicate r (0 : Int)).length ≤ 4611686018427387904 by rw [List.length_replicate]; omega) (show (List.replicate r (0 : Int)).length < k + 1 by rw [List.length_replicate]; omega), if_true, bne_self_eq_false, Bool.false_eq_true, if_false, zero_rep r (by omega) (show 1048577 < k + 1 by omega), Bool.not_true]
  rw [laws_FnBytes.j0, if_neg Bool.false_ne_true]
  by_cases G : 0 ≤ i ∧ i + (s.length : Int) ≤ (b.length : Int)
  · rw [decide_eq_true G, if_pos rfl]
    obtain ⟨a, rfl⟩ : ∃ a : Nat, i = (a : Int) := ⟨i.toNat, by omega⟩
    have hab : (a : Int) ≤ (b.length : Int) := by omega
    have hasb : ((a + s.length : Nat) : Int) ≤ (b.length : Int) := by omega
    have hx : putl b (a : Int) s = b.take a ++ (s ++ b.drop (a + s.length)) := by
      unfold putl; rw [if_pos G, Int.toNat_natCast]
    have hta : (b.take a).length = a := by rw [List.length_take]; omega
    have T : There ((putl b (a : Int) s).length : Int) (a : Int) (s.length : Int) := ⟨by omega, by omega, by omega, by omega⟩
    have e5 : (((a : Int) + (s.length : Int)).toNat) = a + s.length := by omega
    have g3 : impl_GetAt.f (putl b (a : Int) s) (a : Int) (s.length : Int) = some (s, true) := by
      rw [(get_both (putl b (a : Int) s) (by omega) _ _).2]
      unfold getl
      rw [if_pos T, e5, Int.toNat_natCast, hx]
      congr 2
      rw [List.take_append, hta, List.take_of_length_le (by omega), show a + s.length - a = s.length by omega, List.take_left, List.drop_append, hta, List.drop_of_length_le (by omega), Nat.sub_self, List.drop_zero, List.nil_append]
    have ew : wrap64 ((a : Int) + (s.length : Int)) = ((a + s.length : Nat) : Int) := by unfold wrap64; omega
    have t1 : (putl b (a : Int) s).take a = b.take a := by
      rw [hx, List.take_append, hta, List.take_of_length_le (by omega), Nat.sub_self, List.take_zero, List.append_nil]
    have t2 : (putl b (a : Int) s).drop (a + s.length) = b.drop (a + s.length) := by
      rw [hx, ← List.append_assoc, List.drop_append, List.drop_of_length_le (by rw [List.length_append, hta]; omega), List.nil_append, List.length_append, hta, Nat.sub_self, List.drop_zero]
    have wz : impl_Wipe.f b 0 (b.length : Int) = some (List.replicate b.length 0) := wipe_all b (Nat.le_trans hb1 (by decide))
    have c1 : ((putl b (a : Int) s).length : Int) = (b.length : Int) := by rw [hp]
    have c2 : (0 : Int) ≤ (a : Int) := G.1
    have c4 : (a : Int) ≤ (b.length : Int) := hab
    have c3 : (a : Int) ≤ ((putl b (a : Int) s).length : Int) := by rw [hp]; exact hab
    have c5 : (0 : Int) ≤ ((a + s.length : Nat) : Int) := Int.natCast_nonneg _
    have c7 : ((a + s.length : Nat) : Int) ≤ (b.length : Int) := hasb
    have c6 : ((a + s.length : Nat) : Int) ≤ ((putl b (a : Int) s).length : Int) := by rw [hp]; exact hasb
    rw [g3]
    simp only [Option.bind_some, if_true]
    have tt : (true = true) := rfl
    have s1 := same_few s hs1 hk
    have s2 := same_take b a hb1 hk
    have s3 := same_drop b (a + s.length) hb1 hk
    have s4 := zero_few b.length hb1 hk
    simp only [s1, Option.bind_some, ↓reduceIte, if_pos c1, if_pos c2, if_pos c3, if_pos c4, Int.toNat_natCast, t1, s2, ew, if_pos c5, if_pos c6, if_pos c7, t2, s3, wz, s4]
  · rw [decide_eq_false G, if_neg Bool.false_ne_true]
    have hx : putl b i s = b := by unfold putl; rw [if_neg G]
    rw [hx, same_same b (by omega) (by omega), Option.bind_some]
end Go.Proofs.Ytamelcmioliapaa.Pure
