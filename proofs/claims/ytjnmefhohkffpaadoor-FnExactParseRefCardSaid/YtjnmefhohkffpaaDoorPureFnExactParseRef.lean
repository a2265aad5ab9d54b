/- What the law FnExactParseRef computes is the answer true, for all arguments within the bounds that the statement's own reading gives. No other condition. -/
import Derived.OpenShut
import Derived.Test.YtjnmefhohkffpaaDoorQFnExactParseRefx3
namespace Go.Proofs.YtjnmefhohkffpaaDoor.Pure
open Go.RowKit Go.Proofs.YtjnmefhohkffpaaDoor.QFnExactParseRef Go.Proofs.YtjnmefhohkffpaaDoorW.PrintWords Go.Proofs.YtjnmefhohkffpaaDoorW.PrintLast
set_option linter.unusedVariables false
set_option linter.unusedSimpArgs false
def laws_FnExactParseRef.Pure : Prop := ∀ (a0 : ByteArray), a0.size ≤ 140737488351232 → ∃ k, laws_FnExactParseRef.f k a0 = some true
theorem digW (x : Int) (h0 : -9223372036854775808 ≤ x) (h1 : x ≤ 9223372036854775807) :
    (if (Int.tmod x 10) < 0 then wrap64 (48 + (wrap64 (-(Int.tmod x 10)))) % 256 else wrap64 (48 + (Int.tmod x 10)) % 256) = ((48 + x.natAbs % 10 : Nat) : Int) ∧ (wrap64 (Int.tdiv x 10)).natAbs = x.natAbs / 10 ∧ wrap64 (Int.tdiv x 10) = Int.tdiv x 10 ∧ -9223372036854775808 ≤ Int.tdiv x 10 ∧ Int.tdiv x 10 ≤ 9223372036854775807 := by
  rcases Int.eq_nat_or_neg x with ⟨u, hu | hu⟩
  · subst hu
    have e1 : Int.tmod (u : Int) 10 = ((u % 10 : Nat) : Int) := (Int.ofNat_tmod u 10).symm
    have e2 : Int.tdiv (u : Int) 10 = ((u / 10 : Nat) : Int) := (Int.ofNat_tdiv u 10).symm
    have e3 : (u : Int).natAbs = u := Int.natAbs_natCast u
    have w : wrap64 ((u / 10 : Nat) : Int) = ((u / 10 : Nat) : Int) := by unfold wrap64; omega
    rw [e1, e2, e3, w, if_neg (by omega)]
    refine ⟨?_, ?_, rfl, ?_, ?_⟩ <;> (try unfold wrap64) <;> omega
  · subst hu
    have e1 : Int.tmod (-(u : Int)) 10 = -((u % 10 : Nat) : Int) := by rw [Int.neg_tmod, show Int.tmod (u : Int) 10 = ((u % 10 : Nat) : Int) from (Int.ofNat_tmod u 10).symm]
    have e2 : Int.tdiv (-(u : Int)) 10 = -((u / 10 : Nat) : Int) := by rw [Int.neg_tdiv, show Int.tdiv (u : Int) 10 = ((u / 10 : Nat) : Int) from (Int.ofNat_tdiv u 10).symm]
    have e3 : (-(u : Int)).natAbs = u := by rw [Int.natAbs_neg]; exact Int.natAbs_natCast u
    have w : wrap64 (-((u / 10 : Nat) : Int)) = -((u / 10 : Nat) : Int) := by unfold wrap64; omega
    have w2 : wrap64 (-(-((u % 10 : Nat) : Int))) = ((u % 10 : Nat) : Int) := by unfold wrap64; omega
    rw [e1, e2, e3, w, w2]
    refine ⟨?_, ?_, rfl, ?_, ?_⟩
    · by_cases c : (-((u % 10 : Nat) : Int)) < 0
      · rw [if_pos c]; unfold wrap64; omega
      · rw [if_neg c]; unfold wrap64; omega
    all_goals omega
def digs (u : Nat) : List UInt8 := if u = 0 then [] else Lib.decDigits u
theorem digs_step (u : Nat) (h : u ≠ 0) : digs u = digs (u / 10) ++ [UInt8.ofNat (48 + u % 10)] := by
  unfold digs
  rw [if_neg h, Lib.decDigits]
  by_cases c : u < 10
  · rw [dif_pos c, if_pos (by omega), show u % 10 = u by omega]
    rfl
  · rw [dif_neg c, if_neg (by omega)]
def finN (a0 : Int) (l : List UInt8) : List UInt8 := if a0 < 0 then 45 :: l else l
theorem digs_len : ∀ (j u : Nat), u < 10 ^ j → (digs u).length ≤ j
  | 0, u, h => by
    have : u = 0 := by simp at h; exact h
    subst this
    simp [digs]
  | j + 1, u, h => by
    by_cases c : u = 0
    · subst c
      simp [digs]
    · rw [digs_step u c, List.length_append]
      have := digs_len j (u / 10) (by rw [Nat.pow_succ] at h; omega)
      simp
      omega
theorem numS_l0 (a0 : Int) : ∀ (j k : Nat) (x : Int) (l : List UInt8), x.natAbs < 10 ^ j → j < k → -9223372036854775808 ≤ x → x ≤ 9223372036854775807 → l.length + j ≤ 1000 →
    spec_NumText.l0 k a0 (⟨l.toArray⟩ : ByteArray) x = some (⟨(finN a0 (digs x.natAbs ++ l)).toArray⟩ : ByteArray) := by
  have stop : ∀ (k : Nat) (l : List UInt8), l.length ≤ 1000 → spec_NumText.l0 (k + 1) a0 (⟨l.toArray⟩ : ByteArray) 0 = some (⟨(finN a0 (digs (0 : Int).natAbs ++ l)).toArray⟩ : ByteArray) := by
    intro k l hl
    have hd : digs (0 : Int).natAbs = [] := rfl
    have hs : (⟨l.toArray⟩ : ByteArray).size = l.length := by simp [ByteArray.size]
    rw [hd]
    simp only [spec_NumText.l0, if_true, List.nil_append, finN]
    by_cases c : a0 < 0
    · rw [if_pos c, if_pos (by omega), if_pos c]
      rfl
    · rw [if_neg c, if_neg c]
  intro j
  induction j with
  | zero =>
    intro k x l h hk _ _ hl
    obtain ⟨k, rfl⟩ : ∃ m, k = m + 1 := ⟨k - 1, by omega⟩
    have e : x = 0 := by simp at h; exact h
    subst e
    exact stop k l (by omega)
  | succ j ih =>
    intro k x l h hk h0 h1 hl
    obtain ⟨k, rfl⟩ : ∃ m, k = m + 1 := ⟨k - 1, by omega⟩
    by_cases c : x = 0
    · subst c
      exact stop k l (by omega)
    · obtain ⟨e1, e2, e3, e4, e5⟩ := digW x h0 h1
      have hs : (⟨l.toArray⟩ : ByteArray).size = l.length := by simp [ByteArray.size]
      have hn : x.natAbs ≠ 0 := by omega
      have app : ∀ d : Nat, (strOfNums [(d : Int)]) ++ (⟨l.toArray⟩ : ByteArray) = (⟨(UInt8.ofNat d :: l).toArray⟩ : ByteArray) := by
        intro d
        apply ByteArray.ext
        simp [strOfNums]
      have sz : ∀ d : Nat, (strOfNums [(d : Int)]).size = 1 := by
        intro d
        rw [strOfNums_size]
        rfl
      have R := ih k (Int.tdiv x 10) (UInt8.ofNat (48 + x.natAbs % 10) :: l) (by rw [e3] at e2; rw [e2]; rw [Nat.pow_succ] at h; omega) (by omega) e4 e5 (by simp; omega)
      have G : spec_NumText.l0 k a0 (⟨(UInt8.ofNat (48 + x.natAbs % 10) :: l).toArray⟩ : ByteArray) (Int.tdiv x 10) = some (⟨(finN a0 (digs x.natAbs ++ l)).toArray⟩ : ByteArray) := by
        rw [R]
        rw [e3] at e2
        rw [e2, digs_step x.natAbs hn, List.append_assoc]
        rfl
      simp only [spec_NumText.l0]
      rw [if_neg c]
      by_cases c2 : (Int.tmod x 10) < 0
      · rw [if_pos c2] at e1
        rw [if_pos c2, e1]
        simp only [Option.bind_some]
        rw [if_pos (by rw [sz, hs]; omega), app, e3]
        exact G
      · rw [if_neg c2] at e1
        rw [if_neg c2, e1]
        simp only [Option.bind_some]
        rw [if_pos (by rw [sz, hs]; omega), app, e3]
        exact G
theorem itoa_fin (n : Int) (h : n ≠ 0) : Lib.itoa n = finN n (digs n.natAbs) := by
  unfold Lib.itoa finN digs
  by_cases c : n < 0
  · rw [if_pos c, if_pos c, if_neg (by omega)]
  · rw [if_neg c, if_neg c, if_neg (by omega), show n.toNat = n.natAbs by omega]
theorem numS (n : Int) (h0 : -9223372036854775808 ≤ n) (h1 : n ≤ 9223372036854775807) {k : Nat} (hk : 20 < k) : spec_NumText.f k n = some (⟨(Lib.itoa n).toArray⟩ : ByteArray) := by
  unfold spec_NumText.f
  by_cases c : n = 0
  · rw [if_pos c]
    subst c
    congr 1
    apply ByteArray.ext
    have : Lib.itoa 0 = [48] := by unfold Lib.itoa; rw [if_neg (by decide)]; unfold Lib.decDigits; rfl
    rw [this]
  · rw [if_neg c]
    have := numS_l0 n 20 k n [] (by omega) hk h0 h1 (by decide)
    rw [List.append_nil, ← itoa_fin n c] at this
    exact this
theorem numI (n : Int) (h0 : -9223372036854775808 ≤ n) (h1 : n ≤ 9223372036854775807) : impl_NumText.f n = some (⟨(Lib.itoa n).toArray⟩ : ByteArray) := by
  unfold impl_NumText.f strconv_Itoa.f
  rw [if_pos ⟨h0, h1⟩]
  rfl
def vf (acc : Nat) : List UInt8 → Option Nat
  | [] => some acc
  | c :: r => if 48 ≤ c.toNat ∧ c.toNat ≤ 57 then vf (acc * 10 + (c.toNat - 48)) r else none
/-- The number of a text, and whether it has one. -/
def pn (l : List UInt8) : Int × Bool :=
  if 1 ≤ l.length ∧ l.length ≤ 10 then
    match vf 0 l with
    | none => (0, false)
    | some u => if u ≤ 1000000000 ∧ Lib.itoa (u : Int) = l then ((u : Int), true) else (0, false)
  else (0, false)
theorem vf_mono : ∀ (l : List UInt8) (acc u : Nat), vf acc l = some u → acc ≤ u
  | [], acc, u, h => by
    simp only [vf, Option.some.injEq] at h
    omega
  | c :: r, acc, u, h => by
    simp only [vf] at h
    by_cases k : 48 ≤ c.toNat ∧ c.toNat ≤ 57
    · rw [if_pos k] at h
      have := vf_mono r _ u h
      omega
    · rw [if_neg k] at h
      cases h
theorem vf_parse : ∀ (l : List UInt8) (acc u : Nat), vf acc l = some u → u ≤ 1000000000 → Lib.parseUint10 acc l = .ok u
  | [], acc, u, h, _ => by
    simp only [vf, Option.some.injEq] at h
    rw [h]
    rfl
  | c :: r, acc, u, h, hu => by
    simp only [vf] at h
    by_cases k : 48 ≤ c.toNat ∧ c.toNat ≤ 57
    · rw [if_pos k] at h
      have := vf_mono r _ u h
      simp only [Lib.parseUint10]
      rw [if_pos k, if_neg (by omega), if_neg (by omega)]
      exact vf_parse r _ u h hu
    · rw [if_neg k] at h
      cases h
theorem vf_atoi (l : List UInt8) (u : Nat) (h : vf 0 l = some u) (hu : u ≤ 1000000000) (hl : 1 ≤ l.length) : Lib.atoiAll l = .ok (u : Int) := by
  cases l with
  | nil => exact absurd hl (by decide)
  | cons c r =>
    have p := vf_parse (c :: r) 0 u h hu
    have k : 48 ≤ c.toNat ∧ c.toNat ≤ 57 := by
      simp only [vf] at h
      by_cases k : 48 ≤ c.toNat ∧ c.toNat ≤ 57
      · exact k
      · rw [if_neg k] at h
        cases h
    have n1 : ¬ (c.toNat = 43 ∨ c.toNat = 45) := by omega
    have n2 : ¬ c.toNat = 45 := by omega
    have e : Lib.parseMag (c :: r) = .ok u := by
      unfold Lib.parseMag
      rw [if_neg (by simp)]
      exact p
    unfold Lib.atoiAll
    simp only [if_neg n1, e]
    rw [if_neg (by omega), if_neg (fun x => n2 x.1), if_neg n2]
theorem vf_append : ∀ (a b : List UInt8) (acc : Nat), vf acc (a ++ b) = (vf acc a).bind fun x => vf x b
  | [], b, acc => rfl
  | c :: r, b, acc => by
    simp only [List.cons_append, vf]
    by_cases k : 48 ≤ c.toNat ∧ c.toNat ≤ 57
    · rw [if_pos k, if_pos k]
      exact vf_append r b _
    · rw [if_neg k, if_neg k]
      rfl
theorem dig_toNat (d : Nat) (h : d < 10) : (UInt8.ofNat (48 + d)).toNat = 48 + d := by
  simp only [UInt8.toNat_ofNat']
  omega
theorem vf_one (acc d : Nat) (h : d < 10) : vf acc [UInt8.ofNat (48 + d)] = some (acc * 10 + d) := by
  simp only [vf]
  rw [dig_toNat d h, if_pos (by omega), show 48 + d - 48 = d by omega]
theorem vf_dec (u : Nat) : vf 0 (Lib.decDigits u) = some u := by
  induction u using Nat.strongRecOn with
  | _ u ih =>
    rw [Lib.decDigits]
    by_cases h : u < 10
    · rw [dif_pos h, vf_one 0 u h]
      congr 1
      omega
    · rw [dif_neg h, vf_append, ih (u / 10) (by omega), Option.bind_some, vf_one _ _ (by omega)]
      congr 1
      omega
theorem dec_len (u : Nat) (h : u ≤ 1000000000) : 1 ≤ (Lib.decDigits u).length ∧ (Lib.decDigits u).length ≤ 10 := by
  refine ⟨by rw [Lib.decDigits_length]; exact Lib.nDigits_pos u, ?_⟩
  by_cases c : u = 0
  · subst c
    rw [Lib.decDigits, dif_pos (by decide)]
    decide
  · have := digs_len 10 u (by omega)
    unfold digs at this
    rw [if_neg c] at this
    exact this
theorem itoa_nat (u : Nat) : Lib.itoa (u : Int) = Lib.decDigits u := by
  unfold Lib.itoa
  rw [if_neg (by omega), Int.toNat_natCast]
theorem pn_dec (u : Nat) (h : u ≤ 1000000000) : pn (Lib.itoa (u : Int)) = ((u : Int), true) := by
  have hl := dec_len u h
  unfold pn
  rw [itoa_nat, if_pos hl, vf_dec]
  simp only
  rw [if_pos ⟨h, itoa_nat u⟩]
theorem pn_no (l : List UInt8) (h : ∀ u : Nat, u ≤ 1000000000 → Lib.itoa (u : Int) ≠ l) : pn l = (0, false) := by
  unfold pn
  by_cases c : 1 ≤ l.length ∧ l.length ≤ 10
  · rw [if_pos c]
    cases e : vf 0 l with
    | none => rfl
    | some u =>
      simp only
      rw [if_neg (fun x => h u x.1 x.2)]
  · rw [if_neg c]
theorem pn_yes (l : List UInt8) (v : Int) (h : pn l = (v, true)) : 0 ≤ v ∧ v ≤ 1000000000 ∧ Lib.itoa v = l := by
  by_cases c : ∃ u : Nat, u ≤ 1000000000 ∧ Lib.itoa (u : Int) = l
  · obtain ⟨u, hu, e⟩ := c
    rw [← e, pn_dec u hu] at h
    have hv : (u : Int) = v := (Prod.mk.injEq _ _ _ _ ▸ h).1
    rw [← hv]
    exact ⟨by omega, by omega, e⟩
  · rw [pn_no l (fun u hu e => c ⟨u, hu, e⟩)] at h
    have : false = true := (Prod.mk.injEq _ _ _ _ ▸ h).2
    cases this
theorem pn_range (l : List UInt8) : 0 ≤ (pn l).1 ∧ (pn l).1 ≤ 1000000000 := by
  by_cases c : ∃ u : Nat, u ≤ 1000000000 ∧ Lib.itoa (u : Int) = l
  · obtain ⟨u, hu, e⟩ := c
    rw [← e, pn_dec u hu]
    exact ⟨by simp, by simp; omega⟩
  · rw [pn_no l (fun u hu e => c ⟨u, hu, e⟩)]
    exact ⟨by decide, by decide⟩
theorem parseI (s : ByteArray) (hs : s.size ≤ 140737488355328) : impl_ParseNum.f s = some (pn s.data.toList) := by
  unfold impl_ParseNum.f
  rw [if_pos hs]
  have no : ∀ u : Nat, u ≤ 1000000000 → Lib.itoa (u : Int) = s.data.toList → Lib.atoiAll s.data.toList = .ok (u : Int) := by
    intro u hu e
    rw [← e, itoa_nat]
    exact vf_atoi _ u (vf_dec u) hu (dec_len u hu).1
  cases hA : Lib.atoiAll s.data.toList with
  | «syntax» =>
    simp only
    rw [pn_no _ (fun u hu e => by have := no u hu e; rw [hA] at this; cases this)]
  | range =>
    simp only
    rw [pn_no _ (fun u hu e => by have := no u hu e; rw [hA] at this; cases this)]
  | ok v =>
    simp only
    by_cases c1 : v < 0
    · rw [if_pos c1, pn_no _ (fun u hu e => by have := no u hu e; rw [hA] at this; injection this with this; omega)]
    · rw [if_neg c1]
      by_cases c2 : v > 1000000000
      · rw [if_pos c2, pn_no _ (fun u hu e => by have := no u hu e; rw [hA] at this; injection this with this; omega)]
      · rw [if_neg c2, numI v (by omega) (by omega), Option.bind_some]
        obtain ⟨u, rfl⟩ : ∃ u : Nat, v = (u : Int) := ⟨v.toNat, by omega⟩
        have e1 : (⟨(Lib.itoa (u : Int)).toArray⟩ : ByteArray).toList = Lib.itoa (u : Int) := by rw [Lib.toList_data]
        rw [e1, Lib.toList_data]
        by_cases c3 : Lib.itoa (u : Int) = s.data.toList
        · rw [if_pos c3, ← c3, pn_dec u (by omega)]
        · rw [if_neg c3, pn_no _ (fun u' hu e => by have := no u' hu e; rw [hA] at this; injection this with this; exact c3 (this ▸ e))]
theorem l1in (x a b : Int) : spec_l1In.f x a b = some (decide (a ≤ x ∧ x ≤ b)) := by
  unfold spec_l1In.f
  by_cases c1 : x ≥ a
  · by_cases c2 : x ≤ b
    · have c3 : a ≤ x ∧ x ≤ b := ⟨c1, c2⟩
      simp [c1, c2]
    · have c3 : ¬ (a ≤ x ∧ x ≤ b) := fun h => c2 h.2
      simp [c1, c2]
  · have c3 : ¬ a ≤ x := c1
    simp [c3]
theorem byte_drop (s : ByteArray) (i : Nat) (h : i < s.size) : ∃ c : UInt8, s.data.toList.drop i = c :: s.data.toList.drop (i + 1) ∧ bt s (i : Int) = (c.toNat : Int) := by
  have hl : i < s.data.toList.length := by rw [Array.length_toList]; exact h
  refine ⟨s.data.toList[i], List.drop_eq_getElem_cons hl, ?_⟩
  unfold bt
  rw [dif_pos (by rw [Int.toNat_natCast]; exact h)]
  simp only [Int.toNat_natCast, Array.getElem_toList]
  rfl
theorem pw10 (acc i : Nat) (hi : i ≤ 10) (h : acc < 10 ^ i) : acc < 10000000000 := Nat.lt_of_lt_of_le h (Nat.pow_le_pow_right (n := 10) (by decide) hi)
theorem pw_step (acc c i : Nat) (h : acc < 10 ^ i) (hc : c ≤ 57) : acc * 10 + (c - 48) < 10 ^ (i + 1) := by
  rw [Nat.pow_succ]
  generalize 10 ^ i = p at h ⊢
  omega
theorem dig_step (acc c : Nat) (ha : acc < 10000000000) (h : 48 ≤ c ∧ c ≤ 57) : wrap64 ((wrap64 (10 * (acc : Int))) + ((((c : Nat) : Int) - 48) % 256)) = ((acc * 10 + (c - 48) : Nat) : Int) := by
  unfold wrap64
  omega
theorem wrap_nat (i : Nat) (h : i ≤ 1000000000000) : wrap64 (i : Int) = (i : Int) := by
  unfold wrap64
  omega
theorem in_facts (i n d k : Nat) (hs : n ≤ 10) (hd : n - i = d + 1) (hk : d + 1 + 21 < k + 1) : n - (i + 1) = d ∧ i + 1 ≤ n ∧ d + 21 < k ∧ i < n ∧ (i : Int) < (n : Int) ∧ 0 ≤ (i : Int) ∧ i ≤ 10 := by omega
theorem out_facts (i n k : Nat) (hs : n ≤ 10) (hd : n - i = 0) (hi : i ≤ n) (hk : 0 + 21 < k + 1) : n ≤ i ∧ ¬ (i : Int) < (n : Int) ∧ i ≤ 10 ∧ 20 < k := by omega
theorem acc_facts (acc : Nat) (h : acc < 10000000000) : -9223372036854775808 ≤ (acc : Int) ∧ (acc : Int) ≤ 9223372036854775807 ∧ ((acc : Int) > 1000000000 ↔ ¬ acc ≤ 1000000000) := by omega
theorem dig_iff (c : Nat) : (48 ≤ c ∧ c ≤ 57) ↔ ((48 : Int) ≤ (c : Int) ∧ (c : Int) ≤ 57) := by omega
theorem u8_small (c : UInt8) : c.toNat ≤ 1000000000000 := Nat.le_of_lt (Nat.lt_of_lt_of_le c.toNat_lt (by decide))
theorem parse_l0 (s : ByteArray) (hs : s.size ≤ 10) : ∀ (d i k acc : Nat), s.size - i = d → i ≤ s.size → d + 21 < k → acc < 10 ^ i →
    spec_ParseNum.l0 k s (acc : Int) (i : Int) = some (match vf acc (s.data.toList.drop i) with
      | none => (0, false)
      | some u => if u ≤ 1000000000 ∧ Lib.itoa (u : Int) = s.data.toList then ((u : Int), true) else (0, false)) := by
  intro d
  induction d with
  | zero =>
    intro i k acc hd hi hk ha
    cases k with
    | zero => exact absurd hk (Nat.not_lt_zero _)
    | succ k =>
    obtain ⟨f1, f2, f3, f4⟩ := out_facts i s.size k hs hd hi hk
    obtain ⟨g1, g2, g3⟩ := acc_facts acc (pw10 acc i f3 ha)
    have hl : s.data.toList.length = s.size := by rw [Array.length_toList]; rfl
    rw [List.drop_eq_nil_of_le (by rw [hl]; exact f1)]
    simp only [spec_ParseNum.l0, vf]
    rw [if_neg f2]
    by_cases c : (acc : Int) > 1000000000
    · rw [if_pos c, if_neg (fun h => g3.mp c h.1)]
    · rw [if_neg c, numS (acc : Int) g1 g2 f4, Option.bind_some]
      have e1 : (⟨(Lib.itoa (acc : Int)).toArray⟩ : ByteArray).toList = Lib.itoa (acc : Int) := by rw [Lib.toList_data]
      rw [e1, Lib.toList_data]
      by_cases c3 : Lib.itoa (acc : Int) = s.data.toList
      · rw [if_pos c3, if_pos ⟨Decidable.not_not.mp (fun h => c (g3.mpr h)), c3⟩]
      · rw [if_neg c3, if_neg (fun h => c3 h.2)]
  | succ d ih =>
    intro i k acc hd hi hk ha
    cases k with
    | zero => exact absurd hk (Nat.not_lt_zero _)
    | succ k =>
    obtain ⟨a1, a2, a3, a4, a5, a6, a7⟩ := in_facts i s.size d k hs hd hk
    obtain ⟨c, e1, e2⟩ := byte_drop s i a4
    rw [e1]
    simp only [spec_ParseNum.l0, vf]
    rw [if_pos a5, if_pos a6, e2, wrap_nat _ (u8_small c), l1in, Option.bind_some]
    by_cases h : 48 ≤ c.toNat ∧ c.toNat ≤ 57
    · have q2 : wrap64 ((i : Int) + 1) = ((i + 1 : Nat) : Int) := wrap_nat (i + 1) (Nat.le_trans (Nat.succ_le_succ a7) (by decide))
      rw [if_pos (by rw [decide_eq_true_iff]; exact (dig_iff _).mp h), if_pos h, dig_step acc c.toNat (pw10 acc i a7 ha) h, q2]
      exact ih (i + 1) k _ a1 a2 a3 (pw_step acc c.toNat i ha h.2)
    · rw [if_neg (by rw [decide_eq_true_iff]; exact fun x => h ((dig_iff _).mpr x)), if_neg h]
theorem len_iff (n : Nat) : (1 ≤ n ∧ n ≤ 10) ↔ ((1 : Int) ≤ (n : Int) ∧ (n : Int) ≤ 10) := by omega
theorem fuel_ok (n k : Nat) (h : n ≤ 10) (hk : 40 < k) : n + 21 < k := by omega
theorem parseS (s : ByteArray) {k : Nat} (hk : 40 < k) : spec_ParseNum.f k s = some (pn s.data.toList) := by
  have hl : s.data.toList.length = s.size := by rw [Array.length_toList]; rfl
  unfold spec_ParseNum.f pn
  rw [l1in, Option.bind_some, hl]
  by_cases h : 1 ≤ s.size ∧ s.size ≤ 10
  · rw [if_pos (by rw [decide_eq_true_iff]; exact (len_iff _).mp h), if_pos h]
    have := parse_l0 s h.2 s.size 0 k 0 (Nat.sub_zero _) (Nat.zero_le _) (fuel_ok _ _ h.2 hk) (by decide)
    rw [List.drop_zero] at this
    exact this
  · rw [if_neg (by rw [decide_eq_true_iff]; exact fun x => h ((len_iff _).mpr x)), if_neg h]
/-- All pieces of a text between colons; acc: the piece so far. -/
def spj (acc : List UInt8) : List UInt8 → List (List UInt8)
  | [] => [acc]
  | c :: r => if c = 58 then acc :: spj [] r else spj (acc ++ [c]) r
/-- The same, cut at most k times. -/
def spk : Nat → List UInt8 → List UInt8 → List (List UInt8)
  | 0, acc, l => [acc ++ l]
  | _ + 1, acc, [] => [acc]
  | k + 1, acc, c :: r => if c = 58 then acc :: spk k [] r else spk (k + 1) (acc ++ [c]) r
theorem spj_pos : ∀ (l acc : List UInt8), 1 ≤ (spj acc l).length
  | [], _ => by simp [spj]
  | c :: r, acc => by
    simp only [spj]
    by_cases h : c = 58
    · rw [if_pos h]; simp
    · rw [if_neg h]; exact spj_pos r _
theorem spk_eq : ∀ (l : List UInt8) (k : Nat) (acc : List UInt8), (spj acc l).length ≤ k + 1 → spk k acc l = spj acc l
  | [], 0, acc, _ => by simp [spk, spj]
  | [], k + 1, acc, _ => rfl
  | c :: r, 0, acc, h => by
    simp only [spj] at h ⊢
    have e0 : spk 0 acc (c :: r) = [acc ++ c :: r] := rfl
    rw [e0]
    by_cases hc : c = 58
    · rw [if_pos hc] at h
      have h1 := spj_pos r []
      rw [List.length_cons] at h
      omega
    · rw [if_neg hc] at h ⊢
      have := spk_eq r 0 (acc ++ [c]) h
      rw [← this]
      simp [spk]
  | c :: r, k + 1, acc, h => by
    simp only [spj] at h ⊢
    simp only [spk]
    by_cases hc : c = 58
    · rw [if_pos hc] at h ⊢
      rw [if_pos hc, spk_eq r k [] (by simp at h; omega)]
    · rw [if_neg hc] at h ⊢
      rw [if_neg hc, spk_eq r (k + 1) (acc ++ [c]) h]
theorem spk_len : ∀ (l : List UInt8) (k : Nat) (acc : List UInt8), k + 1 ≤ (spj acc l).length → (spk k acc l).length = k + 1
  | l, 0, acc, _ => by cases l <;> simp [spk]
  | [], k + 1, acc, h => by simp [spj] at h
  | c :: r, k + 1, acc, h => by
    simp only [spj] at h
    simp only [spk]
    by_cases hc : c = 58
    · rw [if_pos hc] at h ⊢
      simp only [List.length_cons] at h ⊢
      rw [spk_len r k [] (by omega)]
    · rw [if_neg hc] at h ⊢
      exact spk_len r (k + 1) _ h
/-- How the library's search for one byte meets a text, byte by byte. -/
theorem idx_colon (c : UInt8) (r : List UInt8) : Lib.index (c :: r) [58] = if c = 58 then 0 else if Lib.index r [58] == -1 then -1 else Lib.index r [58] + 1 := by
  rw [Lib.index]
  by_cases h : c = 58
  · subst h
    rw [if_pos (by simp [List.isPrefixOf]), if_pos rfl]
  · rw [if_neg (by simp [List.isPrefixOf]; exact fun e => h e.symm), if_neg h]
theorem spk_splitK (l : List UInt8) : ∀ (k : Nat) (acc : List UInt8), spk k acc l = (match Lib.splitK [58] 0 k l with | [] => [] | p :: q => (acc ++ p) :: q) := by
  induction l with
  | nil =>
    intro k acc
    cases k with
    | zero => simp [spk, Lib.splitK]
    | succ k => simp [spk, Lib.splitK, Lib.index]
  | cons c r ih =>
    intro k acc
    cases k with
    | zero => simp [spk, Lib.splitK]
    | succ k =>
      simp only [spk, Lib.splitK]
      rw [idx_colon]
      by_cases hc : c = 58
      · rw [if_pos hc, if_pos hc]
        have e : ((0 : Int) == -1) = false := rfl
        simp only [e, Bool.false_eq_true, if_false]
        have := ih k []
        simp only [List.nil_append] at this
        have e2 : Lib.splitK [58] 0 k r = spk k [] r := by
          rw [this]
          cases Lib.splitK [58] 0 k r <;> rfl
        simp [e2]
      · rw [if_neg hc, if_neg hc, ih (k + 1) (acc ++ [c])]
        simp only [Lib.splitK]
        by_cases hm : Lib.index r [58] == -1
        · simp [hm]
        · have h0 := Lib.index_ge r [58]
          have hne : Lib.index r [58] ≠ -1 := fun e => hm (beq_iff_eq.mpr e)
          have hm2 : ¬ (Lib.index r [58] + 1 == -1) = true := fun e => by have := beq_iff_eq.mp e; omega
          obtain ⟨j, hj⟩ : ∃ j : Nat, Lib.index r [58] = (j : Int) := ⟨(Lib.index r [58]).toNat, by omega⟩
          have e1 : (Lib.index r [58] + 1).toNat = j + 1 := by omega
          have e2 : (Lib.index r [58]).toNat = j := by omega
          have hmb : (Lib.index r [58] == -1) = false := by simpa using hm
          have hmb2 : (Lib.index r [58] + 1 == -1) = false := by simpa using hm2
          simp only [hmb, hmb2, Bool.false_eq_true, if_false, e1, e2]
          simp
/-- The numbers of pieces, if all have one. -/
def allv : List (List UInt8) → Option (List Int)
  | [] => some []
  | p :: r => if (pn p).2 = true then (allv r).map ((pn p).1 :: ·) else none
theorem allv_len : ∀ (Q : List (List UInt8)) (v : List Int), allv Q = some v → v.length = Q.length
  | [], v, h => by
    simp only [allv, Option.some.injEq] at h
    rw [← h]; rfl
  | p :: r, v, h => by
    simp only [allv] at h
    by_cases c : (pn p).2 = true
    · rw [if_pos c] at h
      cases e : allv r with
      | none => rw [e] at h; cases h
      | some u =>
        rw [e] at h
        simp only [Option.map_some, Option.some.injEq] at h
        rw [← h, List.length_cons, List.length_cons, allv_len r u e]
    · rw [if_neg c] at h; cases h
theorem allv_mem : ∀ (Q : List (List UInt8)) (v : List Int), allv Q = some v → ∀ z, z ∈ v → 0 ≤ z ∧ z ≤ 1000000000
  | [], v, h => by
    simp only [allv, Option.some.injEq] at h
    rw [← h]
    intro z hz
    simp at hz
  | p :: r, v, h => by
    simp only [allv] at h
    by_cases c : (pn p).2 = true
    · rw [if_pos c] at h
      cases e : allv r with
      | none => rw [e] at h; cases h
      | some u =>
        rw [e] at h
        simp only [Option.map_some, Option.some.injEq] at h
        rw [← h]
        intro z hz
        rcases List.mem_cons.mp hz with rfl | hz
        · exact pn_range p
        · exact allv_mem r u e z hz
    · rw [if_neg c] at h; cases h
/-- What a walk over pieces hands back. -/
def outp (n : Int) (acc : List Int) (Q : List (List UInt8)) (x : List Int × Bool) : Prop :=
  (∀ v, allv Q = some v → x = (acc ++ v, (((acc ++ v).length : Int) == n))) ∧ (allv Q = none → x.2 = false)
theorem outp_nil (n : Int) (acc : List Int) : outp n acc [] (acc, ((acc.length : Int) == n)) := by
  refine ⟨fun v h => ?_, fun h => by cases h⟩
  simp only [allv, Option.some.injEq] at h
  rw [← h, List.append_nil]
theorem outp_no (n : Int) (acc : List Int) (p : List UInt8) (r : List (List UInt8)) (y : List Int) (h : ¬ (pn p).2 = true) : outp n acc (p :: r) (y, false) := by
  refine ⟨fun v h2 => ?_, fun _ => rfl⟩
  simp only [allv] at h2
  rw [if_neg h] at h2
  cases h2
theorem outp_step (n : Int) (acc : List Int) (p : List UInt8) (r : List (List UInt8)) (x : List Int × Bool) (h : (pn p).2 = true) (g : outp n (acc ++ [(pn p).1]) r x) : outp n acc (p :: r) x := by
  obtain ⟨g1, g2⟩ := g
  have e : allv (p :: r) = (allv r).map ((pn p).1 :: ·) := by simp only [allv]; rw [if_pos h]
  refine ⟨fun v h2 => ?_, fun h2 => ?_⟩
  · rw [e] at h2
    cases e3 : allv r with
    | none => rw [e3] at h2; cases h2
    | some u =>
      rw [e3] at h2
      simp only [Option.map_some, Option.some.injEq] at h2
      have := g1 u e3
      rw [this, ← h2]
      simp
  · rw [e] at h2
    cases e3 : allv r with
    | none => exact g2 e3
    | some u => rw [e3] at h2; cases h2
theorem rd_piece (P : List ByteArray) (i : Nat) (h : i < P.length) : ∃ p, P.drop i = p :: P.drop (i + 1) ∧ rdOf ByteArray.empty P (i : Int) = p ∧ p ∈ P := by
  refine ⟨P[i], List.drop_eq_getElem_cons h, ?_, List.getElem_mem h⟩
  unfold rdOf
  rw [Int.toNat_natCast, List.getD_eq_getElem?_getD, List.getElem?_eq_getElem h, Option.getD_some]
theorem walk_facts (i n d k : Nat) (hn : n ≤ 2000000) (hd : n - i = d + 1) (hk : d + 1 + 41 < k + 1) : n - (i + 1) = d ∧ i + 1 ≤ n ∧ d + 41 < k ∧ i < n ∧ (i : Int) < (n : Int) ∧ 0 ≤ (i : Int) ∧ i + 1 ≤ 1000000000000 ∧ 40 < k := by omega
theorem room_ok (a i n : Nat) (ha : a ≤ i) (hi : i < n) (hn : n ≤ 2000000) : a < 17592186044416 ∧ a + 1 ≤ i + 1 := by omega
theorem end_facts (i n : Nat) (hd : n - i = 0) (hi : i ≤ n) : n ≤ i ∧ ¬ (i : Int) < (n : Int) := by omega
theorem numsS (n : Int) (P : List ByteArray) (hP : P.length ≤ 2000000) : ∀ (d i k : Nat) (acc : List Int), P.length - i = d → i ≤ P.length → d + 41 < k → acc.length ≤ i →
    ∃ x, spec_l6Nums.l0 k n P acc (i : Int) = some x ∧ outp n acc ((P.drop i).map (·.data.toList)) x := by
  intro d
  induction d with
  | zero =>
    intro i k acc hd hi hk ha
    cases k with
    | zero => exact absurd hk (Nat.not_lt_zero _)
    | succ k =>
    obtain ⟨f1, f2⟩ := end_facts i P.length hd hi
    simp only [spec_l6Nums.l0]
    rw [if_neg f2, List.drop_eq_nil_of_le f1]
    exact ⟨_, rfl, outp_nil _ _⟩
  | succ d ih =>
    intro i k acc hd hi hk ha
    cases k with
    | zero => exact absurd hk (Nat.not_lt_zero _)
    | succ k =>
    obtain ⟨a1, a2, a3, a4, a5, a6, a7, a8⟩ := walk_facts i P.length d k hP hd hk
    obtain ⟨p, e1, e2, _⟩ := rd_piece P i a4
    obtain ⟨r1, r2⟩ := room_ok acc.length i P.length ha a4 hP
    simp only [spec_l6Nums.l0]
    rw [if_pos a5, if_pos a6, e2, parseS p a8, Option.bind_some, e1, List.map_cons]
    by_cases c : (pn p.data.toList).2 = true
    · have q2 : wrap64 ((i : Int) + 1) = ((i + 1 : Nat) : Int) := wrap_nat (i + 1) a7
      rw [if_pos c, if_pos r1, q2]
      obtain ⟨x, h1, h2⟩ := ih (i + 1) k (acc ++ [(pn p.data.toList).1]) a1 a2 a3 (by rw [List.length_append]; exact r2)
      exact ⟨x, h1, outp_step _ _ _ _ _ c h2⟩
    · rw [if_neg c]
      exact ⟨_, rfl, outp_no _ _ _ _ _ c⟩
theorem numsI (n : Int) (P : List ByteArray) (hP : P.length ≤ 2000000) (hp : ∀ p, p ∈ P → p.size ≤ 140737488355328) : ∀ (d i k : Nat) (acc : List Int), P.length - i = d → i ≤ P.length → d + 41 < k → acc.length ≤ i →
    ∃ x, impl_parseNums.l0 k n acc P (P.length : Int) (i : Int) = some x ∧ outp n acc ((P.drop i).map (·.data.toList)) x := by
  intro d
  induction d with
  | zero =>
    intro i k acc hd hi hk ha
    cases k with
    | zero => exact absurd hk (Nat.not_lt_zero _)
    | succ k =>
    obtain ⟨f1, f2⟩ := end_facts i P.length hd hi
    simp only [impl_parseNums.l0]
    rw [if_neg f2, List.drop_eq_nil_of_le f1]
    exact ⟨_, rfl, outp_nil _ _⟩
  | succ d ih =>
    intro i k acc hd hi hk ha
    cases k with
    | zero => exact absurd hk (Nat.not_lt_zero _)
    | succ k =>
    obtain ⟨a1, a2, a3, a4, a5, a6, a7, a8⟩ := walk_facts i P.length d k hP hd hk
    obtain ⟨p, e1, e2, e3⟩ := rd_piece P i a4
    obtain ⟨r1, r2⟩ := room_ok acc.length i P.length ha a4 hP
    simp only [impl_parseNums.l0]
    rw [if_pos a5, if_pos a6, if_pos a5, e2, parseI p (hp p e3), Option.bind_some, e1, List.map_cons]
    by_cases c : (pn p.data.toList).2 = true
    · have q2 : wrap64 ((i : Int) + 1) = ((i + 1 : Nat) : Int) := wrap_nat (i + 1) a7
      rw [if_pos c, if_pos r1, q2]
      obtain ⟨x, h1, h2⟩ := ih (i + 1) k (acc ++ [(pn p.data.toList).1]) a1 a2 a3 (by rw [List.length_append]; exact r2)
      exact ⟨x, h1, outp_step _ _ _ _ _ c h2⟩
    · rw [if_neg c]
      exact ⟨_, rfl, outp_no _ _ _ _ _ c⟩
theorem byte58 (c : UInt8) : ((c.toNat : Int) = 58) ↔ c = 58 := by
  constructor
  · intro h
    have : c.toNat = (58 : UInt8).toNat := by
      have e : (58 : UInt8).toNat = 58 := rfl
      rw [e]; omega
    exact UInt8.toNat_inj.mp this
  · rintro rfl
    rfl
theorem cut_data (s : ByteArray) (a b : Nat) : (s.extract a b).data.toList = (s.data.toList.take b).drop a := by
  rw [Lib.extract_data, List.drop_take]
theorem cut_facts (i n d k : Nat) (hn : n ≤ 1048576) (hd : n + 1 - i = d + 1) (hk : d + 1 < k + 1) : n + 1 - (i + 1) = d ∧ d < k ∧ i ≤ n ∧ (i : Int) ≤ (n : Int) ∧ 0 ≤ (i : Int) ∧ i + 1 ≤ 1000000000000 ∧ i + 1 ≤ n + 1 := by omega
theorem cut_room (o i n : Nat) (ho : o ≤ i) (hi : i ≤ n) (hn : n ≤ 1048576) : o < 8796093022208 ∧ o + 1 ≤ i + 1 := by omega
theorem cut_end (i n : Nat) (h : n + 1 - i = 0) (hi : i ≤ n + 1) : ¬ (i : Int) ≤ (n : Int) ∧ ¬ i ≤ n := by omega
theorem cut_eq (i n : Nat) (h : i ≤ n) : ((i : Int) = (n : Int) → n ≤ i ∧ i = n) ∧ (¬ (i : Int) = (n : Int) → i < n ∧ (i : Int) < (n : Int) ∧ i + 1 ≤ n) := by omega
theorem fr_facts (f i : Nat) (h : f ≤ i) : 0 ≤ (f : Int) ∧ (f : Int) ≤ (i : Int) ∧ f ≤ i + 1 := by omega
theorem splitS (s : ByteArray) (hs : s.size ≤ 1048576) : ∀ (d i k f : Nat) (out : List ByteArray), s.size + 1 - i = d → i ≤ s.size + 1 → d < k → f ≤ i → out.length ≤ i →
    ∃ P, spec_l6Split.l0 k s 58 out (f : Int) (i : Int) = some (out ++ P) ∧ (i ≤ s.size → P.map (·.data.toList) = spj ((s.data.toList.take i).drop f) (s.data.toList.drop i)) ∧ (¬ i ≤ s.size → P = []) := by
  have hl : s.data.toList.length = s.size := by rw [Array.length_toList]; rfl
  intro d
  induction d with
  | zero =>
    intro i k f out hd hi hk hf ho
    cases k with
    | zero => exact absurd hk (Nat.not_lt_zero _)
    | succ k =>
    obtain ⟨f1, f2⟩ := cut_end i s.size hd hi
    simp only [spec_l6Split.l0]
    rw [if_neg f1]
    exact ⟨[], by rw [List.append_nil], fun h => absurd h f2, fun _ => rfl⟩
  | succ d ih =>
    intro i k f out hd hi hk hf ho
    cases k with
    | zero => exact absurd hk (Nat.not_lt_zero _)
    | succ k =>
    obtain ⟨a1, a2, a3, a4, a5, a6, a7⟩ := cut_facts i s.size d k hs hd hk
    obtain ⟨b1, b2⟩ := cut_eq i s.size a3
    obtain ⟨r1, r2⟩ := cut_room out.length i s.size ho a3 hs
    obtain ⟨g1, g2, g3⟩ := fr_facts f i hf
    have q2 : wrap64 ((i : Int) + 1) = ((i + 1 : Nat) : Int) := wrap_nat (i + 1) a6
    simp only [spec_l6Split.l0]
    rw [if_pos a4]
    by_cases c : (i : Int) = (s.size : Int)
    · obtain ⟨c1, c2⟩ := b1 c
      rw [if_pos c, if_pos g1, if_pos g2, if_pos r1, q2]
      obtain ⟨P, p1, p2, p3⟩ := ih (i + 1) k (i + 1) (out ++ [s.extract ((f : Int).toNat) ((i : Int).toNat)]) a1 a7 a2 (Nat.le_refl _) (by rw [List.length_append]; exact r2)
      have hn : ¬ i + 1 ≤ s.size := by rw [c2]; exact Nat.not_succ_le_self _
      have hP := p3 hn
      rw [hP] at p1
      refine ⟨[s.extract ((f : Int).toNat) ((i : Int).toNat)], by rw [p1, List.append_nil], fun _ => ?_, fun h => absurd a3 h⟩
      have e0 : s.data.toList.drop i = [] := List.drop_eq_nil_of_le (by rw [hl]; exact c1)
      rw [e0]
      simp only [List.map_cons, List.map_nil, spj, cut_data, Int.toNat_natCast]
    · obtain ⟨c1, c2, c3⟩ := b2 c
      obtain ⟨b, e1, e2⟩ := byte_drop s i c1
      rw [if_neg c, if_pos a5, if_pos c2, e2]
      by_cases hb : (b.toNat : Int) = 58
      · rw [if_pos hb, if_pos g1, if_pos g2, if_pos r1, q2]
        obtain ⟨P, p1, p2, p3⟩ := ih (i + 1) k (i + 1) (out ++ [s.extract ((f : Int).toNat) ((i : Int).toNat)]) a1 a7 a2 (Nat.le_refl _) (by rw [List.length_append]; exact r2)
        refine ⟨s.extract ((f : Int).toNat) ((i : Int).toNat) :: P, by rw [p1, List.append_assoc]; rfl, fun _ => ?_, fun h => absurd a3 h⟩
        have e3 : (s.data.toList.take (i + 1)).drop (i + 1) = [] := List.drop_eq_nil_of_le (by rw [List.length_take]; exact Nat.min_le_left _ _)
        rw [e1, spj, if_pos ((byte58 b).mp hb), List.map_cons, p2 c3, e3, cut_data, Int.toNat_natCast, Int.toNat_natCast]
      · rw [if_neg hb, q2]
        obtain ⟨P, p1, p2, p3⟩ := ih (i + 1) k f out a1 a7 a2 g3 (Nat.le_trans ho (Nat.le_succ _))
        refine ⟨P, p1, fun _ => ?_, fun h => absurd a3 h⟩
        have e3 : (s.data.toList.take (i + 1)).drop f = (s.data.toList.take i).drop f ++ [b] := by
          have e4 : s.data.toList.take (i + 1) = s.data.toList.take i ++ [b] := by
            rw [List.take_add_one]
            congr 1
            have : s.data.toList[i]? = (s.data.toList.drop i)[0]? := by rw [List.getElem?_drop, Nat.add_zero]
            rw [this, e1]
            rfl
          rw [e4, List.drop_append_of_le_length (by rw [List.length_take, hl]; exact Nat.le_min.mpr ⟨hf, Nat.le_trans hf a3⟩)]
        rw [e1, spj, if_neg (fun h => hb ((byte58 b).mpr h)), p2 c3, e3]
theorem spj_le : ∀ (l acc : List UInt8), (spj acc l).length ≤ l.length + 1
  | [], _ => by simp [spj]
  | c :: r, acc => by
    simp only [spj]
    by_cases h : c = 58
    · rw [if_pos h, List.length_cons, List.length_cons]
      exact Nat.succ_le_succ (spj_le r [])
    · rw [if_neg h, List.length_cons]
      exact Nat.le_trans (spj_le r _) (Nat.le_succ _)
theorem spk_mem : ∀ (l : List UInt8) (k : Nat) (acc p : List UInt8), p ∈ spk k acc l → p.length ≤ acc.length + l.length
  | l, 0, acc, p, h => by
    have : p = acc ++ l := by
      cases l <;> simpa [spk] using h
    rw [this, List.length_append]
    exact Nat.le_refl _
  | [], k + 1, acc, p, h => by
    have : p = acc := by simpa [spk] using h
    rw [this]
    exact Nat.le_add_right _ _
  | c :: r, k + 1, acc, p, h => by
    simp only [spk] at h
    by_cases hc : c = 58
    · rw [if_pos hc] at h
      rcases List.mem_cons.mp h with rfl | h
      · exact Nat.le_add_right _ _
      · have := spk_mem r k [] p h
        simp only [List.length_nil, Nat.zero_add] at this
        exact Nat.le_trans this (by rw [List.length_cons]; omega)
    · rw [if_neg hc] at h
      have := spk_mem r (k + 1) (acc ++ [c]) p h
      rw [List.length_append, List.length_singleton] at this
      rw [List.length_cons]
      omega
theorem cnt_eq (n : Nat) (v : List Int) : (((v.length : Nat) : Int) == (n : Int)) = decide (v.length = n) := by
  by_cases h : v.length = n
  · rw [decide_eq_true h]; exact beq_iff_eq.mpr (by omega)
  · rw [decide_eq_false h]; exact beq_eq_false_iff_ne.mpr (by omega)
theorem split_data (s : ByteArray) (K : Nat) : (Lib.splitB (⟨#[58]⟩ : ByteArray) 0 K s).map (·.data.toList) = spk K [] s.data.toList := by
  rw [Lib.splitB_data, spk_splitK]
  have e : (⟨#[58]⟩ : ByteArray).data.toList = [58] := rfl
  rw [e]
  cases Lib.splitK [58] 0 K s.data.toList <;> rfl
theorem min_facts (n z : Nat) (hn : n ≤ 1000) (hz : z ≤ 1048576) : wrap64 ((n : Int) + 1) = ((n + 1 : Nat) : Int) ∧ min (((n + 1 : Nat) : Int).toNat) (z + 1) - 1 = min n z ∧ z < 4294967281 ∧ (1 : Int) ≤ ((n + 1 : Nat) : Int) ∧ ((n + 1 : Nat) : Int) ≤ 9223372036854775807 ∧ min n z + 1 ≤ 2000000 := by
  refine ⟨wrap_nat (n + 1) (by omega), ?_, by omega, by omega, by omega, by omega⟩
  rw [Int.toNat_natCast]
  omega
theorem piece_facts (a z : Nat) (h : a ≤ 0 + z) (hz : z ≤ 1048576) : a ≤ 140737488355328 := by omega
theorem len_facts (a z : Nat) (h : a ≤ z + 1) (hz : z ≤ 1048576) : a ≤ 2000000 := by omega
theorem sp_cases (L K n z : Nat) (hK : K = min n z) (hL : L ≤ z + 1) : (L ≤ K + 1) ∨ (K + 1 ≤ L ∧ K + 1 ≠ n ∧ L ≠ n) := by omega
theorem nums_same (s : ByteArray) (hs : s.size ≤ 1048576) (n : Nat) (hn : n ≤ 1000) {k : Nat} (hk : 3000000 < k) :
    ∃ x y, spec_l6Nums.f k s (n : Int) = some x ∧ impl_parseNums.f k s (n : Int) = some y ∧ x.2 = y.2 ∧
      (x.2 = true → x.1 = y.1 ∧ allv (spj [] s.data.toList) = some x.1 ∧ x.1.length = n ∧ ∀ z, z ∈ x.1 → 0 ≤ z ∧ z ≤ 1000000000) ∧
      (∀ v, allv (spj [] s.data.toList) = some v → v.length = n → x = (v, true)) := by
  have hl : s.data.toList.length = s.size := by rw [Array.length_toList]; rfl
  obtain ⟨P, p1, p2, -⟩ := splitS s hs (s.size + 1) 0 k 0 [] (Nat.sub_zero _) (Nat.zero_le _) (by omega) (Nat.le_refl _) (Nat.le_refl _)
  have p3 := p2 (Nat.zero_le _)
  simp only [List.take_zero, List.drop_nil, List.drop_zero] at p3
  have hPl : P.length ≤ 2000000 := by
    have e := congrArg List.length p3
    rw [List.length_map] at e
    rw [e]
    exact len_facts _ _ (by have := spj_le s.data.toList []; rw [hl] at this; exact this) hs
  obtain ⟨x, x1, x2⟩ := numsS (n : Int) P hPl P.length 0 k [] (Nat.sub_zero _) (Nat.zero_le _) (by omega) (Nat.le_refl _)
  rw [List.drop_zero, p3] at x2
  obtain ⟨m1, m2, m3, m4, m5, m6⟩ := min_facts n s.size hn hs
  have hS : strings_SplitN.f s (⟨#[58]⟩ : ByteArray) (wrap64 ((n : Int) + 1)) = some (Lib.splitB (⟨#[58]⟩ : ByteArray) 0 (min n s.size) s) := by
    unfold strings_SplitN.f
    rw [m1, if_pos ⟨rfl, m3, m4, m5⟩, m2]
  obtain ⟨Q, hQ⟩ : ∃ Q, Q = Lib.splitB (⟨#[58]⟩ : ByteArray) 0 (min n s.size) s := ⟨_, rfl⟩
  have q3 : Q.map (·.data.toList) = spk (min n s.size) [] s.data.toList := by rw [hQ]; exact split_data s _
  have hQl : Q.length ≤ 2000000 := by
    rw [hQ]
    exact Nat.le_trans (Lib.splitB_length_le _ _ _ _) m6
  have hQp : ∀ p, p ∈ Q → p.size ≤ 140737488355328 := by
    intro p hp
    have hm : p.data.toList ∈ spk (min n s.size) [] s.data.toList := by rw [← q3]; exact List.mem_map.mpr ⟨p, hp, rfl⟩
    have := spk_mem _ _ _ _ hm
    rw [Array.length_toList, hl] at this
    exact piece_facts _ _ this hs
  obtain ⟨y, y1, y2⟩ := numsI (n : Int) Q hQl hQp Q.length 0 k [] (Nat.sub_zero _) (Nat.zero_le _) (by omega) (Nat.le_refl _)
  rw [List.drop_zero, q3] at y2
  refine ⟨x, y, ?_, ?_, ?_⟩
  · unfold spec_l6Nums.f spec_l6Split.f
    have p1' : spec_l6Split.l0 k s 58 [] 0 0 = some P := p1
    rw [p1', Option.bind_some]
    exact x1
  · unfold impl_parseNums.f
    rw [hS, Option.bind_some, ← hQ]
    exact y1
  · have hL : (spj [] s.data.toList).length ≤ s.size + 1 := by have := spj_le s.data.toList []; rw [hl] at this; exact this
    have eq1 : ∀ v, allv (spj [] s.data.toList) = some v → x = (v, decide (v.length = n)) := by
      intro v hv
      have := x2.1 v hv
      rw [List.nil_append, cnt_eq] at this
      exact this
    have eq2 : ∀ v, allv (spk (min n s.size) [] s.data.toList) = some v → y = (v, decide (v.length = n)) := by
      intro v hv
      have := y2.1 v hv
      rw [List.nil_append, cnt_eq] at this
      exact this
    have fin : ∀ v, allv (spj [] s.data.toList) = some v → v.length = n → x = (v, true) := by
      intro v hv hvn
      rw [eq1 v hv, decide_eq_true hvn]
    rcases sp_cases (spj [] s.data.toList).length (min n s.size) n s.size rfl hL with h | ⟨h1, h2, h3⟩
    · have e := spk_eq s.data.toList (min n s.size) [] h
      rw [e] at eq2 y2
      cases hv : allv (spj [] s.data.toList) with
      | none =>
        have a1 := x2.2 hv
        have a2 := y2.2 hv
        rw [hv] at fin
        exact ⟨by rw [a1, a2], (fun c => by rw [a1] at c; cases c), fin⟩
      | some v =>
        have a1 := eq1 v hv
        have a2 := eq2 v hv
        rw [hv] at fin
        refine ⟨by rw [a1, a2], fun c => ?_, fin⟩
        rw [a1] at c ⊢
        rw [a2]
        exact ⟨rfl, rfl, of_decide_eq_true c, allv_mem _ v hv⟩
    · have e1 := spk_len s.data.toList (min n s.size) [] h1
      have a1 : x.2 = false := by
        cases hv : allv (spj [] s.data.toList) with
        | none => exact x2.2 hv
        | some v =>
          rw [eq1 v hv]
          exact decide_eq_false (by rw [allv_len _ v hv]; exact h3)
      have a2 : y.2 = false := by
        cases hv : allv (spk (min n s.size) [] s.data.toList) with
        | none => exact y2.2 hv
        | some v =>
          rw [eq2 v hv]
          exact decide_eq_false (by rw [allv_len _ v hv, e1]; exact h2)
      exact ⟨by rw [a1, a2], (fun c => by rw [a1] at c; cases c), fin⟩
theorem four_list (v : List Int) (h : v.length = 4) : ∃ a b c d, v = [a, b, c, d] := by
  match v, h with
  | [a, b, c, d], _ => exact ⟨a, b, c, d, rfl⟩
theorem ref_same (s : ByteArray) (hs : s.size ≤ 1048576) {k : Nat} (hk : 3000000 < k) :
    ∃ r : Int × Int × Int × Int × Bool, spec_ParseRef.f k s = some r ∧ impl_ParseRef.f k s = some r ∧
      (r.2.2.2.2 = true → 0 ≤ r.1 ∧ r.1 ≤ 1000000000 ∧ 1 ≤ r.2.1 ∧ r.2.1 ≤ 1000000000 ∧ 0 ≤ r.2.2.1 ∧ r.2.2.1 ≤ 1000000000 ∧ 0 ≤ r.2.2.2.1 ∧ r.2.2.2.1 ≤ 1000000000 ∧ allv (spj [] s.data.toList) = some [r.1, r.2.1, r.2.2.1, r.2.2.2.1]) := by
  obtain ⟨x, y, ex, ey, h2, h1, h3⟩ := nums_same s hs 4 (by decide) hk
  have ex' : spec_l6Nums.f k s 4 = some x := ex
  have ey' : impl_parseNums.f k s 4 = some y := ey
  by_cases c : x.2 = true
  · obtain ⟨g1, g2, g3, g4⟩ := h1 c
    have cy : y.2 = true := by rw [← h2]; exact c
    obtain ⟨a, b, p, q, e⟩ := four_list x.1 g3
    rw [e] at g1 g4 g2
    have ha := g4 a (by simp)
    have hb := g4 b (by simp)
    have hp := g4 p (by simp)
    have hq := g4 q (by simp)
    have r0 : rd [a, b, p, q] 0 = a := rfl
    have r1 : rd [a, b, p, q] 1 = b := rfl
    have r2 : rd [a, b, p, q] 2 = p := rfl
    have r3 : rd [a, b, p, q] 3 = q := rfl
    have l0 : (0 : Int) < (([a, b, p, q] : List Int).length : Int) := by show (0 : Int) < ((4 : Nat) : Int); decide
    have l1 : (1 : Int) < (([a, b, p, q] : List Int).length : Int) := by show (1 : Int) < ((4 : Nat) : Int); decide
    have l2 : (2 : Int) < (([a, b, p, q] : List Int).length : Int) := by show (2 : Int) < ((4 : Nat) : Int); decide
    have l3 : (3 : Int) < (([a, b, p, q] : List Int).length : Int) := by show (3 : Int) < ((4 : Nat) : Int); decide
    have hk : impl_RefOk.f a b p q = some (decide (b ≥ 1)) := by
      unfold impl_RefOk.f impl_HandleOk.f
      rw [if_pos ha.1, Option.bind_some]
      by_cases c1 : b ≥ 1
      · rw [decide_eq_true c1, if_pos rfl, if_pos hp.1, decide_eq_true hq.1]
      · rw [decide_eq_false c1, if_neg (by decide)]
    have S : spec_ParseRef.f k s = some (if b < 1 then (0, 0, 0, 0, false) else (a, b, p, q, true)) := by
      unfold spec_ParseRef.f
      rw [ex', Option.bind_some, if_pos c, e, if_pos l1, r1]
      by_cases c1 : b < 1
      · rw [if_pos c1, if_pos c1]
      · rw [if_neg c1, if_neg c1, if_pos l0, if_pos l2, if_pos l3, r0, r2, r3]
    have I : impl_ParseRef.f k s = some (if b < 1 then (0, 0, 0, 0, false) else (a, b, p, q, true)) := by
      unfold impl_ParseRef.f
      rw [ey', Option.bind_some, if_pos cy, ← g1, if_pos l0, if_pos l1, if_pos l2, if_pos l3, r0, r1, r2, r3, hk, Option.bind_some]
      by_cases c1 : b < 1
      · rw [if_pos c1, if_neg (by rw [decide_eq_true_iff]; omega)]
      · rw [if_neg c1, if_pos (by rw [decide_eq_true_iff]; omega)]
    refine ⟨_, S, I, ?_⟩
    by_cases c1 : b < 1
    · rw [if_pos c1]
      exact fun h => by cases h
    · rw [if_neg c1]
      exact fun _ => ⟨ha.1, ha.2, by show 1 ≤ b; omega, hb.2, hp.1, hp.2, hq.1, hq.2, g2⟩
  · have cy : ¬ y.2 = true := by rw [← h2]; exact c
    have S : spec_ParseRef.f k s = some (0, 0, 0, 0, false) := by
      unfold spec_ParseRef.f
      rw [ex', Option.bind_some, if_neg c]
    have I : impl_ParseRef.f k s = some (0, 0, 0, 0, false) := by
      unfold impl_ParseRef.f
      rw [ey', Option.bind_some, if_neg cy]
    exact ⟨_, S, I, fun h => by cases h⟩
theorem FnExactParseRef : laws_FnExactParseRef.Pure := by
  intro s hs
  obtain ⟨k, hk⟩ : ∃ k : Nat, 3000000 < k := ⟨_, Nat.lt_succ_self _⟩
  refine ⟨k, ?_⟩
  unfold laws_FnExactParseRef.f
  by_cases hb : (s.size : Int) > 1048576
  · rw [if_pos hb]
  obtain ⟨r, e1, e2, -⟩ := ref_same s (by omega) hk
  rw [if_neg hb, e1, Option.bind_some, e2, Option.bind_some]
  simp [laws_eqRef.f, laws_eqHandle.f]
end Go.Proofs.YtjnmefhohkffpaaDoor.Pure
