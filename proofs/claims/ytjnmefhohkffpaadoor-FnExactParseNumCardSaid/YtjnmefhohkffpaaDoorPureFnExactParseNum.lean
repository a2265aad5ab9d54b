/- What the law FnExactParseNum computes is the answer true, for all arguments within the bounds that the statement's own reading gives. No other condition. -/
import Derived.OpenShut
import Derived.Test.YtjnmefhohkffpaaDoorQFnExactParseNumx1
namespace Go.Proofs.YtjnmefhohkffpaaDoor.Pure
open Go.RowKit Go.Proofs.YtjnmefhohkffpaaDoor.QFnExactParseNum Go.Proofs.YtjnmefhohkffpaaDoorW.PrintWords Go.Proofs.YtjnmefhohkffpaaDoorW.PrintLast
set_option linter.unusedVariables false
set_option linter.unusedSimpArgs false
def laws_FnExactParseNum.Pure : Prop := ∀ (a0 : ByteArray), a0.size ≤ 140737488351232 → ∃ k, laws_FnExactParseNum.f k a0 = some true
theorem digW (x : Int) (h0 : -9223372036854775808 ≤ x) (h1 : x ≤ 9223372036854775807) :
    (if (Int.tmod x 10) < 0 then wrap64 (48 + (wrap64 (-(Int.tmod x 10)))) % 256 else wrap64 (48 + (Int.tmod x 10)) % 256) = ((48 + x.natAbs % 10 : Nat) : Int) ∧ (wrap64 (Int.tdiv x 10)).natAbs = x.natAbs / 10 ∧ wrap64 (Int.tdiv x 10) = Int.tdiv x 10 ∧ -9223372036854775808 ≤ Int.tdiv x 10 ∧ Int.tdiv x 10 ≤ 9223372036854775807 := by
  rcases Int.eq_nat_or_neg x with ⟨u, hu | hu⟩
  · subst hu
    have e1 : Int.tmod (u : Int) 10 = ((u % 10 : Nat) : Int) := (Int.ofNat_tmod u 10).symm
    have e2 : Int.tdiv (u : Int) 10 = ((u / 10 : Nat) : Int) := (Int.ofNat_tdiv u 10).symm
    have e3 : (u : Int).natAbs = u := Int.natAbs_natCast u
    have w : wrap64 ((u / 10 : Nat) : Int) = ((u / 10 : Nat) : Int) := by unfold wrap64; omega
    rw [e1, e2, e3, w, if_neg (by omega)]
    refine ⟨?_, ?_, rfl, ?_, ?_⟩ <;> (try unfold wrap64) <;> omega
  · subst hu
    have e1 : Int.tmod (-(u : Int)) 10 = -((u % 10 : Nat) : Int) := by rw [Int.neg_tmod, show Int.tmod (u : Int) 10 = ((u % 10 : Nat) : Int) from (Int.ofNat_tmod u 10).symm]
    have e2 : Int.tdiv (-(u : Int)) 10 = -((u / 10 : Nat) : Int) := by rw [Int.neg_tdiv, show Int.tdiv (u : Int) 10 = ((u / 10 : Nat) : Int) from (Int.ofNat_tdiv u 10).symm]
    have e3 : (-(u : Int)).natAbs = u := by rw [Int.natAbs_neg]; exact Int.natAbs_natCast u
    have w : wrap64 (-((u / 10 : Nat) : Int)) = -((u / 10 : Nat) : Int) := by unfold wrap64; omega
    have w2 : wrap64 (-(-((u % 10 : Nat) : Int))) = ((u % 10 : Nat) : Int) := by unfold wrap64; omega
    rw [e1, e2, e3, w, w2]
    refine ⟨?_, ?_, rfl, ?_, ?_⟩
    · by_cases c : (-((u % 10 : Nat) : Int)) < 0
      · rw [if_pos c]; unfold wrap64; omega
      · rw [if_neg c]; unfold wrap64; omega
    all_goals omega
def digs (u : Nat) : List UInt8 := if u = 0 then [] else Lib.decDigits u
theorem digs_step (u : Nat) (h : u ≠ 0) : digs u = digs (u / 10) ++ [UInt8.ofNat (48 + u % 10)] := by
  unfold digs
  rw [if_neg h, Lib.decDigits]
  by_cases c : u < 10
  · rw [dif_pos c, if_pos (by omega), show u % 10 = u by omega]
    rfl
  · rw [dif_neg c, if_neg (by omega)]
def finN (a0 : Int) (l : List UInt8) : List UInt8 := if a0 < 0 then 45 :: l else l
theorem digs_len : ∀ (j u : Nat), u < 10 ^ j → (digs u).length ≤ j
  | 0, u, h => by
    have : u = 0 := by simp at h; exact h
    subst this
    simp [digs]
  | j + 1, u, h => by
    by_cases c : u = 0
    · subst c
      simp [digs]
    · rw [digs_step u c, List.length_append]
      have := digs_len j (u / 10) (by rw [Nat.pow_succ] at h; omega)
      simp
      omega
theorem numS_l0 (a0 : Int) : ∀ (j k : Nat) (x : Int) (l : List UInt8), x.natAbs < 10 ^ j → j < k → -9223372036854775808 ≤ x → x ≤ 9223372036854775807 → l.length + j ≤ 1000 →
    spec_NumText.l0 k a0 (⟨l.toArray⟩ : ByteArray) x = some (⟨(finN a0 (digs x.natAbs ++ l)).toArray⟩ : ByteArray) := by
  have stop : ∀ (k : Nat) (l : List UInt8), l.length ≤ 1000 → spec_NumText.l0 (k + 1) a0 (⟨l.toArray⟩ : ByteArray) 0 = some (⟨(finN a0 (digs (0 : Int).natAbs ++ l)).toArray⟩ : ByteArray) := by
    intro k l hl
    have hd : digs (0 : Int).natAbs = [] := rfl
    have hs : (⟨l.toArray⟩ : ByteArray).size = l.length := by simp [ByteArray.size]
    rw [hd]
    simp only [spec_NumText.l0, if_true, List.nil_append, finN]
    by_cases c : a0 < 0
    · rw [if_pos c, if_pos (by omega), if_pos c]
      rfl
    · rw [if_neg c, if_neg c]
  intro j
  induction j with
  | zero =>
    intro k x l h hk _ _ hl
    obtain ⟨k, rfl⟩ : ∃ m, k = m + 1 := ⟨k - 1, by omega⟩
    have e : x = 0 := by simp at h; exact h
    subst e
    exact stop k l (by omega)
  | succ j ih =>
    intro k x l h hk h0 h1 hl
    obtain ⟨k, rfl⟩ : ∃ m, k = m + 1 := ⟨k - 1, by omega⟩
    by_cases c : x = 0
    · subst c
      exact stop k l (by omega)
    · obtain ⟨e1, e2, e3, e4, e5⟩ := digW x h0 h1
      have hs : (⟨l.toArray⟩ : ByteArray).size = l.length := by simp [ByteArray.size]
      have hn : x.natAbs ≠ 0 := by omega
      have app : ∀ d : Nat, (strOfNums [(d : Int)]) ++ (⟨l.toArray⟩ : ByteArray) = (⟨(UInt8.ofNat d :: l).toArray⟩ : ByteArray) := by
        intro d
        apply ByteArray.ext
        simp [strOfNums]
      have sz : ∀ d : Nat, (strOfNums [(d : Int)]).size = 1 := by
        intro d
        rw [strOfNums_size]
        rfl
      have R := ih k (Int.tdiv x 10) (UInt8.ofNat (48 + x.natAbs % 10) :: l) (by rw [e3] at e2; rw [e2]; rw [Nat.pow_succ] at h; omega) (by omega) e4 e5 (by simp; omega)
      have G : spec_NumText.l0 k a0 (⟨(UInt8.ofNat (48 + x.natAbs % 10) :: l).toArray⟩ : ByteArray) (Int.tdiv x 10) = some (⟨(finN a0 (digs x.natAbs ++ l)).toArray⟩ : ByteArray) := by
        rw [R]
        rw [e3] at e2
        rw [e2, digs_step x.natAbs hn, List.append_assoc]
        rfl
      simp only [spec_NumText.l0]
      rw [if_neg c]
      by_cases c2 : (Int.tmod x 10) < 0
      · rw [if_pos c2] at e1
        rw [if_pos c2, e1]
        simp only [Option.bind_some]
        rw [if_pos (by rw [sz, hs]; omega), app, e3]
        exact G
      · rw [if_neg c2] at e1
        rw [if_neg c2, e1]
        simp only [Option.bind_some]
        rw [if_pos (by rw [sz, hs]; omega), app, e3]
        exact G
theorem itoa_fin (n : Int) (h : n ≠ 0) : Lib.itoa n = finN n (digs n.natAbs) := by
  unfold Lib.itoa finN digs
  by_cases c : n < 0
  · rw [if_pos c, if_pos c, if_neg (by omega)]
  · rw [if_neg c, if_neg c, if_neg (by omega), show n.toNat = n.natAbs by omega]
theorem numS (n : Int) (h0 : -9223372036854775808 ≤ n) (h1 : n ≤ 9223372036854775807) {k : Nat} (hk : 20 < k) : spec_NumText.f k n = some (⟨(Lib.itoa n).toArray⟩ : ByteArray) := by
  unfold spec_NumText.f
  by_cases c : n = 0
  · rw [if_pos c]
    subst c
    congr 1
    apply ByteArray.ext
    have : Lib.itoa 0 = [48] := by unfold Lib.itoa; rw [if_neg (by decide)]; unfold Lib.decDigits; rfl
    rw [this]
  · rw [if_neg c]
    have := numS_l0 n 20 k n [] (by omega) hk h0 h1 (by decide)
    rw [List.append_nil, ← itoa_fin n c] at this
    exact this
theorem numI (n : Int) (h0 : -9223372036854775808 ≤ n) (h1 : n ≤ 9223372036854775807) : impl_NumText.f n = some (⟨(Lib.itoa n).toArray⟩ : ByteArray) := by
  unfold impl_NumText.f strconv_Itoa.f
  rw [if_pos ⟨h0, h1⟩]
  rfl
def vf (acc : Nat) : List UInt8 → Option Nat
  | [] => some acc
  | c :: r => if 48 ≤ c.toNat ∧ c.toNat ≤ 57 then vf (acc * 10 + (c.toNat - 48)) r else none
/-- The number of a text, and whether it has one. -/
def pn (l : List UInt8) : Int × Bool :=
  if 1 ≤ l.length ∧ l.length ≤ 10 then
    match vf 0 l with
    | none => (0, false)
    | some u => if u ≤ 1000000000 ∧ Lib.itoa (u : Int) = l then ((u : Int), true) else (0, false)
  else (0, false)
theorem vf_mono : ∀ (l : List UInt8) (acc u : Nat), vf acc l = some u → acc ≤ u
  | [], acc, u, h => by
    simp only [vf, Option.some.injEq] at h
    omega
  | c :: r, acc, u, h => by
    simp only [vf] at h
    by_cases k : 48 ≤ c.toNat ∧ c.toNat ≤ 57
    · rw [if_pos k] at h
      have := vf_mono r _ u h
      omega
    · rw [if_neg k] at h
      cases h
theorem vf_parse : ∀ (l : List UInt8) (acc u : Nat), vf acc l = some u → u ≤ 1000000000 → Lib.parseUint10 acc l = .ok u
  | [], acc, u, h, _ => by
    simp only [vf, Option.some.injEq] at h
    rw [h]
    rfl
  | c :: r, acc, u, h, hu => by
    simp only [vf] at h
    by_cases k : 48 ≤ c.toNat ∧ c.toNat ≤ 57
    · rw [if_pos k] at h
      have := vf_mono r _ u h
      simp only [Lib.parseUint10]
      rw [if_pos k, if_neg (by omega), if_neg (by omega)]
      exact vf_parse r _ u h hu
    · rw [if_neg k] at h
      cases h
theorem vf_atoi (l : List UInt8) (u : Nat) (h : vf 0 l = some u) (hu : u ≤ 1000000000) (hl : 1 ≤ l.length) : Lib.atoiAll l = .ok (u : Int) := by
  cases l with
  | nil => exact absurd hl (by decide)
  | cons c r =>
    have p := vf_parse (c :: r) 0 u h hu
    have k : 48 ≤ c.toNat ∧ c.toNat ≤ 57 := by
      simp only [vf] at h
      by_cases k : 48 ≤ c.toNat ∧ c.toNat ≤ 57
      · exact k
      · rw [if_neg k] at h
        cases h
    have n1 : ¬ (c.toNat = 43 ∨ c.toNat = 45) := by omega
    have n2 : ¬ c.toNat = 45 := by omega
    have e : Lib.parseMag (c :: r) = .ok u := by
      unfold Lib.parseMag
      rw [if_neg (by simp)]
      exact p
    unfold Lib.atoiAll
    simp only [if_neg n1, e]
    rw [if_neg (by omega), if_neg (fun x => n2 x.1), if_neg n2]
theorem vf_append : ∀ (a b : List UInt8) (acc : Nat), vf acc (a ++ b) = (vf acc a).bind fun x => vf x b
  | [], b, acc => rfl
  | c :: r, b, acc => by
    simp only [List.cons_append, vf]
    by_cases k : 48 ≤ c.toNat ∧ c.toNat ≤ 57
    · rw [if_pos k, if_pos k]
      exact vf_append r b _
    · rw [if_neg k, if_neg k]
      rfl
theorem dig_toNat (d : Nat) (h : d < 10) : (UInt8.ofNat (48 + d)).toNat = 48 + d := by
  simp only [UInt8.toNat_ofNat']
  omega
theorem vf_one (acc d : Nat) (h : d < 10) : vf acc [UInt8.ofNat (48 + d)] = some (acc * 10 + d) := by
  simp only [vf]
  rw [dig_toNat d h, if_pos (by omega), show 48 + d - 48 = d by omega]
theorem vf_dec (u : Nat) : vf 0 (Lib.decDigits u) = some u := by
  induction u using Nat.strongRecOn with
  | _ u ih =>
    rw [Lib.decDigits]
    by_cases h : u < 10
    · rw [dif_pos h, vf_one 0 u h]
      congr 1
      omega
    · rw [dif_neg h, vf_append, ih (u / 10) (by omega), Option.bind_some, vf_one _ _ (by omega)]
      congr 1
      omega
theorem dec_len (u : Nat) (h : u ≤ 1000000000) : 1 ≤ (Lib.decDigits u).length ∧ (Lib.decDigits u).length ≤ 10 := by
  refine ⟨by rw [Lib.decDigits_length]; exact Lib.nDigits_pos u, ?_⟩
  by_cases c : u = 0
  · subst c
    rw [Lib.decDigits, dif_pos (by decide)]
    decide
  · have := digs_len 10 u (by omega)
    unfold digs at this
    rw [if_neg c] at this
    exact this
theorem itoa_nat (u : Nat) : Lib.itoa (u : Int) = Lib.decDigits u := by
  unfold Lib.itoa
  rw [if_neg (by omega), Int.toNat_natCast]
theorem pn_dec (u : Nat) (h : u ≤ 1000000000) : pn (Lib.itoa (u : Int)) = ((u : Int), true) := by
  have hl := dec_len u h
  unfold pn
  rw [itoa_nat, if_pos hl, vf_dec]
  simp only
  rw [if_pos ⟨h, itoa_nat u⟩]
theorem pn_no (l : List UInt8) (h : ∀ u : Nat, u ≤ 1000000000 → Lib.itoa (u : Int) ≠ l) : pn l = (0, false) := by
  unfold pn
  by_cases c : 1 ≤ l.length ∧ l.length ≤ 10
  · rw [if_pos c]
    cases e : vf 0 l with
    | none => rfl
    | some u =>
      simp only
      rw [if_neg (fun x => h u x.1 x.2)]
  · rw [if_neg c]
theorem pn_yes (l : List UInt8) (v : Int) (h : pn l = (v, true)) : 0 ≤ v ∧ v ≤ 1000000000 ∧ Lib.itoa v = l := by
  by_cases c : ∃ u : Nat, u ≤ 1000000000 ∧ Lib.itoa (u : Int) = l
  · obtain ⟨u, hu, e⟩ := c
    rw [← e, pn_dec u hu] at h
    have hv : (u : Int) = v := (Prod.mk.injEq _ _ _ _ ▸ h).1
    rw [← hv]
    exact ⟨by omega, by omega, e⟩
  · rw [pn_no l (fun u hu e => c ⟨u, hu, e⟩)] at h
    have : false = true := (Prod.mk.injEq _ _ _ _ ▸ h).2
    cases this
theorem pn_range (l : List UInt8) : 0 ≤ (pn l).1 ∧ (pn l).1 ≤ 1000000000 := by
  by_cases c : ∃ u : Nat, u ≤ 1000000000 ∧ Lib.itoa (u : Int) = l
  · obtain ⟨u, hu, e⟩ := c
    rw [← e, pn_dec u hu]
    exact ⟨by simp, by simp; omega⟩
  · rw [pn_no l (fun u hu e => c ⟨u, hu, e⟩)]
    exact ⟨by decide, by decide⟩
theorem parseI (s : ByteArray) (hs : s.size ≤ 140737488355328) : impl_ParseNum.f s = some (pn s.data.toList) := by
  unfold impl_ParseNum.f
  rw [if_pos hs]
  have no : ∀ u : Nat, u ≤ 1000000000 → Lib.itoa (u : Int) = s.data.toList → Lib.atoiAll s.data.toList = .ok (u : Int) := by
    intro u hu e
    rw [← e, itoa_nat]
    exact vf_atoi _ u (vf_dec u) hu (dec_len u hu).1
  cases hA : Lib.atoiAll s.data.toList with
  | «syntax» =>
    simp only
    rw [pn_no _ (fun u hu e => by have := no u hu e; rw [hA] at this; cases this)]
  | range =>
    simp only
    rw [pn_no _ (fun u hu e => by have := no u hu e; rw [hA] at this; cases this)]
  | ok v =>
    simp only
    by_cases c1 : v < 0
    · rw [if_pos c1, pn_no _ (fun u hu e => by have := no u hu e; rw [hA] at this; injection this with this; omega)]
    · rw [if_neg c1]
      by_cases c2 : v > 1000000000
      · rw [if_pos c2, pn_no _ (fun u hu e => by have := no u hu e; rw [hA] at this; injection this with this; omega)]
      · rw [if_neg c2, numI v (by omega) (by omega), Option.bind_some]
        obtain ⟨u, rfl⟩ : ∃ u : Nat, v = (u : Int) := ⟨v.toNat, by omega⟩
        have e1 : (⟨(Lib.itoa (u : Int)).toArray⟩ : ByteArray).toList = Lib.itoa (u : Int) := by rw [Lib.toList_data]
        rw [e1, Lib.toList_data]
        by_cases c3 : Lib.itoa (u : Int) = s.data.toList
        · rw [if_pos c3, ← c3, pn_dec u (by omega)]
        · rw [if_neg c3, pn_no _ (fun u' hu e => by have := no u' hu e; rw [hA] at this; injection this with this; exact c3 (this ▸ e))]
theorem l1in (x a b : Int) : spec_l1In.f x a b = some (decide (a ≤ x ∧ x ≤ b)) := by
  unfold spec_l1In.f
  by_cases c1 : x ≥ a
  · by_cases c2 : x ≤ b
    · have c3 : a ≤ x ∧ x ≤ b := ⟨c1, c2⟩
      simp [c1, c2]
    · have c3 : ¬ (a ≤ x ∧ x ≤ b) := fun h => c2 h.2
      simp [c1, c2]
  · have c3 : ¬ a ≤ x := c1
    simp [c3]
theorem byte_drop (s : ByteArray) (i : Nat) (h : i < s.size) : ∃ c : UInt8, s.data.toList.drop i = c :: s.data.toList.drop (i + 1) ∧ bt s (i : Int) = (c.toNat : Int) := by
  have hl : i < s.data.toList.length := by rw [Array.length_toList]; exact h
  refine ⟨s.data.toList[i], List.drop_eq_getElem_cons hl, ?_⟩
  unfold bt
  rw [dif_pos (by rw [Int.toNat_natCast]; exact h)]
  simp only [Int.toNat_natCast, Array.getElem_toList]
  rfl
theorem pw10 (acc i : Nat) (hi : i ≤ 10) (h : acc < 10 ^ i) : acc < 10000000000 := Nat.lt_of_lt_of_le h (Nat.pow_le_pow_right (n := 10) (by decide) hi)
theorem pw_step (acc c i : Nat) (h : acc < 10 ^ i) (hc : c ≤ 57) : acc * 10 + (c - 48) < 10 ^ (i + 1) := by
  rw [Nat.pow_succ]
  generalize 10 ^ i = p at h ⊢
  omega
theorem dig_step (acc c : Nat) (ha : acc < 10000000000) (h : 48 ≤ c ∧ c ≤ 57) : wrap64 ((wrap64 (10 * (acc : Int))) + ((((c : Nat) : Int) - 48) % 256)) = ((acc * 10 + (c - 48) : Nat) : Int) := by
  unfold wrap64
  omega
theorem wrap_nat (i : Nat) (h : i ≤ 1000000000000) : wrap64 (i : Int) = (i : Int) := by
  unfold wrap64
  omega
theorem in_facts (i n d k : Nat) (hs : n ≤ 10) (hd : n - i = d + 1) (hk : d + 1 + 21 < k + 1) : n - (i + 1) = d ∧ i + 1 ≤ n ∧ d + 21 < k ∧ i < n ∧ (i : Int) < (n : Int) ∧ 0 ≤ (i : Int) ∧ i ≤ 10 := by omega
theorem out_facts (i n k : Nat) (hs : n ≤ 10) (hd : n - i = 0) (hi : i ≤ n) (hk : 0 + 21 < k + 1) : n ≤ i ∧ ¬ (i : Int) < (n : Int) ∧ i ≤ 10 ∧ 20 < k := by omega
theorem acc_facts (acc : Nat) (h : acc < 10000000000) : -9223372036854775808 ≤ (acc : Int) ∧ (acc : Int) ≤ 9223372036854775807 ∧ ((acc : Int) > 1000000000 ↔ ¬ acc ≤ 1000000000) := by omega
theorem dig_iff (c : Nat) : (48 ≤ c ∧ c ≤ 57) ↔ ((48 : Int) ≤ (c : Int) ∧ (c : Int) ≤ 57) := by omega
theorem u8_small (c : UInt8) : c.toNat ≤ 1000000000000 := Nat.le_of_lt (Nat.lt_of_lt_of_le c.toNat_lt (by decide))
theorem parse_l0 (s : ByteArray) (hs : s.size ≤ 10) : ∀ (d i k acc : Nat), s.size - i = d → i ≤ s.size → d + 21 < k → acc < 10 ^ i →
    spec_ParseNum.l0 k s (acc : Int) (i : Int) = some (match vf acc (s.data.toList.drop i) with
      | none => (0, false)
      | some u => if u ≤ 1000000000 ∧ Lib.itoa (u : Int) = s.data.toList then ((u : Int), true) else (0, false)) := by
  intro d
  induction d with
  | zero =>
    intro i k acc hd hi hk ha
    cases k with
    | zero => exact absurd hk (Nat.not_lt_zero _)
    | succ k =>
    obtain ⟨f1, f2, f3, f4⟩ := out_facts i s.size k hs hd hi hk
    obtain ⟨g1, g2, g3⟩ := acc_facts acc (pw10 acc i f3 ha)
    have hl : s.data.toList.length = s.size := by rw [Array.length_toList]; rfl
    rw [List.drop_eq_nil_of_le (by rw [hl]; exact f1)]
    simp only [spec_ParseNum.l0, vf]
    rw [if_neg f2]
    by_cases c : (acc : Int) > 1000000000
    · rw [if_pos c, if_neg (fun h => g3.mp c h.1)]
    · rw [if_neg c, numS (acc : Int) g1 g2 f4, Option.bind_some]
      have e1 : (⟨(Lib.itoa (acc : Int)).toArray⟩ : ByteArray).toList = Lib.itoa (acc : Int) := by rw [Lib.toList_data]
      rw [e1, Lib.toList_data]
      by_cases c3 : Lib.itoa (acc : Int) = s.data.toList
      · rw [if_pos c3, if_pos ⟨Decidable.not_not.mp (fun h => c (g3.mpr h)), c3⟩]
      · rw [if_neg c3, if_neg (fun h => c3 h.2)]
  | succ d ih =>
    intro i k acc hd hi hk ha
    cases k with
    | zero => exact absurd hk (Nat.not_lt_zero _)
    | succ k =>
    obtain ⟨a1, a2, a3, a4, a5, a6, a7⟩ := in_facts i s.size d k hs hd hk
    obtain ⟨c, e1, e2⟩ := byte_drop s i a4
    rw [e1]
    simp only [spec_ParseNum.l0, vf]
    rw [if_pos a5, if_pos a6, e2, wrap_nat _ (u8_small c), l1in, Option.bind_some]
    by_cases h : 48 ≤ c.toNat ∧ c.toNat ≤ 57
    · have q2 : wrap64 ((i : Int) + 1) = ((i + 1 : Nat) : Int) := wrap_nat (i + 1) (Nat.le_trans (Nat.succ_le_succ a7) (by decide))
      rw [if_pos (by rw [decide_eq_true_iff]; exact (dig_iff _).mp h), if_pos h, dig_step acc c.toNat (pw10 acc i a7 ha) h, q2]
      exact ih (i + 1) k _ a1 a2 a3 (pw_step acc c.toNat i ha h.2)
    · rw [if_neg (by rw [decide_eq_true_iff]; exact fun x => h ((dig_iff _).mpr x)), if_neg h]
theorem len_iff (n : Nat) : (1 ≤ n ∧ n ≤ 10) ↔ ((1 : Int) ≤ (n : Int) ∧ (n : Int) ≤ 10) := by omega
theorem fuel_ok (n k : Nat) (h : n ≤ 10) (hk : 40 < k) : n + 21 < k := by omega
theorem parseS (s : ByteArray) {k : Nat} (hk : 40 < k) : spec_ParseNum.f k s = some (pn s.data.toList) := by
  have hl : s.data.toList.length = s.size := by rw [Array.length_toList]; rfl
  unfold spec_ParseNum.f pn
  rw [l1in, Option.bind_some, hl]
  by_cases h : 1 ≤ s.size ∧ s.size ≤ 10
  · rw [if_pos (by rw [decide_eq_true_iff]; exact (len_iff _).mp h), if_pos h]
    have := parse_l0 s h.2 s.size 0 k 0 (Nat.sub_zero _) (Nat.zero_le _) (fuel_ok _ _ h.2 hk) (by decide)
    rw [List.drop_zero] at this
    exact this
  · rw [if_neg (by rw [decide_eq_true_iff]; exact fun x => h ((len_iff _).mpr x)), if_neg h]
theorem FnExactParseNum : laws_FnExactParseNum.Pure := by
  intro s hs
  refine ⟨41, ?_⟩
  unfold laws_FnExactParseNum.f
  by_cases hb : (s.size : Int) > 1048576
  · rw [if_pos hb]
  rw [if_neg hb, parseS s (by decide), parseI s (by omega)]
  simp
end Go.Proofs.YtjnmefhohkffpaaDoor.Pure
