/- What the law FnExactRefText computes is the answer true, for all arguments within the bounds that the statement's own reading gives. No other condition. -/
import Derived.OpenShut
import Derived.Test.YtjnmefhohkffpaaDoorQFnExactRefTextx2
namespace Go.Proofs.YtjnmefhohkffpaaDoor.Pure
open Go.RowKit Go.Proofs.YtjnmefhohkffpaaDoor.QFnExactRefText Go.Proofs.YtjnmefhohkffpaaDoorW.PrintWords Go.Proofs.YtjnmefhohkffpaaDoorW.PrintLast
set_option linter.unusedVariables false
set_option linter.unusedSimpArgs false
def laws_FnExactRefText.Pure : Prop := ∀ (a0_0 : Int) (a0_1 : Int) (a0_2 : Int) (a0_3 : Int), (Lit.int .i64 a0_0).wf = true → (Lit.int .i64 a0_1).wf = true → (Lit.int .i64 a0_2).wf = true → (Lit.int .i64 a0_3).wf = true → ∃ k, laws_FnExactRefText.f k a0_0 a0_1 a0_2 a0_3 = some true
theorem digW (x : Int) (h0 : -9223372036854775808 ≤ x) (h1 : x ≤ 9223372036854775807) :
    (if (Int.tmod x 10) < 0 then wrap64 (48 + (wrap64 (-(Int.tmod x 10)))) % 256 else wrap64 (48 + (Int.tmod x 10)) % 256) = ((48 + x.natAbs % 10 : Nat) : Int) ∧ (wrap64 (Int.tdiv x 10)).natAbs = x.natAbs / 10 ∧ wrap64 (Int.tdiv x 10) = Int.tdiv x 10 ∧ -9223372036854775808 ≤ Int.tdiv x 10 ∧ Int.tdiv x 10 ≤ 9223372036854775807 := by
  rcases Int.eq_nat_or_neg x with ⟨u, hu | hu⟩
  · subst hu
    have e1 : Int.tmod (u : Int) 10 = ((u % 10 : Nat) : Int) := (Int.ofNat_tmod u 10).symm
    have e2 : Int.tdiv (u : Int) 10 = ((u / 10 : Nat) : Int) := (Int.ofNat_tdiv u 10).symm
    have e3 : (u : Int).natAbs = u := Int.natAbs_natCast u
    have w : wrap64 ((u / 10 : Nat) : Int) = ((u / 10 : Nat) : Int) := by unfold wrap64; omega
    rw [e1, e2, e3, w, if_neg (by omega)]
    refine ⟨?_, ?_, rfl, ?_, ?_⟩ <;> (try unfold wrap64) <;> omega
  · subst hu
    have e1 : Int.tmod (-(u : Int)) 10 = -((u % 10 : Nat) : Int) := by rw [Int.neg_tmod, show Int.tmod (u : Int) 10 = ((u % 10 : Nat) : Int) from (Int.ofNat_tmod u 10).symm]
    have e2 : Int.tdiv (-(u : Int)) 10 = -((u / 10 : Nat) : Int) := by rw [Int.neg_tdiv, show Int.tdiv (u : Int) 10 = ((u / 10 : Nat) : Int) from (Int.ofNat_tdiv u 10).symm]
    have e3 : (-(u : Int)).natAbs = u := by rw [Int.natAbs_neg]; exact Int.natAbs_natCast u
    have w : wrap64 (-((u / 10 : Nat) : Int)) = -((u / 10 : Nat) : Int) := by unfold wrap64; omega
    have w2 : wrap64 (-(-((u % 10 : Nat) : Int))) = ((u % 10 : Nat) : Int) := by unfold wrap64; omega
    rw [e1, e2, e3, w, w2]
    refine ⟨?_, ?_, rfl, ?_, ?_⟩
    · by_cases c : (-((u % 10 : Nat) : Int)) < 0
      · rw [if_pos c]; unfold wrap64; omega
      · rw [if_neg c]; unfold wrap64; omega
    all_goals omega
def digs (u : Nat) : List UInt8 := if u = 0 then [] else Lib.decDigits u
theorem digs_step (u : Nat) (h : u ≠ 0) : digs u = digs (u / 10) ++ [UInt8.ofNat (48 + u % 10)] := by
  unfold digs
  rw [if_neg h, Lib.decDigits]
  by_cases c : u < 10
  · rw [dif_pos c, if_pos (by omega), show u % 10 = u by omega]
    rfl
  · rw [dif_neg c, if_neg (by omega)]
def finN (a0 : Int) (l : List UInt8) : List UInt8 := if a0 < 0 then 45 :: l else l
theorem digs_len : ∀ (j u : Nat), u < 10 ^ j → (digs u).length ≤ j
  | 0, u, h => by
    have : u = 0 := by simp at h; exact h
    subst this
    simp [digs]
  | j + 1, u, h => by
    by_cases c : u = 0
    · subst c
      simp [digs]
    · rw [digs_step u c, List.length_append]
      have := digs_len j (u / 10) (by rw [Nat.pow_succ] at h; omega)
      simp
      omega
theorem numS_l0 (a0 : Int) : ∀ (j k : Nat) (x : Int) (l : List UInt8), x.natAbs < 10 ^ j → j < k → -9223372036854775808 ≤ x → x ≤ 9223372036854775807 → l.length + j ≤ 1000 →
    spec_NumText.l0 k a0 (⟨l.toArray⟩ : ByteArray) x = some (⟨(finN a0 (digs x.natAbs ++ l)).toArray⟩ : ByteArray) := by
  have stop : ∀ (k : Nat) (l : List UInt8), l.length ≤ 1000 → spec_NumText.l0 (k + 1) a0 (⟨l.toArray⟩ : ByteArray) 0 = some (⟨(finN a0 (digs (0 : Int).natAbs ++ l)).toArray⟩ : ByteArray) := by
    intro k l hl
    have hd : digs (0 : Int).natAbs = [] := rfl
    have hs : (⟨l.toArray⟩ : ByteArray).size = l.length := by simp [ByteArray.size]
    rw [hd]
    simp only [spec_NumText.l0, if_true, List.nil_append, finN]
    by_cases c : a0 < 0
    · rw [if_pos c, if_pos (by omega), if_pos c]
      rfl
    · rw [if_neg c, if_neg c]
  intro j
  induction j with
  | zero =>
    intro k x l h hk _ _ hl
    obtain ⟨k, rfl⟩ : ∃ m, k = m + 1 := ⟨k - 1, by omega⟩
    have e : x = 0 := by simp at h; exact h
    subst e
    exact stop k l (by omega)
  | succ j ih =>
    intro k x l h hk h0 h1 hl
    obtain ⟨k, rfl⟩ : ∃ m, k = m + 1 := ⟨k - 1, by omega⟩
    by_cases c : x = 0
    · subst c
      exact stop k l (by omega)
    · obtain ⟨e1, e2, e3, e4, e5⟩ := digW x h0 h1
      have hs : (⟨l.toArray⟩ : ByteArray).size = l.length := by simp [ByteArray.size]
      have hn : x.natAbs ≠ 0 := by omega
      have app : ∀ d : Nat, (strOfNums [(d : Int)]) ++ (⟨l.toArray⟩ : ByteArray) = (⟨(UInt8.ofNat d :: l).toArray⟩ : ByteArray) := by
        intro d
        apply ByteArray.ext
        simp [strOfNums]
      have sz : ∀ d : Nat, (strOfNums [(d : Int)]).size = 1 := by
        intro d
        rw [strOfNums_size]
        rfl
      have R := ih k (Int.tdiv x 10) (UInt8.ofNat (48 + x.natAbs % 10) :: l) (by rw [e3] at e2; rw [e2]; rw [Nat.pow_succ] at h; omega) (by omega) e4 e5 (by simp; omega)
      have G : spec_NumText.l0 k a0 (⟨(UInt8.ofNat (48 + x.natAbs % 10) :: l).toArray⟩ : ByteArray) (Int.tdiv x 10) = some (⟨(finN a0 (digs x.natAbs ++ l)).toArray⟩ : ByteArray) := by
        rw [R]
        rw [e3] at e2
        rw [e2, digs_step x.natAbs hn, List.append_assoc]
        rfl
      simp only [spec_NumText.l0]
      rw [if_neg c]
      by_cases c2 : (Int.tmod x 10) < 0
      · rw [if_pos c2] at e1
        rw [if_pos c2, e1]
        simp only [Option.bind_some]
        rw [if_pos (by rw [sz, hs]; omega), app, e3]
        exact G
      · rw [if_neg c2] at e1
        rw [if_neg c2, e1]
        simp only [Option.bind_some]
        rw [if_pos (by rw [sz, hs]; omega), app, e3]
        exact G
theorem itoa_fin (n : Int) (h : n ≠ 0) : Lib.itoa n = finN n (digs n.natAbs) := by
  unfold Lib.itoa finN digs
  by_cases c : n < 0
  · rw [if_pos c, if_pos c, if_neg (by omega)]
  · rw [if_neg c, if_neg c, if_neg (by omega), show n.toNat = n.natAbs by omega]
theorem numS (n : Int) (h0 : -9223372036854775808 ≤ n) (h1 : n ≤ 9223372036854775807) {k : Nat} (hk : 20 < k) : spec_NumText.f k n = some (⟨(Lib.itoa n).toArray⟩ : ByteArray) := by
  unfold spec_NumText.f
  by_cases c : n = 0
  · rw [if_pos c]
    subst c
    congr 1
    apply ByteArray.ext
    have : Lib.itoa 0 = [48] := by unfold Lib.itoa; rw [if_neg (by decide)]; unfold Lib.decDigits; rfl
    rw [this]
  · rw [if_neg c]
    have := numS_l0 n 20 k n [] (by omega) hk h0 h1 (by decide)
    rw [List.append_nil, ← itoa_fin n c] at this
    exact this
theorem numI (n : Int) (h0 : -9223372036854775808 ≤ n) (h1 : n ≤ 9223372036854775807) : impl_NumText.f n = some (⟨(Lib.itoa n).toArray⟩ : ByteArray) := by
  unfold impl_NumText.f strconv_Itoa.f
  rw [if_pos ⟨h0, h1⟩]
  rfl
theorem wf64 {n : Int} (h : (Lit.int .i64 n).wf = true) : -9223372036854775808 ≤ n ∧ n ≤ 9223372036854775807 := by
  have e1 : IntKind.i64.min = -9223372036854775808 := rfl
  have e2 : IntKind.i64.max = 9223372036854775807 := rfl
  simp [Lit.wf, e1, e2] at h
  exact h
def nt (n : Int) : ByteArray := ⟨(Lib.itoa n).toArray⟩
theorem nt_size (n : Int) (h0 : -9223372036854775808 ≤ n) (h1 : n ≤ 9223372036854775807) : (nt n).size ≤ 21 := by
  have := Lib.itoa_length_le n h0 h1
  show (Lib.itoa n).toArray.size ≤ 21
  simpa using this
theorem colon : (⟨#[58]⟩ : ByteArray).size = 1 := rfl
theorem hS (a b : Int) (ha : -9223372036854775808 ≤ a ∧ a ≤ 9223372036854775807) (hb : -9223372036854775808 ≤ b ∧ b ≤ 9223372036854775807) {k : Nat} (hk : 20 < k) : spec_HandleText.f k a b = some (nt a ++ (⟨#[58]⟩ : ByteArray) ++ nt b) := by
  unfold spec_HandleText.f
  rw [numS a ha.1 ha.2 hk, numS b hb.1 hb.2 hk]
  have sa := nt_size a ha.1 ha.2
  have sb := nt_size b hb.1 hb.2
  show (if (nt a).size + 1 ≤ 9223372036854775807 then (if (nt a ++ (⟨#[58]⟩ : ByteArray)).size + (nt b).size ≤ 9223372036854775807 then (some ((nt a ++ (⟨#[58]⟩ : ByteArray)) ++ nt b)) else none) else none) = _
  rw [if_pos (by omega), if_pos (by rw [ByteArray.size_append, colon]; omega)]
theorem hI (a b : Int) (ha : -9223372036854775808 ≤ a ∧ a ≤ 9223372036854775807) (hb : -9223372036854775808 ≤ b ∧ b ≤ 9223372036854775807) : impl_HandleText.f a b = some (nt a ++ (⟨#[58]⟩ : ByteArray) ++ nt b) := by
  unfold impl_HandleText.f
  rw [numI a ha.1 ha.2, numI b hb.1 hb.2]
  have sa := nt_size a ha.1 ha.2
  have sb := nt_size b hb.1 hb.2
  show (if (nt a).size + 1 ≤ 9223372036854775807 then (if (nt a ++ (⟨#[58]⟩ : ByteArray)).size + (nt b).size ≤ 9223372036854775807 then (some ((nt a ++ (⟨#[58]⟩ : ByteArray)) ++ nt b)) else none) else none) = _
  rw [if_pos (by omega), if_pos (by rw [ByteArray.size_append, colon]; omega)]
theorem ht_size (a b : Int) (ha : -9223372036854775808 ≤ a ∧ a ≤ 9223372036854775807) (hb : -9223372036854775808 ≤ b ∧ b ≤ 9223372036854775807) : (nt a ++ (⟨#[58]⟩ : ByteArray) ++ nt b).size ≤ 43 := by
  have sa := nt_size a ha.1 ha.2
  have sb := nt_size b hb.1 hb.2
  rw [ByteArray.size_append, ByteArray.size_append, colon]
  omega
theorem rest_ (h c d : ByteArray) (hh : h.size ≤ 43) (hc : c.size ≤ 21) (hd : d.size ≤ 21) : (if h.size + 1 ≤ 9223372036854775807 then (if (h ++ (⟨#[58]⟩ : ByteArray)).size + c.size ≤ 9223372036854775807 then (if ((h ++ (⟨#[58]⟩ : ByteArray)) ++ c).size + 1 ≤ 9223372036854775807 then (if (((h ++ (⟨#[58]⟩ : ByteArray)) ++ c) ++ (⟨#[58]⟩ : ByteArray)).size + d.size ≤ 9223372036854775807 then (some ((((h ++ (⟨#[58]⟩ : ByteArray)) ++ c) ++ (⟨#[58]⟩ : ByteArray)) ++ d)) else (none)) else (none)) else (none)) else (none)) = some ((((h ++ (⟨#[58]⟩ : ByteArray)) ++ c) ++ (⟨#[58]⟩ : ByteArray)) ++ d) := by
  rw [if_pos (by omega), if_pos (by rw [ByteArray.size_append, colon]; omega), if_pos (by rw [ByteArray.size_append, ByteArray.size_append, colon]; omega), if_pos (by rw [ByteArray.size_append, ByteArray.size_append, ByteArray.size_append, colon]; omega)]
def rt (a b c d : Int) : ByteArray := ((((nt a ++ (⟨#[58]⟩ : ByteArray) ++ nt b) ++ (⟨#[58]⟩ : ByteArray)) ++ nt c) ++ (⟨#[58]⟩ : ByteArray)) ++ nt d
theorem rS (a b c d : Int) (ha : -9223372036854775808 ≤ a ∧ a ≤ 9223372036854775807) (hb : -9223372036854775808 ≤ b ∧ b ≤ 9223372036854775807) (hc : -9223372036854775808 ≤ c ∧ c ≤ 9223372036854775807) (hd : -9223372036854775808 ≤ d ∧ d ≤ 9223372036854775807) {k : Nat} (hk : 20 < k) : spec_RefText.f k a b c d = some (rt a b c d) := by
  unfold spec_RefText.f
  rw [hS a b ha hb hk, numS c hc.1 hc.2 hk, numS d hd.1 hd.2 hk]
  exact rest_ _ (nt c) (nt d) (ht_size a b ha hb) (nt_size c hc.1 hc.2) (nt_size d hd.1 hd.2)
theorem rI (a b c d : Int) (ha : -9223372036854775808 ≤ a ∧ a ≤ 9223372036854775807) (hb : -9223372036854775808 ≤ b ∧ b ≤ 9223372036854775807) (hc : -9223372036854775808 ≤ c ∧ c ≤ 9223372036854775807) (hd : -9223372036854775808 ≤ d ∧ d ≤ 9223372036854775807) : impl_RefText.f a b c d = some (rt a b c d) := by
  unfold impl_RefText.f
  rw [hI a b ha hb, numI c hc.1 hc.2, numI d hd.1 hd.2]
  exact rest_ _ (nt c) (nt d) (ht_size a b ha hb) (nt_size c hc.1 hc.2) (nt_size d hd.1 hd.2)
theorem FnExactRefText : laws_FnExactRefText.Pure := by
  intro a b c d ha hb hc hd
  refine ⟨21, ?_⟩
  unfold laws_FnExactRefText.f
  have e : laws_toRef.f a b c d = some (a, b, c, d) := rfl
  rw [e]
  simp only [Option.bind_some]
  rw [rS a b c d (wf64 ha) (wf64 hb) (wf64 hc) (wf64 hd) (by decide), rI a b c d (wf64 ha) (wf64 hb) (wf64 hc) (wf64 hd)]
  simp only [Option.bind_some, if_true]
end Go.Proofs.YtjnmefhohkffpaaDoor.Pure
