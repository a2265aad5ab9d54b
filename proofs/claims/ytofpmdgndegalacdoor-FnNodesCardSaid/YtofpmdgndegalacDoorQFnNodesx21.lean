/- What the functions that the law FnNodes reaches compute, as plain functions, and that the code computes just that (by a program of this session's; the library's functions by hand). No condition. -/
import Derived.Test.YtofpmdgndegalacDoorQFnNodesx0
import Derived.Test.YtofpmdgndegalacDoorQFnNodesx9
namespace Go.Proofs.YtofpmdgndegalacDoor.QFnNodes
open Go.RowKit Go.Proofs.YtofpmdgndegalacDoorW.PrintWords Go.Proofs.YtofpmdgndegalacDoorW.PrintLast Go.Proofs.YtofpmdgndegalacDoorW.PrintMore
attribute [local go_sem] max2_int min2_int max_two min_two max_three min_three max_four min_four   -- for this text's walks alone
set_option linter.unusedVariables false
set_option linter.unusedSimpArgs false

/-! ### strconv_Itoa: function 60 (by hand) -/
/-- The library's table reads as its start lays it. -/
def Tb (w : World) : Prop := Lib.TabIs Tryd.prog w "internal/strconv.uint64pow10" .u64 Lib.pow10Tab
theorem Tb.tab {w : World} (h : Tb w) : Lib.TabIs Tryd.prog w "internal/strconv.uint64pow10" .u64 Lib.pow10Tab := h
theorem Tb.below {w w' : World} (h : Tb w) (hb : Below w.heap.size w w') : Tb w' := Lib.tabBelow_of_tabIs h w' hb
def strconv_Itoa.f (a0 : Int) : Option (ByteArray) := if -9223372036854775808 ≤ a0 ∧ a0 ≤ 9223372036854775807 then some (⟨(Lib.itoa a0).toArray⟩ : ByteArray) else none
theorem strconv_Itoa.calls (a0 : Int) (r : ByteArray) (w : World) (h : strconv_Itoa.f a0 = some r) (hT : Tb w) :
  Calls Tryd.prog 60 #[a0] w fun e w' => e = .returned (.string r) ∧ Below w.heap.size w w' := by
 unfold strconv_Itoa.f at h
 by_cases c : -9223372036854775808 ≤ a0 ∧ a0 ≤ 9223372036854775807
 ·rw [if_pos c] at h
  obtain rfl := Option.some.inj h
  refine (Tryd.strconv_Itoa a0 c.1 c.2 w hT.tab).mono fun e w' ⟨he, k, os, hw⟩ => ⟨he, ?_⟩
  rw [hw]
  exact Lib.below_grow _ _ (Nat.le_refl _) _ _
 ·rw [if_neg c] at h
  cases h

/-! ### impl_NumText: function 48 -/
def impl_NumText.f (a0 : Int) : Option (ByteArray) := (strconv_Itoa.f a0).bind fun tn => (some tn)
set_option maxHeartbeats 8000000 in
set_option maxRecDepth 100000 in
theorem impl_NumText.calls (a0 : Int) (r : ByteArray) (w : World) (h : impl_NumText.f a0 = some r) (hT : Tb w) :
  Calls Tryd.prog 48 #[a0] w fun e w' => e = .returned (.string r) ∧ Below w.heap.size w w' := by
 have HB := am (Below.refl w.heap.size w)
 have H : ((strconv_Itoa.f a0).bind fun tn => (some tn)) = some r := h
 clear h
 obtain ⟨tn, A2, H⟩ := bnd H
 try dsimp only at H
 obtain rfl := Option.some.inj H
 go_enter Tryd.func48, Tryd.ntmps48
 go_wp2_with (first | ((with_reducible refine gate_callee (f := 60) rfl ?_); refine goesL_ (some 4) rfl rfl Tryd.func60 (by kernel_rfl) rfl #[a0] rfl q66t ?_; (with_reducible refine (strconv_Itoa.calls a0 tn _ A2.out (Tb.below hT q68t)).mono ?_); rintro e w3 ⟨rfl, hb⟩; refine ⟨_, rfl, ?_⟩; replace HB := am (below_step q68t hb); (try clear hb); (try clear hb2); (try clear hk); (try clear hi)))
 go_ret
 exact ⟨q114t, q68t⟩

/-! ### impl_TextOf: function 17 -/
def impl_TextOf.j0 : Nat → ByteArray → Int → Int → Int → Int → Int → Int → Int → Int → List Int → Int → Int → List (S33) → List Int → Option (ByteArray)
 | 0, _, _, _, _, _, _, _, _, _, _, _, _, _, _ => none
 | k + 1, x3, W8, L7, W9, Xa, Xb, Xc, Xd, Xe, L8, Xf, Xg, L9, Ma => if x3.size + 1 ≤ 9223372036854775807 then ((impl_NumText.f L7).bind fun cK => (if (x3 ++ (⟨#[32]⟩ : ByteArray)).size + cK.size ≤ 9223372036854775807 then (if ((x3 ++ (⟨#[32]⟩ : ByteArray)) ++ cK).size + 1 ≤ 9223372036854775807 then ((impl_NumText.f (L8.length : Int)).bind fun d4 => (if (((x3 ++ (⟨#[32]⟩ : ByteArray)) ++ cK) ++ (⟨#[32]⟩ : ByteArray)).size + d4.size ≤ 9223372036854775807 then (if ((((x3 ++ (⟨#[32]⟩ : ByteArray)) ++ cK) ++ (⟨#[32]⟩ : ByteArray)) ++ d4).size + 1 ≤ 9223372036854775807 then ((impl_NumText.f (L9.length : Int)).bind fun fO => (if (((((x3 ++ (⟨#[32]⟩ : ByteArray)) ++ cK) ++ (⟨#[32]⟩ : ByteArray)) ++ d4) ++ (⟨#[32]⟩ : ByteArray)).size + fO.size ≤ 9223372036854775807 then (if ((((((x3 ++ (⟨#[32]⟩ : ByteArray)) ++ cK) ++ (⟨#[32]⟩ : ByteArray)) ++ d4) ++ (⟨#[32]⟩ : ByteArray)) ++ fO).size + 1 ≤ 9223372036854775807 then ((impl_NumText.f (Ma.length : Int)).bind fun n2 => (if (((((((x3 ++ (⟨#[32]⟩ : ByteArray)) ++ cK) ++ (⟨#[32]⟩ : ByteArray)) ++ d4) ++ (⟨#[32]⟩ : ByteArray)) ++ fO) ++ (⟨#[32]⟩ : ByteArray)).size + n2.size ≤ 9223372036854775807 then (some ((((((((x3 ++ (⟨#[32]⟩ : ByteArray)) ++ cK) ++ (⟨#[32]⟩ : ByteArray)) ++ d4) ++ (⟨#[32]⟩ : ByteArray)) ++ fO) ++ (⟨#[32]⟩ : ByteArray)) ++ n2)) else (none))) else (none)) else (none))) else (none)) else (none))) else (none)) else (none))) else (none)
def impl_TextOf.f (k : Nat) (aa : Int) (ab : Int) (ac : Int) (af : Int) (ag : Int) (ae : Int) (aJ : Int) (aK : Int) (av : List Int) (aM : Int) (aN : Int) (au : List (S33)) (ax : List Int) : Option (ByteArray) := (impl_within.f aa 0 3).bind fun qA => (if qA = true then ((some (([(⟨#[102, 114, 101, 101]⟩ : ByteArray), (⟨#[108, 105, 118, 101]⟩ : ByteArray), (⟨#[103, 111, 110, 101]⟩ : ByteArray), (⟨#[111, 117, 116]⟩ : ByteArray)] : List ByteArray) : List ByteArray)).bind fun jL => (if 0 ≤ aa then (if aa < (jL.length : Int) then (impl_TextOf.j0 k (rdOf ByteArray.empty jL aa) aa ab ac af ag ae aJ aK av aM aN au ax) else (none)) else (none))) else (impl_TextOf.j0 k (⟨#[63]⟩ : ByteArray) aa ab ac af ag ae aJ aK av aM aN au ax))
def impl_TextOf.T4 : Bool × List (List Nat × List Nat) := (true, [([], []), ([0], [0]), ([], []), ([2], [2]), ([3], [3]), ([1, 4], [1, 4]), ([5], [5]), ([], []), ([7], [7]), ([8], [8]), ([9, 4], [9]), ([6, 10], [6, 10]), ([11], [11]), ([], []), ([13], [13]), ([14], [14]), ([15, 10], [15]), ([12, 16], [12, 16]), ([17], [17]), ([], []), ([19], [19]), ([20], [20]), ([21, 16], [21]), ([18, 22], [18, 22]), ([23, 22, 0, 1, 2, 3, 4, 5, 6, 7, 8, 9, 10, 11, 12, 13, 14, 15, 16, 17, 18, 19, 20, 21, 22, 23], [23])])
def impl_TextOf.B4 : List Nat := [0, 1, 0, 4, 12, 31, 63, 0, 128, 384, 924, 2047, 4095, 0, 8192, 24576, 59292, 131071, 262143, 0, 524288, 1572864, 3794844, 8388607, 16777215]
theorem impl_TextOf.tab4 : rtab .any (opsOf Tryd.f17 4) = impl_TextOf.T4 := by kernel_rfl
theorem impl_TextOf.bits4 : waitsOk impl_TextOf.T4.2 impl_TextOf.B4 = true := by kernel_rfl
set_option maxHeartbeats 8000000 in
set_option maxRecDepth 100000 in
theorem impl_TextOf.calls (k : Nat) (aa : Int) (ab : Int) (ac : Int) (af : Int) (ag : Int) (ae : Int) (aJ : Int) (aK : Int) (A0_8 : Option Addr) (c0_8 : Nat) (av : List Int) (aM : Int) (aN : Int) (A0_11 : Option Addr) (c0_11 : Nat) (au : List (S33)) (A0_12 : Option Addr) (c0_12 : Nat) (ax : List Int) (r : ByteArray) (w : World) (hr0_8 : Kd.C (Kd.int .i64) w A0_8 av.length av) (hc0_8 : av.length ≤ c0_8) (hr0_11 : Kd.C k33 w A0_11 au.length au) (hc0_11 : au.length ≤ c0_11) (hr0_12 : Kd.C (Kd.int .i64) w A0_12 ax.length ax) (hc0_12 : ax.length ≤ c0_12) (h : impl_TextOf.f k aa ab ac af ag ae aJ aK av aM aN au ax = some r) (hT : Tb w) :
  Calls Tryd.prog 17 #[.agg #[aa, ab, ac, af, ag, ae, aJ, aK, .slice A0_8 av.length c0_8, aM, aN, .slice A0_11 au.length c0_11, .slice A0_12 ax.length c0_12]] w fun e w' => e = .returned (.string r) ∧ Below w.heap.size w w' := by
 have hu29 := Tryd.underlying29
 have d1 := Aside0.mk hr0_8
 have ec := Aside0.mk hc0_8
 clear hr0_8 hc0_8
 have jA := Aside0.mk hr0_11
 have ml := Aside0.mk hc0_11
 clear hr0_11 hc0_11
 have jB := Aside0.mk hr0_12
 have ko := Aside0.mk hc0_12
 clear hr0_12 hc0_12
 have HB := am (Below.refl w.heap.size w)
 have H : ((impl_within.f aa 0 3).bind fun qA => (if qA = true then ((some (([(⟨#[102, 114, 101, 101]⟩ : ByteArray), (⟨#[108, 105, 118, 101]⟩ : ByteArray), (⟨#[103, 111, 110, 101]⟩ : ByteArray), (⟨#[111, 117, 116]⟩ : ByteArray)] : List ByteArray) : List ByteArray)).bind fun jL => (if 0 ≤ aa then (if aa < (jL.length : Int) then (impl_TextOf.j0 k (rdOf ByteArray.empty jL aa) aa ab ac af ag ae aJ aK av aM aN au ax) else (none)) else (none))) else (impl_TextOf.j0 k (⟨#[63]⟩ : ByteArray) aa ab ac af ag ae aJ aK av aM aN au ax))) = some r := h
 clear h
 obtain ⟨qA, A2, H⟩ := bnd H
 try dsimp only at H
 have eK := Aside0.mk H
 clear H
 go_enter Tryd.func17, Tryd.ntmps17
 go_upto_if 6 with (first | ((with_reducible refine gate_dst (N := 1) rfl ?_); refine box_ev 1 #[aa, ab, ac, af, ag, ae, aJ, aK, .slice A0_8 av.length c0_8, aM, aN, .slice A0_11 au.length c0_11, .slice A0_12 ax.length c0_12] 29 ?_; intro gB hg w4 hbox hb; have dq := am (hbox); have Xh := am ((q63t : w.heap.size ≤ gB)); have Xi := am ((q63t : w.heap.size ≤ gB)); replace HB := am (below_step q68t hb); clear hb hbox hg; have pl := qc13 dq.out; have pm := qf13 dq.out) | ((with_reducible refine gate_callee (f := 32) rfl ?_); refine goesL_ (some 6) rfl rfl Tryd.func32 (by kernel_rfl) rfl #[aa, .int .i64 0, .int .i64 3] rfl q66t ?_; (with_reducible refine (impl_within.calls aa 0 3 qA _ A2.out).mono ?_); rintro e w' ⟨rfl, ⟨nd, rfl⟩⟩; refine ⟨_, rfl, ?_⟩))
 (try simp only [Act.put, List.setIfInBounds_toArray, List.set_cons_zero, List.set_cons_succ])
 go_cut [3] (fun v3 wc => ∃ (kq : Nat) (bj : ByteArray), v3 = .string bj ∧ Aside0 (impl_TextOf.j0 kq bj aa ab ac af ag ae aJ aK av aM aN au ax = some r) ∧ Aside0 (kq ≤ k) ∧ Aside0 (wc.heap[gB]? = some (.cells #[aa, ab, ac, af, ag, ae, aJ, aK, (.slice A0_8 av.length c0_8), aM, aN, (.slice A0_11 au.length c0_11), (.slice A0_12 ax.length c0_12)] 29 (0, 0))) ∧ Aside0 (Below w.heap.size w wc))
 case first =>
  have H := eK.out
  clear eK
  by_cases c6 : qA = true
  rotate_left
  ·replace c6 := Bool.eq_false_iff.mpr c6
   subst c6
   rw [if_neg (show ¬ (false = true) by decide)] at H
   have H' := Aside0.mk H
   clear H
   go_wp2
   go_meet
   case rel => exact ⟨_, ((⟨#[63]⟩ : ByteArray)), q121t, H', ⟨q122t⟩, ⟨qbk dq⟩, ⟨q47t⟩⟩
  subst c6
  rw [if_pos rfl] at H
  obtain ⟨jL, hy683⟩ : ∃ y_ : List ByteArray, y_ = (([(⟨#[102, 114, 101, 101]⟩ : ByteArray), (⟨#[108, 105, 118, 101]⟩ : ByteArray), (⟨#[103, 111, 110, 101]⟩ : ByteArray), (⟨#[111, 117, 116]⟩ : ByteArray)] : List ByteArray)) := ⟨_, rfl⟩
  replace H : (if 0 ≤ aa then (if aa < (jL.length : Int) then (impl_TextOf.j0 k (rdOf ByteArray.empty jL aa) aa ab ac af ag ae aJ aK av aM aN au ax) else (none)) else (none)) = some r := by first | (rw [hy683]; with_reducible exact H) | (have H2_ := (Option.bind_some _ _).symm.trans H; rw [hy683]; with_reducible exact H2_) | (have H2_ := (Option.bind_some _ _).symm.trans H; with_reducible exact H2_) | with_reducible exact H | (rw [hy683]; exact H) | exact H
  have Mb := Aside0.mk hy683
  clear hy683
  by_cases c7 : 0 ≤ aa
  rotate_left
  ·rw [if_neg c7] at H
   exact absurd H q126t
  rw [if_pos c7] at H
  have eM : decide (0 ≤ aa) = true := decide_eq_true c7
  clear c7
  (first | rw [eM] | (simp only [i64_w, i32_w]; rw [eM]) | skip)
  by_cases c8 : aa < (jL.length : Int)
  rotate_left
  ·rw [if_neg c8] at H
   exact absurd H q126t
  rw [if_pos c8] at H
  have gu : decide (aa < (jL.length : Int)) = true := decide_eq_true c8
  clear c8
  have H' := Aside0.mk H
  clear H
  have hix_ : ∀ w : World, (Instr.index 65 (.agg #[.string (⟨#[102, 114, 101, 101]⟩ : ByteArray), .string (⟨#[108, 105, 118, 101]⟩ : ByteArray), .string (⟨#[103, 111, 110, 101]⟩ : ByteArray), .string (⟨#[111, 117, 116]⟩ : ByteArray)]) (.int .i64 aa)).run Tryd.prog w = .ok (.string (rdOf ByteArray.empty jL aa)) w := by
   have h0_ := of_decide_eq_true eM
   have h1_ := of_decide_eq_true gu
   rw [Mb.out] at h1_ ⊢
   have h2_ : aa < 4 := h1_
   have h3_ : aa = 0 ∨ aa = 1 ∨ aa = 2 ∨ aa = 3 := by clear h1_; omega
   clear h0_ h1_ h2_
   rcases h3_ with h3_ | h3_ | h3_ | h3_ <;> (intro w; rw [h3_]; kernel_rfl)
  go_wp2_with (simp only [hix_])
  go_meet
  case rel => exact ⟨_, (rdOf ByteArray.empty jL aa), q121t, H', ⟨q122t⟩, ⟨qbk dq⟩, ⟨q47t⟩⟩
 case rest =>
  clear eK
  try clear c1
  try clear p2
  try clear c3
  try clear c6
  try clear p6
  try clear q6
  try clear hx6
  try clear c7
  try clear eM
  try clear c8
  try clear gu
  try clear Xj Xk Xl Xm Xn Xo Xp Xq Xr Xs Xt Xu Xv
  try clear pl
  try clear Xw Xx Xy Xz XA XB XC XD XE XF XG XH XI
  try clear pm
  try clear XJ
  try clear p686
  try clear q686
  obtain ⟨kq, bj, rfl, HA, gD, dq, HB⟩ := hcut
  cases kq with
  | zero => exact absurd HA.out (by simp [impl_TextOf.j0])
  | succ kj2 =>
   have H := HA.out
   clear HA
   simp only [impl_TextOf.j0] at H
   by_cases c13 : bj.size + 1 ≤ 9223372036854775807
   rotate_left
   ·rw [if_neg c13] at H
    exact absurd H q126t
   rw [if_pos c13] at H
   have k7 := eq_true c13
   have pk : decide (bj.size + 1 ≤ 9223372036854775807) = true := decide_eq_true c13
   try have Mc : (9223372036854775807 < bj.size + 1) = False := eq_false (Nat.not_lt.2 c13)
   obtain ⟨cK, eS, H⟩ := bnd H
   try dsimp only at H
   by_cases c15 : (bj ++ (⟨#[32]⟩ : ByteArray)).size + cK.size ≤ 9223372036854775807
   rotate_left
   ·rw [if_neg c15] at H
    exact absurd H q126t
   rw [if_pos c15] at H
   have Md := eq_true c15
   have Me : decide ((bj ++ (⟨#[32]⟩ : ByteArray)).size + cK.size ≤ 9223372036854775807) = true := decide_eq_true c15
   try have Mf : (9223372036854775807 < (bj ++ (⟨#[32]⟩ : ByteArray)).size + cK.size) = False := eq_false (Nat.not_lt.2 c15)
   try have Mg : (9223372036854775807 < bj.size + 1 + cK.size) = False := eq_false (by simp only [ByteArray.size_append] at c15; exact Nat.not_lt.2 c15)
   by_cases c16 : ((bj ++ (⟨#[32]⟩ : ByteArray)) ++ cK).size + 1 ≤ 9223372036854775807
   rotate_left
   ·rw [if_neg c16] at H
    exact absurd H q126t
   rw [if_pos c16] at H
   have qp := eq_true c16
   have zX : decide (((bj ++ (⟨#[32]⟩ : ByteArray)) ++ cK).size + 1 ≤ 9223372036854775807) = true := decide_eq_true c16
   try have Mh : (9223372036854775807 < ((bj ++ (⟨#[32]⟩ : ByteArray)) ++ cK).size + 1) = False := eq_false (Nat.not_lt.2 c16)
   try have Mi : (9223372036854775807 < bj.size + 1 + cK.size + 1) = False := eq_false (by simp only [ByteArray.size_append] at c16; exact Nat.not_lt.2 c16)
   obtain ⟨d4, sF, H⟩ := bnd H
   try dsimp only at H
   by_cases c18 : (((bj ++ (⟨#[32]⟩ : ByteArray)) ++ cK) ++ (⟨#[32]⟩ : ByteArray)).size + d4.size ≤ 9223372036854775807
   rotate_left
   ·rw [if_neg c18] at H
    exact absurd H q126t
   rw [if_pos c18] at H
   have zY := eq_true c18
   have zZ : decide ((((bj ++ (⟨#[32]⟩ : ByteArray)) ++ cK) ++ (⟨#[32]⟩ : ByteArray)).size + d4.size ≤ 9223372036854775807) = true := decide_eq_true c18
   try have z1 : (9223372036854775807 < (((bj ++ (⟨#[32]⟩ : ByteArray)) ++ cK) ++ (⟨#[32]⟩ : ByteArray)).size + d4.size) = False := eq_false (Nat.not_lt.2 c18)
   try have Mj : (9223372036854775807 < bj.size + 1 + cK.size + 1 + d4.size) = False := eq_false (by simp only [ByteArray.size_append] at c18; exact Nat.not_lt.2 c18)
   by_cases c19 : ((((bj ++ (⟨#[32]⟩ : ByteArray)) ++ cK) ++ (⟨#[32]⟩ : ByteArray)) ++ d4).size + 1 ≤ 9223372036854775807
   rotate_left
   ·rw [if_neg c19] at H
    exact absurd H q126t
   rw [if_pos c19] at H
   have Mk := eq_true c19
   have Ml : decide (((((bj ++ (⟨#[32]⟩ : ByteArray)) ++ cK) ++ (⟨#[32]⟩ : ByteArray)) ++ d4).size + 1 ≤ 9223372036854775807) = true := decide_eq_true c19
   try have Mm : (9223372036854775807 < ((((bj ++ (⟨#[32]⟩ : ByteArray)) ++ cK) ++ (⟨#[32]⟩ : ByteArray)) ++ d4).size + 1) = False := eq_false (Nat.not_lt.2 c19)
   try have Mn : (9223372036854775807 < bj.size + 1 + cK.size + 1 + d4.size + 1) = False := eq_false (by simp only [ByteArray.size_append] at c19; exact Nat.not_lt.2 c19)
   obtain ⟨fO, z3, H⟩ := bnd H
   try dsimp only at H
   by_cases c21 : (((((bj ++ (⟨#[32]⟩ : ByteArray)) ++ cK) ++ (⟨#[32]⟩ : ByteArray)) ++ d4) ++ (⟨#[32]⟩ : ByteArray)).size + fO.size ≤ 9223372036854775807
   rotate_left
   ·rw [if_neg c21] at H
    exact absurd H q126t
   rw [if_pos c21] at H
   have kS := eq_true c21
   have pN : decide ((((((bj ++ (⟨#[32]⟩ : ByteArray)) ++ cK) ++ (⟨#[32]⟩ : ByteArray)) ++ d4) ++ (⟨#[32]⟩ : ByteArray)).size + fO.size ≤ 9223372036854775807) = true := decide_eq_true c21
   try have Mo : (9223372036854775807 < (((((bj ++ (⟨#[32]⟩ : ByteArray)) ++ cK) ++ (⟨#[32]⟩ : ByteArray)) ++ d4) ++ (⟨#[32]⟩ : ByteArray)).size + fO.size) = False := eq_false (Nat.not_lt.2 c21)
   try have Mp : (9223372036854775807 < bj.size + 1 + cK.size + 1 + d4.size + 1 + fO.size) = False := eq_false (by simp only [ByteArray.size_append] at c21; exact Nat.not_lt.2 c21)
   by_cases c22 : ((((((bj ++ (⟨#[32]⟩ : ByteArray)) ++ cK) ++ (⟨#[32]⟩ : ByteArray)) ++ d4) ++ (⟨#[32]⟩ : ByteArray)) ++ fO).size + 1 ≤ 9223372036854775807
   rotate_left
   ·rw [if_neg c22] at H
    exact absurd H q126t
   rw [if_pos c22] at H
   have yP := eq_true c22
   have yQ : decide (((((((bj ++ (⟨#[32]⟩ : ByteArray)) ++ cK) ++ (⟨#[32]⟩ : ByteArray)) ++ d4) ++ (⟨#[32]⟩ : ByteArray)) ++ fO).size + 1 ≤ 9223372036854775807) = true := decide_eq_true c22
   try have Mq : (9223372036854775807 < ((((((bj ++ (⟨#[32]⟩ : ByteArray)) ++ cK) ++ (⟨#[32]⟩ : ByteArray)) ++ d4) ++ (⟨#[32]⟩ : ByteArray)) ++ fO).size + 1) = False := eq_false (Nat.not_lt.2 c22)
   try have Mr : (9223372036854775807 < bj.size + 1 + cK.size + 1 + d4.size + 1 + fO.size + 1) = False := eq_false (by simp only [ByteArray.size_append] at c22; exact Nat.not_lt.2 c22)
   obtain ⟨n2, qN, H⟩ := bnd H
   try dsimp only at H
   by_cases c24 : (((((((bj ++ (⟨#[32]⟩ : ByteArray)) ++ cK) ++ (⟨#[32]⟩ : ByteArray)) ++ d4) ++ (⟨#[32]⟩ : ByteArray)) ++ fO) ++ (⟨#[32]⟩ : ByteArray)).size + n2.size ≤ 9223372036854775807
   rotate_left
   ·rw [if_neg c24] at H
    exact absurd H q126t
   rw [if_pos c24] at H
   have iQ := eq_true c24
   have kx : decide ((((((((bj ++ (⟨#[32]⟩ : ByteArray)) ++ cK) ++ (⟨#[32]⟩ : ByteArray)) ++ d4) ++ (⟨#[32]⟩ : ByteArray)) ++ fO) ++ (⟨#[32]⟩ : ByteArray)).size + n2.size ≤ 9223372036854775807) = true := decide_eq_true c24
   try have Ms : (9223372036854775807 < (((((((bj ++ (⟨#[32]⟩ : ByteArray)) ++ cK) ++ (⟨#[32]⟩ : ByteArray)) ++ d4) ++ (⟨#[32]⟩ : ByteArray)) ++ fO) ++ (⟨#[32]⟩ : ByteArray)).size + n2.size) = False := eq_false (Nat.not_lt.2 c24)
   try have Mt : (9223372036854775807 < bj.size + 1 + cK.size + 1 + d4.size + 1 + fO.size + 1 + n2.size) = False := eq_false (by simp only [ByteArray.size_append] at c24; exact Nat.not_lt.2 c24)
   obtain rfl := Option.some.inj H
   try go_wp2
   (try (rw [drewN_self wc]; generalize hq_ : World.drewN wc _ = wc; have hh_ := congrArg World.heap hq_; dsimp only [World.drewN] at hh_; have zb_ : Below w.heap.size w wc := (by rw [← hq_]; exact pw_below_drewN HB.out _); have z_ := dq.out; rw [hh_] at z_; clear dq; have dq := Aside0.mk z_; clear z_; clear HB; have HB := Aside0.mk zb_; clear zb_ hh_ hq_))
   replace dq := am (blk_drew dq.out)
   replace HB := am (below_drew1 HB.out)
   refine start_ (n := 25) (S := fun w' => w'.cell? ⟨gB, 0, none⟩ = some (.int .i64 aa) ∧ w'.cell? ⟨gB, 1, none⟩ = some (.int .i64 ab) ∧ w'.cell? ⟨gB, 2, none⟩ = some (.int .i64 ac) ∧ w'.cell? ⟨gB, 3, none⟩ = some (.int .i64 af) ∧ w'.cell? ⟨gB, 4, none⟩ = some (.int .i64 ag) ∧ w'.cell? ⟨gB, 5, none⟩ = some (.int .i64 ae) ∧ w'.cell? ⟨gB, 6, none⟩ = some (.int .i64 aJ) ∧ w'.cell? ⟨gB, 7, none⟩ = some (.int .i64 aK) ∧ w'.cell? ⟨gB, 8, none⟩ = some (.slice A0_8 av.length c0_8) ∧ w'.cell? ⟨gB, 9, none⟩ = some (.int .i64 aM) ∧ w'.cell? ⟨gB, 10, none⟩ = some (.int .i64 aN) ∧ w'.cell? ⟨gB, 11, none⟩ = some (.slice A0_11 au.length c0_11) ∧ w'.cell? ⟨gB, 12, none⟩ = some (.slice A0_12 ax.length c0_12)) (ds := []) (bm 25 0) (by kernel_rfl) rfl (by kernel_rfl) qst (fun hHeld => ?_); refine with_tabW impl_TextOf.tab4 impl_TextOf.bits4 (fun HT_ HW_ => ?_)
   generalize wc.drew = w25 at dq HB hHeld ⊢
   refine pv_ 0 11 (bm 25 1) ?_
   refine pv_ 1 12 (bm 25 3) ?_
   refine pv_ 2 13 (bm 25 7) ?_
   refine pv_ 7 18 (bm 25 135) ?_
   refine pv_ 13 24 (bm 25 8327) ?_
   refine pv_ 19 30 (bm 25 532615) ?_
   refine tv_ 3 14 (bm 25 532623) ?_
   refine tv_ 8 19 (bm 25 532879) ?_
   refine pv_ 9 20 (bm 25 533391) ?_
   refine tv_ 14 25 (bm 25 549775) ?_
   refine pv_ 15 26 (bm 25 582543) ?_
   refine tv_ 20 31 (bm 25 1631119) ?_
   refine pv_ 21 32 (bm 25 3728271) ?_
   refine one_ (i := 4) (N := some 15) (bm 25 3728287) rfl rfl (one_of HT_.out (by kernel_rfl)) q125t (fun K hK => ?_)
   refine goes_ Tryd.func48 (by kernel_rfl) rfl #[ab] q127t rfl rfl q66t ?_
   with_reducible refine (impl_NumText.calls ab cK _ eS.out (Tb.below hT q47t)).mono ?_
   rintro e w26 ⟨rfl, hb⟩
   refine ⟨_, rfl, ?_⟩
   replace dq := blb dq hb
   replace HB := am (below_step q47t hb)
   (try clear hb)
   (try clear hb2)
   (try clear hk)
   (try clear hi)
   refine hK.out _ _ q5t (fun hHeld => ?_)
   clear hK K
   refine norm_ (a' := ?_) ?_ ?_
   rotate_left
   ·show Act.put _ (some 15) _ = _
    simp only [Act.put, List.setIfInBounds_toArray, List.set_cons_zero, List.set_cons_succ, i64_w, i32_w]
    rfl
   refine pv_ 5 16 (bm 25 3728319) ?_
   refine pv_ 6 17 (bm 25 3728383) ?_
   refine one_ (i := 10) (N := some 21) (bm 25 3729407) rfl rfl (one_of HT_.out (by kernel_rfl)) q125t (fun K hK => ?_)
   refine goes_ Tryd.func48 (by kernel_rfl) rfl #[.int .i64 (av.length : Int)] q127t rfl rfl q66t ?_
   with_reducible refine (impl_NumText.calls (av.length : Int) d4 _ sF.out (Tb.below hT q47t)).mono ?_
   rintro e w27 ⟨rfl, hb⟩
   refine ⟨_, rfl, ?_⟩
   replace dq := blb dq hb
   replace HB := am (below_step q47t hb)
   (try clear hb)
   (try clear hb2)
   (try clear hk)
   (try clear hi)
   refine hK.out _ _ q5t (fun hHeld => ?_)
   clear hK K
   refine norm_ (a' := ?_) ?_ ?_
   rotate_left
   ·show Act.put _ (some 21) _ = _
    simp only [Act.put, List.setIfInBounds_toArray, List.set_cons_zero, List.set_cons_succ, i64_w, i32_w]
    rfl
   refine pv_ 11 22 (bm 25 3731455) ?_
   refine pv_ 12 23 (bm 25 3735551) ?_
   refine one_ (i := 16) (N := some 27) (bm 25 3801087) rfl rfl (one_of HT_.out (by kernel_rfl)) q125t (fun K hK => ?_)
   refine goes_ Tryd.func48 (by kernel_rfl) rfl #[.int .i64 (au.length : Int)] q127t rfl rfl q66t ?_
   with_reducible refine (impl_NumText.calls (au.length : Int) fO _ z3.out (Tb.below hT q47t)).mono ?_
   rintro e w28 ⟨rfl, hb⟩
   refine ⟨_, rfl, ?_⟩
   replace dq := blb dq hb
   replace HB := am (below_step q47t hb)
   (try clear hb)
   (try clear hb2)
   (try clear hk)
   (try clear hi)
   refine hK.out _ _ q5t (fun hHeld => ?_)
   clear hK K
   refine norm_ (a' := ?_) ?_ ?_
   rotate_left
   ·show Act.put _ (some 27) _ = _
    simp only [Act.put, List.setIfInBounds_toArray, List.set_cons_zero, List.set_cons_succ, i64_w, i32_w]
    rfl
   refine pv_ 17 28 (bm 25 3932159) ?_
   refine pv_ 18 29 (bm 25 4194303) ?_
   refine one_ (i := 22) (N := some 33) (bm 25 8388607) rfl rfl (one_of HT_.out (by kernel_rfl)) q125t (fun K hK => ?_)
   refine goes_ Tryd.func48 (by kernel_rfl) rfl #[.int .i64 (ax.length : Int)] q127t rfl rfl q66t ?_
   with_reducible refine (impl_NumText.calls (ax.length : Int) n2 _ qN.out (Tb.below hT q47t)).mono ?_
   rintro e w29 ⟨rfl, hb⟩
   refine ⟨_, rfl, ?_⟩
   replace dq := blb dq hb
   replace HB := am (below_step q47t hb)
   (try clear hb)
   (try clear hb2)
   (try clear hk)
   (try clear hi)
   refine hK.out _ _ q5t (fun hHeld => ?_)
   clear hK K
   refine norm_ (a' := ?_) ?_ ?_
   rotate_left
   ·show Act.put _ (some 33) _ = _
    simp only [Act.put, List.setIfInBounds_toArray, List.set_cons_zero, List.set_cons_succ, i64_w, i32_w]
    rfl
   refine pv_ 23 34 (bm 25 16777215) ?_
   refine pv_ 24 2 (bm 25 33554431) ?_
   refine done_ (done_of HT_.out (by kernel_rfl)) ?_
   try go_wp2
   go_ret
   exact ⟨q114t, q47t⟩

/-! ### spec_NumText: function 49 -/
def spec_NumText.l0 : Nat → Int → ByteArray → Int → Option (ByteArray)
 | 0, _, _, _ => none
 | k + 1, x0, x3, x4 => if x4 = 0 then (if x0 < 0 then (if 1 + x3.size ≤ 9223372036854775807 then (some ((⟨#[45]⟩ : ByteArray) ++ x3)) else (none)) else (some x3)) else (if (Int.tmod x4 10) < 0 then ((some (([(wrap64 (48 + (wrap64 (-(Int.tmod x4 10))))) % 256] : List Int) : List Int)).bind fun mJ => (if (strOfNums mJ).size + x3.size ≤ 9223372036854775807 then (spec_NumText.l0 k x0 ((strOfNums mJ) ++ x3) (wrap64 (Int.tdiv x4 10))) else (none))) else ((some (([(wrap64 (48 + (Int.tmod x4 10))) % 256] : List Int) : List Int)).bind fun mK => (if (strOfNums mK).size + x3.size ≤ 9223372036854775807 then (spec_NumText.l0 k x0 ((strOfNums mK) ++ x3) (wrap64 (Int.tdiv x4 10))) else (none))))
def spec_NumText.f (k : Nat) (a0 : Int) : Option (ByteArray) := if a0 = 0 then (some (⟨#[48]⟩ : ByteArray)) else (spec_NumText.l0 k a0 (⟨#[]⟩ : ByteArray) a0)
set_option maxHeartbeats 8000000 in
set_option maxRecDepth 100000 in
theorem spec_NumText.calls (k : Nat) (a0 : Int) (r : ByteArray) (w : World) (h : spec_NumText.f k a0 = some r) :
  Calls Tryd.prog 49 #[a0] w fun e w' => e = .returned (.string r) ∧ Below w.heap.size w w' := by
 have HB := am (Below.refl w.heap.size w)
 have H : (if a0 = 0 then (some (⟨#[48]⟩ : ByteArray)) else (spec_NumText.l0 k a0 (⟨#[]⟩ : ByteArray) a0)) = some r := h
 clear h
 by_cases c2 : a0 = 0
 ·rw [if_pos c2] at H
  have ni : (a0 == 0) = true := beq_iff_eq.mpr c2
  have vB : (a0 != 0) = false := bne_eq_false_iff_eq.mpr c2
  clear c2
  obtain rfl := Option.some.inj H
  go_enter Tryd.func49, Tryd.ntmps49
  go_wp2
  go_ret
  exact ⟨q114t, q68t⟩
 rw [if_neg c2] at H
 have ni : (a0 == 0) = false := beq_eq_false_iff_ne.mpr c2
 have vB : (a0 != 0) = true := bne_iff_ne.mpr c2
 have H' := Aside0.mk H
 clear H
 go_enter Tryd.func49, Tryd.ntmps49
 go_wp2
 go_loopg [3, 4] k (fun kq v3 v4 w' => ∃ (d7 : ByteArray) (cj : Int), v3 = .string d7 ∧ v4 = .int .i64 cj ∧ Aside0 (spec_NumText.l0 kq a0 d7 cj = some r) ∧ Aside0 (kq ≤ k) ∧ Aside0 (Below w.heap.size w w'))
 case atStart => exact ⟨((⟨#[]⟩ : ByteArray)), (a0), q121t, q121t, H', ⟨Nat.le_refl _⟩, ⟨q68t⟩⟩
 case round =>
  clear H'
  try clear c2
  try clear ni
  try clear vB
  try clear p2
  obtain ⟨d7, cj, rfl, rfl, HA, HK1, HB⟩ := hrel
  cases gk with
  | zero => exact absurd HA.out (by simp [spec_NumText.l0])
  | succ k1 =>
   have H := HA.out
   clear HA
   simp only [spec_NumText.l0] at H
   by_cases c3 : cj = 0
   ·rw [if_pos c3] at H
    have d8 : (cj == 0) = true := beq_iff_eq.mpr c3
    have ip : (cj != 0) = false := bne_eq_false_iff_eq.mpr c3
    clear c3
    by_cases c4 : a0 < 0
    ·rw [if_pos c4] at H
     have en : decide (a0 < 0) = true := decide_eq_true c4
     clear c4
     by_cases c5 : 1 + d7.size ≤ 9223372036854775807
     ·rw [if_pos c5] at H
      have gE := eq_true c5
      have qk : decide (1 + d7.size ≤ 9223372036854775807) = true := decide_eq_true c5
      try have XK : (9223372036854775807 < 1 + d7.size) = False := eq_false (Nat.not_lt.2 c5)
      obtain rfl := Option.some.inj H
      go_wp2
      go_ret
      exact ⟨q114t, q68t⟩
     rw [if_neg c5] at H
     exact absurd H q126t
    rw [if_neg c4] at H
    have en : decide (a0 < 0) = false := decide_eq_false c4
    clear c4
    obtain rfl := Option.some.inj H
    go_wp2
    go_ret
    exact ⟨q114t, q68t⟩
   rw [if_neg c3] at H
   have d8 : (cj == 0) = false := beq_eq_false_iff_ne.mpr c3
   have ip : (cj != 0) = true := bne_iff_ne.mpr c3
   by_cases c6 : (Int.tmod cj 10) < 0
   ·rw [if_pos c6] at H
    have d9 : decide ((Int.tmod cj 10) < 0) = true := decide_eq_true c6
    clear c6
    obtain ⟨mJ, hy691⟩ : ∃ y_ : List Int, y_ = (([(wrap64 (48 + (wrap64 (-(Int.tmod cj 10))))) % 256] : List Int)) := ⟨_, rfl⟩
    replace H : (if (strOfNums mJ).size + d7.size ≤ 9223372036854775807 then (spec_NumText.l0 k1 a0 ((strOfNums mJ) ++ d7) (wrap64 (Int.tdiv cj 10))) else (none)) = some r := by first | (rw [hy691]; with_reducible exact H) | (have H2_ := (Option.bind_some _ _).symm.trans H; rw [hy691]; with_reducible exact H2_) | (have H2_ := (Option.bind_some _ _).symm.trans H; with_reducible exact H2_) | with_reducible exact H | (rw [hy691]; exact H) | exact H
    have Ft := Aside0.mk hy691
    clear hy691
    by_cases c7 : (strOfNums mJ).size + d7.size ≤ 9223372036854775807
    rotate_left
    ·rw [if_neg c7] at H
     exact absurd H q126t
    rw [if_pos c7] at H
    have eM := eq_true c7
    have jJ : decide ((strOfNums mJ).size + d7.size ≤ 9223372036854775807) = true := decide_eq_true c7
    try have XL : (9223372036854775807 < (strOfNums mJ).size + d7.size) = False := eq_false (Nat.not_lt.2 c7)
    have H' := Aside0.mk H
    clear H
    go_wp2_with (first | ((with_reducible refine gate_dst (N := 22) rfl ?_); refine Kd.R_lit (Kd.int .u8) _ 5 ?hg (N := 22) ?hd (xs := ([(wrap64 (48 + (wrap64 (-(Int.tmod cj 10))))) % 256] : List Int)) (inner := [.int .u8 ((wrap64 (48 + (wrap64 (-(Int.tmod cj 10))))) % 256)]) (ok := fun _ => True) (okp := fun _ => True) ?hr ?hp (fun _ hk => hk) trivial (Below.refl _ _) (Nat.le_refl _) q126t ?_; (case hd => rfl); (case hg => rfl); (case hr => first | (go_simp; done) | (go_simp; rfl)); (case hp => exact (Reps.one (show Kd.M (Kd.int .u8) _ _ _ ((wrap64 (48 + (wrap64 (-(Int.tmod cj 10))))) % 256) [.int .u8 ((wrap64 (48 + (wrap64 (-(Int.tmod cj 10))))) % 256)] from rfl) (Reps.none _ _))); intro v692 w8 ho9 hb hg_ hnew_; clear hg_ hnew_; (first | rw [← Ft.out] at ho9 | (simp only [Int.reduceToNat] at ho9; rw [← Ft.out] at ho9)); have Mu := am (Kd.R_lower ho9 (below_size q68t)); replace HB := am (below_step q68t hb); clear hb ho9; have hcv10 := own_string (P := Tryd.prog) Tryd.underlying22 Tryd.underlying5 Tryd.underlying9 (Kd.own_of_R Mu.out)))
    go_roundg k1
    case measure => have := HK1.out; omega
    case rel => exact ⟨((strOfNums mJ) ++ d7), (wrap64 (Int.tdiv cj 10)), q121t, q121t, H', ⟨q124t⟩, ⟨q68t⟩⟩
   rw [if_neg c6] at H
   have d9 : decide ((Int.tmod cj 10) < 0) = false := decide_eq_false c6
   clear c6
   obtain ⟨mK, hy694⟩ : ∃ y_ : List Int, y_ = (([(wrap64 (48 + (Int.tmod cj 10))) % 256] : List Int)) := ⟨_, rfl⟩
   replace H : (if (strOfNums mK).size + d7.size ≤ 9223372036854775807 then (spec_NumText.l0 k1 a0 ((strOfNums mK) ++ d7) (wrap64 (Int.tdiv cj 10))) else (none)) = some r := by first | (rw [hy694]; with_reducible exact H) | (have H2_ := (Option.bind_some _ _).symm.trans H; rw [hy694]; with_reducible exact H2_) | (have H2_ := (Option.bind_some _ _).symm.trans H; with_reducible exact H2_) | with_reducible exact H | (rw [hy694]; exact H) | exact H
   have Fu := Aside0.mk hy694
   clear hy694
   by_cases c11 : (strOfNums mK).size + d7.size ≤ 9223372036854775807
   rotate_left
   ·rw [if_neg c11] at H
    exact absurd H q126t
   rw [if_pos c11] at H
   have kB := eq_true c11
   have oA : decide ((strOfNums mK).size + d7.size ≤ 9223372036854775807) = true := decide_eq_true c11
   try have LD : (9223372036854775807 < (strOfNums mK).size + d7.size) = False := eq_false (Nat.not_lt.2 c11)
   have H' := Aside0.mk H
   clear H
   go_wp2_with (first | ((with_reducible refine gate_dst (N := 22) rfl ?_); refine Kd.R_lit (Kd.int .u8) _ 5 ?hg (N := 22) ?hd (xs := ([(wrap64 (48 + (Int.tmod cj 10))) % 256] : List Int)) (inner := [.int .u8 ((wrap64 (48 + (Int.tmod cj 10))) % 256)]) (ok := fun _ => True) (okp := fun _ => True) ?hr ?hp (fun _ hk => hk) trivial (Below.refl _ _) (Nat.le_refl _) q126t ?_; (case hd => rfl); (case hg => rfl); (case hr => first | (go_simp; done) | (go_simp; rfl)); (case hp => exact (Reps.one (show Kd.M (Kd.int .u8) _ _ _ ((wrap64 (48 + (Int.tmod cj 10))) % 256) [.int .u8 ((wrap64 (48 + (Int.tmod cj 10))) % 256)] from rfl) (Reps.none _ _))); intro v695 w12 ho13 hb hg_ hnew_; clear hg_ hnew_; (first | rw [← Fu.out] at ho13 | (simp only [Int.reduceToNat] at ho13; rw [← Fu.out] at ho13)); have Mv := am (Kd.R_lower ho13 (below_size q68t)); replace HB := am (below_step q68t hb); clear hb ho13; have hcv14 := own_string (P := Tryd.prog) Tryd.underlying22 Tryd.underlying5 Tryd.underlying9 (Kd.own_of_R Mv.out)))
   go_roundg k1
   case measure => have := HK1.out; omega
   case rel => exact ⟨((strOfNums mK) ++ d7), (wrap64 (Int.tdiv cj 10)), q121t, q121t, H', ⟨q124t⟩, ⟨q68t⟩⟩

end Go.Proofs.YtofpmdgndegalacDoor.QFnNodes
