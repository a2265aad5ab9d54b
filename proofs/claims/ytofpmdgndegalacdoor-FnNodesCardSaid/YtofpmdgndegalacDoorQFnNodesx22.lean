/- What the functions that the law FnNodes reaches compute, as plain functions, and that the code computes just that (by a program of this session's; the library's functions by hand). No condition. -/
import Derived.Test.YtofpmdgndegalacDoorQFnNodesx0
import Derived.Test.YtofpmdgndegalacDoorQFnNodesx6
import Derived.Test.YtofpmdgndegalacDoorQFnNodesx21
namespace Go.Proofs.YtofpmdgndegalacDoor.QFnNodes
open Go.RowKit Go.Proofs.YtofpmdgndegalacDoorW.PrintWords Go.Proofs.YtofpmdgndegalacDoorW.PrintLast Go.Proofs.YtofpmdgndegalacDoorW.PrintMore
attribute [local go_sem] max2_int min2_int max_two min_two max_three min_three max_four min_four   -- for this text's walks alone
set_option linter.unusedVariables false
set_option linter.unusedSimpArgs false

/-! ### spec_TextOf: function 18 -/
def spec_TextOf.j0 : Nat → ByteArray → Int → Int → Int → Int → Int → Int → Int → Int → List Int → Int → Int → List (S33) → List Int → Option (ByteArray)
 | 0, _, _, _, _, _, _, _, _, _, _, _, _, _, _ => none
 | k + 1, x3, XM, Mw, XN, XO, XP, XQ, XR, XS, Mx, XT, XU, My, Mz => if x3.size + 1 ≤ 9223372036854775807 then ((spec_NumText.f k Mw).bind fun cL => (if (x3 ++ (⟨#[32]⟩ : ByteArray)).size + cL.size ≤ 9223372036854775807 then (if ((x3 ++ (⟨#[32]⟩ : ByteArray)) ++ cL).size + 1 ≤ 9223372036854775807 then ((spec_NumText.f k (Mx.length : Int)).bind fun d5 => (if (((x3 ++ (⟨#[32]⟩ : ByteArray)) ++ cL) ++ (⟨#[32]⟩ : ByteArray)).size + d5.size ≤ 9223372036854775807 then (if ((((x3 ++ (⟨#[32]⟩ : ByteArray)) ++ cL) ++ (⟨#[32]⟩ : ByteArray)) ++ d5).size + 1 ≤ 9223372036854775807 then ((spec_NumText.f k (My.length : Int)).bind fun fP => (if (((((x3 ++ (⟨#[32]⟩ : ByteArray)) ++ cL) ++ (⟨#[32]⟩ : ByteArray)) ++ d5) ++ (⟨#[32]⟩ : ByteArray)).size + fP.size ≤ 9223372036854775807 then (if ((((((x3 ++ (⟨#[32]⟩ : ByteArray)) ++ cL) ++ (⟨#[32]⟩ : ByteArray)) ++ d5) ++ (⟨#[32]⟩ : ByteArray)) ++ fP).size + 1 ≤ 9223372036854775807 then ((spec_NumText.f k (Mz.length : Int)).bind fun n3 => (if (((((((x3 ++ (⟨#[32]⟩ : ByteArray)) ++ cL) ++ (⟨#[32]⟩ : ByteArray)) ++ d5) ++ (⟨#[32]⟩ : ByteArray)) ++ fP) ++ (⟨#[32]⟩ : ByteArray)).size + n3.size ≤ 9223372036854775807 then (some ((((((((x3 ++ (⟨#[32]⟩ : ByteArray)) ++ cL) ++ (⟨#[32]⟩ : ByteArray)) ++ d5) ++ (⟨#[32]⟩ : ByteArray)) ++ fP) ++ (⟨#[32]⟩ : ByteArray)) ++ n3)) else (none))) else (none)) else (none))) else (none)) else (none))) else (none)) else (none))) else (none)
def spec_TextOf.f (k : Nat) (aa : Int) (ab : Int) (ac : Int) (af : Int) (ag : Int) (ae : Int) (aJ : Int) (aK : Int) (av : List Int) (aM : Int) (aN : Int) (au : List (S33)) (ax : List Int) : Option (ByteArray) := (spec_l1In.f aa 0 3).bind fun qB => (if qB = true then ((some (([(⟨#[102, 114, 101, 101]⟩ : ByteArray), (⟨#[108, 105, 118, 101]⟩ : ByteArray), (⟨#[103, 111, 110, 101]⟩ : ByteArray), (⟨#[111, 117, 116]⟩ : ByteArray)] : List ByteArray) : List ByteArray)).bind fun jM => (if 0 ≤ aa then (if aa < (jM.length : Int) then (spec_TextOf.j0 k (rdOf ByteArray.empty jM aa) aa ab ac af ag ae aJ aK av aM aN au ax) else (none)) else (none))) else (spec_TextOf.j0 k (⟨#[63]⟩ : ByteArray) aa ab ac af ag ae aJ aK av aM aN au ax))
def spec_TextOf.T4 : Bool × List (List Nat × List Nat) := (true, [([], []), ([0], [0]), ([], []), ([2], [2]), ([3], [3]), ([1, 4], [1, 4]), ([5], [5]), ([], []), ([7], [7]), ([8], [8]), ([9, 4], [9]), ([6, 10], [6, 10]), ([11], [11]), ([], []), ([13], [13]), ([14], [14]), ([15, 10], [15]), ([12, 16], [12, 16]), ([17], [17]), ([], []), ([19], [19]), ([20], [20]), ([21, 16], [21]), ([18, 22], [18, 22]), ([23, 22, 0, 1, 2, 3, 4, 5, 6, 7, 8, 9, 10, 11, 12, 13, 14, 15, 16, 17, 18, 19, 20, 21, 22, 23], [23])])
def spec_TextOf.B4 : List Nat := [0, 1, 0, 4, 12, 31, 63, 0, 128, 384, 924, 2047, 4095, 0, 8192, 24576, 59292, 131071, 262143, 0, 524288, 1572864, 3794844, 8388607, 16777215]
theorem spec_TextOf.tab4 : rtab .any (opsOf Tryd.f18 4) = spec_TextOf.T4 := by kernel_rfl
theorem spec_TextOf.bits4 : waitsOk spec_TextOf.T4.2 spec_TextOf.B4 = true := by kernel_rfl
set_option maxHeartbeats 8000000 in
set_option maxRecDepth 100000 in
theorem spec_TextOf.calls (k : Nat) (aa : Int) (ab : Int) (ac : Int) (af : Int) (ag : Int) (ae : Int) (aJ : Int) (aK : Int) (A0_8 : Option Addr) (c0_8 : Nat) (av : List Int) (aM : Int) (aN : Int) (A0_11 : Option Addr) (c0_11 : Nat) (au : List (S33)) (A0_12 : Option Addr) (c0_12 : Nat) (ax : List Int) (r : ByteArray) (w : World) (hr0_8 : Kd.C (Kd.int .i64) w A0_8 av.length av) (hc0_8 : av.length ≤ c0_8) (hr0_11 : Kd.C k33 w A0_11 au.length au) (hc0_11 : au.length ≤ c0_11) (hr0_12 : Kd.C (Kd.int .i64) w A0_12 ax.length ax) (hc0_12 : ax.length ≤ c0_12) (h : spec_TextOf.f k aa ab ac af ag ae aJ aK av aM aN au ax = some r) :
  Calls Tryd.prog 18 #[.agg #[aa, ab, ac, af, ag, ae, aJ, aK, .slice A0_8 av.length c0_8, aM, aN, .slice A0_11 au.length c0_11, .slice A0_12 ax.length c0_12]] w fun e w' => e = .returned (.string r) ∧ Below w.heap.size w w' := by
 have hu29 := Tryd.underlying29
 have d1 := Aside0.mk hr0_8
 have ec := Aside0.mk hc0_8
 clear hr0_8 hc0_8
 have jA := Aside0.mk hr0_11
 have ml := Aside0.mk hc0_11
 clear hr0_11 hc0_11
 have jB := Aside0.mk hr0_12
 have ko := Aside0.mk hc0_12
 clear hr0_12 hc0_12
 have HB := am (Below.refl w.heap.size w)
 have H : ((spec_l1In.f aa 0 3).bind fun qB => (if qB = true then ((some (([(⟨#[102, 114, 101, 101]⟩ : ByteArray), (⟨#[108, 105, 118, 101]⟩ : ByteArray), (⟨#[103, 111, 110, 101]⟩ : ByteArray), (⟨#[111, 117, 116]⟩ : ByteArray)] : List ByteArray) : List ByteArray)).bind fun jM => (if 0 ≤ aa then (if aa < (jM.length : Int) then (spec_TextOf.j0 k (rdOf ByteArray.empty jM aa) aa ab ac af ag ae aJ aK av aM aN au ax) else (none)) else (none))) else (spec_TextOf.j0 k (⟨#[63]⟩ : ByteArray) aa ab ac af ag ae aJ aK av aM aN au ax))) = some r := h
 clear h
 obtain ⟨qB, A2, H⟩ := bnd H
 try dsimp only at H
 have eK := Aside0.mk H
 clear H
 go_enter Tryd.func18, Tryd.ntmps18
 go_upto_if 6 with (first | ((with_reducible refine gate_dst (N := 1) rfl ?_); refine box_ev 1 #[aa, ab, ac, af, ag, ae, aJ, aK, .slice A0_8 av.length c0_8, aM, aN, .slice A0_11 au.length c0_11, .slice A0_12 ax.length c0_12] 29 ?_; intro gC hg w4 hbox hb; have cW := am (hbox); have XV := am ((q63t : w.heap.size ≤ gC)); have XW := am ((q63t : w.heap.size ≤ gC)); replace HB := am (below_step q68t hb); clear hb hbox hg; have pl := qc13 cW.out; have pm := qf13 cW.out) | ((with_reducible refine gate_callee (f := 38) rfl ?_); refine goesL_ (some 6) rfl rfl Tryd.func38 (by kernel_rfl) rfl #[aa, .int .i64 0, .int .i64 3] rfl q66t ?_; (with_reducible refine (spec_l1In.calls aa 0 3 qB _ A2.out).mono ?_); rintro e w' ⟨rfl, ⟨nd, rfl⟩⟩; refine ⟨_, rfl, ?_⟩))
 (try simp only [Act.put, List.setIfInBounds_toArray, List.set_cons_zero, List.set_cons_succ])
 go_cut [3] (fun v3 wc => ∃ (kq : Nat) (bj : ByteArray), v3 = .string bj ∧ Aside0 (spec_TextOf.j0 kq bj aa ab ac af ag ae aJ aK av aM aN au ax = some r) ∧ Aside0 (kq ≤ k) ∧ Aside0 (wc.heap[gC]? = some (.cells #[aa, ab, ac, af, ag, ae, aJ, aK, (.slice A0_8 av.length c0_8), aM, aN, (.slice A0_11 au.length c0_11), (.slice A0_12 ax.length c0_12)] 29 (0, 0))) ∧ Aside0 (Below w.heap.size w wc))
 case first =>
  have H := eK.out
  clear eK
  by_cases c6 : qB = true
  rotate_left
  ·replace c6 := Bool.eq_false_iff.mpr c6
   subst c6
   rw [if_neg (show ¬ (false = true) by decide)] at H
   have H' := Aside0.mk H
   clear H
   go_wp2
   go_meet
   case rel => exact ⟨_, ((⟨#[63]⟩ : ByteArray)), q121t, H', ⟨q122t⟩, ⟨qbk cW⟩, ⟨q47t⟩⟩
  subst c6
  rw [if_pos rfl] at H
  obtain ⟨jM, hy699⟩ : ∃ y_ : List ByteArray, y_ = (([(⟨#[102, 114, 101, 101]⟩ : ByteArray), (⟨#[108, 105, 118, 101]⟩ : ByteArray), (⟨#[103, 111, 110, 101]⟩ : ByteArray), (⟨#[111, 117, 116]⟩ : ByteArray)] : List ByteArray)) := ⟨_, rfl⟩
  replace H : (if 0 ≤ aa then (if aa < (jM.length : Int) then (spec_TextOf.j0 k (rdOf ByteArray.empty jM aa) aa ab ac af ag ae aJ aK av aM aN au ax) else (none)) else (none)) = some r := by first | (rw [hy699]; with_reducible exact H) | (have H2_ := (Option.bind_some _ _).symm.trans H; rw [hy699]; with_reducible exact H2_) | (have H2_ := (Option.bind_some _ _).symm.trans H; with_reducible exact H2_) | with_reducible exact H | (rw [hy699]; exact H) | exact H
  have Fv := Aside0.mk hy699
  clear hy699
  by_cases c7 : 0 ≤ aa
  rotate_left
  ·rw [if_neg c7] at H
   exact absurd H q126t
  rw [if_pos c7] at H
  have eM : decide (0 ≤ aa) = true := decide_eq_true c7
  clear c7
  (first | rw [eM] | (simp only [i64_w, i32_w]; rw [eM]) | skip)
  by_cases c8 : aa < (jM.length : Int)
  rotate_left
  ·rw [if_neg c8] at H
   exact absurd H q126t
  rw [if_pos c8] at H
  have gu : decide (aa < (jM.length : Int)) = true := decide_eq_true c8
  clear c8
  have H' := Aside0.mk H
  clear H
  go_wp2_with (first | ((with_reducible refine gate_dst (N := 7) rfl ?_); refine Kd.R_lit Kd.string _ 9 ?hg (N := 7) ?hd (xs := ([(⟨#[102, 114, 101, 101]⟩ : ByteArray), (⟨#[108, 105, 118, 101]⟩ : ByteArray), (⟨#[103, 111, 110, 101]⟩ : ByteArray), (⟨#[111, 117, 116]⟩ : ByteArray)] : List ByteArray)) (inner := [.string (⟨#[102, 114, 101, 101]⟩ : ByteArray), .string (⟨#[108, 105, 118, 101]⟩ : ByteArray), .string (⟨#[103, 111, 110, 101]⟩ : ByteArray), .string (⟨#[111, 117, 116]⟩ : ByteArray)]) (ok := fun _ => True) (okp := fun _ => True) ?hr ?hp (fun _ hk => hk) trivial (Below.refl _ _) (Nat.le_refl _) q126t ?_; (case hd => rfl); (case hg => rfl); (case hr => first | (go_simp; done) | (go_simp; rfl)); (case hp => exact (Reps.one (show Kd.M Kd.string _ _ _ (⟨#[102, 114, 101, 101]⟩ : ByteArray) [.string (⟨#[102, 114, 101, 101]⟩ : ByteArray)] from rfl) (Reps.one (show Kd.M Kd.string _ _ _ (⟨#[108, 105, 118, 101]⟩ : ByteArray) [.string (⟨#[108, 105, 118, 101]⟩ : ByteArray)] from rfl) (Reps.one (show Kd.M Kd.string _ _ _ (⟨#[103, 111, 110, 101]⟩ : ByteArray) [.string (⟨#[103, 111, 110, 101]⟩ : ByteArray)] from rfl) (Reps.one (show Kd.M Kd.string _ _ _ (⟨#[111, 117, 116]⟩ : ByteArray) [.string (⟨#[111, 117, 116]⟩ : ByteArray)] from rfl) (Reps.none _ _)))))); intro v700 w9 ho10 hb hg_ hnew_; clear hg_ hnew_; (first | rw [← Fv.out] at ho10 | (simp only [Int.reduceToNat] at ho10; rw [← Fv.out] at ho10)); have Fw := am (Kd.R_lower ho10 (below_size q47t)); replace cW := blb cW hb; replace HB := am (below_step q47t hb); clear hb ho10; have wb := qc13 cW.out; have wd := qf13 cW.out; obtain ⟨tH, tI, qH⟩ := Kd.R_slice Fw.out; subst qH; have p702 : 0 ≤ (aa : Int) := of_decide_eq_true q118t; have q702 : aa < (jM.length : Int) := of_decide_eq_true q118t; obtain ⟨XX, e702, MA⟩ := Kd.at_string (Kd.R_reads' Fw.out).2.2 aa p702 q702; cases e702; replace p702 := eq_true p702; replace q702 := eq_true q702))
  go_meet
  case rel => exact ⟨_, (rdOf ByteArray.empty jM aa), q121t, H', ⟨q122t⟩, ⟨qbk cW⟩, ⟨q47t⟩⟩
 case rest =>
  clear eK
  try clear c1
  try clear p2
  try clear c3
  try clear c6
  try clear c7
  try clear eM
  try clear p7
  try clear q7
  try clear hx7
  try clear c8
  try clear gu
  try clear wb
  try clear pl
  try clear wd
  try clear pm
  try clear MA
  try clear p702
  try clear q702
  obtain ⟨kq, bj, rfl, HA, gD, cW, HB⟩ := hcut
  cases kq with
  | zero => exact absurd HA.out (by simp [spec_TextOf.j0])
  | succ kj2 =>
   have H := HA.out
   clear HA
   simp only [spec_TextOf.j0] at H
   by_cases c13 : bj.size + 1 ≤ 9223372036854775807
   rotate_left
   ·rw [if_neg c13] at H
    exact absurd H q126t
   rw [if_pos c13] at H
   have k7 := eq_true c13
   have pk : decide (bj.size + 1 ≤ 9223372036854775807) = true := decide_eq_true c13
   try have Mc : (9223372036854775807 < bj.size + 1) = False := eq_false (Nat.not_lt.2 c13)
   obtain ⟨cL, eS, H⟩ := bnd H
   try dsimp only at H
   by_cases c15 : (bj ++ (⟨#[32]⟩ : ByteArray)).size + cL.size ≤ 9223372036854775807
   rotate_left
   ·rw [if_neg c15] at H
    exact absurd H q126t
   rw [if_pos c15] at H
   have Md := eq_true c15
   have Me : decide ((bj ++ (⟨#[32]⟩ : ByteArray)).size + cL.size ≤ 9223372036854775807) = true := decide_eq_true c15
   try have Mf : (9223372036854775807 < (bj ++ (⟨#[32]⟩ : ByteArray)).size + cL.size) = False := eq_false (Nat.not_lt.2 c15)
   try have Mg : (9223372036854775807 < bj.size + 1 + cL.size) = False := eq_false (by simp only [ByteArray.size_append] at c15; exact Nat.not_lt.2 c15)
   by_cases c16 : ((bj ++ (⟨#[32]⟩ : ByteArray)) ++ cL).size + 1 ≤ 9223372036854775807
   rotate_left
   ·rw [if_neg c16] at H
    exact absurd H q126t
   rw [if_pos c16] at H
   have qp := eq_true c16
   have zX : decide (((bj ++ (⟨#[32]⟩ : ByteArray)) ++ cL).size + 1 ≤ 9223372036854775807) = true := decide_eq_true c16
   try have Mh : (9223372036854775807 < ((bj ++ (⟨#[32]⟩ : ByteArray)) ++ cL).size + 1) = False := eq_false (Nat.not_lt.2 c16)
   try have Mi : (9223372036854775807 < bj.size + 1 + cL.size + 1) = False := eq_false (by simp only [ByteArray.size_append] at c16; exact Nat.not_lt.2 c16)
   obtain ⟨d5, sF, H⟩ := bnd H
   try dsimp only at H
   by_cases c18 : (((bj ++ (⟨#[32]⟩ : ByteArray)) ++ cL) ++ (⟨#[32]⟩ : ByteArray)).size + d5.size ≤ 9223372036854775807
   rotate_left
   ·rw [if_neg c18] at H
    exact absurd H q126t
   rw [if_pos c18] at H
   have zY := eq_true c18
   have zZ : decide ((((bj ++ (⟨#[32]⟩ : ByteArray)) ++ cL) ++ (⟨#[32]⟩ : ByteArray)).size + d5.size ≤ 9223372036854775807) = true := decide_eq_true c18
   try have z1 : (9223372036854775807 < (((bj ++ (⟨#[32]⟩ : ByteArray)) ++ cL) ++ (⟨#[32]⟩ : ByteArray)).size + d5.size) = False := eq_false (Nat.not_lt.2 c18)
   try have Mj : (9223372036854775807 < bj.size + 1 + cL.size + 1 + d5.size) = False := eq_false (by simp only [ByteArray.size_append] at c18; exact Nat.not_lt.2 c18)
   by_cases c19 : ((((bj ++ (⟨#[32]⟩ : ByteArray)) ++ cL) ++ (⟨#[32]⟩ : ByteArray)) ++ d5).size + 1 ≤ 9223372036854775807
   rotate_left
   ·rw [if_neg c19] at H
    exact absurd H q126t
   rw [if_pos c19] at H
   have Mk := eq_true c19
   have Ml : decide (((((bj ++ (⟨#[32]⟩ : ByteArray)) ++ cL) ++ (⟨#[32]⟩ : ByteArray)) ++ d5).size + 1 ≤ 9223372036854775807) = true := decide_eq_true c19
   try have Mm : (9223372036854775807 < ((((bj ++ (⟨#[32]⟩ : ByteArray)) ++ cL) ++ (⟨#[32]⟩ : ByteArray)) ++ d5).size + 1) = False := eq_false (Nat.not_lt.2 c19)
   try have Mn : (9223372036854775807 < bj.size + 1 + cL.size + 1 + d5.size + 1) = False := eq_false (by simp only [ByteArray.size_append] at c19; exact Nat.not_lt.2 c19)
   obtain ⟨fP, z3, H⟩ := bnd H
   try dsimp only at H
   by_cases c21 : (((((bj ++ (⟨#[32]⟩ : ByteArray)) ++ cL) ++ (⟨#[32]⟩ : ByteArray)) ++ d5) ++ (⟨#[32]⟩ : ByteArray)).size + fP.size ≤ 9223372036854775807
   rotate_left
   ·rw [if_neg c21] at H
    exact absurd H q126t
   rw [if_pos c21] at H
   have kS := eq_true c21
   have pN : decide ((((((bj ++ (⟨#[32]⟩ : ByteArray)) ++ cL) ++ (⟨#[32]⟩ : ByteArray)) ++ d5) ++ (⟨#[32]⟩ : ByteArray)).size + fP.size ≤ 9223372036854775807) = true := decide_eq_true c21
   try have Mo : (9223372036854775807 < (((((bj ++ (⟨#[32]⟩ : ByteArray)) ++ cL) ++ (⟨#[32]⟩ : ByteArray)) ++ d5) ++ (⟨#[32]⟩ : ByteArray)).size + fP.size) = False := eq_false (Nat.not_lt.2 c21)
   try have Mp : (9223372036854775807 < bj.size + 1 + cL.size + 1 + d5.size + 1 + fP.size) = False := eq_false (by simp only [ByteArray.size_append] at c21; exact Nat.not_lt.2 c21)
   by_cases c22 : ((((((bj ++ (⟨#[32]⟩ : ByteArray)) ++ cL) ++ (⟨#[32]⟩ : ByteArray)) ++ d5) ++ (⟨#[32]⟩ : ByteArray)) ++ fP).size + 1 ≤ 9223372036854775807
   rotate_left
   ·rw [if_neg c22] at H
    exact absurd H q126t
   rw [if_pos c22] at H
   have yP := eq_true c22
   have yQ : decide (((((((bj ++ (⟨#[32]⟩ : ByteArray)) ++ cL) ++ (⟨#[32]⟩ : ByteArray)) ++ d5) ++ (⟨#[32]⟩ : ByteArray)) ++ fP).size + 1 ≤ 9223372036854775807) = true := decide_eq_true c22
   try have Mq : (9223372036854775807 < ((((((bj ++ (⟨#[32]⟩ : ByteArray)) ++ cL) ++ (⟨#[32]⟩ : ByteArray)) ++ d5) ++ (⟨#[32]⟩ : ByteArray)) ++ fP).size + 1) = False := eq_false (Nat.not_lt.2 c22)
   try have Mr : (9223372036854775807 < bj.size + 1 + cL.size + 1 + d5.size + 1 + fP.size + 1) = False := eq_false (by simp only [ByteArray.size_append] at c22; exact Nat.not_lt.2 c22)
   obtain ⟨n3, qN, H⟩ := bnd H
   try dsimp only at H
   by_cases c24 : (((((((bj ++ (⟨#[32]⟩ : ByteArray)) ++ cL) ++ (⟨#[32]⟩ : ByteArray)) ++ d5) ++ (⟨#[32]⟩ : ByteArray)) ++ fP) ++ (⟨#[32]⟩ : ByteArray)).size + n3.size ≤ 9223372036854775807
   rotate_left
   ·rw [if_neg c24] at H
    exact absurd H q126t
   rw [if_pos c24] at H
   have iQ := eq_true c24
   have kx : decide ((((((((bj ++ (⟨#[32]⟩ : ByteArray)) ++ cL) ++ (⟨#[32]⟩ : ByteArray)) ++ d5) ++ (⟨#[32]⟩ : ByteArray)) ++ fP) ++ (⟨#[32]⟩ : ByteArray)).size + n3.size ≤ 9223372036854775807) = true := decide_eq_true c24
   try have Ms : (9223372036854775807 < (((((((bj ++ (⟨#[32]⟩ : ByteArray)) ++ cL) ++ (⟨#[32]⟩ : ByteArray)) ++ d5) ++ (⟨#[32]⟩ : ByteArray)) ++ fP) ++ (⟨#[32]⟩ : ByteArray)).size + n3.size) = False := eq_false (Nat.not_lt.2 c24)
   try have Mt : (9223372036854775807 < bj.size + 1 + cL.size + 1 + d5.size + 1 + fP.size + 1 + n3.size) = False := eq_false (by simp only [ByteArray.size_append] at c24; exact Nat.not_lt.2 c24)
   obtain rfl := Option.some.inj H
   try go_wp2
   (try (rw [drewN_self wc]; generalize hq_ : World.drewN wc _ = wc; have hh_ := congrArg World.heap hq_; dsimp only [World.drewN] at hh_; have zb_ : Below w.heap.size w wc := (by rw [← hq_]; exact pw_below_drewN HB.out _); have z_ := cW.out; rw [hh_] at z_; clear cW; have cW := Aside0.mk z_; clear z_; clear HB; have HB := Aside0.mk zb_; clear zb_ hh_ hq_))
   replace cW := am (blk_drew cW.out)
   replace HB := am (below_drew1 HB.out)
   refine start_ (n := 25) (S := fun w' => w'.cell? ⟨gC, 0, none⟩ = some (.int .i64 aa) ∧ w'.cell? ⟨gC, 1, none⟩ = some (.int .i64 ab) ∧ w'.cell? ⟨gC, 2, none⟩ = some (.int .i64 ac) ∧ w'.cell? ⟨gC, 3, none⟩ = some (.int .i64 af) ∧ w'.cell? ⟨gC, 4, none⟩ = some (.int .i64 ag) ∧ w'.cell? ⟨gC, 5, none⟩ = some (.int .i64 ae) ∧ w'.cell? ⟨gC, 6, none⟩ = some (.int .i64 aJ) ∧ w'.cell? ⟨gC, 7, none⟩ = some (.int .i64 aK) ∧ w'.cell? ⟨gC, 8, none⟩ = some (.slice A0_8 av.length c0_8) ∧ w'.cell? ⟨gC, 9, none⟩ = some (.int .i64 aM) ∧ w'.cell? ⟨gC, 10, none⟩ = some (.int .i64 aN) ∧ w'.cell? ⟨gC, 11, none⟩ = some (.slice A0_11 au.length c0_11) ∧ w'.cell? ⟨gC, 12, none⟩ = some (.slice A0_12 ax.length c0_12)) (ds := []) (bm 25 0) (by kernel_rfl) rfl (by kernel_rfl) qst (fun hHeld => ?_); refine with_tabW spec_TextOf.tab4 spec_TextOf.bits4 (fun HT_ HW_ => ?_)
   generalize wc.drew = w25 at cW HB hHeld ⊢
   refine pv_ 0 12 (bm 25 1) ?_
   refine pv_ 1 13 (bm 25 3) ?_
   refine pv_ 2 14 (bm 25 7) ?_
   refine pv_ 7 19 (bm 25 135) ?_
   refine pv_ 13 25 (bm 25 8327) ?_
   refine pv_ 19 31 (bm 25 532615) ?_
   refine tv_ 3 15 (bm 25 532623) ?_
   refine tv_ 8 20 (bm 25 532879) ?_
   refine pv_ 9 21 (bm 25 533391) ?_
   refine tv_ 14 26 (bm 25 549775) ?_
   refine pv_ 15 27 (bm 25 582543) ?_
   refine tv_ 20 32 (bm 25 1631119) ?_
   refine pv_ 21 33 (bm 25 3728271) ?_
   refine one_ (i := 4) (N := some 16) (bm 25 3728287) rfl rfl (one_of HT_.out (by kernel_rfl)) q125t (fun K hK => ?_)
   refine goes_ Tryd.func49 (by kernel_rfl) rfl #[ab] q127t rfl rfl q66t ?_
   with_reducible refine (spec_NumText.calls kj2 ab cL _ eS.out).mono ?_
   rintro e w26 ⟨rfl, hb⟩
   refine ⟨_, rfl, ?_⟩
   replace cW := blb cW hb
   replace HB := am (below_step q47t hb)
   (try clear hb)
   (try clear hb2)
   (try clear hk)
   (try clear hi)
   refine hK.out _ _ q6t (fun hHeld => ?_)
   clear hK K
   refine norm_ (a' := ?_) ?_ ?_
   rotate_left
   ·show Act.put _ (some 16) _ = _
    simp only [Act.put, List.setIfInBounds_toArray, List.set_cons_zero, List.set_cons_succ, i64_w, i32_w]
    rfl
   refine pv_ 5 17 (bm 25 3728319) ?_
   refine pv_ 6 18 (bm 25 3728383) ?_
   refine one_ (i := 10) (N := some 22) (bm 25 3729407) rfl rfl (one_of HT_.out (by kernel_rfl)) q125t (fun K hK => ?_)
   refine goes_ Tryd.func49 (by kernel_rfl) rfl #[.int .i64 (av.length : Int)] q127t rfl rfl q66t ?_
   with_reducible refine (spec_NumText.calls kj2 (av.length : Int) d5 _ sF.out).mono ?_
   rintro e w27 ⟨rfl, hb⟩
   refine ⟨_, rfl, ?_⟩
   replace cW := blb cW hb
   replace HB := am (below_step q47t hb)
   (try clear hb)
   (try clear hb2)
   (try clear hk)
   (try clear hi)
   refine hK.out _ _ q6t (fun hHeld => ?_)
   clear hK K
   refine norm_ (a' := ?_) ?_ ?_
   rotate_left
   ·show Act.put _ (some 22) _ = _
    simp only [Act.put, List.setIfInBounds_toArray, List.set_cons_zero, List.set_cons_succ, i64_w, i32_w]
    rfl
   refine pv_ 11 23 (bm 25 3731455) ?_
   refine pv_ 12 24 (bm 25 3735551) ?_
   refine one_ (i := 16) (N := some 28) (bm 25 3801087) rfl rfl (one_of HT_.out (by kernel_rfl)) q125t (fun K hK => ?_)
   refine goes_ Tryd.func49 (by kernel_rfl) rfl #[.int .i64 (au.length : Int)] q127t rfl rfl q66t ?_
   with_reducible refine (spec_NumText.calls kj2 (au.length : Int) fP _ z3.out).mono ?_
   rintro e w28 ⟨rfl, hb⟩
   refine ⟨_, rfl, ?_⟩
   replace cW := blb cW hb
   replace HB := am (below_step q47t hb)
   (try clear hb)
   (try clear hb2)
   (try clear hk)
   (try clear hi)
   refine hK.out _ _ q6t (fun hHeld => ?_)
   clear hK K
   refine norm_ (a' := ?_) ?_ ?_
   rotate_left
   ·show Act.put _ (some 28) _ = _
    simp only [Act.put, List.setIfInBounds_toArray, List.set_cons_zero, List.set_cons_succ, i64_w, i32_w]
    rfl
   refine pv_ 17 29 (bm 25 3932159) ?_
   refine pv_ 18 30 (bm 25 4194303) ?_
   refine one_ (i := 22) (N := some 34) (bm 25 8388607) rfl rfl (one_of HT_.out (by kernel_rfl)) q125t (fun K hK => ?_)
   refine goes_ Tryd.func49 (by kernel_rfl) rfl #[.int .i64 (ax.length : Int)] q127t rfl rfl q66t ?_
   with_reducible refine (spec_NumText.calls kj2 (ax.length : Int) n3 _ qN.out).mono ?_
   rintro e w29 ⟨rfl, hb⟩
   refine ⟨_, rfl, ?_⟩
   replace cW := blb cW hb
   replace HB := am (below_step q47t hb)
   (try clear hb)
   (try clear hb2)
   (try clear hk)
   (try clear hi)
   refine hK.out _ _ q6t (fun hHeld => ?_)
   clear hK K
   refine norm_ (a' := ?_) ?_ ?_
   rotate_left
   ·show Act.put _ (some 34) _ = _
    simp only [Act.put, List.setIfInBounds_toArray, List.set_cons_zero, List.set_cons_succ, i64_w, i32_w]
    rfl
   refine pv_ 23 35 (bm 25 16777215) ?_
   refine pv_ 24 2 (bm 25 33554431) ?_
   refine done_ (done_of HT_.out (by kernel_rfl)) ?_
   try go_wp2
   go_ret
   exact ⟨q114t, q47t⟩

/-! ### impl_NodeNew: function 19 -/
def impl_NodeNew.f (a0 : Int) : Option (Int × Int × Int × Int × Int × Int × Int × Int × List Int × Int × Int × (List (S33)) × List Int) := some (0, a0, 0, 0, 0, 0, 0, 0, ([] : List Int), 0, 0, ([] : List (S33)), ([] : List Int))
set_option maxHeartbeats 8000000 in
set_option maxRecDepth 100000 in
theorem impl_NodeNew.calls (a0 : Int) (r1 : Int) (r2 : Int) (r3 : Int) (r4 : Int) (r5 : Int) (r6 : Int) (r7 : Int) (r8 : Int) (r9 : List Int) (r10 : Int) (r11 : Int) (r12 : List (S33)) (r13 : List Int) (w : World) (h : impl_NodeNew.f a0 = some (r1, r2, r3, r4, r5, r6, r7, r8, r9, r10, r11, r12, r13)) :
  Calls Tryd.prog 19 #[a0] w fun e w' => ∃ v8_ v11_ v12_ : Value, e = .returned (.agg #[r1, r2, r3, r4, r5, r6, r7, r8, v8_, r10, r11, v11_, v12_]) ∧ Kd.R (Kd.int .i64) 3 w' w.heap.size (fun k_ => some k_ ≠ (v12_ : Value).ownBlock) v8_ r9 ∧ Kd.R k33 33 w' w.heap.size (fun _ => True) v11_ r12 ∧ Kd.R (Kd.int .i64) 3 w' w.heap.size (fun k_ => some k_ ≠ (v8_ : Value).ownBlock) v12_ r13 ∧ Below w.heap.size w w' := by
 have hu29 := Tryd.underlying29
 have HB := am (Below.refl w.heap.size w)
 have H : (some (0, a0, 0, 0, 0, 0, 0, 0, ([] : List Int), 0, 0, ([] : List (S33)), ([] : List Int))) = some (r1, r2, r3, r4, r5, r6, r7, r8, r9, r10, r11, r12, r13) := h
 clear h
 simp only [Option.some.injEq, Prod.mk.injEq] at H
 obtain ⟨rfl, rfl, rfl, rfl, rfl, rfl, rfl, rfl, rfl, rfl, rfl, rfl, rfl⟩ := H
 go_enter Tryd.func19, Tryd.ntmps19
 go_wp2_with (first | ((with_reducible refine gate_dst (N := 2) rfl ?_); refine box_ev 2 #[.int .i64 0, .int .i64 0, .int .i64 0, .int .i64 0, .int .i64 0, .int .i64 0, .int .i64 0, .int .i64 0, .slice none 0 0, .int .i64 0, .int .i64 0, .slice none 0 0, .slice none 0 0] 29 ?_; intro z4 hg w2 hbox hb; have z5 := am (hbox); have XY := am ((q63t : w.heap.size ≤ z4)); have XZ := am ((q63t : w.heap.size ≤ z4)); replace HB := am (below_step q68t hb); clear hb hbox hg; have Gr := qc13 z5.out; have Gs := qf13 z5.out))
 refine bodyPost_ret (results_cell_row rfl _ _ z4 29 #[.int .i64 0, a0, .int .i64 0, .int .i64 0, .int .i64 0, .int .i64 0, .int .i64 0, .int .i64 0, .slice none 0 0, .int .i64 0, .int .i64 0, .slice none 0 0, .slice none 0 0] (0, 0) _ rfl (qbp z5) Tryd.underlying29 rfl (by kernel_rfl)) rfl ?_
 exact ⟨_, _, _, q114t, q65t, q65t, q65t, q47t⟩

end Go.Proofs.YtofpmdgndegalacDoor.QFnNodes
