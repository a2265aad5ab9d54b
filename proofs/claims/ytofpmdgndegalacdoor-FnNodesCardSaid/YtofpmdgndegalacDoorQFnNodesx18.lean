/- What the functions that the law FnNodes reaches compute, as plain functions, and that the code computes just that (by a program of this session's; the library's functions by hand). No condition. -/
import Derived.Test.YtofpmdgndegalacDoorQFnNodesx0
import Derived.Test.YtofpmdgndegalacDoorQFnNodesx6
import Derived.Test.YtofpmdgndegalacDoorQFnNodesx15
import Derived.Test.YtofpmdgndegalacDoorQFnNodesx16
import Derived.Test.YtofpmdgndegalacDoorQFnNodesx17
namespace Go.Proofs.YtofpmdgndegalacDoor.QFnNodes
open Go.RowKit Go.Proofs.YtofpmdgndegalacDoorW.PrintWords Go.Proofs.YtofpmdgndegalacDoorW.PrintLast Go.Proofs.YtofpmdgndegalacDoorW.PrintMore
attribute [local go_sem] max2_int min2_int max_two min_two max_three min_three max_four min_four   -- for this text's walks alone
set_option linter.unusedVariables false
set_option linter.unusedSimpArgs false

/-! ### spec_NodeOk: function 10 -/
mutual
def spec_NodeOk.j0 : Nat → Bool → Int → Int → Int → Int → Int → Int → Int → Int → Int → Int → Int → Int → Int → Int → List Int → Int → Int → List (S33) → List Int → Option (Bool)
 | 0, _, _, _, _, _, _, _, _, _, _, _, _, _, _, _, _, _, _, _, _ => none
 | k + 1, x23, hL, hM, fp, hO, hP, hU, fq, fI, ft, fu, fv, fw, fx, fy, fJ, fK, fL, eP, eX => if x23 = true then (some false) else (if fq = 1 then (if ft < 0 then (spec_NodeOk.j1 k true hL hM fp hO hP hU fq fI ft fu fv fw fx fy fJ fK fL eP eX) else (if fv < 0 then (spec_NodeOk.j1 k true hL hM fp hO hP hU fq fI ft fu fv fw fx fy fJ fK fL eP eX) else ((spec_l1In.f fu 0 fp).bind fun zm => (if zm = true then ((spec_l1In.f fw 0 fp).bind fun zn => (if zn = true then ((spec_l1In.f fx 0 fp).bind fun zo => (if zo = true then ((spec_l1In.f fy 0 fp).bind fun zp => (if zp = true then ((spec_l7Chunks.f k hL hM fp hO hP hU fq fI ft fu fv fw fx fy fJ fK fL eP eX).bind fun zq => (if zq = true then (if (eP.length : Int) > 12 then (spec_NodeOk.j1 k true hL hM fp hO hP hU fq fI ft fu fv fw fx fy fJ fK fL eP eX) else (spec_NodeOk.j1 k (decide ((eX.length : Int) > 6)) hL hM fp hO hP hU fq fI ft fu fv fw fx fy fJ fK fL eP eX)) else (spec_NodeOk.j1 k true hL hM fp hO hP hU fq fI ft fu fv fw fx fy fJ fK fL eP eX))) else (spec_NodeOk.j1 k true hL hM fp hO hP hU fq fI ft fu fv fw fx fy fJ fK fL eP eX))) else (spec_NodeOk.j1 k true hL hM fp hO hP hU fq fI ft fu fv fw fx fy fJ fK fL eP eX))) else (spec_NodeOk.j1 k true hL hM fp hO hP hU fq fI ft fu fv fw fx fy fJ fK fL eP eX))) else (spec_NodeOk.j1 k true hL hM fp hO hP hU fq fI ft fu fv fw fx fy fJ fK fL eP eX))))) else ((spec_Bare.f fq fI ft fu fv fw fx fy fJ fK fL eP eX).bind fun zr => (some zr)))
def spec_NodeOk.j1 : Nat → Bool → Int → Int → Int → Int → Int → Int → Int → Int → Int → Int → Int → Int → Int → Int → List Int → Int → Int → List (S33) → List Int → Option (Bool)
 | 0, _, _, _, _, _, _, _, _, _, _, _, _, _, _, _, _, _, _, _, _ => none
 | k + 1, x86, hL, hM, fp, hO, hP, hU, fq, fI, ft, fu, fv, fw, fx, fy, fJ, fK, fL, eP, eX => if x86 = true then (some false) else (spec_NodeOk.l0 k 0 hL hM fp hO hP hU fq fI ft fu fv fw fx fy fJ fK fL eP eX)
def spec_NodeOk.l0 : Nat → Int → Int → Int → Int → Int → Int → Int → Int → Int → Int → Int → Int → Int → Int → Int → List Int → Int → Int → List (S33) → List Int → Option (Bool)
 | 0, _, _, _, _, _, _, _, _, _, _, _, _, _, _, _, _, _, _, _, _ => none
 | k + 1, x5, hL, hM, fp, hO, hP, hU, fq, fI, ft, fu, fv, fw, fx, fy, fJ, fK, fL, eP, eX => if x5 < (eP.length : Int) then (if 0 ≤ x5 then ((spec_ThingOk.f k hL hM fp hO hP hU ((rd_T33 eP x5).f0) ((rd_T33 eP x5).f1) ((rd_T33 eP x5).f2)).bind fun zt => (if zt = true then (spec_NodeOk.l0 k (wrap64 (x5 + 1)) hL hM fp hO hP hU fq fI ft fu fv fw fx fy fJ fK fL eP eX) else (some false))) else (none)) else (spec_NodeOk.l1 k 0 fq fI ft fu fv fw fx fy fJ fK fL eP eX)
def spec_NodeOk.l1 : Nat → Int → Int → Int → Int → Int → Int → Int → Int → Int → List Int → Int → Int → List (S33) → List Int → Option (Bool)
 | 0, _, _, _, _, _, _, _, _, _, _, _, _, _, _ => none
 | k + 1, x6, fq, fI, ft, fu, fv, fw, fx, fy, fJ, fK, fL, eP, eX => if x6 < (eX.length : Int) then (if 0 ≤ x6 then ((spec_l1In.f (rd eX x6) 0 255).bind fun zu => (if zu = true then (spec_NodeOk.l1 k (wrap64 (x6 + 1)) fq fI ft fu fv fw fx fy fJ fK fL eP eX) else (some false))) else (none)) else (some true)
end
def spec_NodeOk.f (k : Nat) (aa : Int) (ab : Int) (ac : Int) (af : Int) (ag : Int) (ae : Int) (aj : Int) (ai : Int) (ak : Int) (ap : Int) (aq : Int) (ao : Int) (aQ : Int) (aT : Int) (an : List Int) (aH : Int) (aU : Int) (ar : List (S33)) (aC : List Int) : Option (Bool) := (spec_ConfOk.f aa ab ac af ag ae).bind fun tb => (if tb = true then ((spec_l1In.f aj 0 3).bind fun tc => (if tc = true then ((spec_l1In.f ai 1 ae).bind fun qx => (spec_NodeOk.j0 k (!qx) aa ab ac af ag ae aj ai ak ap aq ao aQ aT an aH aU ar aC)) else (spec_NodeOk.j0 k true aa ab ac af ag ae aj ai ak ap aq ao aQ aT an aH aU ar aC))) else (spec_NodeOk.j0 k true aa ab ac af ag ae aj ai ak ap aq ao aQ aT an aH aU ar aC))
def spec_NodeOk.T10 : Bool × List (List Nat × List Nat) := (true, [([], []), ([], []), ([1], [1]), ([], []), ([2, 3], [2, 3]), ([4], [4]), ([0, 5], [0, 5]), ([6], [6])])
def spec_NodeOk.B10 : List Nat := [0, 0, 2, 0, 14, 30, 63, 127]
theorem spec_NodeOk.tab10 : rtab .any (opsOf Tryd.f10 10) = spec_NodeOk.T10 := by kernel_rfl
theorem spec_NodeOk.bits10 : waitsOk spec_NodeOk.T10.2 spec_NodeOk.B10 = true := by kernel_rfl
set_option maxHeartbeats 8000000 in
set_option maxRecDepth 100000 in
theorem spec_NodeOk.calls (k : Nat) (aa : Int) (ab : Int) (ac : Int) (af : Int) (ag : Int) (ae : Int) (aj : Int) (ai : Int) (ak : Int) (ap : Int) (aq : Int) (ao : Int) (aQ : Int) (aT : Int) (A1_8 : Option Addr) (c1_8 : Nat) (an : List Int) (aH : Int) (aU : Int) (A1_11 : Option Addr) (c1_11 : Nat) (ar : List (S33)) (A1_12 : Option Addr) (c1_12 : Nat) (aC : List Int) (r : Bool) (w : World) (hr1_8 : Kd.C (Kd.int .i64) w A1_8 an.length an) (hc1_8 : an.length ≤ c1_8) (hr1_11 : Kd.C k33 w A1_11 ar.length ar) (hc1_11 : ar.length ≤ c1_11) (hr1_12 : Kd.C (Kd.int .i64) w A1_12 aC.length aC) (hc1_12 : aC.length ≤ c1_12) (h : spec_NodeOk.f k aa ab ac af ag ae aj ai ak ap aq ao aQ aT an aH aU ar aC = some r) :
  Calls Tryd.prog 10 #[.agg #[aa, ab, ac, af, ag, ae], .agg #[aj, ai, ak, ap, aq, ao, aQ, aT, .slice A1_8 an.length c1_8, aH, aU, .slice A1_11 ar.length c1_11, .slice A1_12 aC.length c1_12]] w fun e w' => e = .returned (.bool r) ∧ Below w.heap.size w w' := by
 have hu25 := Tryd.underlying25
 have hu29 := Tryd.underlying29
 have hu33 := Tryd.underlying33
 have b6 := Aside0.mk hr1_8
 have ck := Aside0.mk hc1_8
 clear hr1_8 hc1_8
 have gv := Aside0.mk hr1_11
 have jE := Aside0.mk hc1_11
 clear hr1_11 hc1_11
 have ga := Aside0.mk hr1_12
 have hD := Aside0.mk hc1_12
 clear hr1_12 hc1_12
 have HB := am (Below.refl w.heap.size w)
 have H : ((spec_ConfOk.f aa ab ac af ag ae).bind fun tb => (if tb = true then ((spec_l1In.f aj 0 3).bind fun tc => (if tc = true then ((spec_l1In.f ai 1 ae).bind fun qx => (spec_NodeOk.j0 k (!qx) aa ab ac af ag ae aj ai ak ap aq ao aQ aT an aH aU ar aC)) else (spec_NodeOk.j0 k true aa ab ac af ag ae aj ai ak ap aq ao aQ aT an aH aU ar aC))) else (spec_NodeOk.j0 k true aa ab ac af ag ae aj ai ak ap aq ao aQ aT an aH aU ar aC))) = some r := h
 clear h
 have eK := Aside0.mk H
 clear H
 go_enter Tryd.func10, Tryd.ntmps10
 go_upto_region 1 with (first | ((with_reducible refine gate_dst (N := 2) rfl ?_); (try (refine gate_guard q127t ?_; dsimp only)); refine box_ev 2 #[aa, ab, ac, af, ag, ae] 25 ?_; intro e9 hg w4 hbox hb; have a6 := am (hbox); have WP := am ((q63t : w.heap.size ≤ e9)); have WQ := am ((q63t : w.heap.size ≤ e9)); replace HB := am (below_step q68t hb); clear hb hbox hg) | ((with_reducible refine gate_dst (N := 3) rfl ?_); (try (refine gate_guard q127t ?_; dsimp only)); refine box_ev 3 #[aj, ai, ak, ap, aq, ao, aQ, aT, .slice A1_8 an.length c1_8, aH, aU, .slice A1_11 ar.length c1_11, .slice A1_12 aC.length c1_12] 29 ?_; intro dl hg w5 hbox hb; have aW := am (hbox); have WR := am ((q41t : w.heap.size ≤ dl)); have WS := am ((q41t : w.heap.size ≤ dl)); replace HB := am (below_step q47t hb); have fa := am ((by rw [hg]; exact Nat.ne_of_lt (blk_lt (qbk a6)) : e9 ≠ dl)); have fb := am ((by rw [hg]; exact Nat.ne_of_gt (blk_lt (qbk a6)) : dl ≠ e9)); replace a6 := blb a6 hb; clear hb hbox hg))
 (try simp only [Act.put, List.setIfInBounds_toArray, List.set_cons_zero, List.set_cons_succ])
 go_cut [23] (fun v23 wc => ∃ (kq : Nat) (mG : Bool), v23 = .bool mG ∧ Aside0 (spec_NodeOk.j0 kq mG aa ab ac af ag ae aj ai ak ap aq ao aQ aT an aH aU ar aC = some r) ∧ Aside0 (kq ≤ k) ∧ Aside0 (wc.heap[e9]? = some (.cells #[aa, ab, ac, af, ag, ae] 25 (0, 0))) ∧ Aside0 (wc.heap[dl]? = some (.cells #[aj, ai, ak, ap, aq, ao, aQ, aT, (.slice A1_8 an.length c1_8), aH, aU, (.slice A1_11 ar.length c1_11), (.slice A1_12 aC.length c1_12)] 29 (0, 0))) ∧ Aside0 (Below w.heap.size w wc))
 case first =>
  have H := eK.out
  clear eK
  obtain ⟨tb, A6, H⟩ := bnd H
  try dsimp only at H
  by_cases c7 : tb = true
  rotate_left
  ·replace c7 := Bool.eq_false_iff.mpr c7
   subst c7
   rw [if_neg (show ¬ (false = true) by decide)] at H
   have H' := Aside0.mk H
   clear H
   have sd := fa.out
   have se := fb.out
   have k0 := qc6 a6.out
   have ij := qf6 a6.out
   go_wp2_with (first | ((with_reducible refine gate_callee (f := 27) rfl ?_); refine goesL_ (some 8) rfl rfl Tryd.func27 (by kernel_rfl) rfl #[.agg #[aa, ab, ac, af, ag, ae]] rfl q66t ?_; (with_reducible refine (spec_ConfOk.calls aa ab ac af ag ae false _ A6.out).mono ?_); rintro e w22 ⟨rfl, hb⟩; refine ⟨_, rfl, ?_⟩; replace a6 := blb a6 hb; replace aW := blb aW hb; replace HB := am (below_step q47t hb); (try clear hb); (try clear hb2); (try clear hk); (try clear hi)))
   go_meet
   case rel => exact ⟨_, (true), q121t, H', ⟨q122t⟩, ⟨qbk a6⟩, ⟨qbk aW⟩, ⟨q47t⟩⟩
  subst c7
  rw [if_pos rfl] at H
  obtain ⟨tc, A8, H⟩ := bnd H
  try dsimp only at H
  by_cases c9 : tc = true
  ·subst c9
   rw [if_pos rfl] at H
   obtain ⟨qx, jO, H⟩ := bnd H
   try dsimp only at H
   have H' := Aside0.mk H
   clear H
   have qV := fa.out
   have qW := fb.out
   have pg := qc6 a6.out
   have nM := qf6 a6.out
   go_wp2_with (first | ((with_reducible refine gate_callee (f := 27) rfl ?_); refine goesL_ (some 8) rfl rfl Tryd.func27 (by kernel_rfl) rfl #[.agg #[aa, ab, ac, af, ag, ae]] rfl q66t ?_; (with_reducible refine (spec_ConfOk.calls aa ab ac af ag ae true _ A6.out).mono ?_); rintro e w13 ⟨rfl, hb⟩; refine ⟨_, rfl, ?_⟩; replace a6 := blb a6 hb; replace aW := blb aW hb; replace HB := am (below_step q47t hb); (try clear hb); (try clear hb2); (try clear hk); (try clear hi); have nH := qc13 aW.out; have jz := qf13 aW.out) | (go_at_call 38; (with_reducible refine (spec_l1In.calls aj 0 3 true _ A8.out).mono ?_); rintro e w' ⟨rfl, ⟨nd, rfl⟩⟩; have mn := qc6 a6.out; have iL := qf6 a6.out) | (go_at_call 38; (with_reducible refine (spec_l1In.calls ai 1 ae qx _ jO.out).mono ?_); rintro e w' ⟨rfl, ⟨nd, rfl⟩⟩))
   go_meet
   case rel => exact ⟨_, (!qx), q121t, H', ⟨q122t⟩, ⟨qbk a6⟩, ⟨qbk aW⟩, ⟨q47t⟩⟩
  replace c9 := Bool.eq_false_iff.mpr c9
  subst c9
  rw [if_neg (show ¬ (false = true) by decide)] at H
  have H' := Aside0.mk H
  clear H
  have Lb := fa.out
  have Lc := fb.out
  have qo := qc6 a6.out
  have k8 := qf6 a6.out
  go_wp2_with (first | ((with_reducible refine gate_callee (f := 27) rfl ?_); refine goesL_ (some 8) rfl rfl Tryd.func27 (by kernel_rfl) rfl #[.agg #[aa, ab, ac, af, ag, ae]] rfl q66t ?_; (with_reducible refine (spec_ConfOk.calls aa ab ac af ag ae true _ A6.out).mono ?_); rintro e w18 ⟨rfl, hb⟩; refine ⟨_, rfl, ?_⟩; replace a6 := blb a6 hb; replace aW := blb aW hb; replace HB := am (below_step q47t hb); (try clear hb); (try clear hb2); (try clear hk); (try clear hi); have po := qc13 aW.out; have ky := qf13 aW.out) | (go_at_call 38; (with_reducible refine (spec_l1In.calls aj 0 3 false _ A8.out).mono ?_); rintro e w' ⟨rfl, ⟨nd, rfl⟩⟩))
  go_meet
  case rel => exact ⟨_, (true), q121t, H', ⟨q122t⟩, ⟨qbk a6⟩, ⟨qbk aW⟩, ⟨q47t⟩⟩
 case rest =>
  clear eK
  try clear c1
  try clear c2
  try clear p2
  try clear c7
  try clear c9
  try clear c10
  try clear c11
  try clear c16
  try clear c20
  try clear pg
  try clear nH
  try clear mn
  try clear qo
  try clear po
  try clear k0
  try clear nM
  try clear jz
  try clear iL
  try clear k8
  try clear ky
  try clear ij
  obtain ⟨kq, mG, rfl, HA, gD, a6, aW, HB⟩ := hcut
  cases kq with
  | zero => exact absurd HA.out (by simp [spec_NodeOk.j0])
  | succ kj2 =>
   have H := HA.out
   clear HA
   simp only [spec_NodeOk.j0] at H
   by_cases c23 : mG = true
   ·subst c23
    rw [if_pos rfl] at H
    obtain rfl := Option.some.inj H
    go_wp2
    go_ret
    exact ⟨q114t, q47t⟩
   replace c23 := Bool.eq_false_iff.mpr c23
   subst c23
   rw [if_neg (show ¬ (false = true) by decide)] at H
   by_cases c24 : aj = 1
   rotate_left
   ·rw [if_neg c24] at H
    have iQ : (aj == 1) = false := beq_eq_false_iff_ne.mpr c24
    have kx : (aj != 1) = true := bne_iff_ne.mpr c24
    obtain ⟨zr, LU, H⟩ := bnd H
    try dsimp only at H
    obtain rfl := Option.some.inj H
    have WT := fb.out
    have WU := fa.out
    have WV := qc13 aW.out
    have WW := qf13 aW.out
    go_wp2_with (first | ((with_reducible refine gate_callee (f := 14) rfl ?_); refine goesL_ (some 28) rfl rfl Tryd.func14 (by kernel_rfl) rfl #[.agg #[aj, ai, ak, ap, aq, ao, aQ, aT, .slice A1_8 an.length c1_8, aH, aU, .slice A1_11 ar.length c1_11, .slice A1_12 aC.length c1_12]] rfl q66t ?_; (with_reducible refine (spec_Bare.calls aj ai ak ap aq ao aQ aT _ _ an aH aU _ _ ar _ _ aC zr _ ?side1 ?side2 ?side3 ?side4 ?side5 ?side6 LU.out).mono ?_); (case side1 => exact sC (Kd.C_below b6.out HB.out)); (case side2 => exact ck.out); (case side3 => exact sC (Kd.C_below gv.out HB.out)); (case side4 => exact jE.out); (case side5 => exact sC (Kd.C_below ga.out HB.out)); (case side6 => exact hD.out); rintro e w99 ⟨rfl, hb⟩; refine ⟨_, rfl, ?_⟩; replace a6 := blb a6 hb; replace aW := blb aW hb; replace HB := am (below_step q47t hb); (try clear hb); (try clear hb2); (try clear hk); (try clear hi)))
    go_ret
    exact ⟨q114t, q47t⟩
   rw [if_pos c24] at H
   have iQ : (aj == 1) = true := beq_iff_eq.mpr c24
   have kx : (aj != 1) = false := bne_eq_false_iff_eq.mpr c24
   clear c24
   have zv := Aside0.mk H
   clear H
   have qO := fb.out
   have qP := fa.out
   have gJ := qc13 aW.out
   have gj := qf13 aW.out
   go_upto_region 5 with (fail)
   go_cut [86] (fun v86 wc => ∃ (kq : Nat) (vC : Bool), v86 = .bool vC ∧ Aside0 (spec_NodeOk.j1 kq vC aa ab ac af ag ae aj ai ak ap aq ao aQ aT an aH aU ar aC = some r) ∧ Aside0 (kq ≤ kj2) ∧ Aside0 (wc.heap[e9]? = some (.cells #[aa, ab, ac, af, ag, ae] 25 (0, 0))) ∧ Aside0 (wc.heap[dl]? = some (.cells #[aj, ai, ak, ap, aq, ao, aQ, aT, (.slice A1_8 an.length c1_8), aH, aU, (.slice A1_11 ar.length c1_11), (.slice A1_12 aC.length c1_12)] 29 (0, 0))) ∧ Aside0 (Below w.heap.size w wc))
   case first =>
    have H := zv.out
    clear zv
    by_cases c28 : ak < 0
    ·rw [if_pos c28] at H
     have l4 : decide (ak < 0) = true := decide_eq_true c28
     clear c28
     (first | rw [l4] | (simp only [i64_w, i32_w]; rw [l4]) | skip)
     have H' := Aside0.mk H
     clear H
     have uK := fb.out
     have uL := fa.out
     have rZ := qc13 aW.out
     have qh := qf13 aW.out
     go_wp2
     go_meet
     case rel => exact ⟨_, (true), q121t, H', ⟨q117t⟩, ⟨qbk a6⟩, ⟨qbk aW⟩, ⟨q47t⟩⟩
    rw [if_neg c28] at H
    have l4 : decide (ak < 0) = false := decide_eq_false c28
    clear c28
    (first | rw [l4] | (simp only [i64_w, i32_w]; rw [l4]) | skip)
    by_cases c31 : aq < 0
    ·rw [if_pos c31] at H
     have s3 : decide (aq < 0) = true := decide_eq_true c31
     clear c31
     have H' := Aside0.mk H
     clear H
     have qZ := fb.out
     have q0 := fa.out
     have mi := qc13 aW.out
     have kY := qf13 aW.out
     go_wp2
     go_meet
     case rel => exact ⟨_, (true), q121t, H', ⟨q117t⟩, ⟨qbk a6⟩, ⟨qbk aW⟩, ⟨q47t⟩⟩
    rw [if_neg c31] at H
    have s3 : decide (aq < 0) = false := decide_eq_false c31
    clear c31
    obtain ⟨zm, ld, H⟩ := bnd H
    try dsimp only at H
    by_cases c35 : zm = true
    rotate_left
    ·replace c35 := Bool.eq_false_iff.mpr c35
     subst c35
     rw [if_neg (show ¬ (false = true) by decide)] at H
     have H' := Aside0.mk H
     clear H
     have Hm := fb.out
     have Hn := fa.out
     have s5 := qc13 aW.out
     have qu := qf13 aW.out
     have ux := qc6 a6.out
     have uy := qf6 a6.out
     go_wp2_with (first | (go_at_call 38; (with_reducible refine (spec_l1In.calls ap 0 ac false _ ld.out).mono ?_); rintro e w' ⟨rfl, ⟨nd, rfl⟩⟩))
     go_meet
     case rel => exact ⟨_, (true), q121t, H', ⟨q117t⟩, ⟨qbk a6⟩, ⟨qbk aW⟩, ⟨q47t⟩⟩
    subst c35
    rw [if_pos rfl] at H
    obtain ⟨zn, qy, H⟩ := bnd H
    try dsimp only at H
    by_cases c37 : zn = true
    rotate_left
    ·replace c37 := Bool.eq_false_iff.mpr c37
     subst c37
     rw [if_neg (show ¬ (false = true) by decide)] at H
     have H' := Aside0.mk H
     clear H
     have KP := fb.out
     have KQ := fa.out
     have vm := qc13 aW.out
     have sA := qf13 aW.out
     have yG := qc6 a6.out
     have vn := qf6 a6.out
     go_wp2_with (first | (go_at_call 38; (with_reducible refine (spec_l1In.calls ap 0 ac true _ ld.out).mono ?_); rintro e w' ⟨rfl, ⟨nd, rfl⟩⟩) | (go_at_call 38; (with_reducible refine (spec_l1In.calls ao 0 ac false _ qy.out).mono ?_); rintro e w' ⟨rfl, ⟨nd, rfl⟩⟩))
     go_meet
     case rel => exact ⟨_, (true), q121t, H', ⟨q117t⟩, ⟨qbk a6⟩, ⟨qbk aW⟩, ⟨q47t⟩⟩
    subst c37
    rw [if_pos rfl] at H
    obtain ⟨zo, td, H⟩ := bnd H
    try dsimp only at H
    by_cases c39 : zo = true
    rotate_left
    ·replace c39 := Bool.eq_false_iff.mpr c39
     subst c39
     rw [if_neg (show ¬ (false = true) by decide)] at H
     have H' := Aside0.mk H
     clear H
     have BF := fb.out
     have BG := fa.out
     have Fi := qc13 aW.out
     have zw := qf13 aW.out
     have tX := qc6 a6.out
     have rb := qf6 a6.out
     go_wp2_with (first | (go_at_call 38; (with_reducible refine (spec_l1In.calls ap 0 ac true _ ld.out).mono ?_); rintro e w' ⟨rfl, ⟨nd, rfl⟩⟩) | (go_at_call 38; (with_reducible refine (spec_l1In.calls ao 0 ac true _ qy.out).mono ?_); rintro e w' ⟨rfl, ⟨nd, rfl⟩⟩) | (go_at_call 38; (with_reducible refine (spec_l1In.calls aQ 0 ac false _ td.out).mono ?_); rintro e w' ⟨rfl, ⟨nd, rfl⟩⟩))
     go_meet
     case rel => exact ⟨_, (true), q121t, H', ⟨q117t⟩, ⟨qbk a6⟩, ⟨qbk aW⟩, ⟨q47t⟩⟩
    subst c39
    rw [if_pos rfl] at H
    obtain ⟨zp, nF, H⟩ := bnd H
    try dsimp only at H
    by_cases c41 : zp = true
    rotate_left
    ·replace c41 := Bool.eq_false_iff.mpr c41
     subst c41
     rw [if_neg (show ¬ (false = true) by decide)] at H
     have H' := Aside0.mk H
     clear H
     have Kx := fb.out
     have Ky := fa.out
     have Fj := qc13 aW.out
     have zx := qf13 aW.out
     have sB := qc6 a6.out
     have ql := qf6 a6.out
     go_wp2_with (first | (go_at_call 38; (with_reducible refine (spec_l1In.calls ap 0 ac true _ ld.out).mono ?_); rintro e w' ⟨rfl, ⟨nd, rfl⟩⟩) | (go_at_call 38; (with_reducible refine (spec_l1In.calls ao 0 ac true _ qy.out).mono ?_); rintro e w' ⟨rfl, ⟨nd, rfl⟩⟩) | (go_at_call 38; (with_reducible refine (spec_l1In.calls aQ 0 ac true _ td.out).mono ?_); rintro e w' ⟨rfl, ⟨nd, rfl⟩⟩) | (go_at_call 38; (with_reducible refine (spec_l1In.calls aT 0 ac false _ nF.out).mono ?_); rintro e w' ⟨rfl, ⟨nd, rfl⟩⟩))
     go_meet
     case rel => exact ⟨_, (true), q121t, H', ⟨q117t⟩, ⟨qbk a6⟩, ⟨qbk aW⟩, ⟨q47t⟩⟩
    subst c41
    rw [if_pos rfl] at H
    obtain ⟨zq, zy, H⟩ := bnd H
    try dsimp only at H
    by_cases c43 : zq = true
    ·subst c43
     rw [if_pos rfl] at H
     by_cases c44 : (ar.length : Int) > 12
     ·rw [if_pos c44] at H
      have jr : decide (12 < (ar.length : Int)) = true := decide_eq_true c44
      have kM : decide (12 < ar.length) = true := decide_eq_true (by omega)
      clear c44
      have H' := Aside0.mk H
      clear H
      have pQ := fb.out
      have pR := fa.out
      have nV := qc13 aW.out
      have mB := qf13 aW.out
      have nA := qc6 a6.out
      have l5 := qf6 a6.out
      go_wp2_with (first | (go_at_call 38; (with_reducible refine (spec_l1In.calls ap 0 ac true _ ld.out).mono ?_); rintro e w' ⟨rfl, ⟨nd, rfl⟩⟩) | (go_at_call 38; (with_reducible refine (spec_l1In.calls ao 0 ac true _ qy.out).mono ?_); rintro e w' ⟨rfl, ⟨nd, rfl⟩⟩) | (go_at_call 38; (with_reducible refine (spec_l1In.calls aQ 0 ac true _ td.out).mono ?_); rintro e w' ⟨rfl, ⟨nd, rfl⟩⟩) | (go_at_call 38; (with_reducible refine (spec_l1In.calls aT 0 ac true _ nF.out).mono ?_); rintro e w' ⟨rfl, ⟨nd, rfl⟩⟩) | (go_at_call 39; (with_reducible refine (spec_l7Chunks.calls kj2 aa ab ac af ag ae aj ai ak ap aq ao aQ aT _ _ an aH aU _ _ ar _ _ aC true _ ?side1 ?side2 ?side3 ?side4 ?side5 ?side6 zy.out).mono ?_); (case side1 => repeat (first | exact (Kd.C_below b6.out q47t) | (with_reducible refine Kd.C_alloc ?_ _) | (with_reducible refine Kd.C_drewN ?_ _) | (with_reducible refine Kd.C_drew ?_))); (case side2 => exact ck.out); (case side3 => repeat (first | exact (Kd.C_below gv.out q47t) | (with_reducible refine Kd.C_alloc ?_ _) | (with_reducible refine Kd.C_drewN ?_ _) | (with_reducible refine Kd.C_drew ?_))); (case side4 => exact jE.out); (case side5 => repeat (first | exact (Kd.C_below ga.out q47t) | (with_reducible refine Kd.C_alloc ?_ _) | (with_reducible refine Kd.C_drewN ?_ _) | (with_reducible refine Kd.C_drew ?_))); (case side6 => exact hD.out); rintro e w48 ⟨rfl, hb⟩; replace a6 := blb a6 hb; replace aW := blb aW hb; replace HB := am (below_step q47t hb); (try clear hb); (try clear hb2); (try clear hk); (try clear hi); have pd := qc13 aW.out; have nK := qf13 aW.out))
      go_meet
      case rel => exact ⟨_, (true), q121t, H', ⟨q117t⟩, ⟨qbk a6⟩, ⟨qbk aW⟩, ⟨q47t⟩⟩
     rw [if_neg c44] at H
     have jr : decide (12 < (ar.length : Int)) = false := decide_eq_false c44
     have kM : decide (12 < ar.length) = false := decide_eq_false (by omega)
     clear c44
     have H' := Aside0.mk H
     clear H
     have yD := fb.out
     have yE := fa.out
     have qn := qc13 aW.out
     have pj := qf13 aW.out
     have k6 := qc6 a6.out
     have kt := qf6 a6.out
     go_wp2_with (first | (go_at_call 38; (with_reducible refine (spec_l1In.calls ap 0 ac true _ ld.out).mono ?_); rintro e w' ⟨rfl, ⟨nd, rfl⟩⟩) | (go_at_call 38; (with_reducible refine (spec_l1In.calls ao 0 ac true _ qy.out).mono ?_); rintro e w' ⟨rfl, ⟨nd, rfl⟩⟩) | (go_at_call 38; (with_reducible refine (spec_l1In.calls aQ 0 ac true _ td.out).mono ?_); rintro e w' ⟨rfl, ⟨nd, rfl⟩⟩) | (go_at_call 38; (with_reducible refine (spec_l1In.calls aT 0 ac true _ nF.out).mono ?_); rintro e w' ⟨rfl, ⟨nd, rfl⟩⟩) | (go_at_call 39; (with_reducible refine (spec_l7Chunks.calls kj2 aa ab ac af ag ae aj ai ak ap aq ao aQ aT _ _ an aH aU _ _ ar _ _ aC true _ ?side1 ?side2 ?side3 ?side4 ?side5 ?side6 zy.out).mono ?_); (case side1 => repeat (first | exact (Kd.C_below b6.out q47t) | (with_reducible refine Kd.C_alloc ?_ _) | (with_reducible refine Kd.C_drewN ?_ _) | (with_reducible refine Kd.C_drew ?_))); (case side2 => exact ck.out); (case side3 => repeat (first | exact (Kd.C_below gv.out q47t) | (with_reducible refine Kd.C_alloc ?_ _) | (with_reducible refine Kd.C_drewN ?_ _) | (with_reducible refine Kd.C_drew ?_))); (case side4 => exact jE.out); (case side5 => repeat (first | exact (Kd.C_below ga.out q47t) | (with_reducible refine Kd.C_alloc ?_ _) | (with_reducible refine Kd.C_drewN ?_ _) | (with_reducible refine Kd.C_drew ?_))); (case side6 => exact hD.out); rintro e w53 ⟨rfl, hb⟩; replace a6 := blb a6 hb; replace aW := blb aW hb; replace HB := am (below_step q47t hb); (try clear hb); (try clear hb2); (try clear hk); (try clear hi); have pe := qc13 aW.out; have nL := qf13 aW.out))
     go_meet
     case rel => exact ⟨_, (decide ((aC.length : Int) > 6)), q121t, H', ⟨q117t⟩, ⟨qbk a6⟩, ⟨qbk aW⟩, ⟨q47t⟩⟩
    replace c43 := Bool.eq_false_iff.mpr c43
    subst c43
    rw [if_neg (show ¬ (false = true) by decide)] at H
    have H' := Aside0.mk H
    clear H
    have xL := fb.out
    have xM := fa.out
    have nG := qc13 aW.out
    have mb := qf13 aW.out
    have qm := qc6 a6.out
    have ph := qf6 a6.out
    go_wp2_with (first | (go_at_call 38; (with_reducible refine (spec_l1In.calls ap 0 ac true _ ld.out).mono ?_); rintro e w' ⟨rfl, ⟨nd, rfl⟩⟩) | (go_at_call 38; (with_reducible refine (spec_l1In.calls ao 0 ac true _ qy.out).mono ?_); rintro e w' ⟨rfl, ⟨nd, rfl⟩⟩) | (go_at_call 38; (with_reducible refine (spec_l1In.calls aQ 0 ac true _ td.out).mono ?_); rintro e w' ⟨rfl, ⟨nd, rfl⟩⟩) | (go_at_call 38; (with_reducible refine (spec_l1In.calls aT 0 ac true _ nF.out).mono ?_); rintro e w' ⟨rfl, ⟨nd, rfl⟩⟩) | (go_at_call 39; (with_reducible refine (spec_l7Chunks.calls kj2 aa ab ac af ag ae aj ai ak ap aq ao aQ aT _ _ an aH aU _ _ ar _ _ aC false _ ?side1 ?side2 ?side3 ?side4 ?side5 ?side6 zy.out).mono ?_); (case side1 => repeat (first | exact (Kd.C_below b6.out q47t) | (with_reducible refine Kd.C_alloc ?_ _) | (with_reducible refine Kd.C_drewN ?_ _) | (with_reducible refine Kd.C_drew ?_))); (case side2 => exact ck.out); (case side3 => repeat (first | exact (Kd.C_below gv.out q47t) | (with_reducible refine Kd.C_alloc ?_ _) | (with_reducible refine Kd.C_drewN ?_ _) | (with_reducible refine Kd.C_drew ?_))); (case side4 => exact jE.out); (case side5 => repeat (first | exact (Kd.C_below ga.out q47t) | (with_reducible refine Kd.C_alloc ?_ _) | (with_reducible refine Kd.C_drewN ?_ _) | (with_reducible refine Kd.C_drew ?_))); (case side6 => exact hD.out); rintro e w58 ⟨rfl, hb⟩; replace a6 := blb a6 hb; replace aW := blb aW hb; replace HB := am (below_step q47t hb); (try clear hb); (try clear hb2); (try clear hk); (try clear hi)))
    go_meet
    case rel => exact ⟨_, (true), q121t, H', ⟨q117t⟩, ⟨qbk a6⟩, ⟨qbk aW⟩, ⟨q47t⟩⟩
   case rest =>
    clear zv
    try clear c1
    try clear c2
    try clear p2
    try clear c3
    try clear c4
    try clear c5
    try clear c6
    try clear c23
    try clear c24
    try clear iQ
    try clear kx
    try clear c26
    try clear c28
    try clear l4
    try clear c29
    try clear c31
    try clear s3
    try clear c32
    try clear c35
    try clear c37
    try clear c39
    try clear c41
    try clear c43
    try clear c44
    try clear jr
    try clear kM
    try clear c45
    try clear c50
    try clear c55
    try clear c59
    try clear c62
    try clear c65
    try clear c68
    try clear gJ
    try clear rZ
    try clear mi
    try clear nV
    try clear nA
    try clear pd
    try clear qn
    try clear k6
    try clear pe
    try clear nG
    try clear qm
    try clear Fj
    try clear sB
    try clear Fi
    try clear tX
    try clear vm
    try clear yG
    try clear s5
    try clear ux
    try clear jz
    try clear iL
    try clear k8
    try clear ky
    try clear ij
    try clear gj
    try clear qh
    try clear kY
    try clear mB
    try clear l5
    try clear nK
    try clear pj
    try clear kt
    try clear nL
    try clear mb
    try clear ph
    try clear zx
    try clear ql
    try clear zw
    try clear rb
    try clear sA
    try clear vn
    try clear qu
    try clear uy
    obtain ⟨kq, vC, rfl, HA, vD, a6, aW, HB⟩ := hcut
    cases kq with
    | zero => exact absurd HA.out (by simp [spec_NodeOk.j1])
    | succ kj24 =>
     have H := HA.out
     clear HA
     simp only [spec_NodeOk.j1] at H
     by_cases c71 : vC = true
     ·subst c71
      rw [if_pos rfl] at H
      obtain rfl := Option.some.inj H
      go_wp2
      go_ret
      exact ⟨q114t, q47t⟩
     replace c71 := Bool.eq_false_iff.mpr c71
     subst c71
     rw [if_neg (show ¬ (false = true) by decide)] at H
     have H' := Aside0.mk H
     clear H
     go_wp2
     go_loopg [5] kj24 (fun kq v5 w' => ∃ (cf : Int), v5 = .int .i64 cf ∧ Aside0 (spec_NodeOk.l0 kq cf aa ab ac af ag ae aj ai ak ap aq ao aQ aT an aH aU ar aC = some r) ∧ Aside0 (kq ≤ kj24) ∧ Aside0 (w'.heap[e9]? = some (.cells #[aa, ab, ac, af, ag, ae] 25 (0, 0))) ∧ Aside0 (w'.heap[dl]? = some (.cells #[aj, ai, ak, ap, aq, ao, aQ, aT, (.slice A1_8 an.length c1_8), aH, aU, (.slice A1_11 ar.length c1_11), (.slice A1_12 aC.length c1_12)] 29 (0, 0))) ∧ Aside0 (Below w.heap.size w w'))
     case atStart => exact ⟨(0), q121t, H', ⟨Nat.le_refl _⟩, ⟨qbk a6⟩, ⟨qbk aW⟩, ⟨q47t⟩⟩
     case round =>
      clear H'
      try clear c1
      try clear c2
      try clear p2
      try clear p2
      try clear c3
      try clear c4
      try clear c5
      try clear c6
      try clear c7
      try clear c23
      try clear c24
      try clear iQ
      try clear kx
      try clear c26
      try clear c28
      try clear l4
      try clear c29
      try clear c31
      try clear s3
      try clear c32
      try clear c35
      try clear c37
      try clear c39
      try clear c41
      try clear c43
      try clear c44
      try clear jr
      try clear kM
      try clear c45
      try clear c50
      try clear c55
      try clear c59
      try clear c62
      try clear c65
      try clear c68
      try clear c71
      try clear gJ
      try clear rZ
      try clear mi
      try clear nV
      try clear nA
      try clear pd
      try clear qn
      try clear k6
      try clear pe
      try clear nG
      try clear qm
      try clear Fj
      try clear sB
      try clear Fi
      try clear tX
      try clear vm
      try clear yG
      try clear s5
      try clear ux
      try clear jz
      try clear iL
      try clear k8
      try clear ky
      try clear ij
      try clear gj
      try clear qh
      try clear kY
      try clear mB
      try clear l5
      try clear nK
      try clear pj
      try clear kt
      try clear nL
      try clear mb
      try clear ph
      try clear zx
      try clear ql
      try clear zw
      try clear rb
      try clear sA
      try clear vn
      try clear qu
      try clear uy
      obtain ⟨cf, rfl, HA, HK3, a6, aW, HB⟩ := hrel
      cases gk with
      | zero => exact absurd HA.out (by simp [spec_NodeOk.l0])
      | succ k3 =>
       have H := HA.out
       clear HA
       simp only [spec_NodeOk.l0] at H
       by_cases c72 : cf < (ar.length : Int)
       ·rw [if_pos c72] at H
        have Fk : decide (cf < (ar.length : Int)) = true := decide_eq_true c72
        clear c72
        by_cases c73 : 0 ≤ cf
        rotate_left
        ·rw [if_neg c73] at H
         exact absurd H q126t
        rw [if_pos c73] at H
        have LV : decide (0 ≤ cf) = true := decide_eq_true c73
        clear c73
        obtain ⟨zt, Fl, H⟩ := bnd H
        try dsimp only at H
        by_cases c75 : zt = true
        ·subst c75
         rw [if_pos rfl] at H
         have H' := Aside0.mk H
         clear H
         have WX := fb.out
         have WY := fa.out
         have pL := qc13 aW.out
         have pM := qf13 aW.out
         try go_wp2
         (try (rw [drewN_self wr]; generalize hq_ : World.drewN wr _ = wr; have hh_ := congrArg World.heap hq_; dsimp only [World.drewN] at hh_; have zb_ : Below w.heap.size w wr := (by rw [← hq_]; exact pw_below_drewN HB.out _); have z_ := a6.out; rw [hh_] at z_; clear a6; have a6 := Aside0.mk z_; clear z_; have z_ := aW.out; rw [hh_] at z_; clear aW; have aW := Aside0.mk z_; clear z_; clear HB; have HB := Aside0.mk zb_; clear zb_ hh_ hq_))
         replace a6 := am (blk_drew a6.out)
         replace aW := am (blk_drew aW.out)
         replace HB := am (below_drew1 HB.out)
         have p668 : 0 ≤ (cf : Int) := of_decide_eq_true q118t
         have q668 : cf < (ar.length : Int) := of_decide_eq_true q118t
         obtain ⟨iS, e668, lh, ll, lm⟩ := at_T33 gv.out cf p668 q668
         have hw668_2 := lm
         have hw668_1 := ll
         have hw668_0 := lh
         cases e668
         replace lh := hbt HB lh
         replace ll := hbt HB ll
         replace lm := hbt HB lm
         replace p668 := eq_true p668
         replace q668 := eq_true q668
         refine start_ (n := 8) (S := fun w' => w'.cell? ⟨e9, 0, none⟩ = some (.int .i64 aa) ∧ w'.cell? ⟨e9, 1, none⟩ = some (.int .i64 ab) ∧ w'.cell? ⟨e9, 2, none⟩ = some (.int .i64 ac) ∧ w'.cell? ⟨e9, 3, none⟩ = some (.int .i64 af) ∧ w'.cell? ⟨e9, 4, none⟩ = some (.int .i64 ag) ∧ w'.cell? ⟨e9, 5, none⟩ = some (.int .i64 ae) ∧ w'.cell? ⟨dl, 0, none⟩ = some (.int .i64 aj) ∧ w'.cell? ⟨dl, 1, none⟩ = some (.int .i64 ai) ∧ w'.cell? ⟨dl, 2, none⟩ = some (.int .i64 ak) ∧ w'.cell? ⟨dl, 3, none⟩ = some (.int .i64 ap) ∧ w'.cell? ⟨dl, 4, none⟩ = some (.int .i64 aq) ∧ w'.cell? ⟨dl, 5, none⟩ = some (.int .i64 ao) ∧ w'.cell? ⟨dl, 6, none⟩ = some (.int .i64 aQ) ∧ w'.cell? ⟨dl, 7, none⟩ = some (.int .i64 aT) ∧ w'.cell? ⟨dl, 8, none⟩ = some (.slice A1_8 an.length c1_8) ∧ w'.cell? ⟨dl, 9, none⟩ = some (.int .i64 aH) ∧ w'.cell? ⟨dl, 10, none⟩ = some (.int .i64 aU) ∧ w'.cell? ⟨dl, 11, none⟩ = some (.slice (some iS) ar.length c1_11) ∧ w'.cell? ⟨dl, 12, none⟩ = some (.slice A1_12 aC.length c1_12) ∧ w'.cell? (iS.add ((cf).toNat * 3)) = some (.int .i64 ((rd_T33 ar cf).f0)) ∧ w'.cell? ⟨(iS.add ((cf).toNat * 3)).block, (iS.add ((cf).toNat * 3)).off + 1, none⟩ = some (.int .i64 ((rd_T33 ar cf).f1)) ∧ w'.cell? ⟨(iS.add ((cf).toNat * 3)).block, (iS.add ((cf).toNat * 3)).off + 2, none⟩ = some (.int .i64 ((rd_T33 ar cf).f2))) (ds := []) (bm 8 0) (by kernel_rfl) rfl (by kernel_rfl) qst (fun hHeld => ?_); refine with_tabW spec_NodeOk.tab10 spec_NodeOk.bits10 (fun HT_ HW_ => ?_)
         generalize wr.drew = w78 at a6 aW HB lh ll lm hHeld ⊢
         refine pv_ 1 95 (bm 8 2) ?_
         refine pv_ 3 97 (bm 8 10) ?_
         refine tv_ 0 94 (bm 8 11) ?_
         refine tv_ 2 96 (bm 8 15) ?_
         refine pv_ 4 98 (bm 8 31) ?_
         refine tv_ 5 99 (bm 8 63) ?_
         refine one_ (i := 6) (N := some 100) (bm 8 127) rfl rfl (one_of HT_.out (by kernel_rfl)) q125t (fun K hK => ?_)
         refine goes_ Tryd.func12 (by kernel_rfl) rfl #[.agg #[aa, ab, ac, af, ag, ae], .agg #[.int .i64 ((rd_T33 ar cf).f0), .int .i64 ((rd_T33 ar cf).f1), .int .i64 ((rd_T33 ar cf).f2)]] q127t rfl rfl q66t ?_
         with_reducible refine (spec_ThingOk.calls k3 aa ab ac af ag ae ((rd_T33 ar cf).f0) ((rd_T33 ar cf).f1) ((rd_T33 ar cf).f2) true _ Fl.out).mono ?_
         rintro e w79 ⟨rfl, hb⟩
         refine ⟨_, rfl, ?_⟩
         replace a6 := blb a6 hb
         replace aW := blb aW hb
         replace HB := am (below_step q47t hb)
         (try clear hb)
         (try clear hb2)
         (try clear hk)
         (try clear hi)
         refine hK.out _ _ (by first | exact ⟨(blk_cell a6.out 0).trans rfl, (blk_cell a6.out 1).trans rfl, (blk_cell a6.out 2).trans rfl, (blk_cell a6.out 3).trans rfl, (blk_cell a6.out 4).trans rfl, (blk_cell a6.out 5).trans rfl, (blk_cell aW.out 0).trans rfl, (blk_cell aW.out 1).trans rfl, (blk_cell aW.out 2).trans rfl, (blk_cell aW.out 3).trans rfl, (blk_cell aW.out 4).trans rfl, (blk_cell aW.out 5).trans rfl, (blk_cell aW.out 6).trans rfl, (blk_cell aW.out 7).trans rfl, (blk_cell aW.out 8).trans rfl, (blk_cell aW.out 9).trans rfl, (blk_cell aW.out 10).trans rfl, (blk_cell aW.out 11).trans rfl, (blk_cell aW.out 12).trans rfl, (hbt HB hw668_0), (hbt HB hw668_1), (hbt HB hw668_2)⟩ | exact hHeld) (fun hHeld => ?_)
         clear hK K
         refine norm_ (a' := ?_) ?_ ?_
         rotate_left
         ·show Act.put _ (some 100) _ = _
          simp only [Act.put, List.setIfInBounds_toArray, List.set_cons_zero, List.set_cons_succ, i64_w, i32_w]
          rfl
         refine pv_ 7 101 (bm 8 255) ?_
         refine done_ (done_of HT_.out (by kernel_rfl)) ?_
         try go_wp2
         go_roundg k3
         case measure => have := gD.out; have := vD.out; have := HK3.out; omega
         case rel => exact ⟨(wrap64 (cf + 1)), q121t, H', ⟨(by have := gD.out; have := vD.out; have := HK3.out; omega)⟩, ⟨qbk a6⟩, ⟨qbk aW⟩, ⟨q47t⟩⟩
        replace c75 := Bool.eq_false_iff.mpr c75
        subst c75
        rw [if_neg (show ¬ (false = true) by decide)] at H
        obtain rfl := Option.some.inj H
        have KN := fb.out
        have KO := fa.out
        have vk := qc13 aW.out
        have vl := qf13 aW.out
        try go_wp2
        (try (rw [drewN_self wr]; generalize hq_ : World.drewN wr _ = wr; have hh_ := congrArg World.heap hq_; dsimp only [World.drewN] at hh_; have zb_ : Below w.heap.size w wr := (by rw [← hq_]; exact pw_below_drewN HB.out _); have z_ := a6.out; rw [hh_] at z_; clear a6; have a6 := Aside0.mk z_; clear z_; have z_ := aW.out; rw [hh_] at z_; clear aW; have aW := Aside0.mk z_; clear z_; clear HB; have HB := Aside0.mk zb_; clear zb_ hh_ hq_))
        replace a6 := am (blk_drew a6.out)
        replace aW := am (blk_drew aW.out)
        replace HB := am (below_drew1 HB.out)
        have p668 : 0 ≤ (cf : Int) := of_decide_eq_true q118t
        have q668 : cf < (ar.length : Int) := of_decide_eq_true q118t
        obtain ⟨iS, e668, lh, ll, lm⟩ := at_T33 gv.out cf p668 q668
        have hw668_2 := lm
        have hw668_1 := ll
        have hw668_0 := lh
        cases e668
        replace lh := hbt HB lh
        replace ll := hbt HB ll
        replace lm := hbt HB lm
        replace p668 := eq_true p668
        replace q668 := eq_true q668
        refine start_ (n := 8) (S := fun w' => w'.cell? ⟨e9, 0, none⟩ = some (.int .i64 aa) ∧ w'.cell? ⟨e9, 1, none⟩ = some (.int .i64 ab) ∧ w'.cell? ⟨e9, 2, none⟩ = some (.int .i64 ac) ∧ w'.cell? ⟨e9, 3, none⟩ = some (.int .i64 af) ∧ w'.cell? ⟨e9, 4, none⟩ = some (.int .i64 ag) ∧ w'.cell? ⟨e9, 5, none⟩ = some (.int .i64 ae) ∧ w'.cell? ⟨dl, 0, none⟩ = some (.int .i64 aj) ∧ w'.cell? ⟨dl, 1, none⟩ = some (.int .i64 ai) ∧ w'.cell? ⟨dl, 2, none⟩ = some (.int .i64 ak) ∧ w'.cell? ⟨dl, 3, none⟩ = some (.int .i64 ap) ∧ w'.cell? ⟨dl, 4, none⟩ = some (.int .i64 aq) ∧ w'.cell? ⟨dl, 5, none⟩ = some (.int .i64 ao) ∧ w'.cell? ⟨dl, 6, none⟩ = some (.int .i64 aQ) ∧ w'.cell? ⟨dl, 7, none⟩ = some (.int .i64 aT) ∧ w'.cell? ⟨dl, 8, none⟩ = some (.slice A1_8 an.length c1_8) ∧ w'.cell? ⟨dl, 9, none⟩ = some (.int .i64 aH) ∧ w'.cell? ⟨dl, 10, none⟩ = some (.int .i64 aU) ∧ w'.cell? ⟨dl, 11, none⟩ = some (.slice (some iS) ar.length c1_11) ∧ w'.cell? ⟨dl, 12, none⟩ = some (.slice A1_12 aC.length c1_12) ∧ w'.cell? (iS.add ((cf).toNat * 3)) = some (.int .i64 ((rd_T33 ar cf).f0)) ∧ w'.cell? ⟨(iS.add ((cf).toNat * 3)).block, (iS.add ((cf).toNat * 3)).off + 1, none⟩ = some (.int .i64 ((rd_T33 ar cf).f1)) ∧ w'.cell? ⟨(iS.add ((cf).toNat * 3)).block, (iS.add ((cf).toNat * 3)).off + 2, none⟩ = some (.int .i64 ((rd_T33 ar cf).f2))) (ds := []) (bm 8 0) (by kernel_rfl) rfl (by kernel_rfl) qst (fun hHeld => ?_); refine with_tabW spec_NodeOk.tab10 spec_NodeOk.bits10 (fun HT_ HW_ => ?_)
        generalize wr.drew = w82 at a6 aW HB lh ll lm hHeld ⊢
        refine pv_ 1 95 (bm 8 2) ?_
        refine pv_ 3 97 (bm 8 10) ?_
        refine tv_ 0 94 (bm 8 11) ?_
        refine tv_ 2 96 (bm 8 15) ?_
        refine pv_ 4 98 (bm 8 31) ?_
        refine tv_ 5 99 (bm 8 63) ?_
        refine one_ (i := 6) (N := some 100) (bm 8 127) rfl rfl (one_of HT_.out (by kernel_rfl)) q125t (fun K hK => ?_)
        refine goes_ Tryd.func12 (by kernel_rfl) rfl #[.agg #[aa, ab, ac, af, ag, ae], .agg #[.int .i64 ((rd_T33 ar cf).f0), .int .i64 ((rd_T33 ar cf).f1), .int .i64 ((rd_T33 ar cf).f2)]] q127t rfl rfl q66t ?_
        with_reducible refine (spec_ThingOk.calls k3 aa ab ac af ag ae ((rd_T33 ar cf).f0) ((rd_T33 ar cf).f1) ((rd_T33 ar cf).f2) false _ Fl.out).mono ?_
        rintro e w83 ⟨rfl, hb⟩
        refine ⟨_, rfl, ?_⟩
        replace a6 := blb a6 hb
        replace aW := blb aW hb
        replace HB := am (below_step q47t hb)
        (try clear hb)
        (try clear hb2)
        (try clear hk)
        (try clear hi)
        refine hK.out _ _ (by first | exact ⟨(blk_cell a6.out 0).trans rfl, (blk_cell a6.out 1).trans rfl, (blk_cell a6.out 2).trans rfl, (blk_cell a6.out 3).trans rfl, (blk_cell a6.out 4).trans rfl, (blk_cell a6.out 5).trans rfl, (blk_cell aW.out 0).trans rfl, (blk_cell aW.out 1).trans rfl, (blk_cell aW.out 2).trans rfl, (blk_cell aW.out 3).trans rfl, (blk_cell aW.out 4).trans rfl, (blk_cell aW.out 5).trans rfl, (blk_cell aW.out 6).trans rfl, (blk_cell aW.out 7).trans rfl, (blk_cell aW.out 8).trans rfl, (blk_cell aW.out 9).trans rfl, (blk_cell aW.out 10).trans rfl, (blk_cell aW.out 11).trans rfl, (blk_cell aW.out 12).trans rfl, (hbt HB hw668_0), (hbt HB hw668_1), (hbt HB hw668_2)⟩ | exact hHeld) (fun hHeld => ?_)
        clear hK K
        refine norm_ (a' := ?_) ?_ ?_
        rotate_left
        ·show Act.put _ (some 100) _ = _
         simp only [Act.put, List.setIfInBounds_toArray, List.set_cons_zero, List.set_cons_succ, i64_w, i32_w]
         rfl
        refine pv_ 7 101 (bm 8 255) ?_
        refine done_ (done_of HT_.out (by kernel_rfl)) ?_
        try go_wp2
        go_ret
        exact ⟨q114t, q47t⟩
       rw [if_neg c72] at H
       have Fk : decide (cf < (ar.length : Int)) = false := decide_eq_false c72
       clear c72
       have H' := Aside0.mk H
       clear H
       have Lf := fb.out
       have Lg := fa.out
       have y4 := qc13 aW.out
       have y5 := qf13 aW.out
       go_wp2
       go_loopg [6] k3 (fun kq v6 w' => ∃ (fz : Int), v6 = .int .i64 fz ∧ Aside0 (spec_NodeOk.l1 kq fz aj ai ak ap aq ao aQ aT an aH aU ar aC = some r) ∧ Aside0 (kq ≤ k3) ∧ Aside0 (w'.heap[e9]? = some (.cells #[aa, ab, ac, af, ag, ae] 25 (0, 0))) ∧ Aside0 (w'.heap[dl]? = some (.cells #[aj, ai, ak, ap, aq, ao, aQ, aT, (.slice A1_8 an.length c1_8), aH, aU, (.slice A1_11 ar.length c1_11), (.slice A1_12 aC.length c1_12)] 29 (0, 0))) ∧ Aside0 (Below w.heap.size w w'))
       case atStart => exact ⟨(0), q121t, H', ⟨Nat.le_refl _⟩, ⟨qbk a6⟩, ⟨qbk aW⟩, ⟨q47t⟩⟩
       case round =>
        clear H'
        try clear c1
        try clear p2
        try clear p2
        try clear p6
        try clear q6
        try clear hx6
        try clear c7
        try clear c8
        try clear c12
        try clear p64
        try clear p66
        try clear q66
        try clear hx66
        try clear c72
        try clear Fk
        try clear c73
        try clear LV
        try clear c75
        try clear c76
        try clear c80
        try clear c84
        try clear ux
        try clear pL
        try clear vk
        try clear y4
        try clear jz
        try clear iL
        try clear k8
        try clear ky
        try clear ij
        try clear gj
        try clear qh
        try clear kY
        try clear mB
        try clear l5
        try clear nK
        try clear pj
        try clear kt
        try clear nL
        try clear mb
        try clear ph
        try clear zx
        try clear ql
        try clear zw
        try clear rb
        try clear sA
        try clear vn
        try clear qu
        try clear uy
        try clear pM
        try clear vl
        try clear y5
        try clear lh
        try clear ll
        try clear lm
        try clear p668
        try clear q668
        obtain ⟨fz, rfl, HA, HK4, a6, aW, HB⟩ := hrel
        cases gk with
        | zero => exact absurd HA.out (by simp [spec_NodeOk.l1])
        | succ k4 =>
         have H := HA.out
         clear HA
         simp only [spec_NodeOk.l1] at H
         by_cases c86 : fz < (aC.length : Int)
         rotate_left
         ·rw [if_neg c86] at H
          have LW : decide (fz < (aC.length : Int)) = false := decide_eq_false c86
          clear c86
          obtain rfl := Option.some.inj H
          have Lw := fb.out
          have Lx := fa.out
          have Ly := qc13 aW.out
          have Lz := qf13 aW.out
          go_wp2
          go_ret
          exact ⟨q114t, q47t⟩
         rw [if_pos c86] at H
         have LW : decide (fz < (aC.length : Int)) = true := decide_eq_true c86
         clear c86
         by_cases c87 : 0 ≤ fz
         rotate_left
         ·rw [if_neg c87] at H
          exact absurd H q126t
         rw [if_pos c87] at H
         have xw : decide (0 ≤ fz) = true := decide_eq_true c87
         clear c87
         obtain ⟨zu, um, H⟩ := bnd H
         try dsimp only at H
         by_cases c89 : zu = true
         ·subst c89
          rw [if_pos rfl] at H
          have H' := Aside0.mk H
          clear H
          have Hx := fb.out
          have Hy := fa.out
          have Hz := qc13 aW.out
          have HC := qf13 aW.out
          have p670 : 0 ≤ (fz : Int) := of_decide_eq_true q118t
          have q670 : fz < (aC.length : Int) := of_decide_eq_true q118t
          obtain ⟨LX, e670, te⟩ := Kd.at_int ga.out fz p670 q670
          cases e670
          replace te := hbt HB te
          replace p670 := eq_true p670
          replace q670 := eq_true q670
          go_wp2_with (first | ((with_reducible refine gate_callee (f := 38) rfl ?_); refine goesL_ (some 114) rfl rfl Tryd.func38 (by kernel_rfl) rfl #[.int .i64 (rd aC fz), .int .i64 0, .int .i64 255] rfl q66t ?_; (with_reducible refine (spec_l1In.calls (rd aC fz) 0 255 true _ um.out).mono ?_); rintro e w' ⟨rfl, ⟨nd, rfl⟩⟩; refine ⟨_, rfl, ?_⟩))
          go_roundg k4
          case measure => have := gD.out; have := vD.out; have := HK3.out; have := HK4.out; omega
          case rel => exact ⟨(wrap64 (fz + 1)), q121t, H', ⟨(by have := gD.out; have := vD.out; have := HK3.out; have := HK4.out; omega)⟩, ⟨qbk a6⟩, ⟨qbk aW⟩, ⟨q47t⟩⟩
         replace c89 := Bool.eq_false_iff.mpr c89
         subst c89
         rw [if_neg (show ¬ (false = true) by decide)] at H
         obtain rfl := Option.some.inj H
         have HD := fb.out
         have HE := fa.out
         have WZ := qc13 aW.out
         have W0 := qf13 aW.out
         have p670 : 0 ≤ (fz : Int) := of_decide_eq_true q118t
         have q670 : fz < (aC.length : Int) := of_decide_eq_true q118t
         obtain ⟨LX, e670, te⟩ := Kd.at_int ga.out fz p670 q670
         cases e670
         replace te := hbt HB te
         replace p670 := eq_true p670
         replace q670 := eq_true q670
         go_wp2_with (first | ((with_reducible refine gate_callee (f := 38) rfl ?_); refine goesL_ (some 114) rfl rfl Tryd.func38 (by kernel_rfl) rfl #[.int .i64 (rd aC fz), .int .i64 0, .int .i64 255] rfl q66t ?_; (with_reducible refine (spec_l1In.calls (rd aC fz) 0 255 false _ um.out).mono ?_); rintro e w' ⟨rfl, ⟨nd, rfl⟩⟩; refine ⟨_, rfl, ?_⟩))
         go_ret
         exact ⟨q114t, q47t⟩

end Go.Proofs.YtofpmdgndegalacDoor.QFnNodes
