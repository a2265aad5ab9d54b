/- What the functions that the law FnNodes reaches compute, as plain functions, and that the code computes just that (by a program of this session's; the library's functions by hand). No condition. -/
import Derived.Test.YtofpmdgndegalacDoorQFnNodesx0
import Derived.Test.YtofpmdgndegalacDoorQFnNodesx2
import Derived.Test.YtofpmdgndegalacDoorQFnNodesx3
import Derived.Test.YtofpmdgndegalacDoorQFnNodesx5
import Derived.Test.YtofpmdgndegalacDoorQFnNodesx6
namespace Go.Proofs.YtofpmdgndegalacDoor.QFnNodes
open Go.RowKit Go.Proofs.YtofpmdgndegalacDoorW.PrintWords Go.Proofs.YtofpmdgndegalacDoorW.PrintLast Go.Proofs.YtofpmdgndegalacDoorW.PrintMore
attribute [local go_sem] max2_int min2_int max_two min_two max_three min_three max_four min_four   -- for this text's walks alone
set_option linter.unusedVariables false
set_option linter.unusedSimpArgs false

/-! ### spec_DrawThingOk: function 6 -/
mutual
def spec_DrawThingOk.j0 : Nat → Bool → List Int → Int → Int → Int → Int → Int → Int → Int → Int → Int → Int → Int → Option (Int × Int × Int × Int × Int × Int × Int × Int × Int)
 | 0, _, _, _, _, _, _, _, _, _, _, _, _, _ => none
 | k + 1, x25, Jl, Jm, Jn, rK, rL, rM, rN, rO, rP, xR, xS, xT => if x25 = true then ((spec_l7Thing.f k Jl Jm Jn rK rL rM rN rO rP).bind fun xU => (spec_DrawThingOk.j1 k rK rL rM rN rO rP xU.1 xU.2.1 xU.2.2.1)) else (spec_DrawThingOk.j1 k rK rL rM rN rO rP xR xS xT)
def spec_DrawThingOk.j1 : Nat → Int → Int → Int → Int → Int → Int → Int → Int → Int → Option (Int × Int × Int × Int × Int × Int × Int × Int × Int)
 | 0, _, _, _, _, _, _, _, _, _ => none
 | k + 1, rK, rL, rM, rN, rO, rP, xR, xS, xT => some (rK, rL, rM, rN, rO, rP, xR, xS, xT)
end
def spec_DrawThingOk.f (k : Nat) (l0 : List Int) : Option (Int × Int × Int × Int × Int × Int × Int × Int × Int) := (spec_l1New.f k l0).bind fun fl => ((spec_l3Any.f k fl.1 fl.2.1 fl.2.2).bind fun cp => ((spec_l1Below.f fl.1 cp.2.2.2.2.2.2.1 cp.2.2.2.2.2.2.2 100).bind fun mc => ((spec_l1Below.f fl.1 mc.2.1 mc.2.2 20).bind fun me => ((spec_l1Below.f fl.1 me.2.1 me.2.2 3).bind fun iK => ((spec_ConfOk.f cp.1 cp.2.1 cp.2.2.1 cp.2.2.2.1 cp.2.2.2.2.1 cp.2.2.2.2.2.1).bind fun rQ => (if rQ = true then ((spec_l1Once.f fl.1 iK.2.1 iK.2.2 4).bind fun o7 => (spec_DrawThingOk.j0 k (!o7.1) fl.1 o7.2.1 o7.2.2 cp.1 cp.2.1 cp.2.2.1 cp.2.2.2.1 cp.2.2.2.2.1 cp.2.2.2.2.2.1 (wrap64 (mc.1 - 1)) me.1 iK.1)) else (spec_DrawThingOk.j0 k false fl.1 iK.2.1 iK.2.2 cp.1 cp.2.1 cp.2.2.1 cp.2.2.2.1 cp.2.2.2.2.1 cp.2.2.2.2.2.1 (wrap64 (mc.1 - 1)) me.1 iK.1)))))))
set_option maxHeartbeats 8000000 in
set_option maxRecDepth 100000 in
theorem spec_DrawThingOk.calls (k : Nat) (A0 : Option Addr) (c0 : Nat) (l0 : List Int) (r1 : Int) (r2 : Int) (r3 : Int) (r4 : Int) (r5 : Int) (r6 : Int) (r7 : Int) (r8 : Int) (r9 : Int) (w : World) (hr0 : Kd.C (Kd.int .u8) w A0 l0.length l0) (hc0 : l0.length ≤ c0) (h : spec_DrawThingOk.f k l0 = some (r1, r2, r3, r4, r5, r6, r7, r8, r9)) :
  Calls Tryd.prog 6 #[.slice A0 l0.length c0] w fun e w' => e = .returned (.tuple #[.agg #[r1, r2, r3, r4, r5, r6], .agg #[r7, r8, r9]]) ∧ Below w.heap.size w w' := by
 have hu25 := Tryd.underlying25
 have hu33 := Tryd.underlying33
 have bX := Aside0.mk hr0
 have d0 := Aside0.mk hc0
 clear hr0 hc0
 have HB := am (Below.refl w.heap.size w)
 have H : ((spec_l1New.f k l0).bind fun fl => ((spec_l3Any.f k fl.1 fl.2.1 fl.2.2).bind fun cp => ((spec_l1Below.f fl.1 cp.2.2.2.2.2.2.1 cp.2.2.2.2.2.2.2 100).bind fun mc => ((spec_l1Below.f fl.1 mc.2.1 mc.2.2 20).bind fun me => ((spec_l1Below.f fl.1 me.2.1 me.2.2 3).bind fun iK => ((spec_ConfOk.f cp.1 cp.2.1 cp.2.2.1 cp.2.2.2.1 cp.2.2.2.2.1 cp.2.2.2.2.2.1).bind fun rQ => (if rQ = true then ((spec_l1Once.f fl.1 iK.2.1 iK.2.2 4).bind fun o7 => (spec_DrawThingOk.j0 k (!o7.1) fl.1 o7.2.1 o7.2.2 cp.1 cp.2.1 cp.2.2.1 cp.2.2.2.1 cp.2.2.2.2.1 cp.2.2.2.2.2.1 (wrap64 (mc.1 - 1)) me.1 iK.1)) else (spec_DrawThingOk.j0 k false fl.1 iK.2.1 iK.2.2 cp.1 cp.2.1 cp.2.2.1 cp.2.2.2.1 cp.2.2.2.2.1 cp.2.2.2.2.2.1 (wrap64 (mc.1 - 1)) me.1 iK.1)))))))) = some (r1, r2, r3, r4, r5, r6, r7, r8, r9) := h
 clear h
 obtain ⟨⟨gZ, Dq, Dr⟩, A2, H⟩ := bnd H
 try dsimp only at H
 obtain ⟨⟨g0, g1, g2, g3, g4, g5, uB, uC⟩, A3, H⟩ := bnd H
 try dsimp only at H
 obtain ⟨⟨p8, Ds, Dt⟩, A4, H⟩ := bnd H
 try dsimp only at H
 obtain ⟨⟨p9, Du, Dv⟩, A5, H⟩ := bnd H
 try dsimp only at H
 obtain ⟨⟨qa, o8, o9⟩, A6, H⟩ := bnd H
 try dsimp only at H
 have pa := Aside0.mk H
 clear H
 go_enter Tryd.func6, Tryd.ntmps6
 go_upto_region 4 with (first | ((with_reducible refine gate_dst (N := 2) rfl ?_); refine box_ev 2 #[.int .i64 0, .int .i64 0, .int .i64 0, .int .i64 0, .int .i64 0, .int .i64 0] 25 ?_; intro e4 hg w8 hbox hb; have bB := am (hbox); have Rf := am ((q63t : w.heap.size ≤ e4)); have Rg := am ((q63t : w.heap.size ≤ e4)); replace HB := am (below_step q68t hb); clear hb hbox hg) | ((with_reducible refine gate_dst (N := 3) rfl ?_); refine box_ev 3 #[.int .i64 0, .int .i64 0, .int .i64 0] 33 ?_; intro f7 hg w9 hbox hb; have bZ := am (hbox); have Rh := am ((q41t : w.heap.size ≤ f7)); have Ri := am ((q41t : w.heap.size ≤ f7)); replace HB := am (below_step q47t hb); have mf := am ((by rw [hg]; exact Nat.ne_of_lt (blk_lt (qbk bB)) : e4 ≠ f7)); have mg := am ((by rw [hg]; exact Nat.ne_of_gt (blk_lt (qbk bB)) : f7 ≠ e4)); replace bB := blb bB hb; clear hb hbox hg) | ((with_reducible refine gate_callee (f := 22) rfl ?_); refine goesL_ (some 8) rfl rfl Tryd.func22 (by kernel_rfl) rfl #[.slice A0 l0.length c0] rfl q66t ?_; (with_reducible refine (spec_l1New.calls k _ _ l0 gZ Dq Dr w _ ?side1 ?side2 ?side3 A2.out).mono ?_); (case side1 => repeat (first | (with_reducible first | exact HB.out | apply below_alloc | apply pw_below_drewN | apply below_drew1 | refine below_set ?_ (Aside0.out q123t)) | exact HB.out)); (case side2 => exact bX.out); (case side3 => exact d0.out); rintro e w10 ⟨g410, rfl, hi, hb, hb2⟩; refine ⟨_, rfl, ?_⟩; replace HB := am (hb); have b7 := am (hi); have Rj := am (IsS69.ne_blk hi (blk_below (qbk bB) hb2) q125t); have qb := am (Ne.symm (IsS69.ne_blk hi (blk_below (qbk bB) hb2) q125t)); replace bB := am (blk_below (qbk bB) hb2); have Rk := am (IsS69.ne_blk hi (blk_below (qbk bZ) hb2) q125t); have qc := am (Ne.symm (IsS69.ne_blk hi (blk_below (qbk bZ) hb2) q125t)); replace bZ := am (blk_below (qbk bZ) hb2); (try clear hb); (try clear hb2); (try clear hk); (try clear hi)) | ((with_reducible refine gate_callee (f := 25) rfl ?_); refine goesL_ (some 10) rfl rfl Tryd.func25 (by kernel_rfl) rfl #[.pointer (some ⟨g410, 0, none⟩)] rfl q66t ?_; (with_reducible refine (spec_l3Any.calls k g410 gZ Dq Dr g0 g1 g2 g3 g4 g5 uB uC w _ ?side1 ?side2 A3.out).mono ?_); (case side1 => repeat (first | (with_reducible first | exact b7.out | apply IsS69.alloc | apply IsS69.drewN | apply IsS69.drew | apply IsS69.set_1 | apply IsS69.set_2 | refine IsS69.far ?_ (Aside0.out q123t) _) | exact b7.out)); (case side2 => repeat (first | (with_reducible first | exact HB.out | apply below_alloc | apply pw_below_drewN | apply below_drew1 | refine below_set ?_ (IsS69.ge b7.out) | refine below_set ?_ (Aside0.out q123t)) | exact HB.out)); rintro e w11 ⟨rfl, hi, hb, hk⟩; refine ⟨_, rfl, ?_⟩; replace bB := kbb bB hk qb.out q126t; replace bZ := kbb bZ hk qc.out q126t; replace HB := am (hb); replace b7 := am (hi); (try clear hb); (try clear hb2); (try clear hk); (try clear hi)) | ((with_reducible refine gate_dst (N := 5) rfl ?_); refine box_ev 5 #[.int .i64 0, .int .i64 0, .int .i64 0, .int .i64 0, .int .i64 0, .int .i64 0] 25 ?_; intro e5 hg w12 hbox hb; have cI := am (hbox); have Rl := am ((q16t : w.heap.size ≤ e5)); have Rm := am ((q16t : w.heap.size ≤ e5)); replace HB := am (below_step q35t hb); have kW := am ((by rw [hg]; exact Nat.ne_of_lt (blk_lt (qbk bB)) : e4 ≠ e5)); have kX := am ((by rw [hg]; exact Nat.ne_of_gt (blk_lt (qbk bB)) : e5 ≠ e4)); replace bB := blb bB hb; have pb := am ((by rw [hg]; exact Nat.ne_of_lt (blk_lt (qbk bZ)) : f7 ≠ e5)); have pc := am ((by rw [hg]; exact Nat.ne_of_gt (blk_lt (qbk bZ)) : e5 ≠ f7)); replace bZ := blb bZ hb; have uD := am ((by rw [hg]; exact Nat.ne_of_lt (IsS69.lt (show IsS69 w _ g410 gZ uB uC from by repeat (first | (with_reducible first | exact b7.out | apply IsS69.alloc | apply IsS69.drewN | apply IsS69.drew | apply IsS69.set_1 | apply IsS69.set_2 | refine IsS69.far ?_ (Aside0.out q123t) _) | exact b7.out))) : g410 ≠ e5)); have mh := am ((by rw [hg]; exact Nat.ne_of_gt (IsS69.lt (show IsS69 w _ g410 gZ uB uC from by repeat (first | (with_reducible first | exact b7.out | apply IsS69.alloc | apply IsS69.drewN | apply IsS69.drew | apply IsS69.set_1 | apply IsS69.set_2 | refine IsS69.far ?_ (Aside0.out q123t) _) | exact b7.out))) : e5 ≠ g410)); replace b7 := am (IsS69.below q32t hb); clear hb hbox hg; have wU := kX.out; have wV := kW.out; have wW := pc.out; have wX := pb.out; have wY := mh.out; have wZ := uD.out; have lZ := qc6 cI.out; have l3 := qf6 cI.out) | ((with_reducible refine gate_callee (f := 26) rfl ?_); refine goesL_ (some 12) rfl rfl Tryd.func26 (by kernel_rfl) rfl #[.pointer (some ⟨g410, 0, none⟩), .int .i64 100] rfl q66t ?_; (with_reducible refine (spec_l1Below.calls g410 gZ uB uC 100 p8 Ds Dt w _ ?side1 ?side2 A4.out).mono ?_); (case side1 => repeat (first | (with_reducible first | exact b7.out | apply IsS69.alloc | apply IsS69.drewN | apply IsS69.drew | apply IsS69.set_1 | apply IsS69.set_2 | refine IsS69.far ?_ (Aside0.out q123t) _) | exact b7.out)); (case side2 => repeat (first | (with_reducible first | exact HB.out | apply below_alloc | apply pw_below_drewN | apply below_drew1 | refine below_set ?_ (IsS69.ge b7.out) | refine below_set ?_ (Aside0.out q123t)) | exact HB.out)); rintro e w17 ⟨rfl, hi, hb, hk⟩; refine ⟨_, rfl, ?_⟩; replace bB := am (KeepBut.blk hk (g' := e4) (o := .cells #[.int .i64 0, .int .i64 0, .int .i64 0, .int .i64 0, .int .i64 0, .int .i64 0] 25 (0, 0)) (qbf bB) qb.out q126t); replace bZ := am (KeepBut.blk hk (g' := f7) (o := .cells #[.int .i64 0, .int .i64 0, .int .i64 0] 33 (0, 0)) (qbf bZ) qc.out q126t); replace cI := kbp cI hk mh.out q126t; replace HB := am (hb); replace b7 := am (hi); (try clear hb); (try clear hb2); (try clear hk); (try clear hi)) | ((with_reducible refine gate_callee (f := 26) rfl ?_); refine goesL_ (some 15) rfl rfl Tryd.func26 (by kernel_rfl) rfl #[.pointer (some ⟨g410, 0, none⟩), .int .i64 20] rfl q66t ?_; (with_reducible refine (spec_l1Below.calls g410 gZ Ds Dt 20 p9 Du Dv w _ ?side1 ?side2 A5.out).mono ?_); (case side1 => repeat (first | (with_reducible first | exact b7.out | apply IsS69.alloc | apply IsS69.drewN | apply IsS69.drew | apply IsS69.set_1 | apply IsS69.set_2 | refine IsS69.far ?_ (Aside0.out q123t) _) | exact b7.out)); (case side2 => repeat (first | (with_reducible first | exact HB.out | apply below_alloc | apply pw_below_drewN | apply below_drew1 | refine below_set ?_ (IsS69.ge b7.out) | refine below_set ?_ (Aside0.out q123t)) | exact HB.out)); rintro e w18 ⟨rfl, hi, hb, hk⟩; refine ⟨_, rfl, ?_⟩; replace bB := kbb bB hk qb.out q126t; replace bZ := kbb bZ hk qc.out q126t; replace cI := kbb cI hk mh.out q126t; replace HB := am (hb); replace b7 := am (hi); (try clear hb); (try clear hb2); (try clear hk); (try clear hi)) | ((with_reducible refine gate_callee (f := 26) rfl ?_); refine goesL_ (some 17) rfl rfl Tryd.func26 (by kernel_rfl) rfl #[.pointer (some ⟨g410, 0, none⟩), .int .i64 3] rfl q66t ?_; (with_reducible refine (spec_l1Below.calls g410 gZ Du Dv 3 qa o8 o9 w _ ?side1 ?side2 A6.out).mono ?_); (case side1 => repeat (first | (with_reducible first | exact b7.out | apply IsS69.alloc | apply IsS69.drewN | apply IsS69.drew | apply IsS69.set_1 | apply IsS69.set_2 | refine IsS69.far ?_ (Aside0.out q123t) _) | exact b7.out)); (case side2 => repeat (first | (with_reducible first | exact HB.out | apply below_alloc | apply pw_below_drewN | apply below_drew1 | refine below_set ?_ (IsS69.ge b7.out) | refine below_set ?_ (Aside0.out q123t)) | exact HB.out)); rintro e w19 ⟨rfl, hi, hb, hk⟩; refine ⟨_, rfl, ?_⟩; replace bB := kbb bB hk qb.out q126t; replace bZ := kbb bZ hk qc.out q126t; replace cI := kbb cI hk mh.out q126t; replace HB := am (hb); replace b7 := am (hi); (try clear hb); (try clear hb2); (try clear hk); (try clear hi)) | ((with_reducible refine gate_dst (N := 6) rfl ?_); refine box_ev 6 #[.int .i64 0, .int .i64 0, .int .i64 0] 33 ?_; intro eV hg w20 hbox hb; have eH := am (hbox); have Rn := am ((q16t : w.heap.size ≤ eV)); have Ro := am ((q16t : w.heap.size ≤ eV)); replace HB := am (below_step q35t hb); have nI := am ((by rw [hg]; exact Nat.ne_of_lt (blk_lt (qbk bB)) : e4 ≠ eV)); have nJ := am ((by rw [hg]; exact Nat.ne_of_gt (blk_lt (qbk bB)) : eV ≠ e4)); replace bB := blb bB hb; have rR := am ((by rw [hg]; exact Nat.ne_of_lt (blk_lt (qbk bZ)) : f7 ≠ eV)); have rS := am ((by rw [hg]; exact Nat.ne_of_gt (blk_lt (qbk bZ)) : eV ≠ f7)); replace bZ := blb bZ hb; have uE := am ((by rw [hg]; exact Nat.ne_of_lt (blk_lt (qbk cI)) : e5 ≠ eV)); have uF := am ((by rw [hg]; exact Nat.ne_of_gt (blk_lt (qbk cI)) : eV ≠ e5)); replace cI := blb cI hb; have Dw := am ((by rw [hg]; exact Nat.ne_of_lt (IsS69.lt (show IsS69 w _ g410 gZ o8 o9 from by repeat (first | (with_reducible first | exact b7.out | apply IsS69.alloc | apply IsS69.drewN | apply IsS69.drew | apply IsS69.set_1 | apply IsS69.set_2 | refine IsS69.far ?_ (Aside0.out q123t) _) | exact b7.out))) : g410 ≠ eV)); have uG := am ((by rw [hg]; exact Nat.ne_of_gt (IsS69.lt (show IsS69 w _ g410 gZ o8 o9 from by repeat (first | (with_reducible first | exact b7.out | apply IsS69.alloc | apply IsS69.drewN | apply IsS69.drew | apply IsS69.set_1 | apply IsS69.set_2 | refine IsS69.far ?_ (Aside0.out q123t) _) | exact b7.out))) : eV ≠ g410)); replace b7 := am (IsS69.below q32t hb); clear hb hbox hg; have tJ := nJ.out; have tK := nI.out; have Dx := rS.out; have Dy := rR.out; have Dz := uF.out; have DA := uE.out; have Ij := uG.out; have Ik := Dw.out; have lV := qc3 eH.out; have lW := qf3 eH.out))
 (try simp only [Act.put, List.setIfInBounds_toArray, List.set_cons_zero, List.set_cons_succ])
 go_cut [25] (fun v25 wc => ∃ (kq : Nat) (uH : Bool) (uI : Int) (uJ : Int), v25 = .bool uH ∧ Aside0 (spec_DrawThingOk.j0 kq uH gZ uI uJ g0 g1 g2 g3 g4 g5 (wrap64 (p8 - 1)) p9 qa = some (r1, r2, r3, r4, r5, r6, r7, r8, r9)) ∧ Aside0 (kq ≤ k) ∧ Aside0 (wc.heap[e4]? = some (.cells #[.int .i64 0, .int .i64 0, .int .i64 0, .int .i64 0, .int .i64 0, .int .i64 0] 25 (0, 0))) ∧ Aside0 (wc.heap[f7]? = some (.cells #[.int .i64 0, .int .i64 0, .int .i64 0] 33 (0, 0))) ∧ Aside0 (wc.heap[e5]? = some (.cells #[g0, g1, g2, g3, g4, g5] 25 (0, 0))) ∧ Aside0 (wc.heap[eV]? = some (.cells #[(wrap64 (p8 - 1)), p9, qa] 33 (0, 0))) ∧ Aside0 (IsS69 w wc g410 gZ uI uJ) ∧ Aside0 (Below w.heap.size w wc))
 case first =>
  have H := pa.out
  clear pa
  obtain ⟨rQ, DB, H⟩ := bnd H
  try dsimp only at H
  by_cases c27 : rQ = true
  ·subst c27
   rw [if_pos rfl] at H
   obtain ⟨⟨DC, DD, DE⟩, Jo, H⟩ := bnd H
   try dsimp only at H
   have H' := Aside0.mk H
   clear H
   have uK := kX.out
   have uL := kW.out
   have uM := pc.out
   have uN := pb.out
   have wt := uE.out
   have wu := uF.out
   have qZ := mh.out
   have q0 := uD.out
   have mi := qc6 cI.out
   have kY := qf6 cI.out
   go_wp2_with (first | ((with_reducible refine gate_callee (f := 27) rfl ?_); refine goesL_ (some 20) rfl rfl Tryd.func27 (by kernel_rfl) rfl #[.agg #[g0, g1, g2, g3, g4, g5]] rfl q66t ?_; (with_reducible refine (spec_ConfOk.calls g0 g1 g2 g3 g4 g5 true _ DB.out).mono ?_); rintro e w34 ⟨rfl, hb⟩; refine ⟨_, rfl, ?_⟩; replace bB := am (blk_below (g := e4) (o := .cells #[.int .i64 0, .int .i64 0, .int .i64 0, .int .i64 0, .int .i64 0, .int .i64 0] 25 (0, 0)) (qbf bB) hb); replace bZ := am (blk_below (g := f7) (o := .cells #[.int .i64 0, .int .i64 0, .int .i64 0] 33 (0, 0)) (qbf bZ) hb); replace cI := am (blk_below (g := e5) (o := .cells #[g0, g1, g2, g3, g4, g5] 25 (0, 0)) (qbf cI) hb); replace eH := blp eH hb; replace HB := am (below_step q35t hb); replace b7 := am (IsS69.below (show IsS69 w (((w20.setCell ⟨eV, 0, none⟩ (.int .i64 (wrap64 (p8 - 1)))).setCell ⟨eV, 1, none⟩ (.int .i64 p9)).setCell ⟨eV, 2, none⟩ (.int .i64 qa)) g410 gZ o8 o9 from by repeat (first | (with_reducible first | exact b7.out | apply IsS69.alloc | apply IsS69.drewN | apply IsS69.drew | apply IsS69.set_1 | apply IsS69.set_2 | refine IsS69.far ?_ (Aside0.out q123t) _) | exact b7.out)) hb); (try clear hb); (try clear hb2); (try clear hk); (try clear hi)) | (go_at_call 28; (with_reducible refine (spec_l1Once.calls g410 gZ o8 o9 4 DC DD DE w _ ?side1 ?side2 Jo.out).mono ?_); (case side1 => repeat (first | (with_reducible first | exact b7.out | apply IsS69.alloc | apply IsS69.drewN | apply IsS69.drew | apply IsS69.set_1 | apply IsS69.set_2 | refine IsS69.far ?_ (Aside0.out q123t) _) | exact b7.out)); (case side2 => repeat (first | (with_reducible first | exact HB.out | apply below_alloc | apply pw_below_drewN | apply below_drew1 | refine below_set ?_ (IsS69.ge b7.out) | refine below_set ?_ (Aside0.out q123t)) | exact HB.out)); rintro e w35 ⟨rfl, hi, hb, hk⟩; replace bB := kbb bB hk qb.out q126t; replace bZ := kbb bZ hk qc.out q126t; replace cI := kbb cI hk mh.out q126t; replace eH := kbb eH hk uG.out q126t; replace HB := am (hb); replace b7 := am (hi); (try clear hb); (try clear hb2); (try clear hk); (try clear hi)))
   go_meet
   case rel => exact ⟨_, (!DC), (DD), (DE), q121t, H', ⟨q122t⟩, ⟨qbk bB⟩, ⟨qbk bZ⟩, ⟨qbk cI⟩, ⟨qbk eH⟩, ⟨q32t⟩, ⟨q35t⟩⟩
  replace c27 := Bool.eq_false_iff.mpr c27
  subst c27
  rw [if_neg (show ¬ (false = true) by decide)] at H
  have H' := Aside0.mk H
  clear H
  have xe := kX.out
  have xf := kW.out
  have xH := pc.out
  have xI := pb.out
  have Jp := uE.out
  have Jq := uF.out
  have G3 := mh.out
  have G4 := uD.out
  have rT := qc6 cI.out
  have rU := qf6 cI.out
  go_wp2_with (first | ((with_reducible refine gate_callee (f := 27) rfl ?_); refine goesL_ (some 20) rfl rfl Tryd.func27 (by kernel_rfl) rfl #[.agg #[g0, g1, g2, g3, g4, g5]] rfl q66t ?_; (with_reducible refine (spec_ConfOk.calls g0 g1 g2 g3 g4 g5 false _ DB.out).mono ?_); rintro e w41 ⟨rfl, hb⟩; refine ⟨_, rfl, ?_⟩; replace bB := am (blk_below (g := e4) (o := .cells #[.int .i64 0, .int .i64 0, .int .i64 0, .int .i64 0, .int .i64 0, .int .i64 0] 25 (0, 0)) (qbf bB) hb); replace bZ := am (blk_below (g := f7) (o := .cells #[.int .i64 0, .int .i64 0, .int .i64 0] 33 (0, 0)) (qbf bZ) hb); replace cI := am (blk_below (g := e5) (o := .cells #[g0, g1, g2, g3, g4, g5] 25 (0, 0)) (qbf cI) hb); replace eH := blp eH hb; replace HB := am (below_step q35t hb); replace b7 := am (IsS69.below (show IsS69 w (((w20.setCell ⟨eV, 0, none⟩ (.int .i64 (wrap64 (p8 - 1)))).setCell ⟨eV, 1, none⟩ (.int .i64 p9)).setCell ⟨eV, 2, none⟩ (.int .i64 qa)) g410 gZ o8 o9 from by repeat (first | (with_reducible first | exact b7.out | apply IsS69.alloc | apply IsS69.drewN | apply IsS69.drew | apply IsS69.set_1 | apply IsS69.set_2 | refine IsS69.far ?_ (Aside0.out q123t) _) | exact b7.out)) hb); (try clear hb); (try clear hb2); (try clear hk); (try clear hi)))
  go_meet
  case rel => exact ⟨_, (false), (o8), (o9), q121t, H', ⟨q122t⟩, ⟨qbk bB⟩, ⟨qbk bZ⟩, ⟨qbk cI⟩, ⟨qbk eH⟩, ⟨q32t⟩, ⟨q35t⟩⟩
 case rest =>
  clear pa
  try clear c1
  try clear c2
  try clear p2
  try clear c3
  try clear c6
  try clear p6
  try clear c13
  try clear c14
  try clear c15
  try clear c21
  try clear c22
  try clear c23
  try clear c24
  try clear c25
  try clear c26
  try clear c27
  try clear c29
  try clear c30
  try clear c31
  try clear c32
  try clear c36
  try clear c37
  try clear c38
  try clear c39
  try clear lZ
  try clear lV
  try clear mi
  try clear rT
  try clear l3
  try clear lW
  try clear kY
  try clear rU
  obtain ⟨kq, uH, uI, uJ, rfl, HA, xV, bB, bZ, cI, eH, b7, HB⟩ := hcut
  cases kq with
  | zero => exact absurd HA.out (by simp [spec_DrawThingOk.j0])
  | succ kj6 =>
   have H := HA.out
   clear HA
   simp only [spec_DrawThingOk.j0] at H
   have xW := Aside0.mk H
   clear H
   go_upto_if 25 with (fail)
   go_cut [] (fun wc => ∃ (kq : Nat) (rV : Int) (rW : Int) (rX : Int), Aside0 (spec_DrawThingOk.j1 kq g0 g1 g2 g3 g4 g5 rV rW rX = some (r1, r2, r3, r4, r5, r6, r7, r8, r9)) ∧ Aside0 (kq ≤ kj6) ∧ Aside0 (wc.heap[e4]? = some (.cells #[.int .i64 0, .int .i64 0, .int .i64 0, .int .i64 0, .int .i64 0, .int .i64 0] 25 (0, 0))) ∧ Aside0 (wc.heap[f7]? = some (.cells #[.int .i64 0, .int .i64 0, .int .i64 0] 33 (0, 0))) ∧ Aside0 (wc.heap[e5]? = some (.cells #[g0, g1, g2, g3, g4, g5] 25 (0, 0))) ∧ Aside0 (wc.heap[eV]? = some (.cells #[rV, rW, rX] 33 (0, 0))) ∧ Aside0 (Below w.heap.size w wc))
   case first =>
    have H := xW.out
    clear xW
    by_cases c43 : uH = true
    rotate_left
    ·replace c43 := Bool.eq_false_iff.mpr c43
     subst c43
     rw [if_neg (show ¬ (false = true) by decide)] at H
     have H' := Aside0.mk H
     clear H
     go_wp2
     go_meet
     case rel => exact ⟨_, ((wrap64 (p8 - 1))), (p9), (qa), H', ⟨(by have := xV.out; first | omega | exact Nat.le_refl _)⟩, ⟨qbk bB⟩, ⟨qbk bZ⟩, ⟨qbk cI⟩, ⟨qbk eH⟩, ⟨q35t⟩⟩
    subst c43
    rw [if_pos rfl] at H
    obtain ⟨⟨DF, DG, DH, Jr, Js⟩, Jt, H⟩ := bnd H
    try dsimp only at H
    have H' := Aside0.mk H
    clear H
    have pQ := kX.out
    have pR := kW.out
    have ue := pc.out
    have uf := pb.out
    have wB := uE.out
    have wC := uF.out
    have Bx := mh.out
    have By := uD.out
    have pd := qc6 cI.out
    have nK := qf6 cI.out
    go_wp2_with (first | ((with_reducible refine gate_callee (f := 29) rfl ?_); refine goesL_ (some 28) rfl rfl Tryd.func29 (by kernel_rfl) rfl #[.pointer (some ⟨g410, 0, none⟩), .agg #[g0, g1, g2, g3, g4, g5]] rfl q66t ?_; (with_reducible refine (spec_l7Thing.calls kj6 g410 gZ uI uJ g0 g1 g2 g3 g4 g5 DF DG DH Jr Js w _ ?side1 ?side2 Jt.out).mono ?_); (case side1 => repeat (first | (with_reducible first | exact b7.out | apply IsS69.alloc | apply IsS69.drewN | apply IsS69.drew | apply IsS69.set_1 | apply IsS69.set_2 | refine IsS69.far ?_ (Aside0.out q123t) _) | exact b7.out)); (case side2 => repeat (first | (with_reducible first | exact HB.out | apply below_alloc | apply pw_below_drewN | apply below_drew1 | refine below_set ?_ (IsS69.ge b7.out) | refine below_set ?_ (Aside0.out q123t)) | exact HB.out)); rintro e w50 ⟨rfl, hi, hb, hk⟩; refine ⟨_, rfl, ?_⟩; replace bB := kbb bB hk qb.out q126t; replace bZ := kbb bZ hk qc.out q126t; replace cI := kbb cI hk mh.out q126t; replace eH := kbb eH hk uG.out q126t; replace HB := am (hb); replace b7 := am (hi); (try clear hb); (try clear hb2); (try clear hk); (try clear hi); have tU := nJ.out; have tV := nI.out; have Bz := rS.out; have BA := rR.out; have DI := uG.out; have DJ := Dw.out; have pe := qc3 eH.out; have nL := qf3 eH.out))
    go_meet
    case rel => exact ⟨_, (DF), (DG), (DH), H', ⟨(by have := xV.out; first | omega | exact Nat.le_refl _)⟩, ⟨(qbf bB)⟩, ⟨(qbf bZ)⟩, ⟨(qbf cI)⟩, ⟨qbp eH⟩, ⟨q35t⟩⟩
   case rest =>
    clear xW
    try clear c1
    try clear c2
    try clear p2
    try clear p2
    try clear c3
    try clear c4
    try clear c5
    try clear c6
    try clear p6
    try clear p6
    try clear c13
    try clear c14
    try clear c15
    try clear c21
    try clear c22
    try clear c23
    try clear c24
    try clear c25
    try clear c26
    try clear c27
    try clear c29
    try clear c30
    try clear c31
    try clear c32
    try clear c36
    try clear c37
    try clear c38
    try clear c39
    try clear c43
    try clear c45
    try clear c46
    try clear c47
    try clear c48
    try clear c51
    try clear c52
    try clear c53
    try clear lZ
    try clear lV
    try clear mi
    try clear rT
    try clear pd
    try clear pe
    try clear l3
    try clear lW
    try clear kY
    try clear rU
    try clear nK
    try clear nL
    obtain ⟨kq, rV, rW, rX, HA, Rp, bB, bZ, cI, eH, HB⟩ := hcut
    cases kq with
    | zero => exact absurd HA.out (by simp [spec_DrawThingOk.j1])
    | succ kj41 =>
     have H := HA.out
     clear HA
     simp only [spec_DrawThingOk.j1] at H
     simp only [Option.some.injEq, Prod.mk.injEq] at H
     obtain ⟨rfl, rfl, rfl, rfl, rfl, rfl, rfl, rfl, rfl⟩ := H
     try go_wp2
     (try (rw [drewN_self wc]; generalize hq_ : World.drewN wc _ = wc; have hh_ := congrArg World.heap hq_; dsimp only [World.drewN] at hh_; have zb_ : Below w.heap.size w wc := (by rw [← hq_]; exact pw_below_drewN HB.out _); have z_ := bB.out; rw [hh_] at z_; clear bB; have bB := Aside0.mk z_; clear z_; have z_ := bZ.out; rw [hh_] at z_; clear bZ; have bZ := Aside0.mk z_; clear z_; have z_ := cI.out; rw [hh_] at z_; clear cI; have cI := Aside0.mk z_; clear z_; have z_ := eH.out; rw [hh_] at z_; clear eH; have eH := Aside0.mk z_; clear z_; clear HB; have HB := Aside0.mk zb_; clear zb_ hh_ hq_))
     replace bB := am (blk_drew bB.out)
     replace bZ := am (blk_drew bZ.out)
     replace cI := am (blk_drew cI.out)
     replace eH := am (blk_drew eH.out)
     replace HB := am (below_drew1 HB.out)
     refine start_ (n := 4) (S := fun w' => w'.cell? ⟨e5, 0, none⟩ = some (.int .i64 g0) ∧ w'.cell? ⟨e5, 1, none⟩ = some (.int .i64 g1) ∧ w'.cell? ⟨e5, 2, none⟩ = some (.int .i64 g2) ∧ w'.cell? ⟨e5, 3, none⟩ = some (.int .i64 g3) ∧ w'.cell? ⟨e5, 4, none⟩ = some (.int .i64 g4) ∧ w'.cell? ⟨e5, 5, none⟩ = some (.int .i64 g5) ∧ w'.cell? ⟨eV, 0, none⟩ = some (.int .i64 rV) ∧ w'.cell? ⟨eV, 1, none⟩ = some (.int .i64 rW) ∧ w'.cell? ⟨eV, 2, none⟩ = some (.int .i64 rX)) (ds := []) (bm 4 0) (by kernel_rfl) rfl (by kernel_rfl) qst (fun hHeld => ?_)
     generalize wc.drew = w55 at bB bZ cI eH HB hHeld ⊢
     refine tk_ 0 (some 29) (bm 4 1) (by kernel_rfl) hHeld ?_
     refine tk_ 1 (some 30) (bm 4 3) (by kernel_rfl) hHeld ?_
     refine one_ (i := 2) (N := none) (bm 4 7) rfl rfl (by kernel_rfl) q125t (fun K hK => ?_)
     have hs56 : w55.cell? ⟨e4, 0, none⟩ = some (.int .i64 0) := (blk_cell bB.out 0).trans rfl
     have hfs56 := blk_frozen bB.out 0
     have Rq := mg.out
     have Rs := kX.out
     have Rt := nJ.out
     have Ru := mf.out
     have Rv := kW.out
     have Rw := nI.out
     have hs57 : w55.cell? ⟨e4, 1, none⟩ = some (.int .i64 0) := (blk_cell bB.out 1).trans rfl
     have hfs57 := blk_frozen bB.out 1
     have Rx := mg.out
     have Ry := kX.out
     have Rz := nJ.out
     have RA := mf.out
     have RB := kW.out
     have RC := nI.out
     have hs58 : w55.cell? ⟨e4, 2, none⟩ = some (.int .i64 0) := (blk_cell bB.out 2).trans rfl
     have hfs58 := blk_frozen bB.out 2
     have Iw := mg.out
     have RD := kX.out
     have RE := nJ.out
     have Ix := mf.out
     have RF := kW.out
     have RG := nI.out
     have hs59 : w55.cell? ⟨e4, 3, none⟩ = some (.int .i64 0) := (blk_cell bB.out 3).trans rfl
     have hfs59 := blk_frozen bB.out 3
     have RH := mg.out
     have RI := kX.out
     have RJ := nJ.out
     have RK := mf.out
     have RL := kW.out
     have RM := nI.out
     have hs60 : w55.cell? ⟨e4, 4, none⟩ = some (.int .i64 0) := (blk_cell bB.out 4).trans rfl
     have hfs60 := blk_frozen bB.out 4
     have RN := mg.out
     have RO := kX.out
     have RP := nJ.out
     have RQ := mf.out
     have RR := kW.out
     have RS := nI.out
     have hs61 : w55.cell? ⟨e4, 5, none⟩ = some (.int .i64 0) := (blk_cell bB.out 5).trans rfl
     have hfs61 := blk_frozen bB.out 5
     have RT := mg.out
     have RU := kX.out
     have RV := nJ.out
     have RW := mf.out
     have RX := kW.out
     have RY := nI.out
     refine skip_ (w1 := ?_) q127t rfl ?_ ?_
     rotate_left
     ·go_simp
      rfl
     refine hK.out _ _ qcf (fun hHeld => ?_)
     clear hK K
     refine one_ (i := 3) (N := none) (bm 4 15) rfl rfl (by kernel_rfl) q125t (fun K hK => ?_)
     have hs62 : w55.cell? ⟨f7, 0, none⟩ = some (.int .i64 0) := (blk_cell bZ.out 0).trans rfl
     have hfs62 := blk_frozen bZ.out 0
     have RZ := mf.out
     have R0 := pc.out
     have R1 := rS.out
     have R2 := mg.out
     have R3 := pb.out
     have R4 := rR.out
     have hs63 : w55.cell? ⟨f7, 1, none⟩ = some (.int .i64 0) := (blk_cell bZ.out 1).trans rfl
     have hfs63 := blk_frozen bZ.out 1
     have R5 := mf.out
     have R6 := pc.out
     have R7 := rS.out
     have R8 := mg.out
     have R9 := pb.out
     have Sa := rR.out
     have hs64 : w55.cell? ⟨f7, 2, none⟩ = some (.int .i64 0) := (blk_cell bZ.out 2).trans rfl
     have hfs64 := blk_frozen bZ.out 2
     have Sb := mf.out
     have Ju := pc.out
     have Jv := rS.out
     have Sc := mg.out
     have Jw := pb.out
     have Jx := rR.out
     refine skip_ (w1 := ?_) q127t rfl ?_ ?_
     rotate_left
     ·go_simp
      rfl
     refine hK.out _ _ qcf (fun hHeld => ?_)
     clear hK K
     refine done_ (by kernel_rfl) ?_
     try go_wp2
     refine bodyPost_ret (results_cc rfl _ _ e4 f7 25 33 #[g0, g1, g2, g3, g4, g5] #[rV, rW, rX] (0, 0) (0, 0) _ _ rfl (qbm bB) Tryd.underlying25 rfl (by kernel_rfl) rfl (qbm bZ) Tryd.underlying33 rfl (by kernel_rfl)) rfl ?_
     exact ⟨q114t, q47t⟩

/-! ### spec_DrawBare: function 7 -/
def spec_DrawBare.f (k : Nat) (l0 : List Int) : Option (Int × Int × Int × Int × Int × Int × Int × Int × List Int × Int × Int × (List (S33)) × List Int) := (spec_l1New.f k l0).bind fun mj => ((spec_l3Conf.f mj.1 mj.2.1 mj.2.2).bind fun f8 => ((spec_l7Any.f k mj.1 f8.2.2.2.2.2.2.1 f8.2.2.2.2.2.2.2 f8.1 f8.2.1 f8.2.2.1 f8.2.2.2.1 f8.2.2.2.2.1 f8.2.2.2.2.2.1).bind fun eb => (some (eb.1, eb.2.1, eb.2.2.1, eb.2.2.2.1, eb.2.2.2.2.1, eb.2.2.2.2.2.1, eb.2.2.2.2.2.2.1, eb.2.2.2.2.2.2.2.1, eb.2.2.2.2.2.2.2.2.1, eb.2.2.2.2.2.2.2.2.2.1, eb.2.2.2.2.2.2.2.2.2.2.1, eb.2.2.2.2.2.2.2.2.2.2.2.1, eb.2.2.2.2.2.2.2.2.2.2.2.2.1))))
set_option maxHeartbeats 8000000 in
set_option maxRecDepth 100000 in
theorem spec_DrawBare.calls (k : Nat) (A0 : Option Addr) (c0 : Nat) (l0 : List Int) (r1 : Int) (r2 : Int) (r3 : Int) (r4 : Int) (r5 : Int) (r6 : Int) (r7 : Int) (r8 : Int) (r9 : List Int) (r10 : Int) (r11 : Int) (r12 : List (S33)) (r13 : List Int) (w : World) (hr0 : Kd.C (Kd.int .u8) w A0 l0.length l0) (hc0 : l0.length ≤ c0) (h : spec_DrawBare.f k l0 = some (r1, r2, r3, r4, r5, r6, r7, r8, r9, r10, r11, r12, r13)) :
  Calls Tryd.prog 7 #[.slice A0 l0.length c0] w fun e w' => ∃ v8_ v11_ v12_ : Value, e = .returned (.agg #[r1, r2, r3, r4, r5, r6, r7, r8, v8_, r10, r11, v11_, v12_]) ∧ Kd.R (Kd.int .i64) 3 w' w.heap.size (fun k_ => some k_ ≠ (v12_ : Value).ownBlock) v8_ r9 ∧ Kd.R k33 33 w' w.heap.size (fun _ => True) v11_ r12 ∧ Kd.R (Kd.int .i64) 3 w' w.heap.size (fun k_ => some k_ ≠ (v8_ : Value).ownBlock) v12_ r13 ∧ Below w.heap.size w w' := by
 have hu29 := Tryd.underlying29
 have bX := Aside0.mk hr0
 have d0 := Aside0.mk hc0
 clear hr0 hc0
 have HB := am (Below.refl w.heap.size w)
 have H : ((spec_l1New.f k l0).bind fun mj => ((spec_l3Conf.f mj.1 mj.2.1 mj.2.2).bind fun f8 => ((spec_l7Any.f k mj.1 f8.2.2.2.2.2.2.1 f8.2.2.2.2.2.2.2 f8.1 f8.2.1 f8.2.2.1 f8.2.2.2.1 f8.2.2.2.2.1 f8.2.2.2.2.2.1).bind fun eb => (some (eb.1, eb.2.1, eb.2.2.1, eb.2.2.2.1, eb.2.2.2.2.1, eb.2.2.2.2.2.1, eb.2.2.2.2.2.2.1, eb.2.2.2.2.2.2.2.1, eb.2.2.2.2.2.2.2.2.1, eb.2.2.2.2.2.2.2.2.2.1, eb.2.2.2.2.2.2.2.2.2.2.1, eb.2.2.2.2.2.2.2.2.2.2.2.1, eb.2.2.2.2.2.2.2.2.2.2.2.2.1))))) = some (r1, r2, r3, r4, r5, r6, r7, r8, r9, r10, r11, r12, r13) := h
 clear h
 obtain ⟨⟨xX, DK, DL⟩, A2, H⟩ := bnd H
 try dsimp only at H
 obtain ⟨⟨xY, xZ, ya, yb, yc, yd, DM, DN⟩, A3, H⟩ := bnd H
 try dsimp only at H
 obtain ⟨⟨DO, DP, DQ, DR, DS, DT, DU, DV, DW, DX, DY, DZ, D0, Jy, Jz⟩, A4, H⟩ := bnd H
 try dsimp only at H
 simp only [Option.some.injEq, Prod.mk.injEq] at H
 obtain ⟨rfl, rfl, rfl, rfl, rfl, rfl, rfl, rfl, rfl, rfl, rfl, rfl, rfl⟩ := H
 go_enter Tryd.func7, Tryd.ntmps7
 go_wp2_with (first | ((with_reducible refine gate_dst (N := 2) rfl ?_); refine box_ev 2 #[.int .i64 0, .int .i64 0, .int .i64 0, .int .i64 0, .int .i64 0, .int .i64 0, .int .i64 0, .int .i64 0, .slice none 0 0, .int .i64 0, .int .i64 0, .slice none 0 0, .slice none 0 0] 29 ?_; intro ye hg w5 hbox hb; have ii := am (hbox); have Sd := am ((q63t : w.heap.size ≤ ye)); have Se := am ((q63t : w.heap.size ≤ ye)); replace HB := am (below_step q68t hb); clear hb hbox hg) | ((with_reducible refine gate_callee (f := 22) rfl ?_); refine goesL_ (some 5) rfl rfl Tryd.func22 (by kernel_rfl) rfl #[.slice A0 l0.length c0] rfl q66t ?_; (with_reducible refine (spec_l1New.calls k _ _ l0 xX DK DL w _ ?side1 ?side2 ?side3 A2.out).mono ?_); (case side1 => repeat (first | (with_reducible first | exact HB.out | apply below_alloc | apply pw_below_drewN | apply below_drew1 | refine below_set ?_ (Aside0.out q123t)) | exact HB.out)); (case side2 => exact bX.out); (case side3 => exact d0.out); rintro e w6 ⟨g443, rfl, hi, hb, hb2⟩; refine ⟨_, rfl, ?_⟩; replace HB := am (hb); have lL := am (hi); have JA := am (IsS69.ne_blk hi (blk_below (qbk ii) hb2) q125t); have yf := am (Ne.symm (IsS69.ne_blk hi (blk_below (qbk ii) hb2) q125t)); replace ii := am (blk_below (qbk ii) hb2); (try clear hb); (try clear hb2); (try clear hk); (try clear hi)) | ((with_reducible refine gate_callee (f := 23) rfl ?_); refine goesL_ (some 8) rfl rfl Tryd.func23 (by kernel_rfl) rfl #[.pointer (some ⟨g443, 0, none⟩)] rfl q66t ?_; (with_reducible refine (spec_l3Conf.calls g443 xX DK DL xY xZ ya yb yc yd DM DN w _ ?side1 ?side2 A3.out).mono ?_); (case side1 => repeat (first | (with_reducible first | exact lL.out | apply IsS69.alloc | apply IsS69.drewN | apply IsS69.drew | apply IsS69.set_1 | apply IsS69.set_2 | refine IsS69.far ?_ (Aside0.out q123t) _) | exact lL.out)); (case side2 => repeat (first | (with_reducible first | exact HB.out | apply below_alloc | apply pw_below_drewN | apply below_drew1 | refine below_set ?_ (IsS69.ge lL.out) | refine below_set ?_ (Aside0.out q123t)) | exact HB.out)); rintro e w7 ⟨rfl, hi, hb, hk⟩; refine ⟨_, rfl, ?_⟩; replace ii := kbb ii hk yf.out q126t; replace HB := am (hb); replace lL := am (hi); (try clear hb); (try clear hb2); (try clear hk); (try clear hi)) | ((with_reducible refine gate_callee (f := 24) rfl ?_); refine goesL_ (some 9) rfl rfl Tryd.func24 (by kernel_rfl) rfl #[.pointer (some ⟨g443, 0, none⟩), .agg #[xY, xZ, ya, yb, yc, yd]] rfl q66t ?_; (with_reducible refine (spec_l7Any.calls k g443 xX DM DN xY xZ ya yb yc yd DO DP DQ DR DS DT DU DV DW DX DY DZ D0 Jy Jz w _ ?side1 ?side2 A4.out).mono ?_); (case side1 => repeat (first | (with_reducible first | exact lL.out | apply IsS69.alloc | apply IsS69.drewN | apply IsS69.drew | apply IsS69.set_1 | apply IsS69.set_2 | refine IsS69.far ?_ (Aside0.out q123t) _) | exact lL.out)); (case side2 => repeat (first | (with_reducible first | exact HB.out | apply below_alloc | apply pw_below_drewN | apply below_drew1 | refine below_set ?_ (IsS69.ge lL.out) | refine below_set ?_ (Aside0.out q123t)) | exact HB.out)); rintro e w8 ⟨v461, v466, v469, rfl, ho0, ho1, ho2, hi, hb, hk⟩; refine ⟨_, rfl, ?_⟩; replace ii := kbb ii hk yf.out q126t; have D1 := am (Kd.R_lower ho0 (below_size q36t)); have D2 := am (Kd.R_lower ho1 (below_size q36t)); have D3 := am (Kd.R_lower ho2 (below_size q36t)); replace HB := am (hb); replace lL := am (hi); (try clear hb); (try clear hb2); (try clear hk); (try clear hi); (try clear ho0); (try clear ho1); (try clear ho2); have vZ := yf.out; have wa := JA.out; have wS := qc13 ii.out; have wT := qf13 ii.out; obtain ⟨JB, JC, JD⟩ := Kd.R_slice D1.out; subst JD; obtain ⟨tH, tI, qH⟩ := Kd.R_slice D2.out; subst qH; obtain ⟨JE, JF, JG⟩ := Kd.R_slice D3.out; subst JG))
 refine bodyPost_ret (results_cell_row rfl _ _ ye 29 #[DO, DP, DQ, DR, DS, DT, DU, DV, .slice JB DW.length JC, DX, DY, .slice tH DZ.length tI, .slice JE D0.length JF] (0, 0) _ rfl (qbp ii) Tryd.underlying29 rfl (by kernel_rfl)) rfl ?_
 exact ⟨_, _, _, q114t, (by (with_reducible repeat (first | apply Kd.R_alloc | apply Kd.R_drewN | apply Kd.R_drew)); exact Kd.R_mono (rk13 (Kd.R_types D1.out ii.out q125t)) (fun _ hk => hk.1)), (by (with_reducible repeat (first | apply Kd.R_alloc | apply Kd.R_drewN | apply Kd.R_drew)); exact Kd.R_mono (rk13 (Kd.R_types D2.out ii.out q125t)) (fun _ hk => trivial)), (by (with_reducible repeat (first | apply Kd.R_alloc | apply Kd.R_drewN | apply Kd.R_drew)); exact Kd.R_mono (rk13 (Kd.R_types D3.out ii.out q125t)) (fun _ hk => hk.1)), q36t⟩

/-! ### spec_l7Copy: function 30 -/
def spec_l7Copy.f (aa : Int) (ab : Int) (ac : Int) (af : Int) (ag : Int) (ae : Int) (aJ : Int) (aK : Int) (av : List Int) (aM : Int) (aN : Int) (au : List (S33)) (ax : List Int) : Option (Int × Int × Int × Int × Int × Int × Int × Int × List Int × Int × Int × (List (S33)) × List Int) := (some (([] : List Int) : List Int)).bind fun kn => (if kn.length + av.length < 17592186044416 then ((some (([] : List (S33)) : List (S33))).bind fun f9 => (if f9.length + au.length < 5864062014805 then ((some (([] : List Int) : List Int)).bind fun eL => (if eL.length + ax.length < 17592186044416 then (some (aa, ab, ac, af, ag, ae, aJ, aK, (kn ++ av), aM, aN, (f9 ++ au), (eL ++ ax))) else (none))) else (none))) else (none))
set_option maxHeartbeats 8000000 in
set_option maxRecDepth 100000 in
theorem spec_l7Copy.calls (aa : Int) (ab : Int) (ac : Int) (af : Int) (ag : Int) (ae : Int) (aJ : Int) (aK : Int) (A0_8 : Option Addr) (c0_8 : Nat) (av : List Int) (aM : Int) (aN : Int) (A0_11 : Option Addr) (c0_11 : Nat) (au : List (S33)) (A0_12 : Option Addr) (c0_12 : Nat) (ax : List Int) (r1 : Int) (r2 : Int) (r3 : Int) (r4 : Int) (r5 : Int) (r6 : Int) (r7 : Int) (r8 : Int) (r9 : List Int) (r10 : Int) (r11 : Int) (r12 : List (S33)) (r13 : List Int) (w : World) (hr0_8 : Kd.C (Kd.int .i64) w A0_8 av.length av) (hc0_8 : av.length ≤ c0_8) (hr0_11 : Kd.C k33 w A0_11 au.length au) (hc0_11 : au.length ≤ c0_11) (hr0_12 : Kd.C (Kd.int .i64) w A0_12 ax.length ax) (hc0_12 : ax.length ≤ c0_12) (h : spec_l7Copy.f aa ab ac af ag ae aJ aK av aM aN au ax = some (r1, r2, r3, r4, r5, r6, r7, r8, r9, r10, r11, r12, r13)) :
  Calls Tryd.prog 30 #[.agg #[aa, ab, ac, af, ag, ae, aJ, aK, .slice A0_8 av.length c0_8, aM, aN, .slice A0_11 au.length c0_11, .slice A0_12 ax.length c0_12]] w fun e w' => ∃ v8_ v11_ v12_ : Value, e = .returned (.agg #[r1, r2, r3, r4, r5, r6, r7, r8, v8_, r10, r11, v11_, v12_]) ∧ Kd.R (Kd.int .i64) 3 w' w.heap.size (fun k_ => some k_ ≠ (v12_ : Value).ownBlock) v8_ r9 ∧ Kd.R k33 33 w' w.heap.size (fun _ => True) v11_ r12 ∧ Kd.R (Kd.int .i64) 3 w' w.heap.size (fun k_ => some k_ ≠ (v8_ : Value).ownBlock) v12_ r13 ∧ Below w.heap.size w w' := by
 have hu29 := Tryd.underlying29
 have d1 := Aside0.mk hr0_8
 have ec := Aside0.mk hc0_8
 clear hr0_8 hc0_8
 have jA := Aside0.mk hr0_11
 have ml := Aside0.mk hc0_11
 clear hr0_11 hc0_11
 have jB := Aside0.mk hr0_12
 have ko := Aside0.mk hc0_12
 clear hr0_12 hc0_12
 have HB := am (Below.refl w.heap.size w)
 have H : ((some (([] : List Int) : List Int)).bind fun kn => (if kn.length + av.length < 17592186044416 then ((some (([] : List (S33)) : List (S33))).bind fun f9 => (if f9.length + au.length < 5864062014805 then ((some (([] : List Int) : List Int)).bind fun eL => (if eL.length + ax.length < 17592186044416 then (some (aa, ab, ac, af, ag, ae, aJ, aK, (kn ++ av), aM, aN, (f9 ++ au), (eL ++ ax))) else (none))) else (none))) else (none))) = some (r1, r2, r3, r4, r5, r6, r7, r8, r9, r10, r11, r12, r13) := h
 clear h
 obtain ⟨kn, hy476⟩ : ∃ y_ : List Int, y_ = (([] : List Int)) := ⟨_, rfl⟩
 replace H : (if kn.length + av.length < 17592186044416 then ((some (([] : List (S33)) : List (S33))).bind fun f9 => (if f9.length + au.length < 5864062014805 then ((some (([] : List Int) : List Int)).bind fun eL => (if eL.length + ax.length < 17592186044416 then (some (aa, ab, ac, af, ag, ae, aJ, aK, (kn ++ av), aM, aN, (f9 ++ au), (eL ++ ax))) else (none))) else (none))) else (none)) = some (r1, r2, r3, r4, r5, r6, r7, r8, r9, r10, r11, r12, r13) := by first | (rw [hy476]; with_reducible exact H) | (have H2_ := (Option.bind_some _ _).symm.trans H; rw [hy476]; with_reducible exact H2_) | (have H2_ := (Option.bind_some _ _).symm.trans H; with_reducible exact H2_) | with_reducible exact H | (rw [hy476]; exact H) | exact H
 have D4 := Aside0.mk hy476
 clear hy476
 by_cases c2 : kn.length + av.length < 17592186044416
 rotate_left
 ·rw [if_neg c2] at H
  exact absurd H q126t
 rw [if_pos c2] at H
 have LMc2 := Aside0.mk c2
 clear c2
 obtain ⟨pf, hy479⟩ : ∃ y_ : List Int, y_ = (kn ++ av) := ⟨_, rfl⟩
 replace H : ((some (([] : List (S33)) : List (S33))).bind fun f9 => (if f9.length + au.length < 5864062014805 then ((some (([] : List Int) : List Int)).bind fun eL => (if eL.length + ax.length < 17592186044416 then (some (aa, ab, ac, af, ag, ae, aJ, aK, pf, aM, aN, (f9 ++ au), (eL ++ ax))) else (none))) else (none))) = some (r1, r2, r3, r4, r5, r6, r7, r8, r9, r10, r11, r12, r13) := by first | (rw [hy479]; with_reducible exact H) | (have H2_ := (Option.bind_some _ _).symm.trans H; rw [hy479]; with_reducible exact H2_) | (have H2_ := (Option.bind_some _ _).symm.trans H; with_reducible exact H2_) | with_reducible exact H | (rw [hy479]; exact H) | exact H
 have JH := Aside0.mk hy479
 clear hy479
 obtain ⟨f9, hy482⟩ : ∃ y_ : List (S33), y_ = (([] : List (S33))) := ⟨_, rfl⟩
 replace H : (if f9.length + au.length < 5864062014805 then ((some (([] : List Int) : List Int)).bind fun eL => (if eL.length + ax.length < 17592186044416 then (some (aa, ab, ac, af, ag, ae, aJ, aK, pf, aM, aN, (f9 ++ au), (eL ++ ax))) else (none))) else (none)) = some (r1, r2, r3, r4, r5, r6, r7, r8, r9, r10, r11, r12, r13) := by first | (rw [hy482]; with_reducible exact H) | (have H2_ := (Option.bind_some _ _).symm.trans H; rw [hy482]; with_reducible exact H2_) | (have H2_ := (Option.bind_some _ _).symm.trans H; with_reducible exact H2_) | with_reducible exact H | (rw [hy482]; exact H) | exact H
 have D5 := Aside0.mk hy482
 clear hy482
 by_cases c3 : f9.length + au.length < 5864062014805
 rotate_left
 ·rw [if_neg c3] at H
  exact absurd H q126t
 rw [if_pos c3] at H
 have LMc3 := Aside0.mk c3
 clear c3
 obtain ⟨uO, hy485⟩ : ∃ y_ : List (S33), y_ = (f9 ++ au) := ⟨_, rfl⟩
 replace H : ((some (([] : List Int) : List Int)).bind fun eL => (if eL.length + ax.length < 17592186044416 then (some (aa, ab, ac, af, ag, ae, aJ, aK, pf, aM, aN, uO, (eL ++ ax))) else (none))) = some (r1, r2, r3, r4, r5, r6, r7, r8, r9, r10, r11, r12, r13) := by first | (rw [hy485]; with_reducible exact H) | (have H2_ := (Option.bind_some _ _).symm.trans H; rw [hy485]; with_reducible exact H2_) | (have H2_ := (Option.bind_some _ _).symm.trans H; with_reducible exact H2_) | with_reducible exact H | (rw [hy485]; exact H) | exact H
 have JI := Aside0.mk hy485
 clear hy485
 obtain ⟨eL, hy488⟩ : ∃ y_ : List Int, y_ = (([] : List Int)) := ⟨_, rfl⟩
 replace H : (if eL.length + ax.length < 17592186044416 then (some (aa, ab, ac, af, ag, ae, aJ, aK, pf, aM, aN, uO, (eL ++ ax))) else (none)) = some (r1, r2, r3, r4, r5, r6, r7, r8, r9, r10, r11, r12, r13) := by first | (rw [hy488]; with_reducible exact H) | (have H2_ := (Option.bind_some _ _).symm.trans H; rw [hy488]; with_reducible exact H2_) | (have H2_ := (Option.bind_some _ _).symm.trans H; with_reducible exact H2_) | with_reducible exact H | (rw [hy488]; exact H) | exact H
 have D6 := Aside0.mk hy488
 clear hy488
 by_cases c4 : eL.length + ax.length < 17592186044416
 rotate_left
 ·rw [if_neg c4] at H
  exact absurd H q126t
 rw [if_pos c4] at H
 have LMc4 := Aside0.mk c4
 clear c4
 obtain ⟨D7, hy491⟩ : ∃ y_ : List Int, y_ = (eL ++ ax) := ⟨_, rfl⟩
 replace H : (some (aa, ab, ac, af, ag, ae, aJ, aK, pf, aM, aN, uO, D7)) = some (r1, r2, r3, r4, r5, r6, r7, r8, r9, r10, r11, r12, r13) := by first | (rw [hy491]; with_reducible exact H) | (have H2_ := (Option.bind_some _ _).symm.trans H; rw [hy491]; with_reducible exact H2_) | (have H2_ := (Option.bind_some _ _).symm.trans H; with_reducible exact H2_) | with_reducible exact H | (rw [hy491]; exact H) | exact H
 have JJ := Aside0.mk hy491
 clear hy491
 simp only [Option.some.injEq, Prod.mk.injEq] at H
 obtain ⟨rfl, rfl, rfl, rfl, rfl, rfl, rfl, rfl, rfl, rfl, rfl, rfl, rfl⟩ := H
 go_enter Tryd.func30, Tryd.ntmps30
 go_wp2_with (first | ((with_reducible refine gate_dst (N := 1) rfl ?_); refine box_ev 1 #[aa, ab, ac, af, ag, ae, aJ, aK, .slice A0_8 av.length c0_8, aM, aN, .slice A0_11 au.length c0_11, .slice A0_12 ax.length c0_12] 29 ?_; intro mm hg w5 hbox hb; have dx := am (hbox); have Sf := am ((q63t : w.heap.size ≤ mm)); have Sg := am ((q63t : w.heap.size ≤ mm)); replace HB := am (below_step q68t hb); clear hb hbox hg) | ((with_reducible refine gate_dst (N := 2) rfl ?_); refine box_ev 2 #[.int .i64 0, .int .i64 0, .int .i64 0, .int .i64 0, .int .i64 0, .int .i64 0, .int .i64 0, .int .i64 0, .slice none 0 0, .int .i64 0, .int .i64 0, .slice none 0 0, .slice none 0 0] 29 ?_; intro kZ hg w6 hbox hb; have er := am (hbox); have Sh := am ((q41t : w.heap.size ≤ kZ)); have Si := am ((q41t : w.heap.size ≤ kZ)); replace HB := am (below_step q47t hb); have JK := am ((by rw [hg]; exact Nat.ne_of_lt (blk_lt (qbk dx)) : mm ≠ kZ)); have JL := am ((by rw [hg]; exact Nat.ne_of_gt (blk_lt (qbk dx)) : kZ ≠ mm)); replace dx := blb dx hb; clear hb hbox hg; have D8 := JK.out; have D9 := JL.out; have uP := qc13 dx.out; have uQ := qf13 dx.out) | ((with_reducible refine gate_dst (N := 3) rfl ?_); refine box_ev 3 #[.int .i64 0, .int .i64 0, .int .i64 0, .int .i64 0, .int .i64 0, .int .i64 0, .int .i64 0, .int .i64 0, .slice none 0 0, .int .i64 0, .int .i64 0, .slice none 0 0, .slice none 0 0] 29 ?_; intro qd hg w9 hbox hb; have dT := am (hbox); have Sj := am ((q41t : w.heap.size ≤ qd)); have Sk := am ((q41t : w.heap.size ≤ qd)); replace HB := am (below_step q47t hb); have JM := am ((by rw [hg]; exact Nat.ne_of_lt (blk_lt (qbk dx)) : mm ≠ qd)); have JN := am ((by rw [hg]; exact Nat.ne_of_gt (blk_lt (qbk dx)) : qd ≠ mm)); replace dx := blb dx hb; have JO := am ((by rw [hg]; exact Nat.ne_of_lt (blk_lt (qbk er)) : kZ ≠ qd)); have JP := am ((by rw [hg]; exact Nat.ne_of_gt (blk_lt (qbk er)) : qd ≠ kZ)); replace er := blb er hb; clear hb hbox hg; have AZ := JN.out; have Ba := JM.out; have qV := JP.out; have qW := JO.out; have pg := qc13 dT.out; have nM := qf13 dT.out) | ((with_reducible refine gate_dst (N := 5) rfl ?_); refine Kd.R_lit (Kd.int .i64) _ 3 ?hg (N := 5) ?hd (xs := ([] : List Int)) (inner := []) (ok := fun _ => True) (okp := fun _ => True) ?hr ?hp (fun _ hk => hk) trivial (Below.refl _ _) (Nat.le_refl _) q126t ?_; (case hd => rfl); (case hg => rfl); (case hr => first | (go_simp; done) | (go_simp; rfl)); (case hp => exact (Reps.none _ _)); intro v477 w13 ho14 hb hg_ hnew_; clear hg_ hnew_; (first | rw [← D4.out] at ho14 | (simp only [Int.reduceToNat] at ho14; rw [← D4.out] at ho14)); have rY := am (Kd.R_lower ho14 (below_size q47t)); replace dx := am (blk_below (g := mm) (o := .cells #[aa, ab, ac, af, ag, ae, aJ, aK, .slice A0_8 av.length c0_8, aM, aN, .slice A0_11 au.length c0_11, .slice A0_12 ax.length c0_12] 29 (0, 0)) (qbf dx) hb); replace er := am (blk_below (g := kZ) (o := .cells #[.int .i64 0, .int .i64 0, .int .i64 0, .int .i64 0, .int .i64 0, .int .i64 0, .int .i64 0, .int .i64 0, .slice none 0 0, .int .i64 0, .int .i64 0, .slice none 0 0, .slice none 0 0] 29 (0, 0)) (qbf er) hb); replace dT := blp dT hb; replace HB := am (below_step q47t hb); clear hb ho14; have mn := qc13 dx.out; have iL := qf13 dx.out) | ((with_reducible refine gate_builtin (b := .append) (xs := #[.tmp 5, .tmp 7]) rfl ?_); at_builtin; refine Kd.R_append_rows (Kd.int .i64) (w0 := w) w.heap.size rfl (.tmp 5) (.tmp 7) 26 3 (.int .i64 0) 8 rfl Tryd.underlying26 info3 rfl q125t (by omega) v477 kn av _ _ _ (fun _ => True) (fun _ => False) rfl rfl ?aO ?aR (fun _ _ h => h) (fun _ h => h.elim) ?aF ?aB ?aS ?aL ?_; (case aR => repeat (first | exact (Kd.C_below d1.out HB.out) | (with_reducible refine Kd.C_alloc ?_ _) | (with_reducible refine Kd.C_drewN ?_ _) | (with_reducible refine Kd.C_drew ?_))); (case aB => exact q47t); (case aF => exact (fun _ _ => trivial)); (case aO => exact (by (with_reducible repeat (first | apply Kd.R_alloc | apply Kd.R_drewN | apply Kd.R_drew)); exact rY.out)); (case aS => exact (below_size q47t)); (case aL => have := LMc2.out; omega); intro v480 w16 ho hb hg hat; rw [← JH.out] at ho; replace dx := gbb dx hg (Kd.R_ne rY.out dx.out q125t); replace er := gbb er hg (Kd.R_ne rY.out er.out q125t); replace dT := gbb dT hg (Kd.R_ne rY.out dT.out q125t); replace HB := am (hb); have kA := am (ho); clear rY; clear ho hb hg hat; obtain ⟨bz, bA, rf⟩ := Kd.R_slice kA.out; subst rf; have rI := qc13 dT.out; have rJ := qf13 dT.out) | ((with_reducible refine gate_dst (N := 10) rfl ?_); refine Kd.R_lit k33 _ 33 ?hg (N := 10) ?hd (xs := ([] : List (S33))) (inner := []) (ok := fun _ => True) (okp := fun _ => True) ?hr ?hp (fun _ hk => hk) trivial (Below.refl _ _) (Nat.le_refl _) q126t ?_; (case hd => rfl); (case hg => rfl); (case hr => first | (go_simp; done) | (go_simp; rfl)); (case hp => exact (Reps.none _ _)); intro v483 w19 ho20 hb hg_ hnew_; clear hg_ hnew_; (first | rw [← D5.out] at ho20 | (simp only [Int.reduceToNat] at ho20; rw [← D5.out] at ho20)); replace kA := am (Kd.R_below q57t hb); have qe := am (Kd.R_lower ho20 (below_size q47t)); replace dx := am (blk_below (g := mm) (o := .cells #[aa, ab, ac, af, ag, ae, aJ, aK, .slice A0_8 av.length c0_8, aM, aN, .slice A0_11 au.length c0_11, .slice A0_12 ax.length c0_12] 29 (0, 0)) (qbf dx) hb); replace er := am (blk_below (g := kZ) (o := .cells #[.int .i64 0, .int .i64 0, .int .i64 0, .int .i64 0, .int .i64 0, .int .i64 0, .int .i64 0, .int .i64 0, .slice none 0 0, .int .i64 0, .int .i64 0, .slice none 0 0, .slice none 0 0] 29 (0, 0)) (qbf er) hb); replace dT := blp dT hb; replace HB := am (below_step q47t hb); clear hb ho20; have k0 := qc13 dx.out; have ij := qf13 dx.out) | ((with_reducible refine gate_builtin (b := .append) (xs := #[.tmp 10, .tmp 12]) rfl ?_); at_builtin; refine Kd.R_append_rows k33 (w0 := w) w.heap.size rfl (.tmp 10) (.tmp 12) 27 33 (.agg #[(.int .i64 0), (.int .i64 0), (.int .i64 0)]) 24 rfl Tryd.underlying27 info33 rfl q125t (by omega) v483 f9 au _ _ _ (fun _ => True) (fun _ => False) rfl rfl ?aO ?aR (fun _ _ h => h) (fun _ h => h.elim) ?aF ?aB ?aS ?aL ?_; (case aR => repeat (first | exact (Kd.C_below jA.out HB.out) | (with_reducible refine Kd.C_alloc ?_ _) | (with_reducible refine Kd.C_drewN ?_ _) | (with_reducible refine Kd.C_drew ?_))); (case aB => exact q47t); (case aF => exact (fun _ _ => trivial)); (case aO => exact (by (with_reducible repeat (first | apply Kd.R_alloc | apply Kd.R_drewN | apply Kd.R_drew)); exact qe.out)); (case aS => exact (below_size q47t)); (case aL => have := LMc3.out; omega); intro v486 w22 ho hb hg hat; rw [← JI.out] at ho; replace dx := gbb dx hg (Kd.R_ne qe.out dx.out q125t); replace er := gbb er hg (Kd.R_ne qe.out er.out q125t); replace dT := gbb dT hg (Kd.R_ne qe.out dT.out q125t); replace kA := am (Kd.R_over' (by (with_reducible repeat (first | apply Kd.R_alloc | apply Kd.R_drewN | apply Kd.R_drew)); exact kA.out) (Kd.R_typed (by (with_reducible repeat (first | apply Kd.R_alloc | apply Kd.R_drewN | apply Kd.R_drew)); exact qe.out)) q125t hg); replace HB := am (hb); have qf := am (ho); clear qe; clear ho hb hg hat; obtain ⟨ia, ib, wq⟩ := Kd.R_slice qf.out; subst wq; have uz := qc13 dT.out; have uA := qf13 dT.out) | ((with_reducible refine gate_dst (N := 15) rfl ?_); refine Kd.R_lit (Kd.int .i64) _ 3 ?hg (N := 15) ?hd (xs := ([] : List Int)) (inner := []) (ok := fun _ => True) (okp := fun _ => True) ?hr ?hp (fun _ hk => hk) trivial (Below.refl _ _) (Nat.le_refl _) q126t ?_; (case hd => rfl); (case hg => rfl); (case hr => first | (go_simp; done) | (go_simp; rfl)); (case hp => exact (Reps.none _ _)); intro v489 w25 ho26 hb hg_ hnew_; clear hg_ hnew_; (first | rw [← D6.out] at ho26 | (simp only [Int.reduceToNat] at ho26; rw [← D6.out] at ho26)); replace qf := am (Kd.R_below (by (with_reducible repeat (first | apply Kd.R_alloc | apply Kd.R_drewN | apply Kd.R_drew)); exact (Kd.R_mono (rkf (Kd.R_types qf.out dT.out q125t)) (fun _ h_ => h_.1))) hb); have qg := am (Kd.R_lower (Kd.R_new' ho26 (Kd.R_lt q57t)) (below_size q47t)); replace kA := am (Kd.R_elder' q57t (Kd.R_base ho26) hb); replace dx := am (blk_below (g := mm) (o := .cells #[aa, ab, ac, af, ag, ae, aJ, aK, .slice A0_8 av.length c0_8, aM, aN, .slice A0_11 au.length c0_11, .slice A0_12 ax.length c0_12] 29 (0, 0)) (qbf dx) hb); replace er := am (blk_below (g := kZ) (o := .cells #[.int .i64 0, .int .i64 0, .int .i64 0, .int .i64 0, .int .i64 0, .int .i64 0, .int .i64 0, .int .i64 0, .slice none 0 0, .int .i64 0, .int .i64 0, .slice none 0 0, .slice none 0 0] 29 (0, 0)) (qbf er) hb); replace dT := blp dT hb; replace HB := am (below_step q47t hb); clear hb ho26; have gJ := qc13 dx.out; have gj := qf13 dx.out) | ((with_reducible refine gate_builtin (b := .append) (xs := #[.tmp 15, .tmp 17]) rfl ?_); at_builtin; refine Kd.R_append_rows (Kd.int .i64) (w0 := w) w.heap.size rfl (.tmp 15) (.tmp 17) 26 3 (.int .i64 0) 8 rfl Tryd.underlying26 info3 rfl q125t (by omega) v489 eL ax _ _ _ (fun k_ => some k_ ≠ (.slice bz pf.length bA : Value).ownBlock) (fun _ => False) rfl rfl ?aO ?aR (fun _ _ h => h) (fun _ h => h.elim) ?aF ?aB ?aS ?aL ?_; (case aR => repeat (first | exact (Kd.C_below jB.out HB.out) | (with_reducible refine Kd.C_alloc ?_ _) | (with_reducible refine Kd.C_drewN ?_ _) | (with_reducible refine Kd.C_drew ?_))); (case aB => exact q47t); (case aF => exact (fun k_ hk => Kd.fresh' (Kd.R_lt (by (with_reducible repeat (first | apply Kd.R_alloc | apply Kd.R_drewN | apply Kd.R_drew)); exact kA.out)) k_ hk)); (case aO => exact (by (with_reducible repeat (first | apply Kd.R_alloc | apply Kd.R_drewN | apply Kd.R_drew)); exact Kd.R_mono qg.out (fun _ hk => hk.2))); (case aS => exact (below_size q47t)); (case aL => have := LMc4.out; omega); intro v492 w28 ho hb hg hat; rw [← JJ.out] at ho; replace dx := gbb dx hg (Kd.R_ne qg.out dx.out q125t); replace er := gbb er hg (Kd.R_ne qg.out er.out q125t); replace dT := gbb dT hg (Kd.R_ne qg.out dT.out q125t); replace kA := am (Kd.R_after (ok := (fun _ => True)) (by (with_reducible repeat (first | apply Kd.R_alloc | apply Kd.R_drewN | apply Kd.R_drew)); exact kA.out) hg hat); replace qf := am (Kd.R_over' (by (with_reducible repeat (first | apply Kd.R_alloc | apply Kd.R_drewN | apply Kd.R_drew)); exact qf.out) (Kd.R_typed (by (with_reducible repeat (first | apply Kd.R_alloc | apply Kd.R_drewN | apply Kd.R_drew)); exact qg.out)) q125t hg); replace HB := am (hb); have Ea := am (ho); clear qg; clear ho hb hg hat; obtain ⟨yg, yh, yi⟩ := Kd.R_slice Ea.out; subst yi; have rZ := qc13 dT.out; have qh := qf13 dT.out; have qi := qc13 er.out; have qj := qf13 er.out))
 refine bodyPost_ret (results_cell_row rfl _ _ kZ 29 #[aa, ab, ac, af, ag, ae, aJ, aK, .slice bz pf.length bA, aM, aN, .slice ia uO.length ib, .slice yg D7.length yh] (0, 0) _ rfl (qbm er) Tryd.underlying29 rfl (by kernel_rfl)) rfl ?_
 exact ⟨_, _, _, q114t, (by (with_reducible repeat (first | apply Kd.R_alloc | apply Kd.R_drewN | apply Kd.R_drew)); exact Kd.R_mono (rk13 (Kd.R_far (Kd.R_types (Kd.R_types kA.out dT.out q125t) er.out q125t) (fun _ hk => hk.1.2) _)) (fun _ hk => hk.1.1.2)), (by (with_reducible repeat (first | apply Kd.R_alloc | apply Kd.R_drewN | apply Kd.R_drew)); exact Kd.R_mono (rk13 (Kd.R_far (Kd.R_types (Kd.R_types qf.out dT.out q125t) er.out q125t) (fun _ hk => hk.1.2) _)) (fun _ hk => trivial)), (by (with_reducible repeat (first | apply Kd.R_alloc | apply Kd.R_drewN | apply Kd.R_drew)); exact Kd.R_mono (rk13 (Kd.R_far (Kd.R_types (Kd.R_types Ea.out dT.out q125t) er.out q125t) (fun _ hk => hk.1.2) _)) (fun _ hk => hk.1.1)), q47t⟩

end Go.Proofs.YtofpmdgndegalacDoor.QFnNodes
