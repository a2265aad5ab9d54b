/- What the functions that the law FnNodes reaches compute, as plain functions, and that the code computes just that (by a program of this session's; the library's functions by hand). No condition. -/
import Derived.Test.YtofpmdgndegalacDoorQFnNodesx0
import Derived.Test.YtofpmdgndegalacDoorQFnNodesx2
import Derived.Test.YtofpmdgndegalacDoorQFnNodesx5
namespace Go.Proofs.YtofpmdgndegalacDoor.QFnNodes
open Go.RowKit Go.Proofs.YtofpmdgndegalacDoorW.PrintWords Go.Proofs.YtofpmdgndegalacDoorW.PrintLast Go.Proofs.YtofpmdgndegalacDoorW.PrintMore
attribute [local go_sem] max2_int min2_int max_two min_two max_three min_three max_four min_four   -- for this text's walks alone
set_option linter.unusedVariables false
set_option linter.unusedSimpArgs false

/-! ### spec_DrawNodeOk: function 5 -/
def spec_DrawNodeOk.f (k : Nat) (l0 : List Int) : Option (Int × Int × Int × Int × Int × Int × Int × Int × Int × Int × Int × Int × Int × Int × List Int × Int × Int × (List (S33)) × List Int) := (spec_l1New.f k l0).bind fun l8 => ((spec_l3Conf.f l8.1 l8.2.1 l8.2.2).bind fun dL => ((spec_l7Any.f k l8.1 dL.2.2.2.2.2.2.1 dL.2.2.2.2.2.2.2 dL.1 dL.2.1 dL.2.2.1 dL.2.2.2.1 dL.2.2.2.2.1 dL.2.2.2.2.2.1).bind fun ea => (some (dL.1, dL.2.1, dL.2.2.1, dL.2.2.2.1, dL.2.2.2.2.1, dL.2.2.2.2.2.1, ea.1, ea.2.1, ea.2.2.1, ea.2.2.2.1, ea.2.2.2.2.1, ea.2.2.2.2.2.1, ea.2.2.2.2.2.2.1, ea.2.2.2.2.2.2.2.1, ea.2.2.2.2.2.2.2.2.1, ea.2.2.2.2.2.2.2.2.2.1, ea.2.2.2.2.2.2.2.2.2.2.1, ea.2.2.2.2.2.2.2.2.2.2.2.1, ea.2.2.2.2.2.2.2.2.2.2.2.2.1))))
set_option maxHeartbeats 8000000 in
set_option maxRecDepth 100000 in
theorem spec_DrawNodeOk.calls (k : Nat) (A0 : Option Addr) (c0 : Nat) (l0 : List Int) (r1 : Int) (r2 : Int) (r3 : Int) (r4 : Int) (r5 : Int) (r6 : Int) (r7 : Int) (r8 : Int) (r9 : Int) (r10 : Int) (r11 : Int) (r12 : Int) (r13 : Int) (r14 : Int) (r15 : List Int) (r16 : Int) (r17 : Int) (r18 : List (S33)) (r19 : List Int) (w : World) (hr0 : Kd.C (Kd.int .u8) w A0 l0.length l0) (hc0 : l0.length ≤ c0) (h : spec_DrawNodeOk.f k l0 = some (r1, r2, r3, r4, r5, r6, r7, r8, r9, r10, r11, r12, r13, r14, r15, r16, r17, r18, r19)) :
  Calls Tryd.prog 5 #[.slice A0 l0.length c0] w fun e w' => ∃ v14_ v17_ v18_ : Value, e = .returned (.tuple #[.agg #[r1, r2, r3, r4, r5, r6], .agg #[r7, r8, r9, r10, r11, r12, r13, r14, v14_, r16, r17, v17_, v18_]]) ∧ Kd.R (Kd.int .i64) 3 w' w.heap.size (fun k_ => some k_ ≠ (v18_ : Value).ownBlock) v14_ r15 ∧ Kd.R k33 33 w' w.heap.size (fun _ => True) v17_ r18 ∧ Kd.R (Kd.int .i64) 3 w' w.heap.size (fun k_ => some k_ ≠ (v14_ : Value).ownBlock) v18_ r19 ∧ Below w.heap.size w w' := by
 have hu25 := Tryd.underlying25
 have hu29 := Tryd.underlying29
 have bX := Aside0.mk hr0
 have d0 := Aside0.mk hc0
 clear hr0 hc0
 have HB := am (Below.refl w.heap.size w)
 have H : ((spec_l1New.f k l0).bind fun l8 => ((spec_l3Conf.f l8.1 l8.2.1 l8.2.2).bind fun dL => ((spec_l7Any.f k l8.1 dL.2.2.2.2.2.2.1 dL.2.2.2.2.2.2.2 dL.1 dL.2.1 dL.2.2.1 dL.2.2.2.1 dL.2.2.2.2.1 dL.2.2.2.2.2.1).bind fun ea => (some (dL.1, dL.2.1, dL.2.2.1, dL.2.2.2.1, dL.2.2.2.2.1, dL.2.2.2.2.2.1, ea.1, ea.2.1, ea.2.2.1, ea.2.2.2.1, ea.2.2.2.2.1, ea.2.2.2.2.2.1, ea.2.2.2.2.2.2.1, ea.2.2.2.2.2.2.2.1, ea.2.2.2.2.2.2.2.2.1, ea.2.2.2.2.2.2.2.2.2.1, ea.2.2.2.2.2.2.2.2.2.2.1, ea.2.2.2.2.2.2.2.2.2.2.2.1, ea.2.2.2.2.2.2.2.2.2.2.2.2.1))))) = some (r1, r2, r3, r4, r5, r6, r7, r8, r9, r10, r11, r12, r13, r14, r15, r16, r17, r18, r19) := h
 clear h
 obtain ⟨⟨pU, CC, CD⟩, A2, H⟩ := bnd H
 try dsimp only at H
 obtain ⟨⟨oY, oZ, o1, o2, o3, o4, ru, rv⟩, A3, H⟩ := bnd H
 try dsimp only at H
 obtain ⟨⟨CE, CF, CG, CH, CI, CJ, CK, CL, CM, CN, CO, CP, CQ, IU, IV⟩, A4, H⟩ := bnd H
 try dsimp only at H
 simp only [Option.some.injEq, Prod.mk.injEq] at H
 obtain ⟨rfl, rfl, rfl, rfl, rfl, rfl, rfl, rfl, rfl, rfl, rfl, rfl, rfl, rfl, rfl, rfl, rfl, rfl, rfl⟩ := H
 go_enter Tryd.func5, Tryd.ntmps5
 try go_wp2_with (first | ((with_reducible refine gate_dst (N := 2) rfl ?_); refine box_ev 2 #[.int .i64 0, .int .i64 0, .int .i64 0, .int .i64 0, .int .i64 0, .int .i64 0] 25 ?_; intro ic hg w5 hbox hb; have cH := am (hbox); have PR := am ((q63t : w.heap.size ≤ ic)); have PS := am ((q63t : w.heap.size ≤ ic)); replace HB := am (below_step q68t hb); clear hb hbox hg) | ((with_reducible refine gate_dst (N := 3) rfl ?_); refine box_ev 3 #[.int .i64 0, .int .i64 0, .int .i64 0, .int .i64 0, .int .i64 0, .int .i64 0, .int .i64 0, .int .i64 0, .slice none 0 0, .int .i64 0, .int .i64 0, .slice none 0 0, .slice none 0 0] 29 ?_; intro eT hg w6 hbox hb; have bW := am (hbox); have PT := am ((q41t : w.heap.size ≤ eT)); have PU := am ((q41t : w.heap.size ≤ eT)); replace HB := am (below_step q47t hb); have fj := am ((by rw [hg]; exact Nat.ne_of_lt (blk_lt (qbk cH)) : ic ≠ eT)); have fk := am ((by rw [hg]; exact Nat.ne_of_gt (blk_lt (qbk cH)) : eT ≠ ic)); replace cH := blb cH hb; clear hb hbox hg) | ((with_reducible refine gate_callee (f := 22) rfl ?_); refine goesL_ (some 7) rfl rfl Tryd.func22 (by kernel_rfl) rfl #[.slice A0 l0.length c0] rfl q66t ?_; (with_reducible refine (spec_l1New.calls k _ _ l0 pU CC CD w _ ?side1 ?side2 ?side3 A2.out).mono ?_); (case side1 => repeat (first | (with_reducible first | exact HB.out | apply below_alloc | apply pw_below_drewN | apply below_drew1 | refine below_set ?_ (Aside0.out q123t)) | exact HB.out)); (case side2 => exact bX.out); (case side3 => exact d0.out); rintro e w7 ⟨g318, rfl, hi, hb, hb2⟩; refine ⟨_, rfl, ?_⟩; replace HB := am (hb); have eF := am (hi); have PV := am (IsS69.ne_blk hi (blk_below (qbk cH) hb2) q125t); have CR := am (Ne.symm (IsS69.ne_blk hi (blk_below (qbk cH) hb2) q125t)); replace cH := am (blk_below (qbk cH) hb2); have PW := am (IsS69.ne_blk hi (blk_below (qbk bW) hb2) q125t); have CS := am (Ne.symm (IsS69.ne_blk hi (blk_below (qbk bW) hb2) q125t)); replace bW := am (blk_below (qbk bW) hb2); (try clear hb); (try clear hb2); (try clear hk); (try clear hi)) | ((with_reducible refine gate_callee (f := 23) rfl ?_); refine goesL_ (some 9) rfl rfl Tryd.func23 (by kernel_rfl) rfl #[.pointer (some ⟨g318, 0, none⟩)] rfl q66t ?_; (with_reducible refine (spec_l3Conf.calls g318 pU CC CD oY oZ o1 o2 o3 o4 ru rv w _ ?side1 ?side2 A3.out).mono ?_); (case side1 => repeat (first | (with_reducible first | exact eF.out | apply IsS69.alloc | apply IsS69.drewN | apply IsS69.drew | apply IsS69.set_1 | apply IsS69.set_2 | refine IsS69.far ?_ (Aside0.out q123t) _) | exact eF.out)); (case side2 => repeat (first | (with_reducible first | exact HB.out | apply below_alloc | apply pw_below_drewN | apply below_drew1 | refine below_set ?_ (IsS69.ge eF.out) | refine below_set ?_ (Aside0.out q123t)) | exact HB.out)); rintro e w8 ⟨rfl, hi, hb, hk⟩; refine ⟨_, rfl, ?_⟩; replace cH := kbb cH hk CR.out q126t; replace bW := kbb bW hk CS.out q126t; replace HB := am (hb); replace eF := am (hi); (try clear hb); (try clear hb2); (try clear hk); (try clear hi)) | ((with_reducible refine gate_dst (N := 5) rfl ?_); refine box_ev 5 #[.int .i64 0, .int .i64 0, .int .i64 0, .int .i64 0, .int .i64 0, .int .i64 0] 25 ?_; intro eU hg w9 hbox hb; have gm := am (hbox); have PX := am ((by rw [hg]; exact (below_size q34t) : w.heap.size ≤ eU)); have PY := am ((by rw [hg]; exact (below_size q34t) : w.heap.size ≤ eU)); replace HB := am (below_step q34t hb); have o5 := am ((by rw [hg]; exact Nat.ne_of_lt (blk_lt (qbk cH)) : ic ≠ eU)); have o6 := am ((by rw [hg]; exact Nat.ne_of_gt (blk_lt (qbk cH)) : eU ≠ ic)); replace cH := blb cH hb; have ie := am ((by rw [hg]; exact Nat.ne_of_lt (blk_lt (qbk bW)) : eT ≠ eU)); have ig := am ((by rw [hg]; exact Nat.ne_of_gt (blk_lt (qbk bW)) : eU ≠ eT)); replace bW := blb bW hb; have IW := am ((by rw [hg]; exact Nat.ne_of_lt (IsS69.lt (show IsS69 w _ g318 pU ru rv from by repeat (first | (with_reducible first | exact eF.out | apply IsS69.alloc | apply IsS69.drewN | apply IsS69.drew | apply IsS69.set_1 | apply IsS69.set_2 | refine IsS69.far ?_ (Aside0.out q123t) _) | exact eF.out))) : g318 ≠ eU)); have CT := am ((by rw [hg]; exact Nat.ne_of_gt (IsS69.lt (show IsS69 w _ g318 pU ru rv from by repeat (first | (with_reducible first | exact eF.out | apply IsS69.alloc | apply IsS69.drewN | apply IsS69.drew | apply IsS69.set_1 | apply IsS69.set_2 | refine IsS69.far ?_ (Aside0.out q123t) _) | exact eF.out))) : eU ≠ g318)); replace eF := am (IsS69.below (by repeat (first | (with_reducible first | exact eF.out | apply IsS69.alloc | apply IsS69.drewN | apply IsS69.drew | apply IsS69.set_1 | apply IsS69.set_2 | refine IsS69.far ?_ (Aside0.out q123t) _) | exact eF.out)) hb); clear hb hbox hg; have AZ := o6.out; have Ba := o5.out; have qV := ig.out; have qW := ie.out; have wl := CT.out; have wm := IW.out; have kE := qc6 gm.out; have kF := qf6 gm.out))
 obtain ⟨w14, hq_⟩ : ∃ W, W = ((((((w9.setCell ⟨eU, 0, none⟩ (.int .i64 oY)).setCell ⟨eU, 1, none⟩ (.int .i64 oZ)).setCell ⟨eU, 2, none⟩ (.int .i64 o1)).setCell ⟨eU, 3, none⟩ (.int .i64 o2)).setCell ⟨eU, 4, none⟩ (.int .i64 o3)).setCell ⟨eU, 5, none⟩ (.int .i64 o4)) := ⟨_, rfl⟩
 have n0_ : Aside0 (w14.heap[ic]? = some (.cells #[.int .i64 0, .int .i64 0, .int .i64 0, .int .i64 0, .int .i64 0, .int .i64 0] 25 (0, 0))) := ⟨by subst hq_; exact qbf cH⟩
 have n1_ : Aside0 (w14.heap[eT]? = some (.cells #[.int .i64 0, .int .i64 0, .int .i64 0, .int .i64 0, .int .i64 0, .int .i64 0, .int .i64 0, .int .i64 0, .slice none 0 0, .int .i64 0, .int .i64 0, .slice none 0 0, .slice none 0 0] 29 (0, 0))) := ⟨by subst hq_; exact qbf bW⟩
 have n2_ : Aside0 (w14.heap[eU]? = some (.cells #[oY, oZ, o1, o2, o3, o4] 25 (0, 0))) := ⟨by subst hq_; exact qbp gm⟩
 have n3_ : Aside0 (IsS69 w w14 g318 pU ru rv) := ⟨by subst hq_; repeat (first | (with_reducible first | exact eF.out | apply IsS69.alloc | apply IsS69.drewN | apply IsS69.drew | apply IsS69.set_1 | apply IsS69.set_2 | refine IsS69.far ?_ (Aside0.out q123t) _) | exact eF.out)⟩
 have n4_ : Aside0 (Below w.heap.size w w14) := ⟨by subst hq_; repeat (first | (with_reducible first | exact HB.out | apply below_alloc | apply pw_below_drewN | apply below_drew1 | refine below_set ?_ (IsS69.ge eF.out) | refine below_set ?_ (Aside0.out q123t)) | exact HB.out)⟩
 (try clear cH)
 (try clear bW)
 (try clear gm)
 (try clear eF)
 (try clear HB)
 rw [← hq_]; clear hq_
 have cH := n0_
 have bW := n1_
 have gm := n2_
 have eF := n3_
 have HB := n4_
 clear n0_ n1_ n2_ n3_ n4_
 replace cH := am (blk_drew cH.out)
 replace bW := am (blk_drew bW.out)
 replace gm := am (blk_drew gm.out)
 replace eF := am (IsS69.drew eF.out)
 replace HB := am (below_drew1 HB.out)
 refine start_ (n := 6) (S := fun w' => w'.cell? ⟨eU, 0, none⟩ = some (.int .i64 oY) ∧ w'.cell? ⟨eU, 1, none⟩ = some (.int .i64 oZ) ∧ w'.cell? ⟨eU, 2, none⟩ = some (.int .i64 o1) ∧ w'.cell? ⟨eU, 3, none⟩ = some (.int .i64 o2) ∧ w'.cell? ⟨eU, 4, none⟩ = some (.int .i64 o3) ∧ w'.cell? ⟨eU, 5, none⟩ = some (.int .i64 o4)) (ds := []) (bm 6 0) (by kernel_rfl) rfl (by kernel_rfl) qst (fun hHeld => ?_)
 generalize w14.drew = w15 at cH bW gm eF HB hHeld ⊢
 refine pu_ 1 (some 11) (bm 6 2) (by kernel_rfl) ?_
 refine tk_ 0 (some 10) (bm 6 3) (by kernel_rfl) hHeld ?_
 refine tk_ 2 (some 12) (bm 6 7) (by kernel_rfl) hHeld ?_
 refine one_ (i := 3) (N := some 13) (bm 6 15) rfl rfl (by kernel_rfl) q125t (fun K hK => ?_)
 refine goes_ Tryd.func24 (by kernel_rfl) rfl #[.pointer (some ⟨g318, 0, none⟩), .agg #[oY, oZ, o1, o2, o3, o4]] q127t rfl rfl q66t ?_
 with_reducible refine (spec_l7Any.calls k g318 pU ru rv oY oZ o1 o2 o3 o4 CE CF CG CH CI CJ CK CL CM CN CO CP CQ IU IV w _ ?side1 ?side2 A4.out).mono ?_
 (case side1 => repeat (first | (with_reducible first | exact eF.out | apply IsS69.alloc | apply IsS69.drewN | apply IsS69.drew | apply IsS69.set_1 | apply IsS69.set_2 | refine IsS69.far ?_ (Aside0.out q123t) _) | exact eF.out))
 (case side2 => repeat (first | (with_reducible first | exact HB.out | apply below_alloc | apply pw_below_drewN | apply below_drew1 | refine below_set ?_ (IsS69.ge eF.out) | refine below_set ?_ (Aside0.out q123t)) | exact HB.out))
 rintro e w16 ⟨v337, v342, v345, rfl, ho0, ho1, ho2, hi, hb, hk⟩
 refine ⟨_, rfl, ?_⟩
 replace cH := kbb cH hk CR.out q126t
 replace bW := kbb bW hk CS.out q126t
 replace gm := kbb gm hk CT.out q126t
 have CU := am (Kd.R_lower ho0 (below_size q34t))
 have CV := am (Kd.R_lower ho1 (below_size q34t))
 have CW := am (Kd.R_lower ho2 (below_size q34t))
 replace HB := am (hb)
 replace eF := am (hi)
 (try clear hb)
 (try clear hb2)
 (try clear hk)
 (try clear hi)
 (try clear ho0)
 (try clear ho1)
 (try clear ho2)
 obtain ⟨IX, IY, CX⟩ := Kd.R_slice CU.out
 (first | subst CX | (injection CX with f1_ f2_ f3_; have f4_ := f1_.symm; have f5_ := f3_.symm; clear f1_ f2_ f3_; subst f4_; subst f5_))
 obtain ⟨cO, cP, pV⟩ := Kd.R_slice CV.out
 (first | subst pV | (injection pV with f1_ f2_ f3_; have f4_ := f1_.symm; have f5_ := f3_.symm; clear f1_ f2_ f3_; subst f4_; subst f5_))
 obtain ⟨cQ, cR, pW⟩ := Kd.R_slice CW.out
 (first | subst pW | (injection pW with f1_ f2_ f3_; have f4_ := f1_.symm; have f5_ := f3_.symm; clear f1_ f2_ f3_; subst f4_; subst f5_))
 refine hK.out _ _ (by first | exact ⟨(blk_cell gm.out 0).trans rfl, (blk_cell gm.out 1).trans rfl, (blk_cell gm.out 2).trans rfl, (blk_cell gm.out 3).trans rfl, (blk_cell gm.out 4).trans rfl, (blk_cell gm.out 5).trans rfl⟩ | exact hHeld) (fun hHeld => ?_)
 clear hK K
 refine norm_ (a' := ?_) ?_ ?_
 rotate_left
 ·show Act.put _ (some 13) _ = _
  simp only [Act.put, List.setIfInBounds_toArray, List.set_cons_zero, List.set_cons_succ, i64_w, i32_w]
  rfl
 refine one_ (i := 4) (N := none) (bm 6 31) rfl rfl (by kernel_rfl) q125t (fun K hK => ?_)
 have hs17 : w16.cell? ⟨ic, 0, none⟩ = some (.int .i64 0) := (blk_cell cH.out 0).trans rfl
 have hfs17 := blk_frozen cH.out 0
 have PZ := fk.out
 have P0 := o6.out
 have P1 := fj.out
 have P2 := o5.out
 have hs18 : w16.cell? ⟨ic, 1, none⟩ = some (.int .i64 0) := (blk_cell cH.out 1).trans rfl
 have hfs18 := blk_frozen cH.out 1
 have P3 := fk.out
 have P4 := o6.out
 have P5 := fj.out
 have P6 := o5.out
 have hs19 : w16.cell? ⟨ic, 2, none⟩ = some (.int .i64 0) := (blk_cell cH.out 2).trans rfl
 have hfs19 := blk_frozen cH.out 2
 have P7 := fk.out
 have P8 := o6.out
 have P9 := fj.out
 have Qa := o5.out
 have hs20 : w16.cell? ⟨ic, 3, none⟩ = some (.int .i64 0) := (blk_cell cH.out 3).trans rfl
 have hfs20 := blk_frozen cH.out 3
 have Qb := fk.out
 have Qc := o6.out
 have Qd := fj.out
 have Qe := o5.out
 have hs21 : w16.cell? ⟨ic, 4, none⟩ = some (.int .i64 0) := (blk_cell cH.out 4).trans rfl
 have hfs21 := blk_frozen cH.out 4
 have Qf := fk.out
 have Qg := o6.out
 have Qh := fj.out
 have Qi := o5.out
 have hs22 : w16.cell? ⟨ic, 5, none⟩ = some (.int .i64 0) := (blk_cell cH.out 5).trans rfl
 have hfs22 := blk_frozen cH.out 5
 have Qj := fk.out
 have Qk := o6.out
 have Ql := fj.out
 have Qm := o5.out
 refine skip_ (w1 := ?_) q127t rfl ?_ ?_
 rotate_left
 ·go_simp
  rfl
 refine hK.out _ _ qcf (fun hHeld => ?_)
 clear hK K
 refine one_ (i := 5) (N := none) (bm 6 63) rfl rfl (by kernel_rfl) q125t (fun K hK => ?_)
 have hs23 : w16.cell? ⟨eT, 0, none⟩ = some (.int .i64 0) := (blk_cell bW.out 0).trans rfl
 have hfs23 := blk_frozen bW.out 0
 have Qn := fj.out
 have Qo := ig.out
 have Qp := fk.out
 have Qq := ie.out
 have hs24 : w16.cell? ⟨eT, 1, none⟩ = some (.int .i64 0) := (blk_cell bW.out 1).trans rfl
 have hfs24 := blk_frozen bW.out 1
 have Qr := fj.out
 have Qs := ig.out
 have Qt := fk.out
 have Qu := ie.out
 have hs25 : w16.cell? ⟨eT, 2, none⟩ = some (.int .i64 0) := (blk_cell bW.out 2).trans rfl
 have hfs25 := blk_frozen bW.out 2
 have Qv := fj.out
 have Qw := ig.out
 have Qx := fk.out
 have Qy := ie.out
 have hs26 : w16.cell? ⟨eT, 3, none⟩ = some (.int .i64 0) := (blk_cell bW.out 3).trans rfl
 have hfs26 := blk_frozen bW.out 3
 have Qz := fj.out
 have QA := ig.out
 have QB := fk.out
 have QC := ie.out
 have hs27 : w16.cell? ⟨eT, 4, none⟩ = some (.int .i64 0) := (blk_cell bW.out 4).trans rfl
 have hfs27 := blk_frozen bW.out 4
 have QD := fj.out
 have QE := ig.out
 have QF := fk.out
 have QG := ie.out
 have hs28 : w16.cell? ⟨eT, 5, none⟩ = some (.int .i64 0) := (blk_cell bW.out 5).trans rfl
 have hfs28 := blk_frozen bW.out 5
 have QH := fj.out
 have QI := ig.out
 have QJ := fk.out
 have QK := ie.out
 have hs29 : w16.cell? ⟨eT, 6, none⟩ = some (.int .i64 0) := (blk_cell bW.out 6).trans rfl
 have hfs29 := blk_frozen bW.out 6
 have QL := fj.out
 have QM := ig.out
 have QN := fk.out
 have QO := ie.out
 have hs30 : w16.cell? ⟨eT, 7, none⟩ = some (.int .i64 0) := (blk_cell bW.out 7).trans rfl
 have hfs30 := blk_frozen bW.out 7
 have QP := fj.out
 have QQ := ig.out
 have QR := fk.out
 have QS := ie.out
 have hs32 : w16.cell? ⟨eT, 8, none⟩ = some (.slice none 0 0) := (blk_cell bW.out 8).trans rfl
 have hfs32 := blk_frozen bW.out 8
 have QT := fj.out
 have QU := ig.out
 have QV := fk.out
 have QW := ie.out
 have hs33 : w16.cell? ⟨eT, 9, none⟩ = some (.int .i64 0) := (blk_cell bW.out 9).trans rfl
 have hfs33 := blk_frozen bW.out 9
 have GC := fj.out
 have QX := ig.out
 have GD := fk.out
 have QY := ie.out
 have hs34 : w16.cell? ⟨eT, 10, none⟩ = some (.int .i64 0) := (blk_cell bW.out 10).trans rfl
 have hfs34 := blk_frozen bW.out 10
 have GE := fj.out
 have QZ := ig.out
 have GF := fk.out
 have Q0 := ie.out
 have hs36 : w16.cell? ⟨eT, 11, none⟩ = some (.slice none 0 0) := (blk_cell bW.out 11).trans rfl
 have hfs36 := blk_frozen bW.out 11
 have Q1 := fj.out
 have Q2 := ig.out
 have Q3 := fk.out
 have Q4 := ie.out
 have hs38 : w16.cell? ⟨eT, 12, none⟩ = some (.slice none 0 0) := (blk_cell bW.out 12).trans rfl
 have hfs38 := blk_frozen bW.out 12
 have Q5 := fj.out
 have Q6 := ig.out
 have Q7 := fk.out
 have Q8 := ie.out
 refine skip_ (w1 := ?_) q127t rfl ?_ ?_
 rotate_left
 ·go_simp
  rfl
 refine hK.out _ _ qcf (fun hHeld => ?_)
 clear hK K
 refine done_ (by kernel_rfl) ?_
 try go_wp2
 refine bodyPost_ret (results_cc rfl _ _ ic eT 25 29 #[oY, oZ, o1, o2, o3, o4] #[CE, CF, CG, CH, CI, CJ, CK, CL, .slice IX CM.length IY, CN, CO, .slice cO CP.length cP, .slice cQ CQ.length cR] (0, 0) (0, 0) _ _ rfl (qbm cH) Tryd.underlying25 rfl (by kernel_rfl) rfl (qbm bW) Tryd.underlying29 rfl (by kernel_rfl)) rfl ?_
 exact ⟨_, _, _, q114t, (by (with_reducible repeat (first | apply Kd.R_alloc | apply Kd.R_drewN | apply Kd.R_drew)); exact Kd.R_mono (rk13 (rk6 (Kd.R_types (Kd.R_types CU.out cH.out q125t) bW.out q125t) (fun _ hk => hk.1.2))) (fun _ hk => hk.1.1)), (by (with_reducible repeat (first | apply Kd.R_alloc | apply Kd.R_drewN | apply Kd.R_drew)); exact Kd.R_mono (rk13 (rk6 (Kd.R_types (Kd.R_types CV.out cH.out q125t) bW.out q125t) (fun _ hk => hk.1.2))) (fun _ hk => trivial)), (by (with_reducible repeat (first | apply Kd.R_alloc | apply Kd.R_drewN | apply Kd.R_drew)); exact Kd.R_mono (rk13 (rk6 (Kd.R_types (Kd.R_types CW.out cH.out q125t) bW.out q125t) (fun _ hk => hk.1.2))) (fun _ hk => hk.1.1)), q34t⟩

/-! ### spec_l3Any: function 25 -/
def spec_l3Any.j0 : Nat → List Int → Int → Int → Int → Int → Int → Int → Int → Int → Option (Int × Int × Int × Int × Int × Int × Int × Int)
 | 0, _, _, _, _, _, _, _, _, _ => none
 | k + 1, eJ, fE, fF, IZ, I0, I1, I2, I3, I4 => some (IZ, I0, I1, I2, I3, I4, fE, fF)
def spec_l3Any.f (k : Nat) (ah : List Int) (a5 : Int) (a7 : Int) : Option (Int × Int × Int × Int × Int × Int × Int × Int) := (spec_l3Conf.f ah a5 a7).bind fun bc => ((spec_l1Below.f ah bc.2.2.2.2.2.2.1 bc.2.2.2.2.2.2.2 14).bind fun co => (if co.1 = 0 then ((spec_l1Int.f ah co.2.1 co.2.2 (([1, 2, 12, 13] : List Int))).bind fun ke => (spec_l3Any.j0 k ah ke.2.1 ke.2.2 ke.1 bc.2.1 bc.2.2.1 bc.2.2.2.1 bc.2.2.2.2.1 bc.2.2.2.2.2.1)) else (if co.1 = 1 then ((spec_l1Int.f ah co.2.1 co.2.2 (([7, 8, 16, 17] : List Int))).bind fun kf => (spec_l3Any.j0 k ah kf.2.1 kf.2.2 bc.1 kf.1 bc.2.2.1 bc.2.2.2.1 bc.2.2.2.2.1 bc.2.2.2.2.2.1)) else (if co.1 = 2 then ((spec_l1Int.f ah co.2.1 co.2.2 (([1, 8, 9] : List Int))).bind fun kg => (spec_l3Any.j0 k ah kg.2.1 kg.2.2 bc.1 bc.2.1 kg.1 bc.2.2.2.1 bc.2.2.2.2.1 bc.2.2.2.2.2.1)) else (if co.1 = 3 then ((spec_l1Int.f ah co.2.1 co.2.2 (([0, 8, 9] : List Int))).bind fun kh => (spec_l3Any.j0 k ah kh.2.1 kh.2.2 bc.1 bc.2.1 bc.2.2.1 kh.1 bc.2.2.2.2.1 bc.2.2.2.2.2.1)) else (if co.1 = 4 then ((spec_l1Int.f ah co.2.1 co.2.2 (([0, 17] : List Int))).bind fun ki => (spec_l3Any.j0 k ah ki.2.1 ki.2.2 bc.1 bc.2.1 bc.2.2.1 bc.2.2.2.1 ki.1 bc.2.2.2.2.2.1)) else (if co.1 = 5 then ((spec_l1Int.f ah co.2.1 co.2.2 (([0, 5] : List Int))).bind fun kj => (spec_l3Any.j0 k ah kj.2.1 kj.2.2 bc.1 bc.2.1 bc.2.2.1 bc.2.2.2.1 bc.2.2.2.2.1 kj.1)) else (spec_l3Any.j0 k ah co.2.1 co.2.2 bc.1 bc.2.1 bc.2.2.1 bc.2.2.2.1 bc.2.2.2.2.1 bc.2.2.2.2.2.1))))))))
set_option maxHeartbeats 8000000 in
set_option maxRecDepth 100000 in
theorem spec_l3Any.calls (k : Nat) (g : Nat) (ah : List Int) (a5 : Int) (a7 : Int) (r1 : Int) (r2 : Int) (r3 : Int) (r4 : Int) (r5 : Int) (r6 : Int) (r7 : Int) (r8 : Int) (w0 w : World) (hI : IsS69 w0 w g ah a5 a7) (hB : Below w0.heap.size w0 w) (h : spec_l3Any.f k ah a5 a7 = some (r1, r2, r3, r4, r5, r6, r7, r8)) :
  Calls Tryd.prog 25 #[.pointer (some ⟨g, 0, none⟩)] w fun e w' => e = .returned (.agg #[r1, r2, r3, r4, r5, r6]) ∧ IsS69 w0 w' g ah r7 r8 ∧ Below w0.heap.size w0 w' ∧ KeepBut w w' g none := by
 have hu25 := Tryd.underlying25
 have HI0 := Aside0.mk hI
 have HK := am (KeepBut.refl w g none)
 have HL := Aside0.mk hB.size
 clear hI
 have HW0 := Aside0.mk hB.size
 have HB := Aside0.mk hB
 clear hB
 have H : ((spec_l3Conf.f ah a5 a7).bind fun bc => ((spec_l1Below.f ah bc.2.2.2.2.2.2.1 bc.2.2.2.2.2.2.2 14).bind fun co => (if co.1 = 0 then ((spec_l1Int.f ah co.2.1 co.2.2 (([1, 2, 12, 13] : List Int))).bind fun ke => (spec_l3Any.j0 k ah ke.2.1 ke.2.2 ke.1 bc.2.1 bc.2.2.1 bc.2.2.2.1 bc.2.2.2.2.1 bc.2.2.2.2.2.1)) else (if co.1 = 1 then ((spec_l1Int.f ah co.2.1 co.2.2 (([7, 8, 16, 17] : List Int))).bind fun kf => (spec_l3Any.j0 k ah kf.2.1 kf.2.2 bc.1 kf.1 bc.2.2.1 bc.2.2.2.1 bc.2.2.2.2.1 bc.2.2.2.2.2.1)) else (if co.1 = 2 then ((spec_l1Int.f ah co.2.1 co.2.2 (([1, 8, 9] : List Int))).bind fun kg => (spec_l3Any.j0 k ah kg.2.1 kg.2.2 bc.1 bc.2.1 kg.1 bc.2.2.2.1 bc.2.2.2.2.1 bc.2.2.2.2.2.1)) else (if co.1 = 3 then ((spec_l1Int.f ah co.2.1 co.2.2 (([0, 8, 9] : List Int))).bind fun kh => (spec_l3Any.j0 k ah kh.2.1 kh.2.2 bc.1 bc.2.1 bc.2.2.1 kh.1 bc.2.2.2.2.1 bc.2.2.2.2.2.1)) else (if co.1 = 4 then ((spec_l1Int.f ah co.2.1 co.2.2 (([0, 17] : List Int))).bind fun ki => (spec_l3Any.j0 k ah ki.2.1 ki.2.2 bc.1 bc.2.1 bc.2.2.1 bc.2.2.2.1 ki.1 bc.2.2.2.2.2.1)) else (if co.1 = 5 then ((spec_l1Int.f ah co.2.1 co.2.2 (([0, 5] : List Int))).bind fun kj => (spec_l3Any.j0 k ah kj.2.1 kj.2.2 bc.1 bc.2.1 bc.2.2.1 bc.2.2.2.1 bc.2.2.2.2.1 kj.1)) else (spec_l3Any.j0 k ah co.2.1 co.2.2 bc.1 bc.2.1 bc.2.2.1 bc.2.2.2.1 bc.2.2.2.2.1 bc.2.2.2.2.2.1))))))))) = some (r1, r2, r3, r4, r5, r6, r7, r8) := h
 clear h
 obtain ⟨⟨jt, ju, jv, jw, jx, jy, un, uo⟩, A2, H⟩ := bnd H
 try dsimp only at H
 obtain ⟨⟨dw, e2, e3⟩, A3, H⟩ := bnd H
 try dsimp only at H
 have kk := Aside0.mk H
 clear H
 go_enter Tryd.func25, Tryd.ntmps25
 go_upto_block 0 with (first | ((with_reducible refine gate_dst (N := 2) rfl ?_); refine box_ev 2 #[.int .i64 0, .int .i64 0, .int .i64 0, .int .i64 0, .int .i64 0, .int .i64 0] 25 ?_; intro kT hg w5 hbox hb; replace HB := am (below_step q60t hb); have cd := am (hbox); have AM := am ((q46t : w.heap.size ≤ kT)); have Q9 := am ((Nat.le_trans HW0.out (q46t : w.heap.size ≤ kT) : w0.heap.size ≤ kT)); replace HK := am (KeepBut.trans q64t (KeepBut.of_below hb g none) (.inl rfl)); have I5 := am ((q18t : g ≠ kT)); have l9 := am ((q19t : kT ≠ g)); replace HI0 := am (IsS69.below q61t hb); clear hb hbox hg) | ((with_reducible refine gate_callee (f := 23) rfl ?_); refine goesL_ (some 5) rfl rfl Tryd.func23 (by kernel_rfl) rfl #[.pointer (some ⟨g, 0, none⟩)] rfl q66t ?_; (with_reducible refine (spec_l3Conf.calls g ah a5 a7 jt ju jv jw jx jy un uo w0 _ ?side1 ?side2 A2.out).mono ?_); (case side1 => repeat (first | (with_reducible first | exact HI0.out | apply IsS69.alloc | apply IsS69.drewN | apply IsS69.drew | apply IsS69.set_1 | apply IsS69.set_2 | refine IsS69.far ?_ (Aside0.out q123t) _) | exact HI0.out)); (case side2 => repeat (first | (with_reducible first | exact HB.out | apply below_alloc | apply pw_below_drewN | apply below_drew1 | refine below_set ?_ (IsS69.ge HI0.out) | refine below_set ?_ (Aside0.out q123t)) | exact HB.out)); rintro e w6 ⟨rfl, hi, hb, hk⟩; refine ⟨_, rfl, ?_⟩; replace cd := kbb cd hk l9.out q126t; replace HK := am (KeepBut.trans q53t hk (.inl rfl)); replace HB := am (hb); replace HI0 := am (hi); (try clear hb); (try clear hb2); (try clear hk); (try clear hi)) | ((with_reducible refine gate_dst (N := 3) rfl ?_); refine box_ev 3 #[.int .i64 0, .int .i64 0, .int .i64 0, .int .i64 0, .int .i64 0, .int .i64 0] 25 ?_; intro nB hg w7 hbox hb; replace HB := am (below_step q38t hb); have bU := am (hbox); have F3 := am ((by rw [hg]; exact (keep_size (w := w) (g := g) (row := none) q53t) : w.heap.size ≤ nB)); have Ra := am ((Nat.le_trans HW0.out (by rw [hg]; exact (keep_size (w := w) (g := g) (row := none) q53t) : w.heap.size ≤ nB) : w0.heap.size ≤ nB)); replace HK := am (KeepBut.trans q53t (KeepBut.of_below hb g none) (.inl rfl)); have nC := am ((by rw [hg]; exact Nat.ne_of_lt (blk_lt (qbk cd)) : kT ≠ nB)); have nD := am ((by rw [hg]; exact Nat.ne_of_gt (blk_lt (qbk cd)) : nB ≠ kT)); replace cd := blb cd hb; have nE := am ((by rw [hg]; exact Nat.ne_of_lt (IsS69.lt (show IsS69 w0 _ g ah un uo from by repeat (first | (with_reducible first | exact HI0.out | apply IsS69.alloc | apply IsS69.drewN | apply IsS69.drew | apply IsS69.set_1 | apply IsS69.set_2 | refine IsS69.far ?_ (Aside0.out q123t) _) | exact HI0.out))) : g ≠ nB)); have gY := am ((by rw [hg]; exact Nat.ne_of_gt (IsS69.lt (show IsS69 w0 _ g ah un uo from by repeat (first | (with_reducible first | exact HI0.out | apply IsS69.alloc | apply IsS69.drewN | apply IsS69.drew | apply IsS69.set_1 | apply IsS69.set_2 | refine IsS69.far ?_ (Aside0.out q123t) _) | exact HI0.out))) : nB ≠ g)); replace HI0 := am (IsS69.below q39t hb); clear hb hbox hg; have Ig := nD.out; have Ih := nC.out; have vZ := gY.out; have wa := nE.out; have wS := qc6 bU.out; have wT := qf6 bU.out) | ((with_reducible refine gate_callee (f := 26) rfl ?_); refine goesL_ (some 7) rfl rfl Tryd.func26 (by kernel_rfl) rfl #[.pointer (some ⟨g, 0, none⟩), .int .i64 14] rfl q66t ?_; (with_reducible refine (spec_l1Below.calls g ah un uo 14 dw e2 e3 w0 _ ?side1 ?side2 A3.out).mono ?_); (case side1 => repeat (first | (with_reducible first | exact HI0.out | apply IsS69.alloc | apply IsS69.drewN | apply IsS69.drew | apply IsS69.set_1 | apply IsS69.set_2 | refine IsS69.far ?_ (Aside0.out q123t) _) | exact HI0.out)); (case side2 => repeat (first | (with_reducible first | exact HB.out | apply below_alloc | apply pw_below_drewN | apply below_drew1 | refine below_set ?_ (IsS69.ge HI0.out) | refine below_set ?_ (Aside0.out q123t)) | exact HB.out)); rintro e w11 ⟨rfl, hi, hb, hk⟩; refine ⟨_, rfl, ?_⟩; replace cd := am (KeepBut.blk hk (g' := kT) (o := .cells #[.int .i64 0, .int .i64 0, .int .i64 0, .int .i64 0, .int .i64 0, .int .i64 0] 25 (0, 0)) (qbf cd) l9.out q126t); replace bU := kbp bU hk gY.out q126t; replace HK := am (KeepBut.trans q45t hk (.inl rfl)); replace HB := am (hb); replace HI0 := am (hi); (try clear hb); (try clear hb2); (try clear hk); (try clear hi)))
 (try simp only [Act.put, List.setIfInBounds_toArray, List.set_cons_zero, List.set_cons_succ])
 go_cut [] (fun wc => ∃ (kq : Nat) (gP : Int) (gQ : Int) (up : Int) (uq : Int) (ur : Int) (us : Int) (ut : Int) (uu : Int), Aside0 (spec_l3Any.j0 kq ah gP gQ up uq ur us ut uu = some (r1, r2, r3, r4, r5, r6, r7, r8)) ∧ Aside0 (kq ≤ k) ∧ Aside0 (wc.heap[kT]? = some (.cells #[.int .i64 0, .int .i64 0, .int .i64 0, .int .i64 0, .int .i64 0, .int .i64 0] 25 (0, 0))) ∧ Aside0 (wc.heap[nB]? = some (.cells #[up, uq, ur, us, ut, uu] 25 (0, 0))) ∧ Aside0 (IsS69 w0 wc g ah gP gQ) ∧ Aside0 (KeepBut w wc g none) ∧ Aside0 (Below w0.heap.size w0 wc))
 case first =>
  have H := kk.out
  clear kk
  by_cases c12 : dw = 0
  ·rw [if_pos c12] at H
   have kU : (dw == 0) = true := beq_iff_eq.mpr c12
   have pX : (dw != 0) = false := bne_eq_false_iff_eq.mpr c12
   clear c12
   (first | rw [kU] | (simp only [i64_w, i32_w]; rw [kU]) | skip)
   obtain ⟨xC, hy362⟩ : ∃ y_ : List Int, y_ = (([1, 2, 12, 13] : List Int)) := ⟨_, rfl⟩
   replace H : ((spec_l1Int.f ah e2 e3 xC).bind fun ke => (spec_l3Any.j0 k ah ke.2.1 ke.2.2 ke.1 ju jv jw jx jy)) = some (r1, r2, r3, r4, r5, r6, r7, r8) := by first | (rw [hy362]; with_reducible exact H) | (have H2_ := (Option.bind_some _ _).symm.trans H; rw [hy362]; with_reducible exact H2_) | (have H2_ := (Option.bind_some _ _).symm.trans H; with_reducible exact H2_) | with_reducible exact H | (rw [hy362]; exact H) | exact H
   have CY := Aside0.mk hy362
   clear hy362
   obtain ⟨⟨CZ, C0, C1⟩, I6, H⟩ := bnd H
   try dsimp only at H
   have H' := Aside0.mk H
   clear H
   go_wp2_with (first | ((with_reducible refine gate_dst (N := 11) rfl ?_); refine Kd.R_lit (Kd.int .i64) _ 3 ?hg (N := 11) ?hd (xs := ([1, 2, 12, 13] : List Int)) (inner := [.int .i64 1, .int .i64 2, .int .i64 12, .int .i64 13]) (ok := fun _ => True) (okp := fun _ => True) ?hr ?hp (fun _ hk => hk) trivial (Below.refl _ _) (Nat.le_refl _) q126t ?_; (case hd => rfl); (case hg => rfl); (case hr => first | (go_simp; done) | (go_simp; rfl)); (case hp => exact (Reps.one (show Kd.M (Kd.int .i64) _ _ _ 1 [.int .i64 1] from rfl) (Reps.one (show Kd.M (Kd.int .i64) _ _ _ 2 [.int .i64 2] from rfl) (Reps.one (show Kd.M (Kd.int .i64) _ _ _ 12 [.int .i64 12] from rfl) (Reps.one (show Kd.M (Kd.int .i64) _ _ _ 13 [.int .i64 13] from rfl) (Reps.none _ _)))))); intro v363 w14 ho15 hb hg_ hnew_; clear hg_ hnew_; (first | rw [← CY.out] at ho15 | (simp only [Int.reduceToNat] at ho15; rw [← CY.out] at ho15)); have pY := am (Kd.R_lower ho15 (keep_size (w := w) (g := g) (row := none) q45t)); replace cd := blb cd hb; replace bU := blb bU hb; replace HK := am (KeepBut.trans q45t (KeepBut.of_below hb g none) (.inl rfl)); replace HB := am (below_step q38t hb); replace HI0 := am (IsS69.below q39t hb); clear hb ho15; obtain ⟨dF, dG, xD⟩ := Kd.R_slice pY.out; subst xD) | ((with_reducible refine gate_callee (f := 50) rfl ?_); refine goesL_ (some 12) rfl rfl Tryd.func50 (by kernel_rfl) rfl #[.pointer (some ⟨g, 0, none⟩), .slice dF xC.length dG] rfl q66t ?_; (with_reducible refine (spec_l1Int.calls g ah e2 e3 _ _ xC CZ C0 C1 w0 _ ?side1 ?side2 ?side3 ?side4 ?side5 I6.out).mono ?_); (case side1 => repeat (first | (with_reducible first | exact HI0.out | apply IsS69.alloc | apply IsS69.drewN | apply IsS69.drew | apply IsS69.set_1 | apply IsS69.set_2 | refine IsS69.far ?_ (Aside0.out q123t) _) | exact HI0.out)); (case side2 => repeat (first | (with_reducible first | exact HB.out | apply below_alloc | apply pw_below_drewN | apply below_drew1 | refine below_set ?_ (IsS69.ge HI0.out) | refine below_set ?_ (Aside0.out q123t)) | exact HB.out)); (case side3 => repeat (first | exact (Kd.R_reads' pY.out).2.2 | (with_reducible refine Kd.C_alloc ?_ _) | (with_reducible refine Kd.C_drewN ?_ _) | (with_reducible refine Kd.C_drew ?_))); (case side4 => exact (Kd.R_reads' pY.out).2.1); (case side5 => exact far_slice (IsS69.own_ne HI0.out pY.out q125t)); rintro e w17 ⟨rfl, hi, hb, hk⟩; refine ⟨_, rfl, ?_⟩; replace cd := kbb cd hk l9.out q126t; replace bU := kbb bU hk gY.out q126t; replace pY := am (Kd.R_mono (Kd.R_keep (IsS69.apart (show IsS69 w0 _ g ah e2 e3 from by repeat (first | (with_reducible first | exact HI0.out | apply IsS69.alloc | apply IsS69.drewN | apply IsS69.drew | apply IsS69.set_1 | apply IsS69.set_2 | refine IsS69.far ?_ (Aside0.out q123t) _) | exact HI0.out)) (by (with_reducible repeat (first | apply Kd.R_alloc | apply Kd.R_drewN | apply Kd.R_drew)); exact pY.out) q125t) hk (fun _ h => h.2)) (fun _ h => h.1)); replace HK := am (KeepBut.trans q45t hk (.inl rfl)); replace HB := am (hb); replace HI0 := am (hi); (try clear hb); (try clear hb2); (try clear hk); (try clear hi); have Br := nD.out; have Bs := nC.out; have wn := gY.out; have wo := nE.out; have kG := qc6 bU.out; have kH := qf6 bU.out))
   go_meet
   case rel => exact ⟨_, (C0), (C1), (CZ), (ju), (jv), (jw), (jx), (jy), H', ⟨q122t⟩, ⟨(qbf cd)⟩, ⟨qbp bU⟩, ⟨q39t⟩, ⟨q45t⟩, ⟨q38t⟩⟩
  rw [if_neg c12] at H
  have kU : (dw == 0) = false := beq_eq_false_iff_ne.mpr c12
  have pX : (dw != 0) = true := bne_iff_ne.mpr c12
  (first | rw [kU] | (simp only [i64_w, i32_w]; rw [kU]) | skip)
  by_cases c21 : dw = 1
  ·rw [if_pos c21] at H
   have kS : (dw == 1) = true := beq_iff_eq.mpr c21
   have pN : (dw != 1) = false := bne_eq_false_iff_eq.mpr c21
   clear c21
   obtain ⟨xE, hy368⟩ : ∃ y_ : List Int, y_ = (([7, 8, 16, 17] : List Int)) := ⟨_, rfl⟩
   replace H : ((spec_l1Int.f ah e2 e3 xE).bind fun kf => (spec_l3Any.j0 k ah kf.2.1 kf.2.2 jt kf.1 jv jw jx jy)) = some (r1, r2, r3, r4, r5, r6, r7, r8) := by first | (rw [hy368]; with_reducible exact H) | (have H2_ := (Option.bind_some _ _).symm.trans H; rw [hy368]; with_reducible exact H2_) | (have H2_ := (Option.bind_some _ _).symm.trans H; with_reducible exact H2_) | with_reducible exact H | (rw [hy368]; exact H) | exact H
   have C2 := Aside0.mk hy368
   clear hy368
   obtain ⟨⟨C3, C4, C5⟩, qM, H⟩ := bnd H
   try dsimp only at H
   have H' := Aside0.mk H
   clear H
   go_wp2_with (first | ((with_reducible refine gate_dst (N := 17) rfl ?_); refine Kd.R_lit (Kd.int .i64) _ 3 ?hg (N := 17) ?hd (xs := ([7, 8, 16, 17] : List Int)) (inner := [.int .i64 7, .int .i64 8, .int .i64 16, .int .i64 17]) (ok := fun _ => True) (okp := fun _ => True) ?hr ?hp (fun _ hk => hk) trivial (Below.refl _ _) (Nat.le_refl _) q126t ?_; (case hd => rfl); (case hg => rfl); (case hr => first | (go_simp; done) | (go_simp; rfl)); (case hp => exact (Reps.one (show Kd.M (Kd.int .i64) _ _ _ 7 [.int .i64 7] from rfl) (Reps.one (show Kd.M (Kd.int .i64) _ _ _ 8 [.int .i64 8] from rfl) (Reps.one (show Kd.M (Kd.int .i64) _ _ _ 16 [.int .i64 16] from rfl) (Reps.one (show Kd.M (Kd.int .i64) _ _ _ 17 [.int .i64 17] from rfl) (Reps.none _ _)))))); intro v369 w23 ho24 hb hg_ hnew_; clear hg_ hnew_; (first | rw [← C2.out] at ho24 | (simp only [Int.reduceToNat] at ho24; rw [← C2.out] at ho24)); have pZ := am (Kd.R_lower ho24 (keep_size (w := w) (g := g) (row := none) q45t)); replace cd := blb cd hb; replace bU := blb bU hb; replace HK := am (KeepBut.trans q45t (KeepBut.of_below hb g none) (.inl rfl)); replace HB := am (below_step q38t hb); replace HI0 := am (IsS69.below q39t hb); clear hb ho24; obtain ⟨kV, km, xF⟩ := Kd.R_slice pZ.out; subst xF) | ((with_reducible refine gate_callee (f := 50) rfl ?_); refine goesL_ (some 18) rfl rfl Tryd.func50 (by kernel_rfl) rfl #[.pointer (some ⟨g, 0, none⟩), .slice kV xE.length km] rfl q66t ?_; (with_reducible refine (spec_l1Int.calls g ah e2 e3 _ _ xE C3 C4 C5 w0 _ ?side1 ?side2 ?side3 ?side4 ?side5 qM.out).mono ?_); (case side1 => repeat (first | (with_reducible first | exact HI0.out | apply IsS69.alloc | apply IsS69.drewN | apply IsS69.drew | apply IsS69.set_1 | apply IsS69.set_2 | refine IsS69.far ?_ (Aside0.out q123t) _) | exact HI0.out)); (case side2 => repeat (first | (with_reducible first | exact HB.out | apply below_alloc | apply pw_below_drewN | apply below_drew1 | refine below_set ?_ (IsS69.ge HI0.out) | refine below_set ?_ (Aside0.out q123t)) | exact HB.out)); (case side3 => repeat (first | exact (Kd.R_reads' pZ.out).2.2 | (with_reducible refine Kd.C_alloc ?_ _) | (with_reducible refine Kd.C_drewN ?_ _) | (with_reducible refine Kd.C_drew ?_))); (case side4 => exact (Kd.R_reads' pZ.out).2.1); (case side5 => exact far_slice (IsS69.own_ne HI0.out pZ.out q125t)); rintro e w26 ⟨rfl, hi, hb, hk⟩; refine ⟨_, rfl, ?_⟩; replace cd := kbb cd hk l9.out q126t; replace bU := kbb bU hk gY.out q126t; replace pZ := am (Kd.R_mono (Kd.R_keep (IsS69.apart (show IsS69 w0 _ g ah e2 e3 from by repeat (first | (with_reducible first | exact HI0.out | apply IsS69.alloc | apply IsS69.drewN | apply IsS69.drew | apply IsS69.set_1 | apply IsS69.set_2 | refine IsS69.far ?_ (Aside0.out q123t) _) | exact HI0.out)) (by (with_reducible repeat (first | apply Kd.R_alloc | apply Kd.R_drewN | apply Kd.R_drew)); exact pZ.out) q125t) hk (fun _ h => h.2)) (fun _ h => h.1)); replace HK := am (KeepBut.trans q45t hk (.inl rfl)); replace HB := am (hb); replace HI0 := am (hi); (try clear hb); (try clear hb2); (try clear hk); (try clear hi); have Rb := nD.out; have Rc := nC.out; have I7 := gY.out; have I8 := nE.out; have tR := qc6 bU.out; have tS := qf6 bU.out))
   go_meet
   case rel => exact ⟨_, (C4), (C5), (jt), (C3), (jv), (jw), (jx), (jy), H', ⟨q122t⟩, ⟨(qbf cd)⟩, ⟨qbp bU⟩, ⟨q39t⟩, ⟨q45t⟩, ⟨q38t⟩⟩
  rw [if_neg c21] at H
  have kS : (dw == 1) = false := beq_eq_false_iff_ne.mpr c21
  have pN : (dw != 1) = true := bne_iff_ne.mpr c21
  by_cases c30 : dw = 2
  ·rw [if_pos c30] at H
   have rx : (dw == 2) = true := beq_iff_eq.mpr c30
   have C6 : (dw != 2) = false := bne_eq_false_iff_eq.mpr c30
   clear c30
   obtain ⟨xG, hy374⟩ : ∃ y_ : List Int, y_ = (([1, 8, 9] : List Int)) := ⟨_, rfl⟩
   replace H : ((spec_l1Int.f ah e2 e3 xG).bind fun kg => (spec_l3Any.j0 k ah kg.2.1 kg.2.2 jt ju kg.1 jw jx jy)) = some (r1, r2, r3, r4, r5, r6, r7, r8) := by first | (rw [hy374]; with_reducible exact H) | (have H2_ := (Option.bind_some _ _).symm.trans H; rw [hy374]; with_reducible exact H2_) | (have H2_ := (Option.bind_some _ _).symm.trans H; with_reducible exact H2_) | with_reducible exact H | (rw [hy374]; exact H) | exact H
   have C7 := Aside0.mk hy374
   clear hy374
   obtain ⟨⟨C8, C9, Da⟩, ry, H⟩ := bnd H
   try dsimp only at H
   have H' := Aside0.mk H
   clear H
   go_wp2_with (first | ((with_reducible refine gate_dst (N := 23) rfl ?_); refine Kd.R_lit (Kd.int .i64) _ 3 ?hg (N := 23) ?hd (xs := ([1, 8, 9] : List Int)) (inner := [.int .i64 1, .int .i64 8, .int .i64 9]) (ok := fun _ => True) (okp := fun _ => True) ?hr ?hp (fun _ hk => hk) trivial (Below.refl _ _) (Nat.le_refl _) q126t ?_; (case hd => rfl); (case hg => rfl); (case hr => first | (go_simp; done) | (go_simp; rfl)); (case hp => exact (Reps.one (show Kd.M (Kd.int .i64) _ _ _ 1 [.int .i64 1] from rfl) (Reps.one (show Kd.M (Kd.int .i64) _ _ _ 8 [.int .i64 8] from rfl) (Reps.one (show Kd.M (Kd.int .i64) _ _ _ 9 [.int .i64 9] from rfl) (Reps.none _ _))))); intro v375 w32 ho33 hb hg_ hnew_; clear hg_ hnew_; (first | rw [← C7.out] at ho33 | (simp only [Int.reduceToNat] at ho33; rw [← C7.out] at ho33)); have p0 := am (Kd.R_lower ho33 (keep_size (w := w) (g := g) (row := none) q45t)); replace cd := blb cd hb; replace bU := blb bU hb; replace HK := am (KeepBut.trans q45t (KeepBut.of_below hb g none) (.inl rfl)); replace HB := am (below_step q38t hb); replace HI0 := am (IsS69.below q39t hb); clear hb ho33; obtain ⟨I9, Ja, Jb⟩ := Kd.R_slice p0.out; subst Jb) | ((with_reducible refine gate_callee (f := 50) rfl ?_); refine goesL_ (some 24) rfl rfl Tryd.func50 (by kernel_rfl) rfl #[.pointer (some ⟨g, 0, none⟩), .slice I9 xG.length Ja] rfl q66t ?_; (with_reducible refine (spec_l1Int.calls g ah e2 e3 _ _ xG C8 C9 Da w0 _ ?side1 ?side2 ?side3 ?side4 ?side5 ry.out).mono ?_); (case side1 => repeat (first | (with_reducible first | exact HI0.out | apply IsS69.alloc | apply IsS69.drewN | apply IsS69.drew | apply IsS69.set_1 | apply IsS69.set_2 | refine IsS69.far ?_ (Aside0.out q123t) _) | exact HI0.out)); (case side2 => repeat (first | (with_reducible first | exact HB.out | apply below_alloc | apply pw_below_drewN | apply below_drew1 | refine below_set ?_ (IsS69.ge HI0.out) | refine below_set ?_ (Aside0.out q123t)) | exact HB.out)); (case side3 => repeat (first | exact (Kd.R_reads' p0.out).2.2 | (with_reducible refine Kd.C_alloc ?_ _) | (with_reducible refine Kd.C_drewN ?_ _) | (with_reducible refine Kd.C_drew ?_))); (case side4 => exact (Kd.R_reads' p0.out).2.1); (case side5 => exact far_slice (IsS69.own_ne HI0.out p0.out q125t)); rintro e w35 ⟨rfl, hi, hb, hk⟩; refine ⟨_, rfl, ?_⟩; replace cd := kbb cd hk l9.out q126t; replace bU := kbb bU hk gY.out q126t; replace p0 := am (Kd.R_mono (Kd.R_keep (IsS69.apart (show IsS69 w0 _ g ah e2 e3 from by repeat (first | (with_reducible first | exact HI0.out | apply IsS69.alloc | apply IsS69.drewN | apply IsS69.drew | apply IsS69.set_1 | apply IsS69.set_2 | refine IsS69.far ?_ (Aside0.out q123t) _) | exact HI0.out)) (by (with_reducible repeat (first | apply Kd.R_alloc | apply Kd.R_drewN | apply Kd.R_drew)); exact p0.out) q125t) hk (fun _ h => h.2)) (fun _ h => h.1)); replace HK := am (KeepBut.trans q45t hk (.inl rfl)); replace HB := am (hb); replace HI0 := am (hi); (try clear hb); (try clear hb2); (try clear hk); (try clear hi); have xe := nD.out; have xf := nC.out; have xH := gY.out; have xI := nE.out; have uv := qc6 bU.out; have uw := qf6 bU.out))
   go_meet
   case rel => exact ⟨_, (C9), (Da), (jt), (ju), (C8), (jw), (jx), (jy), H', ⟨q122t⟩, ⟨(qbf cd)⟩, ⟨qbp bU⟩, ⟨q39t⟩, ⟨q45t⟩, ⟨q38t⟩⟩
  rw [if_neg c30] at H
  have rx : (dw == 2) = false := beq_eq_false_iff_ne.mpr c30
  have C6 : (dw != 2) = true := bne_iff_ne.mpr c30
  by_cases c39 : dw = 3
  ·rw [if_pos c39] at H
   have ma : (dw == 3) = true := beq_iff_eq.mpr c39
   have rz : (dw != 3) = false := bne_eq_false_iff_eq.mpr c39
   clear c39
   obtain ⟨xJ, hy380⟩ : ∃ y_ : List Int, y_ = (([0, 8, 9] : List Int)) := ⟨_, rfl⟩
   replace H : ((spec_l1Int.f ah e2 e3 xJ).bind fun kh => (spec_l3Any.j0 k ah kh.2.1 kh.2.2 jt ju jv kh.1 jx jy)) = some (r1, r2, r3, r4, r5, r6, r7, r8) := by first | (rw [hy380]; with_reducible exact H) | (have H2_ := (Option.bind_some _ _).symm.trans H; rw [hy380]; with_reducible exact H2_) | (have H2_ := (Option.bind_some _ _).symm.trans H; with_reducible exact H2_) | with_reducible exact H | (rw [hy380]; exact H) | exact H
   have Db := Aside0.mk hy380
   clear hy380
   obtain ⟨⟨Dc, Dd, De⟩, nF, H⟩ := bnd H
   try dsimp only at H
   have H' := Aside0.mk H
   clear H
   go_wp2_with (first | ((with_reducible refine gate_dst (N := 29) rfl ?_); refine Kd.R_lit (Kd.int .i64) _ 3 ?hg (N := 29) ?hd (xs := ([0, 8, 9] : List Int)) (inner := [.int .i64 0, .int .i64 8, .int .i64 9]) (ok := fun _ => True) (okp := fun _ => True) ?hr ?hp (fun _ hk => hk) trivial (Below.refl _ _) (Nat.le_refl _) q126t ?_; (case hd => rfl); (case hg => rfl); (case hr => first | (go_simp; done) | (go_simp; rfl)); (case hp => exact (Reps.one (show Kd.M (Kd.int .i64) _ _ _ 0 [.int .i64 0] from rfl) (Reps.one (show Kd.M (Kd.int .i64) _ _ _ 8 [.int .i64 8] from rfl) (Reps.one (show Kd.M (Kd.int .i64) _ _ _ 9 [.int .i64 9] from rfl) (Reps.none _ _))))); intro v381 w41 ho42 hb hg_ hnew_; clear hg_ hnew_; (first | rw [← Db.out] at ho42 | (simp only [Int.reduceToNat] at ho42; rw [← Db.out] at ho42)); have p1 := am (Kd.R_lower ho42 (keep_size (w := w) (g := g) (row := none) q45t)); replace cd := blb cd hb; replace bU := blb bU hb; replace HK := am (KeepBut.trans q45t (KeepBut.of_below hb g none) (.inl rfl)); replace HB := am (below_step q38t hb); replace HI0 := am (IsS69.below q39t hb); clear hb ho42; obtain ⟨gN, gO, wy⟩ := Kd.R_slice p1.out; subst wy) | ((with_reducible refine gate_callee (f := 50) rfl ?_); refine goesL_ (some 30) rfl rfl Tryd.func50 (by kernel_rfl) rfl #[.pointer (some ⟨g, 0, none⟩), .slice gN xJ.length gO] rfl q66t ?_; (with_reducible refine (spec_l1Int.calls g ah e2 e3 _ _ xJ Dc Dd De w0 _ ?side1 ?side2 ?side3 ?side4 ?side5 nF.out).mono ?_); (case side1 => repeat (first | (with_reducible first | exact HI0.out | apply IsS69.alloc | apply IsS69.drewN | apply IsS69.drew | apply IsS69.set_1 | apply IsS69.set_2 | refine IsS69.far ?_ (Aside0.out q123t) _) | exact HI0.out)); (case side2 => repeat (first | (with_reducible first | exact HB.out | apply below_alloc | apply pw_below_drewN | apply below_drew1 | refine below_set ?_ (IsS69.ge HI0.out) | refine below_set ?_ (Aside0.out q123t)) | exact HB.out)); (case side3 => repeat (first | exact (Kd.R_reads' p1.out).2.2 | (with_reducible refine Kd.C_alloc ?_ _) | (with_reducible refine Kd.C_drewN ?_ _) | (with_reducible refine Kd.C_drew ?_))); (case side4 => exact (Kd.R_reads' p1.out).2.1); (case side5 => exact far_slice (IsS69.own_ne HI0.out p1.out q125t)); rintro e w44 ⟨rfl, hi, hb, hk⟩; refine ⟨_, rfl, ?_⟩; replace cd := kbb cd hk l9.out q126t; replace bU := kbb bU hk gY.out q126t; replace p1 := am (Kd.R_mono (Kd.R_keep (IsS69.apart (show IsS69 w0 _ g ah e2 e3 from by repeat (first | (with_reducible first | exact HI0.out | apply IsS69.alloc | apply IsS69.drewN | apply IsS69.drew | apply IsS69.set_1 | apply IsS69.set_2 | refine IsS69.far ?_ (Aside0.out q123t) _) | exact HI0.out)) (by (with_reducible repeat (first | apply Kd.R_alloc | apply Kd.R_drewN | apply Kd.R_drew)); exact p1.out) q125t) hk (fun _ h => h.2)) (fun _ h => h.1)); replace HK := am (KeepBut.trans q45t hk (.inl rfl)); replace HB := am (hb); replace HI0 := am (hi); (try clear hb); (try clear hb2); (try clear hk); (try clear hi); have pQ := nD.out; have pR := nC.out; have ue := gY.out; have uf := nE.out; have nA := qc6 bU.out; have l5 := qf6 bU.out))
   go_meet
   case rel => exact ⟨_, (Dd), (De), (jt), (ju), (jv), (Dc), (jx), (jy), H', ⟨q122t⟩, ⟨(qbf cd)⟩, ⟨qbp bU⟩, ⟨q39t⟩, ⟨q45t⟩, ⟨q38t⟩⟩
  rw [if_neg c39] at H
  have ma : (dw == 3) = false := beq_eq_false_iff_ne.mpr c39
  have rz : (dw != 3) = true := bne_iff_ne.mpr c39
  by_cases c48 : dw = 4
  ·rw [if_pos c48] at H
   have oW : (dw == 4) = true := beq_iff_eq.mpr c48
   have oX : (dw != 4) = false := bne_eq_false_iff_eq.mpr c48
   clear c48
   obtain ⟨xK, hy386⟩ : ∃ y_ : List Int, y_ = (([0, 17] : List Int)) := ⟨_, rfl⟩
   replace H : ((spec_l1Int.f ah e2 e3 xK).bind fun ki => (spec_l3Any.j0 k ah ki.2.1 ki.2.2 jt ju jv jw ki.1 jy)) = some (r1, r2, r3, r4, r5, r6, r7, r8) := by first | (rw [hy386]; with_reducible exact H) | (have H2_ := (Option.bind_some _ _).symm.trans H; rw [hy386]; with_reducible exact H2_) | (have H2_ := (Option.bind_some _ _).symm.trans H; with_reducible exact H2_) | with_reducible exact H | (rw [hy386]; exact H) | exact H
   have Df := Aside0.mk hy386
   clear hy386
   obtain ⟨⟨Dg, Dh, Di⟩, pS, H⟩ := bnd H
   try dsimp only at H
   have H' := Aside0.mk H
   clear H
   go_wp2_with (first | ((with_reducible refine gate_dst (N := 35) rfl ?_); refine Kd.R_lit (Kd.int .i64) _ 3 ?hg (N := 35) ?hd (xs := ([0, 17] : List Int)) (inner := [.int .i64 0, .int .i64 17]) (ok := fun _ => True) (okp := fun _ => True) ?hr ?hp (fun _ hk => hk) trivial (Below.refl _ _) (Nat.le_refl _) q126t ?_; (case hd => rfl); (case hg => rfl); (case hr => first | (go_simp; done) | (go_simp; rfl)); (case hp => exact (Reps.one (show Kd.M (Kd.int .i64) _ _ _ 0 [.int .i64 0] from rfl) (Reps.one (show Kd.M (Kd.int .i64) _ _ _ 17 [.int .i64 17] from rfl) (Reps.none _ _)))); intro v387 w50 ho51 hb hg_ hnew_; clear hg_ hnew_; (first | rw [← Df.out] at ho51 | (simp only [Int.reduceToNat] at ho51; rw [← Df.out] at ho51)); have p3 := am (Kd.R_lower ho51 (keep_size (w := w) (g := g) (row := none) q45t)); replace cd := blb cd hb; replace bU := blb bU hb; replace HK := am (KeepBut.trans q45t (KeepBut.of_below hb g none) (.inl rfl)); replace HB := am (below_step q38t hb); replace HI0 := am (IsS69.below q39t hb); clear hb ho51; obtain ⟨Jc, Jd, Je⟩ := Kd.R_slice p3.out; subst Je) | ((with_reducible refine gate_callee (f := 50) rfl ?_); refine goesL_ (some 36) rfl rfl Tryd.func50 (by kernel_rfl) rfl #[.pointer (some ⟨g, 0, none⟩), .slice Jc xK.length Jd] rfl q66t ?_; (with_reducible refine (spec_l1Int.calls g ah e2 e3 _ _ xK Dg Dh Di w0 _ ?side1 ?side2 ?side3 ?side4 ?side5 pS.out).mono ?_); (case side1 => repeat (first | (with_reducible first | exact HI0.out | apply IsS69.alloc | apply IsS69.drewN | apply IsS69.drew | apply IsS69.set_1 | apply IsS69.set_2 | refine IsS69.far ?_ (Aside0.out q123t) _) | exact HI0.out)); (case side2 => repeat (first | (with_reducible first | exact HB.out | apply below_alloc | apply pw_below_drewN | apply below_drew1 | refine below_set ?_ (IsS69.ge HI0.out) | refine below_set ?_ (Aside0.out q123t)) | exact HB.out)); (case side3 => repeat (first | exact (Kd.R_reads' p3.out).2.2 | (with_reducible refine Kd.C_alloc ?_ _) | (with_reducible refine Kd.C_drewN ?_ _) | (with_reducible refine Kd.C_drew ?_))); (case side4 => exact (Kd.R_reads' p3.out).2.1); (case side5 => exact far_slice (IsS69.own_ne HI0.out p3.out q125t)); rintro e w53 ⟨rfl, hi, hb, hk⟩; refine ⟨_, rfl, ?_⟩; replace cd := kbb cd hk l9.out q126t; replace bU := kbb bU hk gY.out q126t; replace p3 := am (Kd.R_mono (Kd.R_keep (IsS69.apart (show IsS69 w0 _ g ah e2 e3 from by repeat (first | (with_reducible first | exact HI0.out | apply IsS69.alloc | apply IsS69.drewN | apply IsS69.drew | apply IsS69.set_1 | apply IsS69.set_2 | refine IsS69.far ?_ (Aside0.out q123t) _) | exact HI0.out)) (by (with_reducible repeat (first | apply Kd.R_alloc | apply Kd.R_drewN | apply Kd.R_drew)); exact p3.out) q125t) hk (fun _ h => h.2)) (fun _ h => h.1)); replace HK := am (KeepBut.trans q45t hk (.inl rfl)); replace HB := am (hb); replace HI0 := am (hi); (try clear hb); (try clear hb2); (try clear hk); (try clear hi); have Jf := nD.out; have Jg := nC.out; have xL := gY.out; have xM := nE.out; have nG := qc6 bU.out; have mb := qf6 bU.out))
   go_meet
   case rel => exact ⟨_, (Dh), (Di), (jt), (ju), (jv), (jw), (Dg), (jy), H', ⟨q122t⟩, ⟨(qbf cd)⟩, ⟨qbp bU⟩, ⟨q39t⟩, ⟨q45t⟩, ⟨q38t⟩⟩
  rw [if_neg c48] at H
  have oW : (dw == 4) = false := beq_eq_false_iff_ne.mpr c48
  have oX : (dw != 4) = true := bne_iff_ne.mpr c48
  by_cases c57 : dw = 5
  rotate_left
  ·rw [if_neg c57] at H
   have Dj : (dw == 5) = false := beq_eq_false_iff_ne.mpr c57
   have Dk : (dw != 5) = true := bne_iff_ne.mpr c57
   have H' := Aside0.mk H
   clear H
   go_wp2
   go_meet
   case rel => exact ⟨_, (e2), (e3), (jt), (ju), (jv), (jw), (jx), (jy), H', ⟨q122t⟩, ⟨qbk cd⟩, ⟨qbk bU⟩, ⟨q39t⟩, ⟨q45t⟩, ⟨q38t⟩⟩
  rw [if_pos c57] at H
  have Dj : (dw == 5) = true := beq_iff_eq.mpr c57
  have Dk : (dw != 5) = false := bne_eq_false_iff_eq.mpr c57
  clear c57
  obtain ⟨xN, hy392⟩ : ∃ y_ : List Int, y_ = (([0, 5] : List Int)) := ⟨_, rfl⟩
  replace H : ((spec_l1Int.f ah e2 e3 xN).bind fun kj => (spec_l3Any.j0 k ah kj.2.1 kj.2.2 jt ju jv jw jx kj.1)) = some (r1, r2, r3, r4, r5, r6, r7, r8) := by first | (rw [hy392]; with_reducible exact H) | (have H2_ := (Option.bind_some _ _).symm.trans H; rw [hy392]; with_reducible exact H2_) | (have H2_ := (Option.bind_some _ _).symm.trans H; with_reducible exact H2_) | with_reducible exact H | (rw [hy392]; exact H) | exact H
  have Dl := Aside0.mk hy392
  clear hy392
  obtain ⟨⟨Dm, Dn, Do⟩, Jh, H⟩ := bnd H
  try dsimp only at H
  have H' := Aside0.mk H
  clear H
  go_wp2_with (first | ((with_reducible refine gate_dst (N := 41) rfl ?_); refine Kd.R_lit (Kd.int .i64) _ 3 ?hg (N := 41) ?hd (xs := ([0, 5] : List Int)) (inner := [.int .i64 0, .int .i64 5]) (ok := fun _ => True) (okp := fun _ => True) ?hr ?hp (fun _ hk => hk) trivial (Below.refl _ _) (Nat.le_refl _) q126t ?_; (case hd => rfl); (case hg => rfl); (case hr => first | (go_simp; done) | (go_simp; rfl)); (case hp => exact (Reps.one (show Kd.M (Kd.int .i64) _ _ _ 0 [.int .i64 0] from rfl) (Reps.one (show Kd.M (Kd.int .i64) _ _ _ 5 [.int .i64 5] from rfl) (Reps.none _ _)))); intro v393 w59 ho60 hb hg_ hnew_; clear hg_ hnew_; (first | rw [← Dl.out] at ho60 | (simp only [Int.reduceToNat] at ho60; rw [← Dl.out] at ho60)); have p4 := am (Kd.R_lower ho60 (keep_size (w := w) (g := g) (row := none) q45t)); replace cd := blb cd hb; replace bU := blb bU hb; replace HK := am (KeepBut.trans q45t (KeepBut.of_below hb g none) (.inl rfl)); replace HB := am (below_step q38t hb); replace HI0 := am (IsS69.below q39t hb); clear hb ho60; obtain ⟨Ji, Jj, Jk⟩ := Kd.R_slice p4.out; subst Jk) | ((with_reducible refine gate_callee (f := 50) rfl ?_); refine goesL_ (some 42) rfl rfl Tryd.func50 (by kernel_rfl) rfl #[.pointer (some ⟨g, 0, none⟩), .slice Ji xN.length Jj] rfl q66t ?_; (with_reducible refine (spec_l1Int.calls g ah e2 e3 _ _ xN Dm Dn Do w0 _ ?side1 ?side2 ?side3 ?side4 ?side5 Jh.out).mono ?_); (case side1 => repeat (first | (with_reducible first | exact HI0.out | apply IsS69.alloc | apply IsS69.drewN | apply IsS69.drew | apply IsS69.set_1 | apply IsS69.set_2 | refine IsS69.far ?_ (Aside0.out q123t) _) | exact HI0.out)); (case side2 => repeat (first | (with_reducible first | exact HB.out | apply below_alloc | apply pw_below_drewN | apply below_drew1 | refine below_set ?_ (IsS69.ge HI0.out) | refine below_set ?_ (Aside0.out q123t)) | exact HB.out)); (case side3 => repeat (first | exact (Kd.R_reads' p4.out).2.2 | (with_reducible refine Kd.C_alloc ?_ _) | (with_reducible refine Kd.C_drewN ?_ _) | (with_reducible refine Kd.C_drew ?_))); (case side4 => exact (Kd.R_reads' p4.out).2.1); (case side5 => exact far_slice (IsS69.own_ne HI0.out p4.out q125t)); rintro e w62 ⟨rfl, hi, hb, hk⟩; refine ⟨_, rfl, ?_⟩; replace cd := kbb cd hk l9.out q126t; replace bU := kbb bU hk gY.out q126t; replace p4 := am (Kd.R_mono (Kd.R_keep (IsS69.apart (show IsS69 w0 _ g ah e2 e3 from by repeat (first | (with_reducible first | exact HI0.out | apply IsS69.alloc | apply IsS69.drewN | apply IsS69.drew | apply IsS69.set_1 | apply IsS69.set_2 | refine IsS69.far ?_ (Aside0.out q123t) _) | exact HI0.out)) (by (with_reducible repeat (first | apply Kd.R_alloc | apply Kd.R_drewN | apply Kd.R_drew)); exact p4.out) q125t) hk (fun _ h => h.2)) (fun _ h => h.1)); replace HK := am (KeepBut.trans q45t hk (.inl rfl)); replace HB := am (hb); replace HI0 := am (hi); (try clear hb); (try clear hb2); (try clear hk); (try clear hi); have BH := nD.out; have BI := nC.out; have Ck := gY.out; have Cl := nE.out; have xl := qc6 bU.out; have xm := qf6 bU.out))
  go_meet
  case rel => exact ⟨_, (Dn), (Do), (jt), (ju), (jv), (jw), (jx), (Dm), H', ⟨q122t⟩, ⟨(qbf cd)⟩, ⟨qbp bU⟩, ⟨q39t⟩, ⟨q45t⟩, ⟨q38t⟩⟩
 case rest =>
  clear kk
  try clear c1
  try clear c2
  try clear p2
  try clear c3
  try clear c4
  try clear c5
  try clear c6
  try clear c8
  try clear c9
  try clear c12
  try clear kU
  try clear pX
  try clear c18
  try clear c19
  try clear c21
  try clear kS
  try clear pN
  try clear c23
  try clear c25
  try clear c26
  try clear c27
  try clear c28
  try clear c30
  try clear rx
  try clear C6
  try clear c36
  try clear c37
  try clear c39
  try clear ma
  try clear rz
  try clear c45
  try clear c46
  try clear c48
  try clear oW
  try clear oX
  try clear c50
  try clear c54
  try clear c55
  try clear c57
  try clear Dj
  try clear Dk
  try clear c63
  try clear c64
  try clear wS
  try clear kG
  try clear tR
  try clear uv
  try clear nA
  try clear nG
  try clear xl
  try clear wT
  try clear kH
  try clear tS
  try clear uw
  try clear l5
  try clear mb
  try clear xm
  obtain ⟨kq, gP, gQ, up, uq, ur, us, ut, uu, HA, Dp, cd, bU, HI0, HK, HB⟩ := hcut
  cases kq with
  | zero => exact absurd HA.out (by simp [spec_l3Any.j0])
  | succ kj3 =>
   have H := HA.out
   clear HA
   simp only [spec_l3Any.j0] at H
   simp only [Option.some.injEq, Prod.mk.injEq] at H
   obtain ⟨rfl, rfl, rfl, rfl, rfl, rfl, rfl, rfl⟩ := H
   have Rd := nD.out
   have Re := nC.out
   have wG := gY.out
   have wH := nE.out
   have xO := qc6 bU.out
   have xP := qf6 bU.out
   have Ho := l9.out
   have Hp := I5.out
   have ux := qc6 cd.out
   have uy := qf6 cd.out
   go_wp2
   refine bodyPost_ret (results_cell_row rfl _ _ kT 25 #[up, uq, ur, us, ut, uu] (0, 0) _ rfl (qbp cd) Tryd.underlying25 rfl (by kernel_rfl)) rfl ?_
   exact ⟨q114t, q39t, q38t, q45t⟩

/-! ### spec_l1In: function 38 -/
def spec_l1In.f (a0 : Int) (a1 : Int) (a2 : Int) : Option (Bool) := if a0 ≥ a1 then (some (decide (a0 ≤ a2))) else (some false)
set_option maxHeartbeats 8000000 in
set_option maxRecDepth 100000 in
theorem spec_l1In.calls (a0 : Int) (a1 : Int) (a2 : Int) (r : Bool) (w : World) (h : spec_l1In.f a0 a1 a2 = some r) :
  Calls Tryd.prog 38 #[a0, a1, a2] w fun e w' => e = .returned (.bool r) ∧ Drawn0 w w' := by
 have H : (if a0 ≥ a1 then (some (decide (a0 ≤ a2))) else (some false)) = some r := h
 clear h
 by_cases c4 : a0 ≥ a1
 ·rw [if_pos c4] at H
  have en : decide (a1 ≤ a0) = true := decide_eq_true c4
  clear c4
  obtain rfl := Option.some.inj H
  go_enter Tryd.func38, Tryd.ntmps38
  go_wp2
  go_ret
  exact ⟨q121t, q116t⟩
 ·rw [if_neg c4] at H
  have en : decide (a1 ≤ a0) = false := decide_eq_false c4
  clear c4
  obtain rfl := Option.some.inj H
  go_enter Tryd.func38, Tryd.ntmps38
  go_wp2
  go_ret
  exact ⟨q121t, q116t⟩

/-! ### spec_ConfOk: function 27 -/
def spec_ConfOk.f (aa : Int) (ab : Int) (ac : Int) (af : Int) (ag : Int) (ae : Int) : Option (Bool) := (spec_l1In.f aa 2 12).bind fun rA => (if rA = true then ((spec_l1In.f ab 8 16).bind fun rB => (if rB = true then ((spec_l1In.f ac 2 8).bind fun rC => (if rC = true then ((spec_l1In.f af 1 8).bind fun rD => (if rD = true then ((spec_l1In.f ag 1 16).bind fun rE => (if rE = true then ((spec_l1In.f ae 1 4).bind fun rF => (some rF)) else (some false))) else (some false))) else (some false))) else (some false))) else (some false))
set_option maxHeartbeats 8000000 in
set_option maxRecDepth 100000 in
theorem spec_ConfOk.calls (aa : Int) (ab : Int) (ac : Int) (af : Int) (ag : Int) (ae : Int) (r : Bool) (w : World) (h : spec_ConfOk.f aa ab ac af ag ae = some r) :
  Calls Tryd.prog 27 #[.agg #[aa, ab, ac, af, ag, ae]] w fun e w' => e = .returned (.bool r) ∧ Below w.heap.size w w' := by
 have hu25 := Tryd.underlying25
 have HB := am (Below.refl w.heap.size w)
 have H : ((spec_l1In.f aa 2 12).bind fun rA => (if rA = true then ((spec_l1In.f ab 8 16).bind fun rB => (if rB = true then ((spec_l1In.f ac 2 8).bind fun rC => (if rC = true then ((spec_l1In.f af 1 8).bind fun rD => (if rD = true then ((spec_l1In.f ag 1 16).bind fun rE => (if rE = true then ((spec_l1In.f ae 1 4).bind fun rF => (some rF)) else (some false))) else (some false))) else (some false))) else (some false))) else (some false))) = some r := h
 clear h
 obtain ⟨rA, A2, H⟩ := bnd H
 try dsimp only at H
 by_cases c3 : rA = true
 rotate_left
 ·replace c3 := Bool.eq_false_iff.mpr c3
  subst c3
  rw [if_neg (show ¬ (false = true) by decide)] at H
  obtain rfl := Option.some.inj H
  go_enter Tryd.func27, Tryd.ntmps27
  go_wp2_with (first | ((with_reducible refine gate_dst (N := 1) rfl ?_); refine box_ev 1 #[aa, ab, ac, af, ag, ae] 25 ?_; intro f5 hg w23 hbox hb; have f6 := am (hbox); have rG := am ((q63t : w.heap.size ≤ f5)); have rH := am ((q63t : w.heap.size ≤ f5)); replace HB := am (below_step q68t hb); clear hb hbox hg; have uz := qc6 f6.out; have uA := qf6 f6.out) | ((with_reducible refine gate_callee (f := 38) rfl ?_); refine goesL_ (some 5) rfl rfl Tryd.func38 (by kernel_rfl) rfl #[aa, .int .i64 2, .int .i64 12] rfl q66t ?_; (with_reducible refine (spec_l1In.calls aa 2 12 false _ A2.out).mono ?_); rintro e w' ⟨rfl, ⟨nd, rfl⟩⟩; refine ⟨_, rfl, ?_⟩))
  go_ret
  exact ⟨q114t, q47t⟩
 subst c3
 rw [if_pos rfl] at H
 obtain ⟨rB, A4, H⟩ := bnd H
 try dsimp only at H
 by_cases c5 : rB = true
 rotate_left
 ·replace c5 := Bool.eq_false_iff.mpr c5
  subst c5
  rw [if_neg (show ¬ (false = true) by decide)] at H
  obtain rfl := Option.some.inj H
  go_enter Tryd.func27, Tryd.ntmps27
  go_wp2_with (first | ((with_reducible refine gate_dst (N := 1) rfl ?_); refine box_ev 1 #[aa, ab, ac, af, ag, ae] 25 ?_; intro f5 hg w21 hbox hb; have f6 := am (hbox); have rG := am ((q63t : w.heap.size ≤ f5)); have rH := am ((q63t : w.heap.size ≤ f5)); replace HB := am (below_step q68t hb); clear hb hbox hg; have qI := qc6 f6.out; have qJ := qf6 f6.out) | ((with_reducible refine gate_callee (f := 38) rfl ?_); refine goesL_ (some 5) rfl rfl Tryd.func38 (by kernel_rfl) rfl #[aa, .int .i64 2, .int .i64 12] rfl q66t ?_; (with_reducible refine (spec_l1In.calls aa 2 12 true _ A2.out).mono ?_); rintro e w' ⟨rfl, ⟨nd, rfl⟩⟩; refine ⟨_, rfl, ?_⟩) | (go_at_call 38; (with_reducible refine (spec_l1In.calls ab 8 16 false _ A4.out).mono ?_); rintro e w' ⟨rfl, ⟨nd, rfl⟩⟩))
  go_ret
  exact ⟨q114t, q47t⟩
 subst c5
 rw [if_pos rfl] at H
 obtain ⟨rC, A6, H⟩ := bnd H
 try dsimp only at H
 by_cases c7 : rC = true
 rotate_left
 ·replace c7 := Bool.eq_false_iff.mpr c7
  subst c7
  rw [if_neg (show ¬ (false = true) by decide)] at H
  obtain rfl := Option.some.inj H
  go_enter Tryd.func27, Tryd.ntmps27
  go_wp2_with (first | ((with_reducible refine gate_dst (N := 1) rfl ?_); refine box_ev 1 #[aa, ab, ac, af, ag, ae] 25 ?_; intro f5 hg w19 hbox hb; have f6 := am (hbox); have rG := am ((q63t : w.heap.size ≤ f5)); have rH := am ((q63t : w.heap.size ≤ f5)); replace HB := am (below_step q68t hb); clear hb hbox hg; have kG := qc6 f6.out; have kH := qf6 f6.out) | ((with_reducible refine gate_callee (f := 38) rfl ?_); refine goesL_ (some 5) rfl rfl Tryd.func38 (by kernel_rfl) rfl #[aa, .int .i64 2, .int .i64 12] rfl q66t ?_; (with_reducible refine (spec_l1In.calls aa 2 12 true _ A2.out).mono ?_); rintro e w' ⟨rfl, ⟨nd, rfl⟩⟩; refine ⟨_, rfl, ?_⟩) | (go_at_call 38; (with_reducible refine (spec_l1In.calls ab 8 16 true _ A4.out).mono ?_); rintro e w' ⟨rfl, ⟨nd, rfl⟩⟩) | (go_at_call 38; (with_reducible refine (spec_l1In.calls ac 2 8 false _ A6.out).mono ?_); rintro e w' ⟨rfl, ⟨nd, rfl⟩⟩))
  go_ret
  exact ⟨q114t, q47t⟩
 subst c7
 rw [if_pos rfl] at H
 obtain ⟨rD, A8, H⟩ := bnd H
 try dsimp only at H
 by_cases c9 : rD = true
 ·subst c9
  rw [if_pos rfl] at H
  obtain ⟨rE, jO, H⟩ := bnd H
  try dsimp only at H
  by_cases c11 : rE = true
  ·subst c11
   rw [if_pos rfl] at H
   obtain ⟨rF, xQ, H⟩ := bnd H
   try dsimp only at H
   obtain rfl := Option.some.inj H
   go_enter Tryd.func27, Tryd.ntmps27
   go_wp2_with (first | ((with_reducible refine gate_dst (N := 1) rfl ?_); refine box_ev 1 #[aa, ab, ac, af, ag, ae] 25 ?_; intro f5 hg w13 hbox hb; have f6 := am (hbox); have rG := am ((q63t : w.heap.size ≤ f5)); have rH := am ((q63t : w.heap.size ≤ f5)); replace HB := am (below_step q68t hb); clear hb hbox hg; have nH := qc6 f6.out; have jz := qf6 f6.out) | ((with_reducible refine gate_callee (f := 38) rfl ?_); refine goesL_ (some 5) rfl rfl Tryd.func38 (by kernel_rfl) rfl #[aa, .int .i64 2, .int .i64 12] rfl q66t ?_; (with_reducible refine (spec_l1In.calls aa 2 12 true _ A2.out).mono ?_); rintro e w' ⟨rfl, ⟨nd, rfl⟩⟩; refine ⟨_, rfl, ?_⟩) | (go_at_call 38; (with_reducible refine (spec_l1In.calls ab 8 16 true _ A4.out).mono ?_); rintro e w' ⟨rfl, ⟨nd, rfl⟩⟩) | (go_at_call 38; (with_reducible refine (spec_l1In.calls ac 2 8 true _ A6.out).mono ?_); rintro e w' ⟨rfl, ⟨nd, rfl⟩⟩) | (go_at_call 38; (with_reducible refine (spec_l1In.calls af 1 8 true _ A8.out).mono ?_); rintro e w' ⟨rfl, ⟨nd, rfl⟩⟩) | (go_at_call 38; (with_reducible refine (spec_l1In.calls ag 1 16 true _ jO.out).mono ?_); rintro e w' ⟨rfl, ⟨nd, rfl⟩⟩) | (go_at_call 38; (with_reducible refine (spec_l1In.calls ae 1 4 rF _ xQ.out).mono ?_); rintro e w' ⟨rfl, ⟨nd, rfl⟩⟩))
   go_ret
   exact ⟨q114t, q47t⟩
  replace c11 := Bool.eq_false_iff.mpr c11
  subst c11
  rw [if_neg (show ¬ (false = true) by decide)] at H
  obtain rfl := Option.some.inj H
  go_enter Tryd.func27, Tryd.ntmps27
  go_wp2_with (first | ((with_reducible refine gate_dst (N := 1) rfl ?_); refine box_ev 1 #[aa, ab, ac, af, ag, ae] 25 ?_; intro f5 hg w15 hbox hb; have f6 := am (hbox); have rG := am ((q63t : w.heap.size ≤ f5)); have rH := am ((q63t : w.heap.size ≤ f5)); replace HB := am (below_step q68t hb); clear hb hbox hg; have lZ := qc6 f6.out; have l3 := qf6 f6.out) | ((with_reducible refine gate_callee (f := 38) rfl ?_); refine goesL_ (some 5) rfl rfl Tryd.func38 (by kernel_rfl) rfl #[aa, .int .i64 2, .int .i64 12] rfl q66t ?_; (with_reducible refine (spec_l1In.calls aa 2 12 true _ A2.out).mono ?_); rintro e w' ⟨rfl, ⟨nd, rfl⟩⟩; refine ⟨_, rfl, ?_⟩) | (go_at_call 38; (with_reducible refine (spec_l1In.calls ab 8 16 true _ A4.out).mono ?_); rintro e w' ⟨rfl, ⟨nd, rfl⟩⟩) | (go_at_call 38; (with_reducible refine (spec_l1In.calls ac 2 8 true _ A6.out).mono ?_); rintro e w' ⟨rfl, ⟨nd, rfl⟩⟩) | (go_at_call 38; (with_reducible refine (spec_l1In.calls af 1 8 true _ A8.out).mono ?_); rintro e w' ⟨rfl, ⟨nd, rfl⟩⟩) | (go_at_call 38; (with_reducible refine (spec_l1In.calls ag 1 16 false _ jO.out).mono ?_); rintro e w' ⟨rfl, ⟨nd, rfl⟩⟩))
  go_ret
  exact ⟨q114t, q47t⟩
 replace c9 := Bool.eq_false_iff.mpr c9
 subst c9
 rw [if_neg (show ¬ (false = true) by decide)] at H
 obtain rfl := Option.some.inj H
 go_enter Tryd.func27, Tryd.ntmps27
 go_wp2_with (first | ((with_reducible refine gate_dst (N := 1) rfl ?_); refine box_ev 1 #[aa, ab, ac, af, ag, ae] 25 ?_; intro f5 hg w17 hbox hb; have f6 := am (hbox); have rG := am ((q63t : w.heap.size ≤ f5)); have rH := am ((q63t : w.heap.size ≤ f5)); replace HB := am (below_step q68t hb); clear hb hbox hg; have rI := qc6 f6.out; have rJ := qf6 f6.out) | ((with_reducible refine gate_callee (f := 38) rfl ?_); refine goesL_ (some 5) rfl rfl Tryd.func38 (by kernel_rfl) rfl #[aa, .int .i64 2, .int .i64 12] rfl q66t ?_; (with_reducible refine (spec_l1In.calls aa 2 12 true _ A2.out).mono ?_); rintro e w' ⟨rfl, ⟨nd, rfl⟩⟩; refine ⟨_, rfl, ?_⟩) | (go_at_call 38; (with_reducible refine (spec_l1In.calls ab 8 16 true _ A4.out).mono ?_); rintro e w' ⟨rfl, ⟨nd, rfl⟩⟩) | (go_at_call 38; (with_reducible refine (spec_l1In.calls ac 2 8 true _ A6.out).mono ?_); rintro e w' ⟨rfl, ⟨nd, rfl⟩⟩) | (go_at_call 38; (with_reducible refine (spec_l1In.calls af 1 8 false _ A8.out).mono ?_); rintro e w' ⟨rfl, ⟨nd, rfl⟩⟩))
 go_ret
 exact ⟨q114t, q47t⟩

end Go.Proofs.YtofpmdgndegalacDoor.QFnNodes
