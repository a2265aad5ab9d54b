/- What the functions that the law FnNodes reaches compute, as plain functions, and that the code computes just that (by a program of this session's; the library's functions by hand). No condition. -/
import Derived.Test.YtofpmdgndegalacDoorQFnNodesx0
import Derived.Test.YtofpmdgndegalacDoorQFnNodesx2
import Derived.Test.YtofpmdgndegalacDoorQFnNodesx5
import Derived.Test.YtofpmdgndegalacDoorQFnNodesx7
namespace Go.Proofs.YtofpmdgndegalacDoor.QFnNodes
open Go.RowKit Go.Proofs.YtofpmdgndegalacDoorW.PrintWords Go.Proofs.YtofpmdgndegalacDoorW.PrintLast Go.Proofs.YtofpmdgndegalacDoorW.PrintMore
attribute [local go_sem] max2_int min2_int max_two min_two max_three min_three max_four min_four   -- for this text's walks alone
set_option linter.unusedVariables false
set_option linter.unusedSimpArgs false

/-! ### spec_DrawSameNode: function 8 -/
def spec_DrawSameNode.j0 : Nat → Int → Int → Int → Int → Int → Int → Int → Int → List Int → Int → Int → List (S33) → List Int → Int → Int → Int → Int → Int → Int → Int → Int → List Int → Int → Int → List (S33) → List Int → Option (Int × Int × Int × Int × Int × Int × Int × Int × List Int × Int × Int × (List (S33)) × List Int × Int × Int × Int × Int × Int × Int × Int × Int × List Int × Int × Int × (List (S33)) × List Int)
 | 0, _, _, _, _, _, _, _, _, _, _, _, _, _, _, _, _, _, _, _, _, _, _, _, _, _, _ => none
 | k + 1, JQ, JR, JS, JT, JU, JV, JW, JX, JY, JZ, J0, J1, J2, J3, J4, J5, J6, J7, J8, J9, Ka, Kb, Ke, Kf, Kg, Kh => some (JQ, JR, JS, JT, JU, JV, JW, JX, JY, JZ, J0, J1, J2, J3, J4, J5, J6, J7, J8, J9, Ka, Kb, Ke, Kf, Kg, Kh)
def spec_DrawSameNode.f (k : Nat) (l0 : List Int) : Option (Int × Int × Int × Int × Int × Int × Int × Int × List Int × Int × Int × (List (S33)) × List Int × Int × Int × Int × Int × Int × Int × Int × Int × List Int × Int × Int × (List (S33)) × List Int) := (spec_l1New.f k l0).bind fun iM => ((spec_l3Conf.f iM.1 iM.2.1 iM.2.2).bind fun dM => ((spec_l7Any.f k iM.1 dM.2.2.2.2.2.2.1 dM.2.2.2.2.2.2.2 dM.1 dM.2.1 dM.2.2.1 dM.2.2.2.1 dM.2.2.2.2.1 dM.2.2.2.2.2.1).bind fun aZ => ((spec_l7Copy.f aZ.1 aZ.2.1 aZ.2.2.1 aZ.2.2.2.1 aZ.2.2.2.2.1 aZ.2.2.2.2.2.1 aZ.2.2.2.2.2.2.1 aZ.2.2.2.2.2.2.2.1 aZ.2.2.2.2.2.2.2.2.1 aZ.2.2.2.2.2.2.2.2.2.1 aZ.2.2.2.2.2.2.2.2.2.2.1 aZ.2.2.2.2.2.2.2.2.2.2.2.1 aZ.2.2.2.2.2.2.2.2.2.2.2.2.1).bind fun bG => ((spec_l1Below.f iM.1 aZ.2.2.2.2.2.2.2.2.2.2.2.2.2.1 aZ.2.2.2.2.2.2.2.2.2.2.2.2.2.2 4).bind fun mo => (if mo.1 = 0 then ((spec_l7Any.f k iM.1 mo.2.1 mo.2.2 dM.1 dM.2.1 dM.2.2.1 dM.2.2.2.1 dM.2.2.2.2.1 dM.2.2.2.2.2.1).bind fun ed => (spec_DrawSameNode.j0 k aZ.1 aZ.2.1 aZ.2.2.1 aZ.2.2.2.1 aZ.2.2.2.2.1 aZ.2.2.2.2.2.1 aZ.2.2.2.2.2.2.1 aZ.2.2.2.2.2.2.2.1 aZ.2.2.2.2.2.2.2.2.1 aZ.2.2.2.2.2.2.2.2.2.1 aZ.2.2.2.2.2.2.2.2.2.2.1 aZ.2.2.2.2.2.2.2.2.2.2.2.1 aZ.2.2.2.2.2.2.2.2.2.2.2.2.1 ed.1 ed.2.1 ed.2.2.1 ed.2.2.2.1 ed.2.2.2.2.1 ed.2.2.2.2.2.1 ed.2.2.2.2.2.2.1 ed.2.2.2.2.2.2.2.1 ed.2.2.2.2.2.2.2.2.1 ed.2.2.2.2.2.2.2.2.2.1 ed.2.2.2.2.2.2.2.2.2.2.1 ed.2.2.2.2.2.2.2.2.2.2.2.1 ed.2.2.2.2.2.2.2.2.2.2.2.2.1)) else (if mo.1 = 1 then (spec_DrawSameNode.j0 k aZ.1 aZ.2.1 aZ.2.2.1 aZ.2.2.2.1 aZ.2.2.2.2.1 aZ.2.2.2.2.2.1 aZ.2.2.2.2.2.2.1 aZ.2.2.2.2.2.2.2.1 aZ.2.2.2.2.2.2.2.2.1 aZ.2.2.2.2.2.2.2.2.2.1 aZ.2.2.2.2.2.2.2.2.2.2.1 aZ.2.2.2.2.2.2.2.2.2.2.2.1 aZ.2.2.2.2.2.2.2.2.2.2.2.2.1 bG.1 bG.2.1 (wrap64 (bG.2.2.1 + 1)) bG.2.2.2.1 bG.2.2.2.2.1 bG.2.2.2.2.2.1 bG.2.2.2.2.2.2.1 bG.2.2.2.2.2.2.2.1 bG.2.2.2.2.2.2.2.2.1 bG.2.2.2.2.2.2.2.2.2.1 bG.2.2.2.2.2.2.2.2.2.2.1 bG.2.2.2.2.2.2.2.2.2.2.2.1 bG.2.2.2.2.2.2.2.2.2.2.2.2) else (spec_DrawSameNode.j0 k aZ.1 aZ.2.1 aZ.2.2.1 aZ.2.2.2.1 aZ.2.2.2.2.1 aZ.2.2.2.2.2.1 aZ.2.2.2.2.2.2.1 aZ.2.2.2.2.2.2.2.1 aZ.2.2.2.2.2.2.2.2.1 aZ.2.2.2.2.2.2.2.2.2.1 aZ.2.2.2.2.2.2.2.2.2.2.1 aZ.2.2.2.2.2.2.2.2.2.2.2.1 aZ.2.2.2.2.2.2.2.2.2.2.2.2.1 bG.1 bG.2.1 bG.2.2.1 bG.2.2.2.1 bG.2.2.2.2.1 bG.2.2.2.2.2.1 bG.2.2.2.2.2.2.1 bG.2.2.2.2.2.2.2.1 bG.2.2.2.2.2.2.2.2.1 bG.2.2.2.2.2.2.2.2.2.1 bG.2.2.2.2.2.2.2.2.2.2.1 bG.2.2.2.2.2.2.2.2.2.2.2.1 bG.2.2.2.2.2.2.2.2.2.2.2.2)))))))
set_option maxHeartbeats 8000000 in
set_option maxRecDepth 100000 in
theorem spec_DrawSameNode.calls (k : Nat) (A0 : Option Addr) (c0 : Nat) (l0 : List Int) (r1 : Int) (r2 : Int) (r3 : Int) (r4 : Int) (r5 : Int) (r6 : Int) (r7 : Int) (r8 : Int) (r9 : List Int) (r10 : Int) (r11 : Int) (r12 : List (S33)) (r13 : List Int) (r14 : Int) (r15 : Int) (r16 : Int) (r17 : Int) (r18 : Int) (r19 : Int) (r20 : Int) (r21 : Int) (r22 : List Int) (r23 : Int) (r24 : Int) (r25 : List (S33)) (r26 : List Int) (w : World) (hr0 : Kd.C (Kd.int .u8) w A0 l0.length l0) (hc0 : l0.length ≤ c0) (h : spec_DrawSameNode.f k l0 = some (r1, r2, r3, r4, r5, r6, r7, r8, r9, r10, r11, r12, r13, r14, r15, r16, r17, r18, r19, r20, r21, r22, r23, r24, r25, r26)) :
  Calls Tryd.prog 8 #[.slice A0 l0.length c0] w fun e w' => ∃ v8_ v11_ v12_ v21_ v24_ v25_ : Value, e = .returned (.tuple #[.agg #[r1, r2, r3, r4, r5, r6, r7, r8, v8_, r10, r11, v11_, v12_], .agg #[r14, r15, r16, r17, r18, r19, r20, r21, v21_, r23, r24, v24_, v25_]]) ∧ Kd.R (Kd.int .i64) 3 w' w.heap.size (fun k_ => some k_ ≠ (v12_ : Value).ownBlock ∧ some k_ ≠ (v21_ : Value).ownBlock ∧ some k_ ≠ (v25_ : Value).ownBlock) v8_ r9 ∧ Kd.R k33 33 w' w.heap.size (fun k_ => some k_ ≠ (v24_ : Value).ownBlock) v11_ r12 ∧ Kd.R (Kd.int .i64) 3 w' w.heap.size (fun k_ => some k_ ≠ (v8_ : Value).ownBlock ∧ some k_ ≠ (v21_ : Value).ownBlock ∧ some k_ ≠ (v25_ : Value).ownBlock) v12_ r13 ∧ Kd.R (Kd.int .i64) 3 w' w.heap.size (fun k_ => some k_ ≠ (v8_ : Value).ownBlock ∧ some k_ ≠ (v12_ : Value).ownBlock ∧ some k_ ≠ (v25_ : Value).ownBlock) v21_ r22 ∧ Kd.R k33 33 w' w.heap.size (fun k_ => some k_ ≠ (v11_ : Value).ownBlock) v24_ r25 ∧ Kd.R (Kd.int .i64) 3 w' w.heap.size (fun k_ => some k_ ≠ (v8_ : Value).ownBlock ∧ some k_ ≠ (v12_ : Value).ownBlock ∧ some k_ ≠ (v21_ : Value).ownBlock) v25_ r26 ∧ Below w.heap.size w w' := by
 have hu29 := Tryd.underlying29
 have hu25 := Tryd.underlying25
 have bX := Aside0.mk hr0
 have d0 := Aside0.mk hc0
 clear hr0 hc0
 have HB := am (Below.refl w.heap.size w)
 have H : ((spec_l1New.f k l0).bind fun iM => ((spec_l3Conf.f iM.1 iM.2.1 iM.2.2).bind fun dM => ((spec_l7Any.f k iM.1 dM.2.2.2.2.2.2.1 dM.2.2.2.2.2.2.2 dM.1 dM.2.1 dM.2.2.1 dM.2.2.2.1 dM.2.2.2.2.1 dM.2.2.2.2.2.1).bind fun aZ => ((spec_l7Copy.f aZ.1 aZ.2.1 aZ.2.2.1 aZ.2.2.2.1 aZ.2.2.2.2.1 aZ.2.2.2.2.2.1 aZ.2.2.2.2.2.2.1 aZ.2.2.2.2.2.2.2.1 aZ.2.2.2.2.2.2.2.2.1 aZ.2.2.2.2.2.2.2.2.2.1 aZ.2.2.2.2.2.2.2.2.2.2.1 aZ.2.2.2.2.2.2.2.2.2.2.2.1 aZ.2.2.2.2.2.2.2.2.2.2.2.2.1).bind fun bG => ((spec_l1Below.f iM.1 aZ.2.2.2.2.2.2.2.2.2.2.2.2.2.1 aZ.2.2.2.2.2.2.2.2.2.2.2.2.2.2 4).bind fun mo => (if mo.1 = 0 then ((spec_l7Any.f k iM.1 mo.2.1 mo.2.2 dM.1 dM.2.1 dM.2.2.1 dM.2.2.2.1 dM.2.2.2.2.1 dM.2.2.2.2.2.1).bind fun ed => (spec_DrawSameNode.j0 k aZ.1 aZ.2.1 aZ.2.2.1 aZ.2.2.2.1 aZ.2.2.2.2.1 aZ.2.2.2.2.2.1 aZ.2.2.2.2.2.2.1 aZ.2.2.2.2.2.2.2.1 aZ.2.2.2.2.2.2.2.2.1 aZ.2.2.2.2.2.2.2.2.2.1 aZ.2.2.2.2.2.2.2.2.2.2.1 aZ.2.2.2.2.2.2.2.2.2.2.2.1 aZ.2.2.2.2.2.2.2.2.2.2.2.2.1 ed.1 ed.2.1 ed.2.2.1 ed.2.2.2.1 ed.2.2.2.2.1 ed.2.2.2.2.2.1 ed.2.2.2.2.2.2.1 ed.2.2.2.2.2.2.2.1 ed.2.2.2.2.2.2.2.2.1 ed.2.2.2.2.2.2.2.2.2.1 ed.2.2.2.2.2.2.2.2.2.2.1 ed.2.2.2.2.2.2.2.2.2.2.2.1 ed.2.2.2.2.2.2.2.2.2.2.2.2.1)) else (if mo.1 = 1 then (spec_DrawSameNode.j0 k aZ.1 aZ.2.1 aZ.2.2.1 aZ.2.2.2.1 aZ.2.2.2.2.1 aZ.2.2.2.2.2.1 aZ.2.2.2.2.2.2.1 aZ.2.2.2.2.2.2.2.1 aZ.2.2.2.2.2.2.2.2.1 aZ.2.2.2.2.2.2.2.2.2.1 aZ.2.2.2.2.2.2.2.2.2.2.1 aZ.2.2.2.2.2.2.2.2.2.2.2.1 aZ.2.2.2.2.2.2.2.2.2.2.2.2.1 bG.1 bG.2.1 (wrap64 (bG.2.2.1 + 1)) bG.2.2.2.1 bG.2.2.2.2.1 bG.2.2.2.2.2.1 bG.2.2.2.2.2.2.1 bG.2.2.2.2.2.2.2.1 bG.2.2.2.2.2.2.2.2.1 bG.2.2.2.2.2.2.2.2.2.1 bG.2.2.2.2.2.2.2.2.2.2.1 bG.2.2.2.2.2.2.2.2.2.2.2.1 bG.2.2.2.2.2.2.2.2.2.2.2.2) else (spec_DrawSameNode.j0 k aZ.1 aZ.2.1 aZ.2.2.1 aZ.2.2.2.1 aZ.2.2.2.2.1 aZ.2.2.2.2.2.1 aZ.2.2.2.2.2.2.1 aZ.2.2.2.2.2.2.2.1 aZ.2.2.2.2.2.2.2.2.1 aZ.2.2.2.2.2.2.2.2.2.1 aZ.2.2.2.2.2.2.2.2.2.2.1 aZ.2.2.2.2.2.2.2.2.2.2.2.1 aZ.2.2.2.2.2.2.2.2.2.2.2.2.1 bG.1 bG.2.1 bG.2.2.1 bG.2.2.2.1 bG.2.2.2.2.1 bG.2.2.2.2.2.1 bG.2.2.2.2.2.2.1 bG.2.2.2.2.2.2.2.1 bG.2.2.2.2.2.2.2.2.1 bG.2.2.2.2.2.2.2.2.2.1 bG.2.2.2.2.2.2.2.2.2.2.1 bG.2.2.2.2.2.2.2.2.2.2.2.1 bG.2.2.2.2.2.2.2.2.2.2.2.2)))))))) = some (r1, r2, r3, r4, r5, r6, r7, r8, r9, r10, r11, r12, r13, r14, r15, r16, r17, r18, r19, r20, r21, r22, r23, r24, r25, r26) := h
 clear h
 obtain ⟨⟨eI, Eb, Ec⟩, A2, H⟩ := bnd H
 try dsimp only at H
 obtain ⟨⟨nN, nO, nP, nQ, nR, nS, uR, uS⟩, A3, H⟩ := bnd H
 try dsimp only at H
 obtain ⟨⟨mq, mr, ms, mu, mv, mw, mx, my, gn, mz, mA, iN, go, iO, iP⟩, A4, H⟩ := bnd H
 try dsimp only at H
 obtain ⟨⟨yj, yk, yl, ym, yn, yo, yp, yq, r0, yr, yt, sa, sb⟩, A5, H⟩ := bnd H
 try dsimp only at H
 obtain ⟨⟨kp, nT, nU⟩, A6, H⟩ := bnd H
 try dsimp only at H
 have pa := Aside0.mk H
 clear H
 go_enter Tryd.func8, Tryd.ntmps8
 go_upto_block 0 with (first | ((with_reducible refine gate_dst (N := 2) rfl ?_); refine box_ev 2 #[.int .i64 0, .int .i64 0, .int .i64 0, .int .i64 0, .int .i64 0, .int .i64 0, .int .i64 0, .int .i64 0, .slice none 0 0, .int .i64 0, .int .i64 0, .slice none 0 0, .slice none 0 0] 29 ?_; intro d2 hg w8 hbox hb; have bh := am (hbox); have Sl := am ((q63t : w.heap.size ≤ d2)); have Sm := am ((q63t : w.heap.size ≤ d2)); replace HB := am (below_step q68t hb); clear hb hbox hg) | ((with_reducible refine gate_dst (N := 3) rfl ?_); refine box_ev 3 #[.int .i64 0, .int .i64 0, .int .i64 0, .int .i64 0, .int .i64 0, .int .i64 0, .int .i64 0, .int .i64 0, .slice none 0 0, .int .i64 0, .int .i64 0, .slice none 0 0, .slice none 0 0] 29 ?_; intro d3 hg w9 hbox hb; have bn := am (hbox); have Sn := am ((q41t : w.heap.size ≤ d3)); have So := am ((q41t : w.heap.size ≤ d3)); replace HB := am (below_step q47t hb); have eh := am ((by rw [hg]; exact Nat.ne_of_lt (blk_lt (qbk bh)) : d2 ≠ d3)); have ei := am ((by rw [hg]; exact Nat.ne_of_gt (blk_lt (qbk bh)) : d3 ≠ d2)); replace bh := blb bh hb; clear hb hbox hg) | ((with_reducible refine gate_callee (f := 22) rfl ?_); refine goesL_ (some 9) rfl rfl Tryd.func22 (by kernel_rfl) rfl #[.slice A0 l0.length c0] rfl q66t ?_; (with_reducible refine (spec_l1New.calls k _ _ l0 eI Eb Ec w _ ?side1 ?side2 ?side3 A2.out).mono ?_); (case side1 => repeat (first | (with_reducible first | exact HB.out | apply below_alloc | apply pw_below_drewN | apply below_drew1 | refine below_set ?_ (Aside0.out q123t)) | exact HB.out)); (case side2 => exact bX.out); (case side3 => exact d0.out); rintro e w10 ⟨g499, rfl, hi, hb, hb2⟩; refine ⟨_, rfl, ?_⟩; replace HB := am (hb); have br := am (hi); have Sp := am (IsS69.ne_blk hi (blk_below (qbk bh) hb2) q125t); have uT := am (Ne.symm (IsS69.ne_blk hi (blk_below (qbk bh) hb2) q125t)); replace bh := am (blk_below (qbk bh) hb2); have Sq := am (IsS69.ne_blk hi (blk_below (qbk bn) hb2) q125t); have uU := am (Ne.symm (IsS69.ne_blk hi (blk_below (qbk bn) hb2) q125t)); replace bn := am (blk_below (qbk bn) hb2); (try clear hb); (try clear hb2); (try clear hk); (try clear hi)) | ((with_reducible refine gate_callee (f := 23) rfl ?_); refine goesL_ (some 11) rfl rfl Tryd.func23 (by kernel_rfl) rfl #[.pointer (some ⟨g499, 0, none⟩)] rfl q66t ?_; (with_reducible refine (spec_l3Conf.calls g499 eI Eb Ec nN nO nP nQ nR nS uR uS w _ ?side1 ?side2 A3.out).mono ?_); (case side1 => repeat (first | (with_reducible first | exact br.out | apply IsS69.alloc | apply IsS69.drewN | apply IsS69.drew | apply IsS69.set_1 | apply IsS69.set_2 | refine IsS69.far ?_ (Aside0.out q123t) _) | exact br.out)); (case side2 => repeat (first | (with_reducible first | exact HB.out | apply below_alloc | apply pw_below_drewN | apply below_drew1 | refine below_set ?_ (IsS69.ge br.out) | refine below_set ?_ (Aside0.out q123t)) | exact HB.out)); rintro e w11 ⟨rfl, hi, hb, hk⟩; refine ⟨_, rfl, ?_⟩; replace bh := kbb bh hk uT.out q126t; replace bn := kbb bn hk uU.out q126t; replace HB := am (hb); replace br := am (hi); (try clear hb); (try clear hb2); (try clear hk); (try clear hi)) | ((with_reducible refine gate_dst (N := 5) rfl ?_); refine box_ev 5 #[.int .i64 0, .int .i64 0, .int .i64 0, .int .i64 0, .int .i64 0, .int .i64 0] 25 ?_; intro g6 hg w12 hbox hb; have ee := am (hbox); have Sr := am ((q17t : w.heap.size ≤ g6)); have Ss := am ((q17t : w.heap.size ≤ g6)); replace HB := am (below_step q37t hb); have g7 := am ((by rw [hg]; exact Nat.ne_of_lt (blk_lt (qbk bh)) : d2 ≠ g6)); have g8 := am ((by rw [hg]; exact Nat.ne_of_gt (blk_lt (qbk bh)) : g6 ≠ d2)); replace bh := blb bh hb; have g9 := am ((by rw [hg]; exact Nat.ne_of_lt (blk_lt (qbk bn)) : d3 ≠ g6)); have hC := am ((by rw [hg]; exact Nat.ne_of_gt (blk_lt (qbk bn)) : g6 ≠ d3)); replace bn := blb bn hb; have Ed := am ((by rw [hg]; exact Nat.ne_of_lt (IsS69.lt (show IsS69 w _ g499 eI uR uS from by repeat (first | (with_reducible first | exact br.out | apply IsS69.alloc | apply IsS69.drewN | apply IsS69.drew | apply IsS69.set_1 | apply IsS69.set_2 | refine IsS69.far ?_ (Aside0.out q123t) _) | exact br.out))) : g499 ≠ g6)); have sc := am ((by rw [hg]; exact Nat.ne_of_gt (IsS69.lt (show IsS69 w _ g499 eI uR uS from by repeat (first | (with_reducible first | exact br.out | apply IsS69.alloc | apply IsS69.drewN | apply IsS69.drew | apply IsS69.set_1 | apply IsS69.set_2 | refine IsS69.far ?_ (Aside0.out q123t) _) | exact br.out))) : g6 ≠ g499)); replace br := am (IsS69.below q33t hb); clear hb hbox hg; have wU := g8.out; have wV := g7.out; have wW := hC.out; have wX := g9.out; have wY := sc.out; have wZ := Ed.out; have lZ := qc6 ee.out; have l3 := qf6 ee.out) | ((with_reducible refine gate_callee (f := 24) rfl ?_); refine goesL_ (some 14) rfl rfl Tryd.func24 (by kernel_rfl) rfl #[.pointer (some ⟨g499, 0, none⟩), .agg #[nN, nO, nP, nQ, nR, nS]] rfl q66t ?_; (with_reducible refine (spec_l7Any.calls k g499 eI uR uS nN nO nP nQ nR nS mq mr ms mu mv mw mx my gn mz mA iN go iO iP w _ ?side1 ?side2 A4.out).mono ?_); (case side1 => repeat (first | (with_reducible first | exact br.out | apply IsS69.alloc | apply IsS69.drewN | apply IsS69.drew | apply IsS69.set_1 | apply IsS69.set_2 | refine IsS69.far ?_ (Aside0.out q123t) _) | exact br.out)); (case side2 => repeat (first | (with_reducible first | exact HB.out | apply below_alloc | apply pw_below_drewN | apply below_drew1 | refine below_set ?_ (IsS69.ge br.out) | refine below_set ?_ (Aside0.out q123t)) | exact HB.out)); rintro e w17 ⟨v518, v523, v526, rfl, ho0, ho1, ho2, hi, hb, hk⟩; refine ⟨_, rfl, ?_⟩; replace bh := am (KeepBut.blk hk (g' := d2) (o := .cells #[.int .i64 0, .int .i64 0, .int .i64 0, .int .i64 0, .int .i64 0, .int .i64 0, .int .i64 0, .int .i64 0, .slice none 0 0, .int .i64 0, .int .i64 0, .slice none 0 0, .slice none 0 0] 29 (0, 0)) (qbf bh) uT.out q126t); replace bn := am (KeepBut.blk hk (g' := d3) (o := .cells #[.int .i64 0, .int .i64 0, .int .i64 0, .int .i64 0, .int .i64 0, .int .i64 0, .int .i64 0, .int .i64 0, .slice none 0 0, .int .i64 0, .int .i64 0, .slice none 0 0, .slice none 0 0] 29 (0, 0)) (qbf bn) uU.out q126t); replace ee := kbp ee hk sc.out q126t; have iF := am (Kd.R_lower ho0 (below_size q37t)); have iG := am (Kd.R_lower ho1 (below_size q37t)); have iH := am (Kd.R_lower ho2 (below_size q37t)); replace HB := am (hb); replace br := am (hi); (try clear hb); (try clear hb2); (try clear hk); (try clear hi); (try clear ho0); (try clear ho1); (try clear ho2)) | ((with_reducible refine gate_dst (N := 6) rfl ?_); refine box_ev 6 #[.int .i64 0, .int .i64 0, .int .i64 0, .int .i64 0, .int .i64 0, .int .i64 0, .int .i64 0, .int .i64 0, .slice none 0 0, .int .i64 0, .int .i64 0, .slice none 0 0, .slice none 0 0] 29 ?_; intro cu hg w18 hbox hb; replace iF := am (Kd.R_below q88t hb); replace iG := am (Kd.R_below q89t hb); replace iH := am (Kd.R_below q90t hb); have eQ := am (hbox); have St := am ((q17t : w.heap.size ≤ cu)); have Su := am ((q17t : w.heap.size ≤ cu)); replace HB := am (below_step q37t hb); have ik := am ((by rw [hg]; exact Nat.ne_of_lt (blk_lt (qbk bh)) : d2 ≠ cu)); have il := am ((by rw [hg]; exact Nat.ne_of_gt (blk_lt (qbk bh)) : cu ≠ d2)); replace bh := blb bh hb; have im := am ((by rw [hg]; exact Nat.ne_of_lt (blk_lt (qbk bn)) : d3 ≠ cu)); have io := am ((by rw [hg]; exact Nat.ne_of_gt (blk_lt (qbk bn)) : cu ≠ d3)); replace bn := blb bn hb; have Ee := am ((by rw [hg]; exact Nat.ne_of_lt (blk_lt (qbk ee)) : g6 ≠ cu)); have Ef := am ((by rw [hg]; exact Nat.ne_of_gt (blk_lt (qbk ee)) : cu ≠ g6)); replace ee := blb ee hb; have Ki := am ((by rw [hg]; exact Nat.ne_of_lt (IsS69.lt (show IsS69 w _ g499 eI iO iP from by repeat (first | (with_reducible first | exact br.out | apply IsS69.alloc | apply IsS69.drewN | apply IsS69.drew | apply IsS69.set_1 | apply IsS69.set_2 | refine IsS69.far ?_ (Aside0.out q123t) _) | exact br.out))) : g499 ≠ cu)); have yu := am ((by rw [hg]; exact Nat.ne_of_gt (IsS69.lt (show IsS69 w _ g499 eI iO iP from by repeat (first | (with_reducible first | exact br.out | apply IsS69.alloc | apply IsS69.drewN | apply IsS69.drew | apply IsS69.set_1 | apply IsS69.set_2 | refine IsS69.far ?_ (Aside0.out q123t) _) | exact br.out))) : cu ≠ g499)); replace br := am (IsS69.below q33t hb); clear hb hbox hg; have wn := il.out; have wo := ik.out; have sd := io.out; have se := im.out; have tJ := Ef.out; have tK := Ee.out; have Dx := yu.out; have Dy := Ki.out; have Eg := qc13 eQ.out; have Eh := qf13 eQ.out; obtain ⟨kr, jC, Kj⟩ := Kd.R_slice iF.out; subst Kj; obtain ⟨kV, km, xF⟩ := Kd.R_slice iG.out; subst xF; obtain ⟨ks, jD, Kk⟩ := Kd.R_slice iH.out; subst Kk) | ((with_reducible refine gate_callee (f := 30) rfl ?_); refine goesL_ (some 16) rfl rfl Tryd.func30 (by kernel_rfl) rfl #[.agg #[mq, mr, ms, mu, mv, mw, mx, my, .slice kr gn.length jC, mz, mA, .slice kV iN.length km, .slice ks go.length jD]] rfl q66t ?_; (with_reducible refine (spec_l7Copy.calls mq mr ms mu mv mw mx my _ _ gn mz mA _ _ iN _ _ go yj yk yl ym yn yo yp yq r0 yr yt sa sb _ ?side1 ?side2 ?side3 ?side4 ?side5 ?side6 A5.out).mono ?_); (case side1 => refine (Kd.R_reads' (e := 3) (base := w.heap.size) (ok := fun k_ => some k_ ≠ (.slice ks go.length jD : Value).ownBlock) (n := gn.length) (c := jC) ?_).2.2; exact q20t); (case side2 => exact (Kd.R_reads' iF.out).2.1); (case side3 => refine (Kd.R_reads' (e := 33) (base := w.heap.size) (ok := fun k_ => True) (n := iN.length) (c := km) ?_).2.2; exact q21t); (case side4 => exact (Kd.R_reads' iG.out).2.1); (case side5 => refine (Kd.R_reads' (e := 3) (base := w.heap.size) (ok := fun k_ => some k_ ≠ (.slice kr gn.length jC : Value).ownBlock) (n := go.length) (c := jD) ?_).2.2; exact q22t); (case side6 => exact (Kd.R_reads' iH.out).2.1); rintro e w27 ⟨v540, v545, v548, rfl, ho0, ho1, ho2, hb⟩; refine ⟨_, rfl, ?_⟩; have ng := am (Kd.R_lower (Kd.R_new' (Kd.R_new' ho0 (Kd.R_lt q20t)) (Kd.R_lt q22t)) (below_size q37t)); have k5 := am (Kd.R_lower (Kd.R_new' ho1 (Kd.R_lt q21t)) (below_size q37t)); replace iG := am (Kd.R_elder' q21t (Kd.R_base ho1) hb); have nh := am (Kd.R_lower (Kd.R_new' (Kd.R_new' ho2 (Kd.R_lt q20t)) (Kd.R_lt q22t)) (below_size q37t)); replace iF := am (Kd.R_mono (Kd.R_told (Kd.R_told (Kd.R_old q20t hb) (Kd.R_base ho0)) (Kd.R_base ho2)) (fun _ h_ => h_.1)); replace iH := am (Kd.R_mono (Kd.R_told (Kd.R_told (Kd.R_old q22t hb) (Kd.R_base ho0)) (Kd.R_base ho2)) (fun _ h_ => h_.1)); replace bh := am (blk_below (g := d2) (o := .cells #[.int .i64 0, .int .i64 0, .int .i64 0, .int .i64 0, .int .i64 0, .int .i64 0, .int .i64 0, .int .i64 0, .slice none 0 0, .int .i64 0, .int .i64 0, .slice none 0 0, .slice none 0 0] 29 (0, 0)) (qbf bh) hb); replace bn := am (blk_below (g := d3) (o := .cells #[.int .i64 0, .int .i64 0, .int .i64 0, .int .i64 0, .int .i64 0, .int .i64 0, .int .i64 0, .int .i64 0, .slice none 0 0, .int .i64 0, .int .i64 0, .slice none 0 0, .slice none 0 0] 29 (0, 0)) (qbf bn) hb); replace ee := am (blk_below (g := g6) (o := .cells #[nN, nO, nP, nQ, nR, nS] 25 (0, 0)) (qbf ee) hb); replace eQ := blp eQ hb; replace HB := am (below_step q37t hb); replace br := am (IsS69.below (show IsS69 w (((((((((((((w18.setCell ⟨cu, 0, none⟩ (.int .i64 mq)).setCell ⟨cu, 1, none⟩ (.int .i64 mr)).setCell ⟨cu, 2, none⟩ (.int .i64 ms)).setCell ⟨cu, 3, none⟩ (.int .i64 mu)).setCell ⟨cu, 4, none⟩ (.int .i64 mv)).setCell ⟨cu, 5, none⟩ (.int .i64 mw)).setCell ⟨cu, 6, none⟩ (.int .i64 mx)).setCell ⟨cu, 7, none⟩ (.int .i64 my)).setCell ⟨cu, 8, none⟩ (.slice kr gn.length jC)).setCell ⟨cu, 9, none⟩ (.int .i64 mz)).setCell ⟨cu, 10, none⟩ (.int .i64 mA)).setCell ⟨cu, 11, none⟩ (.slice kV iN.length km)).setCell ⟨cu, 12, none⟩ (.slice ks go.length jD)) g499 eI iO iP from by repeat (first | (with_reducible first | exact br.out | apply IsS69.alloc | apply IsS69.drewN | apply IsS69.drew | apply IsS69.set_1 | apply IsS69.set_2 | refine IsS69.far ?_ (Aside0.out q123t) _) | exact br.out)) hb); (try clear hb); (try clear hb2); (try clear hk); (try clear hi); (try clear ho0); (try clear ho1); (try clear ho2)) | ((with_reducible refine gate_dst (N := 7) rfl ?_); refine box_ev 7 #[.int .i64 0, .int .i64 0, .int .i64 0, .int .i64 0, .int .i64 0, .int .i64 0, .int .i64 0, .int .i64 0, .slice none 0 0, .int .i64 0, .int .i64 0, .slice none 0 0, .slice none 0 0] 29 ?_; intro ej hg w28 hbox hb; replace iF := am (Kd.R_below q88t hb); replace iG := am (Kd.R_below q89t hb); replace iH := am (Kd.R_below q90t hb); replace ng := am (Kd.R_below q91t hb); replace k5 := am (Kd.R_below (by (with_reducible repeat (first | apply Kd.R_alloc | apply Kd.R_drewN | apply Kd.R_drew)); exact k5.out) hb); replace nh := am (Kd.R_below q92t hb); have dd := am (hbox); have Sv := am ((q17t : w.heap.size ≤ ej)); have Sw := am ((q17t : w.heap.size ≤ ej)); replace HB := am (below_step q37t hb); have gp := am ((by rw [hg]; exact Nat.ne_of_lt (blk_lt (qbk bh)) : d2 ≠ ej)); have gq := am ((by rw [hg]; exact Nat.ne_of_gt (blk_lt (qbk bh)) : ej ≠ d2)); replace bh := blb bh hb; have gr := am ((by rw [hg]; exact Nat.ne_of_lt (blk_lt (qbk bn)) : d3 ≠ ej)); have gs := am ((by rw [hg]; exact Nat.ne_of_gt (blk_lt (qbk bn)) : ej ≠ d3)); replace bn := blb bn hb; have yv := am ((by rw [hg]; exact Nat.ne_of_lt (blk_lt (qbk ee)) : g6 ≠ ej)); have yw := am ((by rw [hg]; exact Nat.ne_of_gt (blk_lt (qbk ee)) : ej ≠ g6)); replace ee := blb ee hb; have yx := am ((by rw [hg]; exact Nat.ne_of_lt (blk_lt (qbk eQ)) : cu ≠ ej)); have yy := am ((by rw [hg]; exact Nat.ne_of_gt (blk_lt (qbk eQ)) : ej ≠ cu)); replace eQ := blb eQ hb; have yz := am ((by rw [hg]; exact Nat.ne_of_lt (IsS69.lt (show IsS69 w _ g499 eI iO iP from by repeat (first | (with_reducible first | exact br.out | apply IsS69.alloc | apply IsS69.drewN | apply IsS69.drew | apply IsS69.set_1 | apply IsS69.set_2 | refine IsS69.far ?_ (Aside0.out q123t) _) | exact br.out))) : g499 ≠ ej)); have sf := am ((by rw [hg]; exact Nat.ne_of_gt (IsS69.lt (show IsS69 w _ g499 eI iO iP from by repeat (first | (with_reducible first | exact br.out | apply IsS69.alloc | apply IsS69.drewN | apply IsS69.drew | apply IsS69.set_1 | apply IsS69.set_2 | refine IsS69.far ?_ (Aside0.out q123t) _) | exact br.out))) : ej ≠ g499)); replace br := am (IsS69.below q33t hb); clear hb hbox hg; have uK := gq.out; have uL := gp.out; have uM := gs.out; have uN := gr.out; have wt := yw.out; have wu := yv.out; have qZ := yy.out; have q0 := yx.out; have wv := sf.out; have ww := yz.out; have kI := qc13 dd.out; have kJ := qf13 dd.out; obtain ⟨cO, cP, pV⟩ := Kd.R_slice ng.out; subst pV; obtain ⟨eo, ep, q1⟩ := Kd.R_slice k5.out; subst q1; obtain ⟨cQ, cR, pW⟩ := Kd.R_slice nh.out; subst pW) | ((with_reducible refine gate_callee (f := 26) rfl ?_); refine goesL_ (some 18) rfl rfl Tryd.func26 (by kernel_rfl) rfl #[.pointer (some ⟨g499, 0, none⟩), .int .i64 4] rfl q66t ?_; (with_reducible refine (spec_l1Below.calls g499 eI iO iP 4 kp nT nU w _ ?side1 ?side2 A6.out).mono ?_); (case side1 => repeat (first | (with_reducible first | exact br.out | apply IsS69.alloc | apply IsS69.drewN | apply IsS69.drew | apply IsS69.set_1 | apply IsS69.set_2 | refine IsS69.far ?_ (Aside0.out q123t) _) | exact br.out)); (case side2 => repeat (first | (with_reducible first | exact HB.out | apply below_alloc | apply pw_below_drewN | apply below_drew1 | refine below_set ?_ (IsS69.ge br.out) | refine below_set ?_ (Aside0.out q123t)) | exact HB.out)); rintro e w38 ⟨rfl, hi, hb, hk⟩; refine ⟨_, rfl, ?_⟩; replace bh := am (KeepBut.blk hk (g' := d2) (o := .cells #[.int .i64 0, .int .i64 0, .int .i64 0, .int .i64 0, .int .i64 0, .int .i64 0, .int .i64 0, .int .i64 0, .slice none 0 0, .int .i64 0, .int .i64 0, .slice none 0 0, .slice none 0 0] 29 (0, 0)) (qbf bh) uT.out q126t); replace bn := am (KeepBut.blk hk (g' := d3) (o := .cells #[.int .i64 0, .int .i64 0, .int .i64 0, .int .i64 0, .int .i64 0, .int .i64 0, .int .i64 0, .int .i64 0, .slice none 0 0, .int .i64 0, .int .i64 0, .slice none 0 0, .slice none 0 0] 29 (0, 0)) (qbf bn) uU.out q126t); replace ee := am (KeepBut.blk hk (g' := g6) (o := .cells #[nN, nO, nP, nQ, nR, nS] 25 (0, 0)) (qbf ee) sc.out q126t); replace iF := am (Kd.R_mono (Kd.R_keep (IsS69.apart (show IsS69 w _ g499 eI iO iP from by repeat (first | (with_reducible first | exact br.out | apply IsS69.alloc | apply IsS69.drewN | apply IsS69.drew | apply IsS69.set_1 | apply IsS69.set_2 | refine IsS69.far ?_ (Aside0.out q123t) _) | exact br.out)) (by (with_reducible repeat (first | apply Kd.R_alloc | apply Kd.R_drewN | apply Kd.R_drew)); exact (Kd.R_mono (rk13 (Kd.R_types iF.out dd.out q125t)) (fun _ h_ => h_.1))) q125t) hk (fun _ h => h.2)) (fun _ h => h.1)); replace iG := am (Kd.R_mono (Kd.R_keep (IsS69.apart (show IsS69 w _ g499 eI iO iP from by repeat (first | (with_reducible first | exact br.out | apply IsS69.alloc | apply IsS69.drewN | apply IsS69.drew | apply IsS69.set_1 | apply IsS69.set_2 | refine IsS69.far ?_ (Aside0.out q123t) _) | exact br.out)) (by (with_reducible repeat (first | apply Kd.R_alloc | apply Kd.R_drewN | apply Kd.R_drew)); exact (Kd.R_mono (rk13 (Kd.R_types iG.out dd.out q125t)) (fun _ h_ => h_.1))) q125t) hk (fun _ h => h.2)) (fun _ h => h.1)); replace iH := am (Kd.R_mono (Kd.R_keep (IsS69.apart (show IsS69 w _ g499 eI iO iP from by repeat (first | (with_reducible first | exact br.out | apply IsS69.alloc | apply IsS69.drewN | apply IsS69.drew | apply IsS69.set_1 | apply IsS69.set_2 | refine IsS69.far ?_ (Aside0.out q123t) _) | exact br.out)) (by (with_reducible repeat (first | apply Kd.R_alloc | apply Kd.R_drewN | apply Kd.R_drew)); exact (Kd.R_mono (rk13 (Kd.R_types iH.out dd.out q125t)) (fun _ h_ => h_.1))) q125t) hk (fun _ h => h.2)) (fun _ h => h.1)); replace eQ := am (KeepBut.blk hk (g' := cu) (o := .cells #[mq, mr, ms, mu, mv, mw, mx, my, .slice kr gn.length jC, mz, mA, .slice kV iN.length km, .slice ks go.length jD] 29 (0, 0)) (qbf eQ) yu.out q126t); replace ng := am (Kd.R_mono (Kd.R_keep (IsS69.apart (show IsS69 w _ g499 eI iO iP from by repeat (first | (with_reducible first | exact br.out | apply IsS69.alloc | apply IsS69.drewN | apply IsS69.drew | apply IsS69.set_1 | apply IsS69.set_2 | refine IsS69.far ?_ (Aside0.out q123t) _) | exact br.out)) (by (with_reducible repeat (first | apply Kd.R_alloc | apply Kd.R_drewN | apply Kd.R_drew)); exact (Kd.R_mono (rk13 (Kd.R_types ng.out dd.out q125t)) (fun _ h_ => h_.1))) q125t) hk (fun _ h => h.2)) (fun _ h => h.1)); replace k5 := am (Kd.R_mono (Kd.R_keep (IsS69.apart (show IsS69 w _ g499 eI iO iP from by repeat (first | (with_reducible first | exact br.out | apply IsS69.alloc | apply IsS69.drewN | apply IsS69.drew | apply IsS69.set_1 | apply IsS69.set_2 | refine IsS69.far ?_ (Aside0.out q123t) _) | exact br.out)) (by (with_reducible repeat (first | apply Kd.R_alloc | apply Kd.R_drewN | apply Kd.R_drew)); exact (Kd.R_mono (rk13 (Kd.R_types k5.out dd.out q125t)) (fun _ h_ => h_.1))) q125t) hk (fun _ h => h.2)) (fun _ h => h.1)); replace nh := am (Kd.R_mono (Kd.R_keep (IsS69.apart (show IsS69 w _ g499 eI iO iP from by repeat (first | (with_reducible first | exact br.out | apply IsS69.alloc | apply IsS69.drewN | apply IsS69.drew | apply IsS69.set_1 | apply IsS69.set_2 | refine IsS69.far ?_ (Aside0.out q123t) _) | exact br.out)) (by (with_reducible repeat (first | apply Kd.R_alloc | apply Kd.R_drewN | apply Kd.R_drew)); exact (Kd.R_mono (rk13 (Kd.R_types nh.out dd.out q125t)) (fun _ h_ => h_.1))) q125t) hk (fun _ h => h.2)) (fun _ h => h.1)); replace dd := kbp dd hk sf.out q126t; replace HB := am (hb); replace br := am (hi); (try clear hb); (try clear hb2); (try clear hk); (try clear hi)))
 (try simp only [Act.put, List.setIfInBounds_toArray, List.set_cons_zero, List.set_cons_succ])
 go_cut [] (fun wc => ∃ (kq : Nat) (sg : Int) (sh : Int) (si : Int) (sj : Int) (sk : Int) (sl : Int) (sm : Int) (sn : Int) (so : List Int) (sp : Int) (sq : Int) (sr : List (S33)) (ss : List Int) (u551008 : Value) (u551011 : Value) (u551012 : Value), Aside0 (spec_DrawSameNode.j0 kq mq mr ms mu mv mw mx my gn mz mA iN go sg sh si sj sk sl sm sn so sp sq sr ss = some (r1, r2, r3, r4, r5, r6, r7, r8, r9, r10, r11, r12, r13, r14, r15, r16, r17, r18, r19, r20, r21, r22, r23, r24, r25, r26)) ∧ Aside0 (kq ≤ k) ∧ Aside0 (Kd.R (Kd.int .i64) 3 wc w.heap.size (fun k_ => some k_ ≠ ((.slice ks go.length jD) : Value).ownBlock ∧ some k_ ≠ (u551008 : Value).ownBlock ∧ some k_ ≠ (u551012 : Value).ownBlock) (.slice kr gn.length jC) gn) ∧ Aside0 (Kd.R k33 33 wc w.heap.size (fun k_ => some k_ ≠ (u551011 : Value).ownBlock) (.slice kV iN.length km) iN) ∧ Aside0 (Kd.R (Kd.int .i64) 3 wc w.heap.size (fun k_ => some k_ ≠ ((.slice kr gn.length jC) : Value).ownBlock ∧ some k_ ≠ (u551008 : Value).ownBlock ∧ some k_ ≠ (u551012 : Value).ownBlock) (.slice ks go.length jD) go) ∧ Aside0 (Kd.R (Kd.int .i64) 3 wc w.heap.size (fun k_ => some k_ ≠ ((.slice kr gn.length jC) : Value).ownBlock ∧ some k_ ≠ ((.slice ks go.length jD) : Value).ownBlock ∧ some k_ ≠ (u551012 : Value).ownBlock) u551008 so) ∧ Aside0 (Kd.R k33 33 wc w.heap.size (fun k_ => some k_ ≠ ((.slice kV iN.length km) : Value).ownBlock) u551011 sr) ∧ Aside0 (Kd.R (Kd.int .i64) 3 wc w.heap.size (fun k_ => some k_ ≠ ((.slice kr gn.length jC) : Value).ownBlock ∧ some k_ ≠ ((.slice ks go.length jD) : Value).ownBlock ∧ some k_ ≠ (u551008 : Value).ownBlock) u551012 ss) ∧ Aside0 (wc.heap[d2]? = some (.cells #[.int .i64 0, .int .i64 0, .int .i64 0, .int .i64 0, .int .i64 0, .int .i64 0, .int .i64 0, .int .i64 0, (.slice none 0 0), .int .i64 0, .int .i64 0, (.slice none 0 0), (.slice none 0 0)] 29 (0, 0))) ∧ Aside0 (wc.heap[d3]? = some (.cells #[.int .i64 0, .int .i64 0, .int .i64 0, .int .i64 0, .int .i64 0, .int .i64 0, .int .i64 0, .int .i64 0, (.slice none 0 0), .int .i64 0, .int .i64 0, (.slice none 0 0), (.slice none 0 0)] 29 (0, 0))) ∧ Aside0 (wc.heap[g6]? = some (.cells #[nN, nO, nP, nQ, nR, nS] 25 (0, 0))) ∧ Aside0 (wc.heap[cu]? = some (.cells #[mq, mr, ms, mu, mv, mw, mx, my, (.slice kr gn.length jC), mz, mA, (.slice kV iN.length km), (.slice ks go.length jD)] 29 (0, 0))) ∧ Aside0 (wc.heap[ej]? = some (.cells #[sg, sh, si, sj, sk, sl, sm, sn, u551008, sp, sq, u551011, u551012] 29 (0, 0))) ∧ Aside0 (Below w.heap.size w wc))
 case first =>
  have H := pa.out
  clear pa
  by_cases c39 : kp = 0
  ·rw [if_pos c39] at H
   have ma : (kp == 0) = true := beq_iff_eq.mpr c39
   have rz : (kp != 0) = false := bne_eq_false_iff_eq.mpr c39
   clear c39
   (first | rw [ma] | (simp only [i64_w, i32_w]; rw [ma]) | skip)
   obtain ⟨⟨Ei, Ej, Ek, El, Em, En, Eo, Ep, yA, Er, Es, yB, yC, Kl, Km⟩, nF, H⟩ := bnd H
   try dsimp only at H
   have H' := Aside0.mk H
   clear H
   have q3 := g8.out
   have q4 := g7.out
   have Et := hC.out
   have Eu := g9.out
   have Kn := Ee.out
   have Ko := Ef.out
   have uc := yv.out
   have ud := yw.out
   have pQ := sc.out
   have pR := Ed.out
   have nV := qc6 ee.out
   have mB := qf6 ee.out
   go_wp2_with (first | ((with_reducible refine gate_callee (f := 24) rfl ?_); refine goesL_ (some 23) rfl rfl Tryd.func24 (by kernel_rfl) rfl #[.pointer (some ⟨g499, 0, none⟩), .agg #[nN, nO, nP, nQ, nR, nS]] rfl q66t ?_; (with_reducible refine (spec_l7Any.calls k g499 eI nT nU nN nO nP nQ nR nS Ei Ej Ek El Em En Eo Ep yA Er Es yB yC Kl Km w _ ?side1 ?side2 nF.out).mono ?_); (case side1 => repeat (first | (with_reducible first | exact br.out | apply IsS69.alloc | apply IsS69.drewN | apply IsS69.drew | apply IsS69.set_1 | apply IsS69.set_2 | refine IsS69.far ?_ (Aside0.out q123t) _) | exact br.out)); (case side2 => repeat (first | (with_reducible first | exact HB.out | apply below_alloc | apply pw_below_drewN | apply below_drew1 | refine below_set ?_ (IsS69.ge br.out) | refine below_set ?_ (Aside0.out q123t)) | exact HB.out)); rintro e w47 ⟨v563, v568, v571, rfl, ho0, ho1, ho2, hi, hb, hk⟩; refine ⟨_, rfl, ?_⟩; replace bh := kbb bh hk uT.out q126t; replace bn := kbb bn hk uU.out q126t; replace ee := kbb ee hk sc.out q126t; replace eQ := kbb eQ hk yu.out q126t; replace dd := kbb dd hk sf.out q126t; have Ew := am (Kd.R_lower (Kd.R_new' (Kd.R_new' (Kd.R_new' (Kd.R_new' ho0 (Kd.R_lt q88t)) (Kd.R_lt q90t)) (Kd.R_lt q91t)) (Kd.R_lt q92t)) (below_size q37t)); have Ex := am (Kd.R_lower (Kd.R_new' (Kd.R_new' ho1 (Kd.R_lt q89t)) (Kd.R_lt (by (with_reducible repeat (first | apply Kd.R_alloc | apply Kd.R_drewN | apply Kd.R_drew)); exact k5.out))) (below_size q37t)); replace iG := am (Kd.R_mono (Kd.R_told (Kd.R_oldK (IsS69.apart (show IsS69 w _ g499 eI nT nU from by repeat (first | (with_reducible first | exact br.out | apply IsS69.alloc | apply IsS69.drewN | apply IsS69.drew | apply IsS69.set_1 | apply IsS69.set_2 | refine IsS69.far ?_ (Aside0.out q123t) _) | exact br.out)) q89t q125t) hk) (Kd.R_base ho1)) (fun _ h_ => h_.1)); replace k5 := am (Kd.R_mono (Kd.R_told (Kd.R_oldK (IsS69.apart (show IsS69 w _ g499 eI nT nU from by repeat (first | (with_reducible first | exact br.out | apply IsS69.alloc | apply IsS69.drewN | apply IsS69.drew | apply IsS69.set_1 | apply IsS69.set_2 | refine IsS69.far ?_ (Aside0.out q123t) _) | exact br.out)) (by (with_reducible repeat (first | apply Kd.R_alloc | apply Kd.R_drewN | apply Kd.R_drew)); exact k5.out) q125t) hk) (Kd.R_base ho1)) (fun _ h_ => h_.1)); have Ey := am (Kd.R_lower (Kd.R_new' (Kd.R_new' (Kd.R_new' (Kd.R_new' ho2 (Kd.R_lt q88t)) (Kd.R_lt q90t)) (Kd.R_lt q91t)) (Kd.R_lt q92t)) (below_size q37t)); replace iF := am (Kd.R_mono (Kd.R_told (Kd.R_told (Kd.R_oldK (IsS69.apart (show IsS69 w _ g499 eI nT nU from by repeat (first | (with_reducible first | exact br.out | apply IsS69.alloc | apply IsS69.drewN | apply IsS69.drew | apply IsS69.set_1 | apply IsS69.set_2 | refine IsS69.far ?_ (Aside0.out q123t) _) | exact br.out)) q88t q125t) hk) (Kd.R_base ho0)) (Kd.R_base ho2)) (fun _ h_ => h_.1)); replace iH := am (Kd.R_mono (Kd.R_told (Kd.R_told (Kd.R_oldK (IsS69.apart (show IsS69 w _ g499 eI nT nU from by repeat (first | (with_reducible first | exact br.out | apply IsS69.alloc | apply IsS69.drewN | apply IsS69.drew | apply IsS69.set_1 | apply IsS69.set_2 | refine IsS69.far ?_ (Aside0.out q123t) _) | exact br.out)) q90t q125t) hk) (Kd.R_base ho0)) (Kd.R_base ho2)) (fun _ h_ => h_.1)); replace ng := am (Kd.R_mono (Kd.R_told (Kd.R_told (Kd.R_oldK (IsS69.apart (show IsS69 w _ g499 eI nT nU from by repeat (first | (with_reducible first | exact br.out | apply IsS69.alloc | apply IsS69.drewN | apply IsS69.drew | apply IsS69.set_1 | apply IsS69.set_2 | refine IsS69.far ?_ (Aside0.out q123t) _) | exact br.out)) q91t q125t) hk) (Kd.R_base ho0)) (Kd.R_base ho2)) (fun _ h_ => h_.1)); replace nh := am (Kd.R_mono (Kd.R_told (Kd.R_told (Kd.R_oldK (IsS69.apart (show IsS69 w _ g499 eI nT nU from by repeat (first | (with_reducible first | exact br.out | apply IsS69.alloc | apply IsS69.drewN | apply IsS69.drew | apply IsS69.set_1 | apply IsS69.set_2 | refine IsS69.far ?_ (Aside0.out q123t) _) | exact br.out)) q92t q125t) hk) (Kd.R_base ho0)) (Kd.R_base ho2)) (fun _ h_ => h_.1)); replace HB := am (hb); replace br := am (hi); (try clear hb); (try clear hb2); (try clear hk); (try clear hi); (try clear ho0); (try clear ho1); (try clear ho2); have Bx := gq.out; have By := gp.out; have G7 := gs.out; have G8 := gr.out; have yD := yy.out; have yE := yx.out; have tU := sf.out; have tV := yz.out; have k6 := qc13 dd.out; have kt := qf13 dd.out; obtain ⟨Kp, Kq, Kr⟩ := Kd.R_slice Ew.out; subst Kr; obtain ⟨rh, ri, uh⟩ := Kd.R_slice Ex.out; subst uh; obtain ⟨Ks, Kt, Ku⟩ := Kd.R_slice Ey.out; subst Ku))
   go_meet
   case rel => exact ⟨_, (Ei), (Ej), (Ek), (El), (Em), (En), (Eo), (Ep), (yA), (Er), (Es), (yB), (yC), (.slice Kp yA.length Kq), (.slice rh yB.length ri), (.slice Ks yC.length Kt), H', ⟨q122t⟩, ⟨(by (with_reducible repeat (first | apply Kd.R_alloc | apply Kd.R_drewN | apply Kd.R_drew)); exact Kd.R_mono (rk13 (Kd.R_types iF.out dd.out q125t)) (fun _ hk => ⟨hk.1.1.1.1.1, ⟨hk.1.1.2, hk.1.2⟩⟩))⟩, ⟨(by (with_reducible repeat (first | apply Kd.R_alloc | apply Kd.R_drewN | apply Kd.R_drew)); exact Kd.R_mono (rk13 (Kd.R_types iG.out dd.out q125t)) (fun _ hk => hk.1.2))⟩, ⟨(by (with_reducible repeat (first | apply Kd.R_alloc | apply Kd.R_drewN | apply Kd.R_drew)); exact Kd.R_mono (rk13 (Kd.R_types iH.out dd.out q125t)) (fun _ hk => ⟨hk.1.1.1.1.1, ⟨hk.1.1.2, hk.1.2⟩⟩))⟩, ⟨(by (with_reducible repeat (first | apply Kd.R_alloc | apply Kd.R_drewN | apply Kd.R_drew)); exact Kd.R_mono (rk13 (Kd.R_types Ew.out dd.out q125t)) (fun _ hk => ⟨hk.1.1.1.1.2, ⟨hk.1.1.1.2, hk.1.1.1.1.1⟩⟩))⟩, ⟨(by (with_reducible repeat (first | apply Kd.R_alloc | apply Kd.R_drewN | apply Kd.R_drew)); exact Kd.R_mono (rk13 (Kd.R_types Ex.out dd.out q125t)) (fun _ hk => hk.1.1.2))⟩, ⟨(by (with_reducible repeat (first | apply Kd.R_alloc | apply Kd.R_drewN | apply Kd.R_drew)); exact Kd.R_mono (rk13 (Kd.R_types Ey.out dd.out q125t)) (fun _ hk => ⟨hk.1.1.1.1.2, ⟨hk.1.1.1.2, hk.1.1.1.1.1⟩⟩))⟩, ⟨(qbf bh)⟩, ⟨(qbf bn)⟩, ⟨(qbf ee)⟩, ⟨(qbf eQ)⟩, ⟨qbp dd⟩, ⟨q37t⟩⟩
  rw [if_neg c39] at H
  have ma : (kp == 0) = false := beq_eq_false_iff_ne.mpr c39
  have rz : (kp != 0) = true := bne_iff_ne.mpr c39
  (first | rw [ma] | (simp only [i64_w, i32_w]; rw [ma]) | skip)
  by_cases c56 : kp = 1
  ·rw [if_pos c56] at H
   have Ez : (kp == 1) = true := beq_iff_eq.mpr c56
   have EA : (kp != 1) = false := bne_eq_false_iff_eq.mpr c56
   clear c56
   have H' := Aside0.mk H
   clear H
   have Kv := gq.out
   have Kw := gp.out
   have Sx := gs.out
   have Sy := gr.out
   have Kx := yw.out
   have Ky := yv.out
   have Kz := yy.out
   have KA := yx.out
   have Hc := sf.out
   have Hd := yz.out
   have uV := qc13 dd.out
   have uW := qf13 dd.out
   go_wp2
   go_meet
   case rel => exact ⟨_, (yj), (yk), (wrap64 (yl + 1)), (ym), (yn), (yo), (yp), (yq), (r0), (yr), (yt), (sa), (sb), (.slice cO r0.length cP), (.slice eo sa.length ep), (.slice cQ sb.length cR), H', ⟨q122t⟩, ⟨(by (with_reducible repeat (first | apply Kd.R_alloc | apply Kd.R_drewN | apply Kd.R_drew)); exact Kd.R_mono (rkf (Kd.R_types iF.out dd.out q125t)) (fun _ hk => ⟨hk.1.1.1, ⟨hk.1.1.2, hk.1.2⟩⟩))⟩, ⟨(by (with_reducible repeat (first | apply Kd.R_alloc | apply Kd.R_drewN | apply Kd.R_drew)); exact Kd.R_mono (rkf (Kd.R_types iG.out dd.out q125t)) (fun _ hk => hk.1.2))⟩, ⟨(by (with_reducible repeat (first | apply Kd.R_alloc | apply Kd.R_drewN | apply Kd.R_drew)); exact Kd.R_mono (rkf (Kd.R_types iH.out dd.out q125t)) (fun _ hk => ⟨hk.1.1.1, ⟨hk.1.1.2, hk.1.2⟩⟩))⟩, ⟨(by (with_reducible repeat (first | apply Kd.R_alloc | apply Kd.R_drewN | apply Kd.R_drew)); exact Kd.R_mono (rkf (Kd.R_types ng.out dd.out q125t)) (fun _ hk => ⟨hk.1.1.2, ⟨hk.1.2, hk.1.1.1⟩⟩))⟩, ⟨(by (with_reducible repeat (first | apply Kd.R_alloc | apply Kd.R_drewN | apply Kd.R_drew)); exact Kd.R_mono (rkf (Kd.R_types k5.out dd.out q125t)) (fun _ hk => hk.1.2))⟩, ⟨(by (with_reducible repeat (first | apply Kd.R_alloc | apply Kd.R_drewN | apply Kd.R_drew)); exact Kd.R_mono (rkf (Kd.R_types nh.out dd.out q125t)) (fun _ hk => ⟨hk.1.1.2, ⟨hk.1.2, hk.1.1.1⟩⟩))⟩, ⟨(qbf bh)⟩, ⟨(qbf bn)⟩, ⟨(qbf ee)⟩, ⟨(qbf eQ)⟩, ⟨qbp dd⟩, ⟨q37t⟩⟩
  rw [if_neg c56] at H
  have Ez : (kp == 1) = false := beq_eq_false_iff_ne.mpr c56
  have EA : (kp != 1) = true := bne_iff_ne.mpr c56
  have H' := Aside0.mk H
  clear H
  go_wp2
  go_meet
  case rel => exact ⟨_, (yj), (yk), (yl), (ym), (yn), (yo), (yp), (yq), (r0), (yr), (yt), (sa), (sb), (.slice cO r0.length cP), (.slice eo sa.length ep), (.slice cQ sb.length cR), H', ⟨q122t⟩, ⟨(by (with_reducible repeat (first | apply Kd.R_alloc | apply Kd.R_drewN | apply Kd.R_drew)); exact Kd.R_mono iF.out (fun _ hk => ⟨hk.1.1, ⟨hk.1.2, hk.2⟩⟩))⟩, ⟨(by (with_reducible repeat (first | apply Kd.R_alloc | apply Kd.R_drewN | apply Kd.R_drew)); exact Kd.R_mono iG.out (fun _ hk => hk.2))⟩, ⟨(by (with_reducible repeat (first | apply Kd.R_alloc | apply Kd.R_drewN | apply Kd.R_drew)); exact Kd.R_mono iH.out (fun _ hk => ⟨hk.1.1, ⟨hk.1.2, hk.2⟩⟩))⟩, ⟨(by (with_reducible repeat (first | apply Kd.R_alloc | apply Kd.R_drewN | apply Kd.R_drew)); exact Kd.R_mono ng.out (fun _ hk => ⟨hk.1.2, ⟨hk.2, hk.1.1⟩⟩))⟩, ⟨(by (with_reducible repeat (first | apply Kd.R_alloc | apply Kd.R_drewN | apply Kd.R_drew)); exact Kd.R_mono k5.out (fun _ hk => hk.2))⟩, ⟨(by (with_reducible repeat (first | apply Kd.R_alloc | apply Kd.R_drewN | apply Kd.R_drew)); exact Kd.R_mono nh.out (fun _ hk => ⟨hk.1.2, ⟨hk.2, hk.1.1⟩⟩))⟩, ⟨qbk bh⟩, ⟨qbk bn⟩, ⟨qbk ee⟩, ⟨qbk eQ⟩, ⟨qbk dd⟩, ⟨q37t⟩⟩
 case rest =>
  clear pa
  try clear c1
  try clear c2
  try clear p2
  try clear c3
  try clear c4
  try clear c5
  try clear c6
  try clear p6
  try clear c8
  try clear c13
  try clear c14
  try clear c15
  try clear c19
  try clear c20
  try clear c21
  try clear c22
  try clear c23
  try clear c24
  try clear c26
  try clear c29
  try clear c30
  try clear c31
  try clear c32
  try clear c33
  try clear c39
  try clear ma
  try clear rz
  try clear c41
  try clear c42
  try clear c43
  try clear c44
  try clear c45
  try clear c48
  try clear c49
  try clear c50
  try clear c51
  try clear c56
  try clear Ez
  try clear EA
  try clear c57
  try clear c58
  try clear c59
  try clear c60
  try clear c61
  try clear lZ
  try clear Eg
  try clear kI
  try clear nV
  try clear k6
  try clear uV
  try clear l3
  try clear Eh
  try clear kJ
  try clear mB
  try clear kt
  try clear uW
  obtain ⟨kq, sg, sh, si, sj, sk, sl, sm, sn, so, sp, sq, sr, ss, u551008, u551011, u551012, HA, xV, uX, uY, uZ, st, su, sv, bh, bn, ee, eQ, dd, HB⟩ := hcut
  cases kq with
  | zero => exact absurd HA.out (by simp [spec_DrawSameNode.j0])
  | succ kj6 =>
   have H := HA.out
   clear HA
   simp only [spec_DrawSameNode.j0] at H
   simp only [Option.some.injEq, Prod.mk.injEq] at H
   obtain ⟨rfl, rfl, rfl, rfl, rfl, rfl, rfl, rfl, rfl, rfl, rfl, rfl, rfl, rfl, rfl, rfl, rfl, rfl, rfl, rfl, rfl, rfl, rfl, rfl, rfl, rfl⟩ := H
   try go_wp2
   replace uX := am (Kd.R_drew uX.out)
   replace uY := am (Kd.R_drew uY.out)
   replace uZ := am (Kd.R_drew uZ.out)
   replace st := am (Kd.R_drew st.out)
   replace su := am (Kd.R_drew su.out)
   replace sv := am (Kd.R_drew sv.out)
   replace bh := am (blk_drew bh.out)
   replace bn := am (blk_drew bn.out)
   replace ee := am (blk_drew ee.out)
   replace eQ := am (blk_drew eQ.out)
   replace dd := am (blk_drew dd.out)
   replace HB := am (below_drew1 HB.out)
   obtain ⟨uk, ul, rk⟩ := Kd.R_slice st.out
   (first | subst rk | (injection rk with f1_ f2_ f3_; have f4_ := f1_.symm; have f5_ := f3_.symm; clear f1_ f2_ f3_; subst f4_; subst f5_))
   obtain ⟨EB, EC, ED⟩ := Kd.R_slice su.out
   (first | subst ED | (injection ED with f1_ f2_ f3_; have f4_ := f1_.symm; have f5_ := f3_.symm; clear f1_ f2_ f3_; subst f4_; subst f5_))
   obtain ⟨EE, EF, EG⟩ := Kd.R_slice sv.out
   (first | subst EG | (injection EG with f1_ f2_ f3_; have f4_ := f1_.symm; have f5_ := f3_.symm; clear f1_ f2_ f3_; subst f4_; subst f5_))
   refine start_ (n := 4) (S := fun w' => w'.cell? ⟨cu, 0, none⟩ = some (.int .i64 mq) ∧ w'.cell? ⟨cu, 1, none⟩ = some (.int .i64 mr) ∧ w'.cell? ⟨cu, 2, none⟩ = some (.int .i64 ms) ∧ w'.cell? ⟨cu, 3, none⟩ = some (.int .i64 mu) ∧ w'.cell? ⟨cu, 4, none⟩ = some (.int .i64 mv) ∧ w'.cell? ⟨cu, 5, none⟩ = some (.int .i64 mw) ∧ w'.cell? ⟨cu, 6, none⟩ = some (.int .i64 mx) ∧ w'.cell? ⟨cu, 7, none⟩ = some (.int .i64 my) ∧ w'.cell? ⟨cu, 8, none⟩ = some (.slice kr gn.length jC) ∧ w'.cell? ⟨cu, 9, none⟩ = some (.int .i64 mz) ∧ w'.cell? ⟨cu, 10, none⟩ = some (.int .i64 mA) ∧ w'.cell? ⟨cu, 11, none⟩ = some (.slice kV iN.length km) ∧ w'.cell? ⟨cu, 12, none⟩ = some (.slice ks go.length jD) ∧ w'.cell? ⟨ej, 0, none⟩ = some (.int .i64 sg) ∧ w'.cell? ⟨ej, 1, none⟩ = some (.int .i64 sh) ∧ w'.cell? ⟨ej, 2, none⟩ = some (.int .i64 si) ∧ w'.cell? ⟨ej, 3, none⟩ = some (.int .i64 sj) ∧ w'.cell? ⟨ej, 4, none⟩ = some (.int .i64 sk) ∧ w'.cell? ⟨ej, 5, none⟩ = some (.int .i64 sl) ∧ w'.cell? ⟨ej, 6, none⟩ = some (.int .i64 sm) ∧ w'.cell? ⟨ej, 7, none⟩ = some (.int .i64 sn) ∧ w'.cell? ⟨ej, 8, none⟩ = some (.slice uk so.length ul) ∧ w'.cell? ⟨ej, 9, none⟩ = some (.int .i64 sp) ∧ w'.cell? ⟨ej, 10, none⟩ = some (.int .i64 sq) ∧ w'.cell? ⟨ej, 11, none⟩ = some (.slice EB sr.length EC) ∧ w'.cell? ⟨ej, 12, none⟩ = some (.slice EE ss.length EF)) (ds := []) (bm 4 0) (by kernel_rfl) rfl (by kernel_rfl) qst (fun hHeld => ?_)
   generalize wc.drew = w63 at uX uY uZ st su sv bh bn ee eQ dd HB hHeld ⊢
   refine tk_ 0 (some 30) (bm 4 1) (by kernel_rfl) hHeld ?_
   refine tk_ 1 (some 31) (bm 4 3) (by kernel_rfl) hHeld ?_
   refine one_ (i := 2) (N := none) (bm 4 7) rfl rfl (by kernel_rfl) q125t (fun K hK => ?_)
   have hs64 : w63.cell? ⟨d2, 0, none⟩ = some (.int .i64 0) := (blk_cell bh.out 0).trans rfl
   have hfs64 := blk_frozen bh.out 0
   have Sz := ei.out
   have Ju := g8.out
   have Jv := il.out
   have SA := gq.out
   have SB := eh.out
   have Jw := g7.out
   have Jx := ik.out
   have SC := gp.out
   have hs65 : w63.cell? ⟨d2, 1, none⟩ = some (.int .i64 0) := (blk_cell bh.out 1).trans rfl
   have hfs65 := blk_frozen bh.out 1
   have SD := ei.out
   have SE := g8.out
   have SF := il.out
   have SG := gq.out
   have SH := eh.out
   have SI := g7.out
   have SJ := ik.out
   have SK := gp.out
   have hs66 : w63.cell? ⟨d2, 2, none⟩ = some (.int .i64 0) := (blk_cell bh.out 2).trans rfl
   have hfs66 := blk_frozen bh.out 2
   have SL := ei.out
   have SM := g8.out
   have SN := il.out
   have SO := gq.out
   have SP := eh.out
   have SQ := g7.out
   have SR := ik.out
   have SS := gp.out
   have hs67 : w63.cell? ⟨d2, 3, none⟩ = some (.int .i64 0) := (blk_cell bh.out 3).trans rfl
   have hfs67 := blk_frozen bh.out 3
   have ST := ei.out
   have SU := g8.out
   have SV := il.out
   have SW := gq.out
   have SX := eh.out
   have SY := g7.out
   have SZ := ik.out
   have S0 := gp.out
   have hs68 : w63.cell? ⟨d2, 4, none⟩ = some (.int .i64 0) := (blk_cell bh.out 4).trans rfl
   have hfs68 := blk_frozen bh.out 4
   have S1 := ei.out
   have S3 := g8.out
   have S4 := il.out
   have S5 := gq.out
   have S6 := eh.out
   have S7 := g7.out
   have S8 := ik.out
   have S9 := gp.out
   have hs69 : w63.cell? ⟨d2, 5, none⟩ = some (.int .i64 0) := (blk_cell bh.out 5).trans rfl
   have hfs69 := blk_frozen bh.out 5
   have Ta := ei.out
   have Tc := g8.out
   have Td := il.out
   have Te := gq.out
   have Tf := eh.out
   have Tg := g7.out
   have Th := ik.out
   have Ti := gp.out
   have hs70 : w63.cell? ⟨d2, 6, none⟩ = some (.int .i64 0) := (blk_cell bh.out 6).trans rfl
   have hfs70 := blk_frozen bh.out 6
   have Tj := ei.out
   have Tk := g8.out
   have Tl := il.out
   have Tm := gq.out
   have Tn := eh.out
   have To := g7.out
   have Tp := ik.out
   have Tq := gp.out
   have hs71 : w63.cell? ⟨d2, 7, none⟩ = some (.int .i64 0) := (blk_cell bh.out 7).trans rfl
   have hfs71 := blk_frozen bh.out 7
   have Tr := ei.out
   have Ts := g8.out
   have Tt := il.out
   have Tu := gq.out
   have Tv := eh.out
   have Tw := g7.out
   have Tx := ik.out
   have Ty := gp.out
   have hs72 : w63.cell? ⟨d2, 8, none⟩ = some (.slice none 0 0) := (blk_cell bh.out 8).trans rfl
   have hfs72 := blk_frozen bh.out 8
   have Tz := ei.out
   have TA := g8.out
   have TB := il.out
   have TC := gq.out
   have TD := eh.out
   have TE := g7.out
   have TF := ik.out
   have TG := gp.out
   have hs73 : w63.cell? ⟨d2, 9, none⟩ = some (.int .i64 0) := (blk_cell bh.out 9).trans rfl
   have hfs73 := blk_frozen bh.out 9
   have TH := ei.out
   have TI := g8.out
   have TJ := il.out
   have TK := gq.out
   have TL := eh.out
   have TM := g7.out
   have TN := ik.out
   have TO := gp.out
   have hs74 : w63.cell? ⟨d2, 10, none⟩ = some (.int .i64 0) := (blk_cell bh.out 10).trans rfl
   have hfs74 := blk_frozen bh.out 10
   have TP := ei.out
   have TQ := g8.out
   have TR := il.out
   have TS := gq.out
   have TT := eh.out
   have TU := g7.out
   have TV := ik.out
   have TW := gp.out
   have hs75 : w63.cell? ⟨d2, 11, none⟩ = some (.slice none 0 0) := (blk_cell bh.out 11).trans rfl
   have hfs75 := blk_frozen bh.out 11
   have TX := ei.out
   have TY := g8.out
   have TZ := il.out
   have T0 := gq.out
   have T1 := eh.out
   have T3 := g7.out
   have T8 := ik.out
   have Ua := gp.out
   have hs76 : w63.cell? ⟨d2, 12, none⟩ = some (.slice none 0 0) := (blk_cell bh.out 12).trans rfl
   have hfs76 := blk_frozen bh.out 12
   have Ub := ei.out
   have Uc := g8.out
   have Ud := il.out
   have Ue := gq.out
   have Uf := eh.out
   have Ug := g7.out
   have Uh := ik.out
   have Ui := gp.out
   refine skip_ (w1 := ?_) q127t rfl ?_ ?_
   rotate_left
   ·go_simp
    rfl
   refine hK.out _ _ (by have h_ := hHeld; (try dsimp only at h_); (try dsimp only); go_split_ands; (try go_split_ands); (repeat' (with_reducible apply And.intro)); all_goals (repeat (first | (with_reducible assumption) | refine (cell_far (Aside0.out (by with_reducible assumption)) _).trans ?_))) (fun hHeld => ?_)
   clear hK K
   refine one_ (i := 3) (N := none) (bm 4 15) rfl rfl (by kernel_rfl) q125t (fun K hK => ?_)
   have hs77 : w63.cell? ⟨d3, 0, none⟩ = some (.int .i64 0) := (blk_cell bn.out 0).trans rfl
   have hfs77 := blk_frozen bn.out 0
   have Uj := eh.out
   have Uk := hC.out
   have Ul := io.out
   have Um := gs.out
   have Un := ei.out
   have Uo := g9.out
   have Up := im.out
   have Uq := gr.out
   have hs78 : w63.cell? ⟨d3, 1, none⟩ = some (.int .i64 0) := (blk_cell bn.out 1).trans rfl
   have hfs78 := blk_frozen bn.out 1
   have Ur := eh.out
   have Us := hC.out
   have Ut := io.out
   have Uu := gs.out
   have Uv := ei.out
   have Uw := g9.out
   have Ux := im.out
   have Uy := gr.out
   have hs79 : w63.cell? ⟨d3, 2, none⟩ = some (.int .i64 0) := (blk_cell bn.out 2).trans rfl
   have hfs79 := blk_frozen bn.out 2
   have Uz := eh.out
   have UA := hC.out
   have UB := io.out
   have UC := gs.out
   have UD := ei.out
   have UE := g9.out
   have UF := im.out
   have UG := gr.out
   have hs80 : w63.cell? ⟨d3, 3, none⟩ = some (.int .i64 0) := (blk_cell bn.out 3).trans rfl
   have hfs80 := blk_frozen bn.out 3
   have UH := eh.out
   have UI := hC.out
   have UJ := io.out
   have UK := gs.out
   have UL := ei.out
   have UM := g9.out
   have UN := im.out
   have UO := gr.out
   have hs81 : w63.cell? ⟨d3, 4, none⟩ = some (.int .i64 0) := (blk_cell bn.out 4).trans rfl
   have hfs81 := blk_frozen bn.out 4
   have UP := eh.out
   have UQ := hC.out
   have UR := io.out
   have US := gs.out
   have UT := ei.out
   have UU := g9.out
   have UV := im.out
   have UW := gr.out
   have hs82 : w63.cell? ⟨d3, 5, none⟩ = some (.int .i64 0) := (blk_cell bn.out 5).trans rfl
   have hfs82 := blk_frozen bn.out 5
   have UX := eh.out
   have UY := hC.out
   have UZ := io.out
   have U0 := gs.out
   have U1 := ei.out
   have U2 := g9.out
   have U3 := im.out
   have U4 := gr.out
   have hs83 : w63.cell? ⟨d3, 6, none⟩ = some (.int .i64 0) := (blk_cell bn.out 6).trans rfl
   have hfs83 := blk_frozen bn.out 6
   have U5 := eh.out
   have U6 := hC.out
   have U7 := io.out
   have U8 := gs.out
   have U9 := ei.out
   have Va := g9.out
   have Vb := im.out
   have Vc := gr.out
   have hs84 : w63.cell? ⟨d3, 7, none⟩ = some (.int .i64 0) := (blk_cell bn.out 7).trans rfl
   have hfs84 := blk_frozen bn.out 7
   have Vd := eh.out
   have Ve := hC.out
   have Vf := io.out
   have Vg := gs.out
   have Vh := ei.out
   have Vi := g9.out
   have Vj := im.out
   have Vk := gr.out
   have hs86 : w63.cell? ⟨d3, 8, none⟩ = some (.slice none 0 0) := (blk_cell bn.out 8).trans rfl
   have hfs86 := blk_frozen bn.out 8
   have IG := eh.out
   have Vl := hC.out
   have Vm := io.out
   have Vn := gs.out
   have IH := ei.out
   have Vo := g9.out
   have Vp := im.out
   have Vq := gr.out
   have hs87 : w63.cell? ⟨d3, 9, none⟩ = some (.int .i64 0) := (blk_cell bn.out 9).trans rfl
   have hfs87 := blk_frozen bn.out 9
   have HM := eh.out
   have Vr := hC.out
   have Vs := io.out
   have Vt := gs.out
   have HN := ei.out
   have Vu := g9.out
   have Vv := im.out
   have Vw := gr.out
   have hs88 : w63.cell? ⟨d3, 10, none⟩ = some (.int .i64 0) := (blk_cell bn.out 10).trans rfl
   have hfs88 := blk_frozen bn.out 10
   have Vx := eh.out
   have Vy := hC.out
   have Vz := io.out
   have VA := gs.out
   have VB := ei.out
   have VC := g9.out
   have VD := im.out
   have VE := gr.out
   have hs90 : w63.cell? ⟨d3, 11, none⟩ = some (.slice none 0 0) := (blk_cell bn.out 11).trans rfl
   have hfs90 := blk_frozen bn.out 11
   have VF := eh.out
   have VG := hC.out
   have VH := io.out
   have VI := gs.out
   have VJ := ei.out
   have VK := g9.out
   have VL := im.out
   have VM := gr.out
   have hs92 : w63.cell? ⟨d3, 12, none⟩ = some (.slice none 0 0) := (blk_cell bn.out 12).trans rfl
   have hfs92 := blk_frozen bn.out 12
   have VN := eh.out
   have VO := hC.out
   have VP := io.out
   have VQ := gs.out
   have VR := ei.out
   have VS := g9.out
   have VT := im.out
   have VU := gr.out
   refine skip_ (w1 := ?_) ?_ ?_ ?_ ?_
   rotate_left
   ·rfl
   ·rfl
   ·go_simp
    rfl
   refine hK.out _ _ (by have h_ := hHeld; (try dsimp only at h_); (try dsimp only); go_split_ands; (try go_split_ands); (repeat' (with_reducible apply And.intro)); all_goals (repeat (first | (with_reducible assumption) | refine (cell_far (Aside0.out (by with_reducible assumption)) _).trans ?_))) (fun hHeld => ?_)
   clear hK K
   refine done_ (by kernel_rfl) ?_
   try go_wp2
   refine bodyPost_ret (results_cc rfl _ _ d2 d3 29 29 #[mq, mr, ms, mu, mv, mw, mx, my, .slice kr gn.length jC, mz, mA, .slice kV iN.length km, .slice ks go.length jD] #[sg, sh, si, sj, sk, sl, sm, sn, .slice uk so.length ul, sp, sq, .slice EB sr.length EC, .slice EE ss.length EF] (0, 0) (0, 0) _ _ rfl (qbm bh) Tryd.underlying29 rfl (by kernel_rfl) rfl (qbm bn) Tryd.underlying29 rfl (by kernel_rfl)) rfl ?_
   exact ⟨_, _, _, _, _, _, q114t, (by (with_reducible repeat (first | apply Kd.R_alloc | apply Kd.R_drewN | apply Kd.R_drew)); exact Kd.R_mono (rk13 (rk13 (Kd.R_types (Kd.R_types uX.out bh.out q125t) bn.out q125t) (fun _ hk => hk.1.2))) (fun _ hk => ⟨hk.1.1.1, ⟨hk.1.1.2.1, hk.1.1.2.2⟩⟩)), (by (with_reducible repeat (first | apply Kd.R_alloc | apply Kd.R_drewN | apply Kd.R_drew)); exact Kd.R_mono (rk13 (rk13 (Kd.R_types (Kd.R_types uY.out bh.out q125t) bn.out q125t) (fun _ hk => hk.1.2))) (fun _ hk => hk.1.1)), (by (with_reducible repeat (first | apply Kd.R_alloc | apply Kd.R_drewN | apply Kd.R_drew)); exact Kd.R_mono (rk13 (rk13 (Kd.R_types (Kd.R_types uZ.out bh.out q125t) bn.out q125t) (fun _ hk => hk.1.2))) (fun _ hk => ⟨hk.1.1.1, ⟨hk.1.1.2.1, hk.1.1.2.2⟩⟩)), (by (with_reducible repeat (first | apply Kd.R_alloc | apply Kd.R_drewN | apply Kd.R_drew)); exact Kd.R_mono (rk13 (rk13 (Kd.R_types (Kd.R_types st.out bh.out q125t) bn.out q125t) (fun _ hk => hk.1.2))) (fun _ hk => ⟨hk.1.1.1, ⟨hk.1.1.2.1, hk.1.1.2.2⟩⟩)), (by (with_reducible repeat (first | apply Kd.R_alloc | apply Kd.R_drewN | apply Kd.R_drew)); exact Kd.R_mono (rk13 (rk13 (Kd.R_types (Kd.R_types su.out bh.out q125t) bn.out q125t) (fun _ hk => hk.1.2))) (fun _ hk => hk.1.1)), (by (with_reducible repeat (first | apply Kd.R_alloc | apply Kd.R_drewN | apply Kd.R_drew)); exact Kd.R_mono (rk13 (rk13 (Kd.R_types (Kd.R_types sv.out bh.out q125t) bn.out q125t) (fun _ hk => hk.1.2))) (fun _ hk => ⟨hk.1.1.1, ⟨hk.1.1.2.1, hk.1.1.2.2⟩⟩)), q47t⟩

/-! ### slices_Equal_int_int: function 45 -/
def slices_Equal_int_int.l0 : Nat → List Int → List Int → Int → Int → Option (Bool)
 | 0, _, _, _, _ => none
 | k + 1, x0, x1, x12, x13 => if x13 < x12 then (if 0 ≤ x13 then (if x13 < (x0.length : Int) then (if x13 < (x1.length : Int) then (if (rd x0 x13) = (rd x1 x13) then (slices_Equal_int_int.l0 k x0 x1 x12 (wrap64 (x13 + 1))) else (some false)) else (none)) else (none)) else (none)) else (some true)
def slices_Equal_int_int.f (k : Nat) (l0 : List Int) (l1 : List Int) : Option (Bool) := if (l0.length : Int) = (l1.length : Int) then (slices_Equal_int_int.l0 k l0 l1 (l0.length : Int) 0) else (some false)
set_option maxHeartbeats 8000000 in
set_option maxRecDepth 100000 in
theorem slices_Equal_int_int.calls (k : Nat) (A0 : Option Addr) (c0 : Nat) (l0 : List Int) (A1 : Option Addr) (c1 : Nat) (l1 : List Int) (r : Bool) (w : World) (hr0 : Kd.C (Kd.int .i64) w A0 l0.length l0) (hc0 : l0.length ≤ c0) (hr1 : Kd.C (Kd.int .i64) w A1 l1.length l1) (hc1 : l1.length ≤ c1) (h : slices_Equal_int_int.f k l0 l1 = some r) :
  Calls Tryd.prog 45 #[.slice A0 l0.length c0, .slice A1 l1.length c1] w fun e w' => e = .returned (.bool r) ∧ Drawn0 w w' := by
 have bX := Aside0.mk hr0
 have d0 := Aside0.mk hc0
 clear hr0 hc0
 have gh := Aside0.mk hr1
 have pw := Aside0.mk hc1
 clear hr1 hc1
 have H : (if (l0.length : Int) = (l1.length : Int) then (slices_Equal_int_int.l0 k l0 l1 (l0.length : Int) 0) else (some false)) = some r := h
 clear h
 by_cases c3 : (l0.length : Int) = (l1.length : Int)
 rotate_left
 ·rw [if_neg c3] at H
  have d8 : ((l0.length : Int) == (l1.length : Int)) = false := beq_eq_false_iff_ne.mpr c3
  have ip : ((l0.length : Int) != (l1.length : Int)) = true := bne_iff_ne.mpr c3
  have nW : (l0.length == l1.length) = false := by first | simpa using c3 | (simp at c3 ⊢; omega)
  obtain rfl := Option.some.inj H
  go_enter Tryd.func45, Tryd.ntmps45
  go_wp2
  repeat (go_quiet (fail); try go_wp2)
  go_ret
  exact ⟨q121t, q116t⟩
 rw [if_pos c3] at H
 have d8 : ((l0.length : Int) == (l1.length : Int)) = true := beq_iff_eq.mpr c3
 have ip : ((l0.length : Int) != (l1.length : Int)) = false := bne_eq_false_iff_eq.mpr c3
 have nW : (l0.length == l1.length) = true := by first | simpa using c3 | (simp at c3 ⊢; omega)
 clear c3
 have H' := Aside0.mk H
 clear H
 go_enter Tryd.func45, Tryd.ntmps45
 go_wp2
 repeat (go_quiet (fail); try go_wp2)
 go_loopg [13] k (fun kq v13 w' => ∃ (ba : Int), v13 = .int .i64 ba ∧ Aside0 (slices_Equal_int_int.l0 kq l0 l1 (l0.length : Int) ba = some r) ∧ Aside0 (kq ≤ k) ∧ Drawn0 w w')
 case atStart => exact ⟨(0), q121t, H', ⟨Nat.le_refl _⟩, q116t⟩
 case round =>
  clear H'
  try clear c1
  try clear p2
  try clear c3
  try clear d8
  try clear ip
  try clear nW
  obtain ⟨ba, rfl, HA, HK1, ⟨m1, rfl⟩⟩ := hrel
  cases gk with
  | zero => exact absurd HA.out (by simp [slices_Equal_int_int.l0])
  | succ k1 =>
   have H := HA.out
   clear HA
   simp only [slices_Equal_int_int.l0] at H
   by_cases c4 : ba < (l0.length : Int)
   rotate_left
   ·rw [if_neg c4] at H
    have en : decide (ba < (l0.length : Int)) = false := decide_eq_false c4
    clear c4
    obtain rfl := Option.some.inj H
    go_wp2
    repeat (go_quiet (fail); try go_wp2)
    go_ret
    exact ⟨q121t, q116t⟩
   rw [if_pos c4] at H
   have en : decide (ba < (l0.length : Int)) = true := decide_eq_true c4
   clear c4
   by_cases c5 : 0 ≤ ba
   rotate_left
   ·rw [if_neg c5] at H
    exact absurd H q126t
   rw [if_pos c5] at H
   have gE : decide (0 ≤ ba) = true := decide_eq_true c5
   clear c5
   by_cases c6 : ba < (l0.length : Int)
   rotate_left
   ·rw [if_neg c6] at H
    exact absurd H q126t
   rw [if_pos c6] at H
   have d9 : decide (ba < (l0.length : Int)) = true := decide_eq_true c6
   clear c6
   by_cases c7 : ba < (l1.length : Int)
   rotate_left
   ·rw [if_neg c7] at H
    exact absurd H q126t
   rw [if_pos c7] at H
   have eM : decide (ba < (l1.length : Int)) = true := decide_eq_true c7
   clear c7
   by_cases c8 : (rd l0 ba) = (rd l1 ba)
   ·rw [if_pos c8] at H
    have gu : ((rd l0 ba) == (rd l1 ba)) = true := beq_iff_eq.mpr c8
    have mC : ((rd l0 ba) != (rd l1 ba)) = false := bne_eq_false_iff_eq.mpr c8
    clear c8
    have H' := Aside0.mk H
    clear H
    have p575 : 0 ≤ (ba : Int) := of_decide_eq_true q118t
    have q575 : ba < (l0.length : Int) := of_decide_eq_true q118t
    obtain ⟨KB, e575, KC⟩ := Kd.at_int bX.out ba p575 q575
    cases e575
    replace p575 := eq_true p575
    replace q575 := eq_true q575
    have p576 : 0 ≤ (ba : Int) := of_decide_eq_true q118t
    have q576 : ba < (l1.length : Int) := of_decide_eq_true q118t
    obtain ⟨KD, e576, KE⟩ := Kd.at_int gh.out ba p576 q576
    cases e576
    replace p576 := eq_true p576
    replace q576 := eq_true q576
    go_wp2
    repeat (go_quiet (fail); try go_wp2)
    go_roundg k1
    case measure => have := HK1.out; omega
    case rel => exact ⟨(wrap64 (ba + 1)), q121t, H', ⟨q124t⟩, q116t⟩
   rw [if_neg c8] at H
   have gu : ((rd l0 ba) == (rd l1 ba)) = false := beq_eq_false_iff_ne.mpr c8
   have mC : ((rd l0 ba) != (rd l1 ba)) = true := bne_iff_ne.mpr c8
   obtain rfl := Option.some.inj H
   have p575 : 0 ≤ (ba : Int) := of_decide_eq_true q118t
   have q575 : ba < (l0.length : Int) := of_decide_eq_true q118t
   obtain ⟨KB, e575, KC⟩ := Kd.at_int bX.out ba p575 q575
   cases e575
   replace p575 := eq_true p575
   replace q575 := eq_true q575
   have p576 : 0 ≤ (ba : Int) := of_decide_eq_true q118t
   have q576 : ba < (l1.length : Int) := of_decide_eq_true q118t
   obtain ⟨KD, e576, KE⟩ := Kd.at_int gh.out ba p576 q576
   cases e576
   replace p576 := eq_true p576
   replace q576 := eq_true q576
   go_wp2
   repeat (go_quiet (fail); try go_wp2)
   go_ret
   exact ⟨q121t, q116t⟩

end Go.Proofs.YtofpmdgndegalacDoor.QFnNodes
