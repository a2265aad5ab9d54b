/- What the functions that the law FnNodes reaches compute, as plain functions, and that the code computes just that (by a program of this session's; the library's functions by hand). No condition. -/
import Derived.Test.YtofpmdgndegalacDoorQFnNodesx0
import Derived.Test.YtofpmdgndegalacDoorQFnNodesx2
import Derived.Test.YtofpmdgndegalacDoorQFnNodesx3
namespace Go.Proofs.YtofpmdgndegalacDoor.QFnNodes
open Go.RowKit Go.Proofs.YtofpmdgndegalacDoorW.PrintWords Go.Proofs.YtofpmdgndegalacDoorW.PrintLast Go.Proofs.YtofpmdgndegalacDoorW.PrintMore
attribute [local go_sem] max2_int min2_int max_two min_two max_three min_three max_four min_four   -- for this text's walks alone
set_option linter.unusedVariables false
set_option linter.unusedSimpArgs false

/-! ### spec_l7Draw: function 51 -/
mutual
def spec_l7Draw.l0 : Nat → Int → List Int → Int → Int → Int → Int → Int → Int → Int → Int → Int → Int → Int → Int → Int → Int → Int → Int → List Int → Int → Int → List (S33) → List Int → Option (Int × Int × Int × Int × Int × Int × Int × Int × List Int × Int × Int × (List (S33)) × List Int × Int × Int)
 | 0, _, _, _, _, _, _, _, _, _, _, _, _, _, _, _, _, _, _, _, _, _, _, _ => none
 | k + 1, x6, eJ, fE, fF, nn, lO, np, nq, nr, nt, jU, jV, jW, jX, jY, jZ, j3, j4, gK, kC, kD, jn, jo => if x6 > 0 then (if gK.length < 17592186044416 then (spec_l7Draw.l0 k (wrap64 (x6 - 1)) eJ fE fF nn lO np nq nr nt jU jV jW jX jY jZ j3 j4 (gK ++ [wrap64 (x6 - 1)]) kC kD jn jo) else (none)) else (if (gK.length : Int) > 0 then (if 0 < (gK.length : Int) then ((spec_l1Below.f eJ fE fF (wrap64 (lO + 1))).bind fun we => (spec_l7Draw.j1 k eJ we.2.1 we.2.2 nn lO np nq nr nt jU jV jW jX jY jZ j3 j4 gK (wrap64 ((rd gK 0) + 1)) we.1 jn jo)) else (none)) else (spec_l7Draw.j1 k eJ fE fF nn lO np nq nr nt jU jV jW jX jY jZ j3 j4 gK kC kD jn jo))
def spec_l7Draw.j1 : Nat → List Int → Int → Int → Int → Int → Int → Int → Int → Int → Int → Int → Int → Int → Int → Int → Int → Int → List Int → Int → Int → List (S33) → List Int → Option (Int × Int × Int × Int × Int × Int × Int × Int × List Int × Int × Int × (List (S33)) × List Int × Int × Int)
 | 0, _, _, _, _, _, _, _, _, _, _, _, _, _, _, _, _, _, _, _, _, _, _ => none
 | k + 1, eJ, fE, fF, nn, lO, np, nq, nr, nt, jU, jV, jW, jX, jY, jZ, j3, j4, gK, kC, kD, jn, jo => (spec_l1Below.f eJ fE fF 3).bind fun wg => (spec_l7Draw.l1 k wg.1 eJ wg.2.1 wg.2.2 nn lO np nq nr nt jU jV jW jX jY jZ j3 j4 gK kC kD jn jo)
def spec_l7Draw.l1 : Nat → Int → List Int → Int → Int → Int → Int → Int → Int → Int → Int → Int → Int → Int → Int → Int → Int → Int → Int → List Int → Int → Int → List (S33) → List Int → Option (Int × Int × Int × Int × Int × Int × Int × Int × List Int × Int × Int × (List (S33)) × List Int × Int × Int)
 | 0, _, _, _, _, _, _, _, _, _, _, _, _, _, _, _, _, _, _, _, _, _, _, _ => none
 | k + 1, x7, eJ, fE, fF, nn, lO, np, nq, nr, nt, jU, jV, jW, jX, jY, jZ, j3, j4, gK, kC, kD, jn, jo => if x7 > 0 then ((spec_l7Thing.f k eJ fE fF nn lO np nq nr nt).bind fun qQ => (if jn.length < 5864062014805 then (spec_l7Draw.l1 k (wrap64 (x7 - 1)) eJ qQ.2.2.2.1 qQ.2.2.2.2 nn lO np nq nr nt jU jV jW jX jY jZ j3 j4 gK kC kD (jn ++ [(⟨qQ.1, qQ.2.1, qQ.2.2.1⟩ : S33)]) jo) else (none))) else ((spec_l1Below.f eJ fE fF 3).bind fun wh => (spec_l7Draw.l2 k wh.1 eJ wh.2.1 wh.2.2 jU jV jW jX jY jZ j3 j4 gK kC kD jn jo))
def spec_l7Draw.l2 : Nat → Int → List Int → Int → Int → Int → Int → Int → Int → Int → Int → Int → Int → List Int → Int → Int → List (S33) → List Int → Option (Int × Int × Int × Int × Int × Int × Int × Int × List Int × Int × Int × (List (S33)) × List Int × Int × Int)
 | 0, _, _, _, _, _, _, _, _, _, _, _, _, _, _, _, _, _ => none
 | k + 1, x9, eJ, fE, fF, jU, jV, jW, jX, jY, jZ, j3, j4, gK, kC, kD, jn, jo => if x9 > 0 then ((spec_l1Below.f eJ fE fF 256).bind fun wi => (if jo.length < 17592186044416 then (spec_l7Draw.l2 k (wrap64 (x9 - 1)) eJ wi.2.1 wi.2.2 jU jV jW jX jY jZ j3 j4 gK kC kD jn (jo ++ [wi.1])) else (none))) else (some (jU, jV, jW, jX, jY, jZ, j3, j4, gK, kC, kD, jn, jo, fE, fF))
end
def spec_l7Draw.f (k : Nat) (ah : List Int) (a5 : Int) (a7 : Int) (aj : Int) (ai : Int) (ak : Int) (ap : Int) (aq : Int) (ao : Int) : Option (Int × Int × Int × Int × Int × Int × Int × Int × List Int × Int × Int × (List (S33)) × List Int × Int × Int) := (spec_l1Below.f ah a5 a7 ao).bind fun oF => ((spec_NodeNew.f (wrap64 (1 + oF.1))).bind fun bY => ((spec_l1Below.f ah oF.2.1 oF.2.2 4).bind fun gL => (if gL.1 = 1 then ((spec_l1Below.f ah gL.2.1 gL.2.2 3).bind fun oG => ((spec_l1Below.f ah oG.2.1 oG.2.2 3).bind fun oH => (spec_l7Draw.l0 k oH.1 ah oH.2.1 oH.2.2 aj ai ak ap aq ao gL.1 bY.2.1 oG.1 bY.2.2.2.1 bY.2.2.2.2.1 bY.2.2.2.2.2.1 bY.2.2.2.2.2.2.1 bY.2.2.2.2.2.2.2.1 bY.2.2.2.2.2.2.2.2.1 bY.2.2.2.2.2.2.2.2.2.1 bY.2.2.2.2.2.2.2.2.2.2.1 bY.2.2.2.2.2.2.2.2.2.2.2.1 bY.2.2.2.2.2.2.2.2.2.2.2.2))) else (some (gL.1, bY.2.1, bY.2.2.1, bY.2.2.2.1, bY.2.2.2.2.1, bY.2.2.2.2.2.1, bY.2.2.2.2.2.2.1, bY.2.2.2.2.2.2.2.1, bY.2.2.2.2.2.2.2.2.1, bY.2.2.2.2.2.2.2.2.2.1, bY.2.2.2.2.2.2.2.2.2.2.1, bY.2.2.2.2.2.2.2.2.2.2.2.1, bY.2.2.2.2.2.2.2.2.2.2.2.2, gL.2.1, gL.2.2)))))
def spec_l7Draw.T21 : Bool × List (List Nat × List Nat) := (true, [([], []), ([0], [0]), ([], []), ([2], [2]), ([3], [3]), ([1, 4, 3], [1, 4]), ([0, 1, 2, 3, 4, 5], []), ([6, 5, 5, 0, 1, 2, 3, 4, 5], [5, 6])])
def spec_l7Draw.B21 : List Nat := [0, 1, 0, 4, 12, 31, 63, 127]
theorem spec_l7Draw.tab21 : rtab .any (opsOf Tryd.f51 21) = spec_l7Draw.T21 := by kernel_rfl
theorem spec_l7Draw.bits21 : waitsOk spec_l7Draw.T21.2 spec_l7Draw.B21 = true := by kernel_rfl
set_option maxHeartbeats 8000000 in
set_option maxRecDepth 100000 in
theorem spec_l7Draw.calls (k : Nat) (g : Nat) (ah : List Int) (a5 : Int) (a7 : Int) (aj : Int) (ai : Int) (ak : Int) (ap : Int) (aq : Int) (ao : Int) (r1 : Int) (r2 : Int) (r3 : Int) (r4 : Int) (r5 : Int) (r6 : Int) (r7 : Int) (r8 : Int) (r9 : List Int) (r10 : Int) (r11 : Int) (r12 : List (S33)) (r13 : List Int) (r14 : Int) (r15 : Int) (w0 w : World) (hI : IsS69 w0 w g ah a5 a7) (hB : Below w0.heap.size w0 w) (h : spec_l7Draw.f k ah a5 a7 aj ai ak ap aq ao = some (r1, r2, r3, r4, r5, r6, r7, r8, r9, r10, r11, r12, r13, r14, r15)) :
  Calls Tryd.prog 51 #[.pointer (some ⟨g, 0, none⟩), .agg #[aj, ai, ak, ap, aq, ao]] w fun e w' => ∃ v8_ v11_ v12_ : Value, e = .returned (.agg #[r1, r2, r3, r4, r5, r6, r7, r8, v8_, r10, r11, v11_, v12_]) ∧ Kd.R (Kd.int .i64) 3 w' w.heap.size (fun k_ => some k_ ≠ (v12_ : Value).ownBlock) v8_ r9 ∧ Kd.R k33 33 w' w.heap.size (fun _ => True) v11_ r12 ∧ Kd.R (Kd.int .i64) 3 w' w.heap.size (fun k_ => some k_ ≠ (v8_ : Value).ownBlock) v12_ r13 ∧ IsS69 w0 w' g ah r14 r15 ∧ Below w0.heap.size w0 w' ∧ KeepBut w w' g none := by
 have hu25 := Tryd.underlying25
 have hu29 := Tryd.underlying29
 have hu33 := Tryd.underlying33
 have HI0 := Aside0.mk hI
 have HK := am (KeepBut.refl w g none)
 have HL := Aside0.mk hB.size
 clear hI
 have HW0 := Aside0.mk hB.size
 have HB := Aside0.mk hB
 clear hB
 have H : ((spec_l1Below.f ah a5 a7 ao).bind fun oF => ((spec_NodeNew.f (wrap64 (1 + oF.1))).bind fun bY => ((spec_l1Below.f ah oF.2.1 oF.2.2 4).bind fun gL => (if gL.1 = 1 then ((spec_l1Below.f ah gL.2.1 gL.2.2 3).bind fun oG => ((spec_l1Below.f ah oG.2.1 oG.2.2 3).bind fun oH => (spec_l7Draw.l0 k oH.1 ah oH.2.1 oH.2.2 aj ai ak ap aq ao gL.1 bY.2.1 oG.1 bY.2.2.2.1 bY.2.2.2.2.1 bY.2.2.2.2.2.1 bY.2.2.2.2.2.2.1 bY.2.2.2.2.2.2.2.1 bY.2.2.2.2.2.2.2.2.1 bY.2.2.2.2.2.2.2.2.2.1 bY.2.2.2.2.2.2.2.2.2.2.1 bY.2.2.2.2.2.2.2.2.2.2.2.1 bY.2.2.2.2.2.2.2.2.2.2.2.2))) else (some (gL.1, bY.2.1, bY.2.2.1, bY.2.2.2.1, bY.2.2.2.2.1, bY.2.2.2.2.2.1, bY.2.2.2.2.2.2.1, bY.2.2.2.2.2.2.2.1, bY.2.2.2.2.2.2.2.2.1, bY.2.2.2.2.2.2.2.2.2.1, bY.2.2.2.2.2.2.2.2.2.2.1, bY.2.2.2.2.2.2.2.2.2.2.2.1, bY.2.2.2.2.2.2.2.2.2.2.2.2, gL.2.1, gL.2.2)))))) = some (r1, r2, r3, r4, r5, r6, r7, r8, r9, r10, r11, r12, r13, r14, r15) := h
 clear h
 obtain ⟨⟨pB, hV, hX⟩, A3, H⟩ := bnd H
 try dsimp only at H
 obtain ⟨⟨Bl, fQ, wj, fR, fS, fT, fU, fV, qR, oI, oJ, hY, eG⟩, A4, H⟩ := bnd H
 try dsimp only at H
 obtain ⟨⟨eR, pC, pD⟩, A5, H⟩ := bnd H
 try dsimp only at H
 by_cases c6 : eR = 1
 rotate_left
 ·rw [if_neg c6] at H
  have d9 : (eR == 1) = false := beq_eq_false_iff_ne.mpr c6
  have gg : (eR != 1) = true := bne_iff_ne.mpr c6
  simp only [Option.some.injEq, Prod.mk.injEq] at H
  obtain ⟨rfl, rfl, rfl, rfl, rfl, rfl, rfl, rfl, rfl, rfl, rfl, rfl, rfl, rfl, rfl⟩ := H
  go_enter Tryd.func51, Tryd.ntmps51
  go_wp2_with (first | ((with_reducible refine gate_dst (N := 3) rfl ?_); refine box_ev 3 #[aj, ai, ak, ap, aq, ao] 25 ?_; intro dv hg w97 hbox hb; replace HB := am (below_step q60t hb); have a9 := am (hbox); have ov := am ((q46t : w.heap.size ≤ dv)); have GG := am ((Nat.le_trans HW0.out (q46t : w.heap.size ≤ dv) : w0.heap.size ≤ dv)); replace HK := am (KeepBut.trans q64t (KeepBut.of_below hb g none) (.inl rfl)); have qS := am ((q18t : g ≠ dv)); have gl := am ((q19t : dv ≠ g)); replace HI0 := am (IsS69.below q61t hb); clear hb hbox hg) | ((with_reducible refine gate_dst (N := 4) rfl ?_); refine box_ev 4 #[.int .i64 0, .int .i64 0, .int .i64 0, .int .i64 0, .int .i64 0, .int .i64 0, .int .i64 0, .int .i64 0, .slice none 0 0, .int .i64 0, .int .i64 0, .slice none 0 0, .slice none 0 0] 29 ?_; intro dm hg w98 hbox hb; replace HB := am (below_step q38t hb); have bd := am (hbox); have qE := am ((q31t : w.heap.size ≤ dm)); have GH := am ((Nat.le_trans HW0.out (q31t : w.heap.size ≤ dm) : w0.heap.size ≤ dm)); replace HK := am (KeepBut.trans q51t (KeepBut.of_below hb g none) (.inl rfl)); have pE := am ((by rw [hg]; exact Nat.ne_of_lt (blk_lt (qbk a9)) : dv ≠ dm)); have pF := am ((by rw [hg]; exact Nat.ne_of_gt (blk_lt (qbk a9)) : dm ≠ dv)); replace a9 := blb a9 hb; have wk := am ((q12t : g ≠ dm)); have hZ := am ((q13t : dm ≠ g)); replace HI0 := am (IsS69.below q39t hb); clear hb hbox hg; have GI := pE.out; have GJ := pF.out; have Bm := gl.out; have Bn := qS.out; have GK := qc6 a9.out; have GL := qf6 a9.out) | ((with_reducible refine gate_callee (f := 26) rfl ?_); refine goesL_ (some 13) rfl rfl Tryd.func26 (by kernel_rfl) rfl #[.pointer (some ⟨g, 0, none⟩), ao] rfl q66t ?_; (with_reducible refine (spec_l1Below.calls g ah a5 a7 ao pB hV hX w0 _ ?side1 ?side2 A3.out).mono ?_); (case side1 => repeat (first | (with_reducible first | exact HI0.out | apply IsS69.alloc | apply IsS69.drewN | apply IsS69.drew | apply IsS69.set_1 | apply IsS69.set_2 | refine IsS69.far ?_ (Aside0.out q123t) _) | exact HI0.out)); (case side2 => repeat (first | (with_reducible first | exact HB.out | apply below_alloc | apply pw_below_drewN | apply below_drew1 | refine below_set ?_ (IsS69.ge HI0.out) | refine below_set ?_ (Aside0.out q123t)) | exact HB.out)); rintro e w102 ⟨rfl, hi, hb, hk⟩; refine ⟨_, rfl, ?_⟩; replace a9 := kbb a9 hk gl.out q126t; replace bd := kbb bd hk hZ.out q126t; replace HK := am (KeepBut.trans q43t hk (.inl rfl)); replace HB := am (hb); replace HI0 := am (hi); (try clear hb); (try clear hb2); (try clear hk); (try clear hi)) | ((with_reducible refine gate_callee (f := 20) rfl ?_); refine goesL_ (some 15) rfl rfl Tryd.func20 (by kernel_rfl) rfl #[(wrap64 (1 + pB))] rfl q66t ?_; (with_reducible refine (spec_NodeNew.calls (wrap64 (1 + pB)) Bl fQ wj fR fS fT fU fV qR oI oJ hY eG _ A4.out).mono ?_); rintro e w103 ⟨v184, v189, v192, rfl, ho0, ho1, ho2, hb⟩; refine ⟨_, rfl, ?_⟩; have fW := am (Kd.R_lower ho0 (keep_size (w := w) (g := g) (row := none) q43t)); have fX := am (Kd.R_lower ho1 (keep_size (w := w) (g := g) (row := none) q43t)); have fY := am (Kd.R_lower ho2 (keep_size (w := w) (g := g) (row := none) q43t)); replace a9 := blb a9 hb; replace bd := blb bd hb; replace HK := am (KeepBut.trans q43t (KeepBut.of_below hb g none) (.inl rfl)); replace HB := am (below_step q38t hb); replace HI0 := am (IsS69.below q39t hb); (try clear hb); (try clear hb2); (try clear hk); (try clear hi); (try clear ho0); (try clear ho1); (try clear ho2)) | ((with_reducible refine gate_dst (N := 5) rfl ?_); refine box_ev 5 #[.int .i64 0, .int .i64 0, .int .i64 0, .int .i64 0, .int .i64 0, .int .i64 0, .int .i64 0, .int .i64 0, .slice none 0 0, .int .i64 0, .int .i64 0, .slice none 0 0, .slice none 0 0] 29 ?_; intro ct hg w104 hbox hb; replace fW := am (Kd.R_below (by (with_reducible repeat (first | apply Kd.R_alloc | apply Kd.R_drewN | apply Kd.R_drew)); exact fW.out) hb); replace fX := am (Kd.R_below (by (with_reducible repeat (first | apply Kd.R_alloc | apply Kd.R_drewN | apply Kd.R_drew)); exact fX.out) hb); replace fY := am (Kd.R_below (by (with_reducible repeat (first | apply Kd.R_alloc | apply Kd.R_drewN | apply Kd.R_drew)); exact fY.out) hb); replace HB := am (below_step q38t hb); have aG := am (hbox); have vH := am ((q15t : w.heap.size ≤ ct)); have GM := am ((Nat.le_trans HW0.out (q15t : w.heap.size ≤ ct) : w0.heap.size ≤ ct)); replace HK := am (KeepBut.trans q43t (KeepBut.of_below hb g none) (.inl rfl)); have lP := am ((by rw [hg]; exact Nat.ne_of_lt (blk_lt (qbk a9)) : dv ≠ ct)); have lQ := am ((by rw [hg]; exact Nat.ne_of_gt (blk_lt (qbk a9)) : ct ≠ dv)); replace a9 := blb a9 hb; have lR := am ((by rw [hg]; exact Nat.ne_of_lt (blk_lt (qbk bd)) : dm ≠ ct)); have lS := am ((by rw [hg]; exact Nat.ne_of_gt (blk_lt (qbk bd)) : ct ≠ dm)); replace bd := blb bd hb; have nu := am ((by rw [hg]; exact Nat.ne_of_lt (IsS69.lt (show IsS69 w0 _ g ah hV hX from by repeat (first | (with_reducible first | exact HI0.out | apply IsS69.alloc | apply IsS69.drewN | apply IsS69.drew | apply IsS69.set_1 | apply IsS69.set_2 | refine IsS69.far ?_ (Aside0.out q123t) _) | exact HI0.out))) : g ≠ ct)); have fZ := am ((by rw [hg]; exact Nat.ne_of_gt (IsS69.lt (show IsS69 w0 _ g ah hV hX from by repeat (first | (with_reducible first | exact HI0.out | apply IsS69.alloc | apply IsS69.drewN | apply IsS69.drew | apply IsS69.set_1 | apply IsS69.set_2 | refine IsS69.far ?_ (Aside0.out q123t) _) | exact HI0.out))) : ct ≠ g)); replace HI0 := am (IsS69.below q39t hb); clear hb hbox hg; have GN := lQ.out; have GO := lP.out; have O3 := lS.out; have O4 := lR.out; have O5 := fZ.out; have O6 := nu.out; have O7 := qc13 aG.out; have O8 := qf13 aG.out; obtain ⟨GP, GQ, GR⟩ := Kd.R_slice fW.out; subst GR; obtain ⟨GS, GT, GU⟩ := Kd.R_slice fX.out; subst GU; obtain ⟨GV, GW, GX⟩ := Kd.R_slice fY.out; subst GX) | ((with_reducible refine gate_callee (f := 26) rfl ?_); refine goesL_ (some 17) rfl rfl Tryd.func26 (by kernel_rfl) rfl #[.pointer (some ⟨g, 0, none⟩), .int .i64 4] rfl q66t ?_; (with_reducible refine (spec_l1Below.calls g ah hV hX 4 eR pC pD w0 _ ?side1 ?side2 A5.out).mono ?_); (case side1 => repeat (first | (with_reducible first | exact HI0.out | apply IsS69.alloc | apply IsS69.drewN | apply IsS69.drew | apply IsS69.set_1 | apply IsS69.set_2 | refine IsS69.far ?_ (Aside0.out q123t) _) | exact HI0.out)); (case side2 => repeat (first | (with_reducible first | exact HB.out | apply below_alloc | apply pw_below_drewN | apply below_drew1 | refine below_set ?_ (IsS69.ge HI0.out) | refine below_set ?_ (Aside0.out q123t)) | exact HB.out)); rintro e w112 ⟨rfl, hi, hb, hk⟩; refine ⟨_, rfl, ?_⟩; replace a9 := am (KeepBut.blk hk (g' := dv) (o := .cells #[aj, ai, ak, ap, aq, ao] 25 (0, 0)) (qbf a9) gl.out q126t); replace bd := am (KeepBut.blk hk (g' := dm) (o := .cells #[.int .i64 0, .int .i64 0, .int .i64 0, .int .i64 0, .int .i64 0, .int .i64 0, .int .i64 0, .int .i64 0, .slice none 0 0, .int .i64 0, .int .i64 0, .slice none 0 0, .slice none 0 0] 29 (0, 0)) (qbf bd) hZ.out q126t); replace fW := am (Kd.R_mono (Kd.R_keep (IsS69.apart (show IsS69 w0 _ g ah hV hX from by repeat (first | (with_reducible first | exact HI0.out | apply IsS69.alloc | apply IsS69.drewN | apply IsS69.drew | apply IsS69.set_1 | apply IsS69.set_2 | refine IsS69.far ?_ (Aside0.out q123t) _) | exact HI0.out)) (by (with_reducible repeat (first | apply Kd.R_alloc | apply Kd.R_drewN | apply Kd.R_drew)); exact (Kd.R_mono (rk13 (Kd.R_types fW.out aG.out q125t)) (fun _ h_ => h_.1))) q125t) hk (fun _ h => h.2)) (fun _ h => h.1)); replace fX := am (Kd.R_mono (Kd.R_keep (IsS69.apart (show IsS69 w0 _ g ah hV hX from by repeat (first | (with_reducible first | exact HI0.out | apply IsS69.alloc | apply IsS69.drewN | apply IsS69.drew | apply IsS69.set_1 | apply IsS69.set_2 | refine IsS69.far ?_ (Aside0.out q123t) _) | exact HI0.out)) (by (with_reducible repeat (first | apply Kd.R_alloc | apply Kd.R_drewN | apply Kd.R_drew)); exact (Kd.R_mono (rk13 (Kd.R_types fX.out aG.out q125t)) (fun _ h_ => h_.1))) q125t) hk (fun _ h => h.2)) (fun _ h => h.1)); replace fY := am (Kd.R_mono (Kd.R_keep (IsS69.apart (show IsS69 w0 _ g ah hV hX from by repeat (first | (with_reducible first | exact HI0.out | apply IsS69.alloc | apply IsS69.drewN | apply IsS69.drew | apply IsS69.set_1 | apply IsS69.set_2 | refine IsS69.far ?_ (Aside0.out q123t) _) | exact HI0.out)) (by (with_reducible repeat (first | apply Kd.R_alloc | apply Kd.R_drewN | apply Kd.R_drew)); exact (Kd.R_mono (rk13 (Kd.R_types fY.out aG.out q125t)) (fun _ h_ => h_.1))) q125t) hk (fun _ h => h.2)) (fun _ h => h.1)); replace aG := kbp aG hk fZ.out q126t; replace HK := am (KeepBut.trans q29t hk (.inl rfl)); replace HB := am (hb); replace HI0 := am (hi); (try clear hb); (try clear hb2); (try clear hk); (try clear hi); have O9 := qc13 aG.out; have Pa := qf13 aG.out; have Pb := hZ.out; have Pc := wk.out; have Pd := qc13 bd.out; have Pe := qf13 bd.out))
  refine bodyPost_ret (results_cell_row rfl _ _ dm 29 #[eR, fQ, wj, fR, fS, fT, fU, fV, .slice GP qR.length GQ, oI, oJ, .slice GS hY.length GT, .slice GV eG.length GW] (0, 0) _ rfl (qbm bd) Tryd.underlying29 rfl (by kernel_rfl)) rfl ?_
  exact ⟨_, _, _, q114t, (by (with_reducible repeat (first | apply Kd.R_alloc | apply Kd.R_drewN | apply Kd.R_drew)); exact Kd.R_mono (rk13 (Kd.R_far (Kd.R_types (Kd.R_types fW.out aG.out q125t) bd.out q125t) (fun _ hk => hk.1.2) _)) (fun _ hk => hk.1.1)), (by (with_reducible repeat (first | apply Kd.R_alloc | apply Kd.R_drewN | apply Kd.R_drew)); exact Kd.R_mono (rk13 (Kd.R_far (Kd.R_types (Kd.R_types fX.out aG.out q125t) bd.out q125t) (fun _ hk => hk.1.2) _)) (fun _ hk => trivial)), (by (with_reducible repeat (first | apply Kd.R_alloc | apply Kd.R_drewN | apply Kd.R_drew)); exact Kd.R_mono (rk13 (Kd.R_far (Kd.R_types (Kd.R_types fY.out aG.out q125t) bd.out q125t) (fun _ hk => hk.1.2) _)) (fun _ hk => hk.1.1)), q39t, q38t, q29t⟩
 rw [if_pos c6] at H
 have d9 : (eR == 1) = true := beq_iff_eq.mpr c6
 have gg : (eR != 1) = false := bne_eq_false_iff_eq.mpr c6
 clear c6
 obtain ⟨⟨gM, qT, qU⟩, A7, H⟩ := bnd H
 try dsimp only at H
 obtain ⟨⟨Bo, lT, lU⟩, A8, H⟩ := bnd H
 try dsimp only at H
 have H' := Aside0.mk H
 clear H
 go_enter Tryd.func51, Tryd.ntmps51
 go_wp2_with (first | ((with_reducible refine gate_dst (N := 3) rfl ?_); refine box_ev 3 #[aj, ai, ak, ap, aq, ao] 25 ?_; intro dv hg w9 hbox hb; replace HB := am (below_step q60t hb); have a9 := am (hbox); have ov := am ((q46t : w.heap.size ≤ dv)); have GG := am ((Nat.le_trans HW0.out (q46t : w.heap.size ≤ dv) : w0.heap.size ≤ dv)); replace HK := am (KeepBut.trans q64t (KeepBut.of_below hb g none) (.inl rfl)); have qS := am ((q18t : g ≠ dv)); have gl := am ((q19t : dv ≠ g)); replace HI0 := am (IsS69.below q61t hb); clear hb hbox hg) | ((with_reducible refine gate_dst (N := 4) rfl ?_); refine box_ev 4 #[.int .i64 0, .int .i64 0, .int .i64 0, .int .i64 0, .int .i64 0, .int .i64 0, .int .i64 0, .int .i64 0, .slice none 0 0, .int .i64 0, .int .i64 0, .slice none 0 0, .slice none 0 0] 29 ?_; intro dm hg w10 hbox hb; replace HB := am (below_step q38t hb); have bd := am (hbox); have qE := am ((q31t : w.heap.size ≤ dm)); have GH := am ((Nat.le_trans HW0.out (q31t : w.heap.size ≤ dm) : w0.heap.size ≤ dm)); replace HK := am (KeepBut.trans q51t (KeepBut.of_below hb g none) (.inl rfl)); have pE := am ((by rw [hg]; exact Nat.ne_of_lt (blk_lt (qbk a9)) : dv ≠ dm)); have pF := am ((by rw [hg]; exact Nat.ne_of_gt (blk_lt (qbk a9)) : dm ≠ dv)); replace a9 := blb a9 hb; have wk := am ((q12t : g ≠ dm)); have hZ := am ((q13t : dm ≠ g)); replace HI0 := am (IsS69.below q39t hb); clear hb hbox hg; have qV := pE.out; have qW := pF.out; have wl := gl.out; have wm := qS.out; have kE := qc6 a9.out; have kF := qf6 a9.out) | ((with_reducible refine gate_callee (f := 26) rfl ?_); refine goesL_ (some 13) rfl rfl Tryd.func26 (by kernel_rfl) rfl #[.pointer (some ⟨g, 0, none⟩), ao] rfl q66t ?_; (with_reducible refine (spec_l1Below.calls g ah a5 a7 ao pB hV hX w0 _ ?side1 ?side2 A3.out).mono ?_); (case side1 => repeat (first | (with_reducible first | exact HI0.out | apply IsS69.alloc | apply IsS69.drewN | apply IsS69.drew | apply IsS69.set_1 | apply IsS69.set_2 | refine IsS69.far ?_ (Aside0.out q123t) _) | exact HI0.out)); (case side2 => repeat (first | (with_reducible first | exact HB.out | apply below_alloc | apply pw_below_drewN | apply below_drew1 | refine below_set ?_ (IsS69.ge HI0.out) | refine below_set ?_ (Aside0.out q123t)) | exact HB.out)); rintro e w14 ⟨rfl, hi, hb, hk⟩; refine ⟨_, rfl, ?_⟩; replace a9 := kbb a9 hk gl.out q126t; replace bd := kbb bd hk hZ.out q126t; replace HK := am (KeepBut.trans q43t hk (.inl rfl)); replace HB := am (hb); replace HI0 := am (hi); (try clear hb); (try clear hb2); (try clear hk); (try clear hi)) | ((with_reducible refine gate_callee (f := 20) rfl ?_); refine goesL_ (some 15) rfl rfl Tryd.func20 (by kernel_rfl) rfl #[(wrap64 (1 + pB))] rfl q66t ?_; (with_reducible refine (spec_NodeNew.calls (wrap64 (1 + pB)) Bl fQ wj fR fS fT fU fV qR oI oJ hY eG _ A4.out).mono ?_); rintro e w15 ⟨v184, v189, v192, rfl, ho0, ho1, ho2, hb⟩; refine ⟨_, rfl, ?_⟩; have fW := am (Kd.R_lower ho0 (keep_size (w := w) (g := g) (row := none) q43t)); have fX := am (Kd.R_lower ho1 (keep_size (w := w) (g := g) (row := none) q43t)); have fY := am (Kd.R_lower ho2 (keep_size (w := w) (g := g) (row := none) q43t)); replace a9 := blb a9 hb; replace bd := blb bd hb; replace HK := am (KeepBut.trans q43t (KeepBut.of_below hb g none) (.inl rfl)); replace HB := am (below_step q38t hb); replace HI0 := am (IsS69.below q39t hb); (try clear hb); (try clear hb2); (try clear hk); (try clear hi); (try clear ho0); (try clear ho1); (try clear ho2)) | ((with_reducible refine gate_dst (N := 5) rfl ?_); refine box_ev 5 #[.int .i64 0, .int .i64 0, .int .i64 0, .int .i64 0, .int .i64 0, .int .i64 0, .int .i64 0, .int .i64 0, .slice none 0 0, .int .i64 0, .int .i64 0, .slice none 0 0, .slice none 0 0] 29 ?_; intro ct hg w16 hbox hb; replace fW := am (Kd.R_below (by (with_reducible repeat (first | apply Kd.R_alloc | apply Kd.R_drewN | apply Kd.R_drew)); exact fW.out) hb); replace fX := am (Kd.R_below (by (with_reducible repeat (first | apply Kd.R_alloc | apply Kd.R_drewN | apply Kd.R_drew)); exact fX.out) hb); replace fY := am (Kd.R_below (by (with_reducible repeat (first | apply Kd.R_alloc | apply Kd.R_drewN | apply Kd.R_drew)); exact fY.out) hb); replace HB := am (below_step q38t hb); have aG := am (hbox); have vH := am ((q15t : w.heap.size ≤ ct)); have GM := am ((Nat.le_trans HW0.out (q15t : w.heap.size ≤ ct) : w0.heap.size ≤ ct)); replace HK := am (KeepBut.trans q43t (KeepBut.of_below hb g none) (.inl rfl)); have lP := am ((by rw [hg]; exact Nat.ne_of_lt (blk_lt (qbk a9)) : dv ≠ ct)); have lQ := am ((by rw [hg]; exact Nat.ne_of_gt (blk_lt (qbk a9)) : ct ≠ dv)); replace a9 := blb a9 hb; have lR := am ((by rw [hg]; exact Nat.ne_of_lt (blk_lt (qbk bd)) : dm ≠ ct)); have lS := am ((by rw [hg]; exact Nat.ne_of_gt (blk_lt (qbk bd)) : ct ≠ dm)); replace bd := blb bd hb; have nu := am ((by rw [hg]; exact Nat.ne_of_lt (IsS69.lt (show IsS69 w0 _ g ah hV hX from by repeat (first | (with_reducible first | exact HI0.out | apply IsS69.alloc | apply IsS69.drewN | apply IsS69.drew | apply IsS69.set_1 | apply IsS69.set_2 | refine IsS69.far ?_ (Aside0.out q123t) _) | exact HI0.out))) : g ≠ ct)); have fZ := am ((by rw [hg]; exact Nat.ne_of_gt (IsS69.lt (show IsS69 w0 _ g ah hV hX from by repeat (first | (with_reducible first | exact HI0.out | apply IsS69.alloc | apply IsS69.drewN | apply IsS69.drew | apply IsS69.set_1 | apply IsS69.set_2 | refine IsS69.far ?_ (Aside0.out q123t) _) | exact HI0.out))) : ct ≠ g)); replace HI0 := am (IsS69.below q39t hb); clear hb hbox hg; have Bp := lQ.out; have Bq := lP.out; have Br := lS.out; have Bs := lR.out; have wn := fZ.out; have wo := nu.out; have kG := qc13 aG.out; have kH := qf13 aG.out; obtain ⟨GY, GZ, G0⟩ := Kd.R_slice fW.out; subst G0; obtain ⟨qX, qY, G1⟩ := Kd.R_slice fX.out; subst G1; obtain ⟨ia, ib, wq⟩ := Kd.R_slice fY.out; subst wq) | ((with_reducible refine gate_callee (f := 26) rfl ?_); refine goesL_ (some 17) rfl rfl Tryd.func26 (by kernel_rfl) rfl #[.pointer (some ⟨g, 0, none⟩), .int .i64 4] rfl q66t ?_; (with_reducible refine (spec_l1Below.calls g ah hV hX 4 eR pC pD w0 _ ?side1 ?side2 A5.out).mono ?_); (case side1 => repeat (first | (with_reducible first | exact HI0.out | apply IsS69.alloc | apply IsS69.drewN | apply IsS69.drew | apply IsS69.set_1 | apply IsS69.set_2 | refine IsS69.far ?_ (Aside0.out q123t) _) | exact HI0.out)); (case side2 => repeat (first | (with_reducible first | exact HB.out | apply below_alloc | apply pw_below_drewN | apply below_drew1 | refine below_set ?_ (IsS69.ge HI0.out) | refine below_set ?_ (Aside0.out q123t)) | exact HB.out)); rintro e w24 ⟨rfl, hi, hb, hk⟩; refine ⟨_, rfl, ?_⟩; replace a9 := am (KeepBut.blk hk (g' := dv) (o := .cells #[aj, ai, ak, ap, aq, ao] 25 (0, 0)) (qbf a9) gl.out q126t); replace bd := am (KeepBut.blk hk (g' := dm) (o := .cells #[.int .i64 0, .int .i64 0, .int .i64 0, .int .i64 0, .int .i64 0, .int .i64 0, .int .i64 0, .int .i64 0, .slice none 0 0, .int .i64 0, .int .i64 0, .slice none 0 0, .slice none 0 0] 29 (0, 0)) (qbf bd) hZ.out q126t); replace fW := am (Kd.R_mono (Kd.R_keep (IsS69.apart (show IsS69 w0 _ g ah hV hX from by repeat (first | (with_reducible first | exact HI0.out | apply IsS69.alloc | apply IsS69.drewN | apply IsS69.drew | apply IsS69.set_1 | apply IsS69.set_2 | refine IsS69.far ?_ (Aside0.out q123t) _) | exact HI0.out)) (by (with_reducible repeat (first | apply Kd.R_alloc | apply Kd.R_drewN | apply Kd.R_drew)); exact (Kd.R_mono (rk13 (Kd.R_types fW.out aG.out q125t)) (fun _ h_ => h_.1))) q125t) hk (fun _ h => h.2)) (fun _ h => h.1)); replace fX := am (Kd.R_mono (Kd.R_keep (IsS69.apart (show IsS69 w0 _ g ah hV hX from by repeat (first | (with_reducible first | exact HI0.out | apply IsS69.alloc | apply IsS69.drewN | apply IsS69.drew | apply IsS69.set_1 | apply IsS69.set_2 | refine IsS69.far ?_ (Aside0.out q123t) _) | exact HI0.out)) (by (with_reducible repeat (first | apply Kd.R_alloc | apply Kd.R_drewN | apply Kd.R_drew)); exact (Kd.R_mono (rk13 (Kd.R_types fX.out aG.out q125t)) (fun _ h_ => h_.1))) q125t) hk (fun _ h => h.2)) (fun _ h => h.1)); replace fY := am (Kd.R_mono (Kd.R_keep (IsS69.apart (show IsS69 w0 _ g ah hV hX from by repeat (first | (with_reducible first | exact HI0.out | apply IsS69.alloc | apply IsS69.drewN | apply IsS69.drew | apply IsS69.set_1 | apply IsS69.set_2 | refine IsS69.far ?_ (Aside0.out q123t) _) | exact HI0.out)) (by (with_reducible repeat (first | apply Kd.R_alloc | apply Kd.R_drewN | apply Kd.R_drew)); exact (Kd.R_mono (rk13 (Kd.R_types fY.out aG.out q125t)) (fun _ h_ => h_.1))) q125t) hk (fun _ h => h.2)) (fun _ h => h.1)); replace aG := kbp aG hk fZ.out q126t; replace HK := am (KeepBut.trans q29t hk (.inl rfl)); replace HB := am (hb); replace HI0 := am (hi); (try clear hb); (try clear hb2); (try clear hk); (try clear hi); have lV := qc13 aG.out; have lW := qf13 aG.out) | ((with_reducible refine gate_callee (f := 26) rfl ?_); refine goesL_ (some 24) rfl rfl Tryd.func26 (by kernel_rfl) rfl #[.pointer (some ⟨g, 0, none⟩), .int .i64 3] rfl q66t ?_; (with_reducible refine (spec_l1Below.calls g ah pC pD 3 gM qT qU w0 _ ?side1 ?side2 A7.out).mono ?_); (case side1 => repeat (first | (with_reducible first | exact HI0.out | apply IsS69.alloc | apply IsS69.drewN | apply IsS69.drew | apply IsS69.set_1 | apply IsS69.set_2 | refine IsS69.far ?_ (Aside0.out q123t) _) | exact HI0.out)); (case side2 => repeat (first | (with_reducible first | exact HB.out | apply below_alloc | apply pw_below_drewN | apply below_drew1 | refine below_set ?_ (IsS69.ge HI0.out) | refine below_set ?_ (Aside0.out q123t)) | exact HB.out)); rintro e w26 ⟨rfl, hi, hb, hk⟩; refine ⟨_, rfl, ?_⟩; replace a9 := am (KeepBut.blk hk (g' := dv) (o := .cells #[aj, ai, ak, ap, aq, ao] 25 (0, 0)) (qbf a9) gl.out q126t); replace bd := am (KeepBut.blk hk (g' := dm) (o := .cells #[.int .i64 0, .int .i64 0, .int .i64 0, .int .i64 0, .int .i64 0, .int .i64 0, .int .i64 0, .int .i64 0, .slice none 0 0, .int .i64 0, .int .i64 0, .slice none 0 0, .slice none 0 0] 29 (0, 0)) (qbf bd) hZ.out q126t); replace fW := am (Kd.R_mono (Kd.R_keep (IsS69.apart (show IsS69 w0 _ g ah pC pD from by repeat (first | (with_reducible first | exact HI0.out | apply IsS69.alloc | apply IsS69.drewN | apply IsS69.drew | apply IsS69.set_1 | apply IsS69.set_2 | refine IsS69.far ?_ (Aside0.out q123t) _) | exact HI0.out)) (by (with_reducible repeat (first | apply Kd.R_alloc | apply Kd.R_drewN | apply Kd.R_drew)); exact (Kd.R_mono (rkf (Kd.R_types fW.out aG.out q125t)) (fun _ h_ => h_.1))) q125t) hk (fun _ h => h.2)) (fun _ h => h.1)); replace fX := am (Kd.R_mono (Kd.R_keep (IsS69.apart (show IsS69 w0 _ g ah pC pD from by repeat (first | (with_reducible first | exact HI0.out | apply IsS69.alloc | apply IsS69.drewN | apply IsS69.drew | apply IsS69.set_1 | apply IsS69.set_2 | refine IsS69.far ?_ (Aside0.out q123t) _) | exact HI0.out)) (by (with_reducible repeat (first | apply Kd.R_alloc | apply Kd.R_drewN | apply Kd.R_drew)); exact (Kd.R_mono (rkf (Kd.R_types fX.out aG.out q125t)) (fun _ h_ => h_.1))) q125t) hk (fun _ h => h.2)) (fun _ h => h.1)); replace fY := am (Kd.R_mono (Kd.R_keep (IsS69.apart (show IsS69 w0 _ g ah pC pD from by repeat (first | (with_reducible first | exact HI0.out | apply IsS69.alloc | apply IsS69.drewN | apply IsS69.drew | apply IsS69.set_1 | apply IsS69.set_2 | refine IsS69.far ?_ (Aside0.out q123t) _) | exact HI0.out)) (by (with_reducible repeat (first | apply Kd.R_alloc | apply Kd.R_drewN | apply Kd.R_drew)); exact (Kd.R_mono (rkf (Kd.R_types fY.out aG.out q125t)) (fun _ h_ => h_.1))) q125t) hk (fun _ h => h.2)) (fun _ h => h.1)); replace aG := kbp aG hk fZ.out q126t; replace HK := am (KeepBut.trans q29t hk (.inl rfl)); replace HB := am (hb); replace HI0 := am (hi); (try clear hb); (try clear hb2); (try clear hk); (try clear hi); have gJ := qc13 aG.out; have gj := qf13 aG.out) | ((with_reducible refine gate_callee (f := 26) rfl ?_); refine goesL_ (some 27) rfl rfl Tryd.func26 (by kernel_rfl) rfl #[.pointer (some ⟨g, 0, none⟩), .int .i64 3] rfl q66t ?_; (with_reducible refine (spec_l1Below.calls g ah qT qU 3 Bo lT lU w0 _ ?side1 ?side2 A8.out).mono ?_); (case side1 => repeat (first | (with_reducible first | exact HI0.out | apply IsS69.alloc | apply IsS69.drewN | apply IsS69.drew | apply IsS69.set_1 | apply IsS69.set_2 | refine IsS69.far ?_ (Aside0.out q123t) _) | exact HI0.out)); (case side2 => repeat (first | (with_reducible first | exact HB.out | apply below_alloc | apply pw_below_drewN | apply below_drew1 | refine below_set ?_ (IsS69.ge HI0.out) | refine below_set ?_ (Aside0.out q123t)) | exact HB.out)); rintro e w28 ⟨rfl, hi, hb, hk⟩; refine ⟨_, rfl, ?_⟩; replace a9 := am (KeepBut.blk hk (g' := dv) (o := .cells #[aj, ai, ak, ap, aq, ao] 25 (0, 0)) (qbf a9) gl.out q126t); replace bd := am (KeepBut.blk hk (g' := dm) (o := .cells #[.int .i64 0, .int .i64 0, .int .i64 0, .int .i64 0, .int .i64 0, .int .i64 0, .int .i64 0, .int .i64 0, .slice none 0 0, .int .i64 0, .int .i64 0, .slice none 0 0, .slice none 0 0] 29 (0, 0)) (qbf bd) hZ.out q126t); replace fW := am (Kd.R_mono (Kd.R_keep (IsS69.apart (show IsS69 w0 _ g ah qT qU from by repeat (first | (with_reducible first | exact HI0.out | apply IsS69.alloc | apply IsS69.drewN | apply IsS69.drew | apply IsS69.set_1 | apply IsS69.set_2 | refine IsS69.far ?_ (Aside0.out q123t) _) | exact HI0.out)) (by (with_reducible repeat (first | apply Kd.R_alloc | apply Kd.R_drewN | apply Kd.R_drew)); exact (Kd.R_mono (rkf (Kd.R_types fW.out aG.out q125t)) (fun _ h_ => h_.1))) q125t) hk (fun _ h => h.2)) (fun _ h => h.1)); replace fX := am (Kd.R_mono (Kd.R_keep (IsS69.apart (show IsS69 w0 _ g ah qT qU from by repeat (first | (with_reducible first | exact HI0.out | apply IsS69.alloc | apply IsS69.drewN | apply IsS69.drew | apply IsS69.set_1 | apply IsS69.set_2 | refine IsS69.far ?_ (Aside0.out q123t) _) | exact HI0.out)) (by (with_reducible repeat (first | apply Kd.R_alloc | apply Kd.R_drewN | apply Kd.R_drew)); exact (Kd.R_mono (rkf (Kd.R_types fX.out aG.out q125t)) (fun _ h_ => h_.1))) q125t) hk (fun _ h => h.2)) (fun _ h => h.1)); replace fY := am (Kd.R_mono (Kd.R_keep (IsS69.apart (show IsS69 w0 _ g ah qT qU from by repeat (first | (with_reducible first | exact HI0.out | apply IsS69.alloc | apply IsS69.drewN | apply IsS69.drew | apply IsS69.set_1 | apply IsS69.set_2 | refine IsS69.far ?_ (Aside0.out q123t) _) | exact HI0.out)) (by (with_reducible repeat (first | apply Kd.R_alloc | apply Kd.R_drewN | apply Kd.R_drew)); exact (Kd.R_mono (rkf (Kd.R_types fY.out aG.out q125t)) (fun _ h_ => h_.1))) q125t) hk (fun _ h => h.2)) (fun _ h => h.1)); replace aG := kbp aG hk fZ.out q126t; replace HK := am (KeepBut.trans q29t hk (.inl rfl)); replace HB := am (hb); replace HI0 := am (hi); (try clear hb); (try clear hb2); (try clear hk); (try clear hi)))
 go_loopg [6] k (fun kq v6 w' => ∃ (j5 : Int) (cG : List Int) (u195008 : Value), v6 = .int .i64 j5 ∧ Aside0 (spec_l7Draw.l0 kq j5 ah lT lU aj ai ak ap aq ao eR fQ gM fR fS fT fU fV cG oI oJ hY eG = some (r1, r2, r3, r4, r5, r6, r7, r8, r9, r10, r11, r12, r13, r14, r15)) ∧ Aside0 (kq ≤ k) ∧ Aside0 (Kd.R (Kd.int .i64) 3 w' w.heap.size (fun k_ => some k_ ≠ ((.slice ia eG.length ib) : Value).ownBlock) u195008 cG) ∧ Aside0 (Kd.R k33 33 w' w.heap.size (fun _ => True) (.slice qX hY.length qY) hY) ∧ Aside0 (Kd.R (Kd.int .i64) 3 w' w.heap.size (fun k_ => some k_ ≠ (u195008 : Value).ownBlock) (.slice ia eG.length ib) eG) ∧ Aside0 (w'.heap[dv]? = some (.cells #[aj, ai, ak, ap, aq, ao] 25 (0, 0))) ∧ Aside0 (w'.heap[dm]? = some (.cells #[.int .i64 0, .int .i64 0, .int .i64 0, .int .i64 0, .int .i64 0, .int .i64 0, .int .i64 0, .int .i64 0, (.slice none 0 0), .int .i64 0, .int .i64 0, (.slice none 0 0), (.slice none 0 0)] 29 (0, 0))) ∧ Aside0 (w'.heap[ct]? = some (.cells #[eR, fQ, gM, fR, fS, fT, fU, fV, u195008, oI, oJ, (.slice qX hY.length qY), (.slice ia eG.length ib)] 29 (0, 0))) ∧ Aside0 (IsS69 w0 w' g ah lT lU) ∧ Aside0 (KeepBut w w' g none) ∧ Aside0 (Below w0.heap.size w0 w'))
 case atStart => exact ⟨(Bo), (qR), (.slice GY qR.length GZ), q121t, H', ⟨Nat.le_refl _⟩, ⟨(by (with_reducible repeat (first | apply Kd.R_alloc | apply Kd.R_drewN | apply Kd.R_drew)); exact fW.out)⟩, ⟨(by (with_reducible repeat (first | apply Kd.R_alloc | apply Kd.R_drewN | apply Kd.R_drew)); exact fX.out)⟩, ⟨(by (with_reducible repeat (first | apply Kd.R_alloc | apply Kd.R_drewN | apply Kd.R_drew)); exact fY.out)⟩, ⟨qbk a9⟩, ⟨qbk bd⟩, ⟨qbk aG⟩, ⟨q39t⟩, ⟨q29t⟩, ⟨q38t⟩⟩
 case round =>
  clear H'
  try clear c1
  try clear c2
  try clear p2
  try clear c5
  try clear c6
  try clear d9
  try clear gg
  try clear p6
  try clear c11
  try clear c12
  try clear c17
  try clear c18
  try clear c19
  try clear c20
  try clear c26
  try clear kE
  try clear kG
  try clear lV
  try clear gJ
  try clear kF
  try clear kH
  try clear lW
  try clear gj
  obtain ⟨j5, cG, u195008, rfl, HA, HK1, dE, dJ, dK, a9, bd, aG, HI0, HK, HB⟩ := hrel
  cases gk with
  | zero => exact absurd HA.out (by simp [spec_l7Draw.l0])
  | succ k1 =>
   have H := HA.out
   clear HA
   simp only [spec_l7Draw.l0] at H
   by_cases c29 : j5 > 0
   ·rw [if_pos c29] at H
    have tT : decide (0 < j5) = true := decide_eq_true c29
    clear c29
    by_cases c30 : cG.length < 17592186044416
    rotate_left
    ·rw [if_neg c30] at H
     exact absurd H q126t
    rw [if_pos c30] at H
    have LMc30 := Aside0.mk c30
    clear c30
    obtain ⟨ws, hy204⟩ : ∃ y_ : List Int, y_ = (cG ++ [wrap64 (j5 - 1)]) := ⟨_, rfl⟩
    replace H : (spec_l7Draw.l0 k1 (wrap64 (j5 - 1)) ah lT lU aj ai ak ap aq ao eR fQ gM fR fS fT fU fV ws oI oJ hY eG) = some (r1, r2, r3, r4, r5, r6, r7, r8, r9, r10, r11, r12, r13, r14, r15) := by first | (rw [hy204]; with_reducible exact H) | (have H2_ := (Option.bind_some _ _).symm.trans H; rw [hy204]; with_reducible exact H2_) | (have H2_ := (Option.bind_some _ _).symm.trans H; with_reducible exact H2_) | with_reducible exact H | (rw [hy204]; exact H) | exact H
    have G2 := Aside0.mk hy204
    clear hy204
    have H' := Aside0.mk H
    clear H
    have wt := lQ.out
    have wu := lP.out
    have qZ := lS.out
    have q0 := lR.out
    have wv := fZ.out
    have ww := nu.out
    have kI := qc13 aG.out
    have kJ := qf13 aG.out
    go_wp2_with (first | ((with_reducible refine gate_builtin (b := .append) (xs := #[.tmp 33, .tmp 36]) rfl ?_); at_builtin; refine Kd.R_append (Kd.int .i64) w.heap.size rfl (.tmp 33) (.tmp 36) 26 3 (.int .i64 0) 8 rfl Tryd.underlying26 info3 rfl q125t (by omega) u195008 cG (wrap64 (j5 - 1)) [.int .i64 (wrap64 (j5 - 1))] (fun k_ => some k_ ≠ (.slice ia eG.length ib : Value).ownBlock) (fun _ => False) rfl rfl ?aP (fun _ hk => hk.elim) ?aF ?aO (Below.refl _ _) ?aS ?aL ?_; (case aP => exact rfl); (case aF => exact (fun k_ hk => Kd.fresh' (Kd.R_lt q69t) k_ hk)); (case aO => exact q70t); (case aS => exact (keep_size (w := w) (g := g) (row := none) q29t)); (case aL => have := LMc30.out; omega); intro v205 w35 ho hb hg hat; rw [← G2.out] at ho; replace dJ := am (Kd.R_over' q71t (Kd.R_typed q70t) q125t hg); replace dK := am (Kd.R_after (ok := (fun _ => True)) (by (with_reducible repeat (first | apply Kd.R_alloc | apply Kd.R_drewN | apply Kd.R_drew)); exact Kd.R_mono dK.out (fun _ hk => ⟨trivial, hk⟩)) hg hat); replace a9 := gbb a9 hg (Kd.R_ne dE.out a9.out q125t); replace bd := gbb bd hg (Kd.R_ne dE.out bd.out q125t); replace aG := gbb aG hg (Kd.R_ne dE.out aG.out q125t); replace HB := am (below_weaken q38t HL.out hb); replace HI0 := am (IsS69.grown q39t hg (IsS69.own_ne HI0.out dE.out q125t)); replace HK := am (KeepBut.trans q29t (KeepBut.of_grown hg g) (Kd.R_base2 dE.out)); have Bt := am (ho); clear dE; clear ho hb hg hat; obtain ⟨eo, ep, q1⟩ := Kd.R_slice Bt.out; subst q1; have lX := qc13 aG.out; have lY := qf13 aG.out))
    go_roundg k1
    case measure => have := HK1.out; omega
    case rel => exact ⟨(wrap64 (j5 - 1)), (ws), (.slice eo ws.length ep), q121t, H', ⟨q124t⟩, ⟨(by (with_reducible repeat (first | apply Kd.R_alloc | apply Kd.R_drewN | apply Kd.R_drew)); exact Kd.R_mono (rkf (Kd.R_types Bt.out aG.out q125t)) (fun _ hk => hk.1))⟩, ⟨q48t⟩, ⟨(by (with_reducible repeat (first | apply Kd.R_alloc | apply Kd.R_drewN | apply Kd.R_drew)); exact Kd.R_mono (rkf (Kd.R_types dK.out aG.out q125t)) (fun _ hk => hk.1.2))⟩, ⟨(qbf a9)⟩, ⟨(qbf bd)⟩, ⟨qbp aG⟩, ⟨q39t⟩, ⟨q29t⟩, ⟨q38t⟩⟩
   rw [if_neg c29] at H
   have tT : decide (0 < j5) = false := decide_eq_false c29
   clear c29
   have wx := Aside0.mk H
   clear H
   have G3 := lQ.out
   have G4 := lP.out
   have G5 := lS.out
   have G6 := lR.out
   have q3 := fZ.out
   have q4 := nu.out
   have kK := qc13 aG.out
   have kL := qf13 aG.out
   obtain ⟨gN, gO, wy⟩ := Kd.R_slice dE.out
   subst wy
   go_upto_if 42 with (fail)
   go_cut [] (fun wc => ∃ (kq : Nat) (oK : Int) (oL : Int) (jp : Int) (jq : Int), Aside0 (spec_l7Draw.j1 kq ah oK oL aj ai ak ap aq ao eR fQ gM fR fS fT fU fV cG jp jq hY eG = some (r1, r2, r3, r4, r5, r6, r7, r8, r9, r10, r11, r12, r13, r14, r15)) ∧ Aside0 (kq ≤ k1) ∧ Aside0 (Kd.R (Kd.int .i64) 3 wc w.heap.size (fun k_ => some k_ ≠ ((.slice ia eG.length ib) : Value).ownBlock) (.slice gN cG.length gO) cG) ∧ Aside0 (Kd.R k33 33 wc w.heap.size (fun _ => True) (.slice qX hY.length qY) hY) ∧ Aside0 (Kd.R (Kd.int .i64) 3 wc w.heap.size (fun k_ => some k_ ≠ ((.slice gN cG.length gO) : Value).ownBlock) (.slice ia eG.length ib) eG) ∧ Aside0 (wc.heap[dv]? = some (.cells #[aj, ai, ak, ap, aq, ao] 25 (0, 0))) ∧ Aside0 (wc.heap[dm]? = some (.cells #[.int .i64 0, .int .i64 0, .int .i64 0, .int .i64 0, .int .i64 0, .int .i64 0, .int .i64 0, .int .i64 0, (.slice none 0 0), .int .i64 0, .int .i64 0, (.slice none 0 0), (.slice none 0 0)] 29 (0, 0))) ∧ Aside0 (wc.heap[ct]? = some (.cells #[eR, fQ, gM, fR, fS, fT, fU, fV, (.slice gN cG.length gO), jp, jq, (.slice qX hY.length qY), (.slice ia eG.length ib)] 29 (0, 0))) ∧ Aside0 (IsS69 w0 wc g ah oK oL) ∧ Aside0 (KeepBut w wc g none) ∧ Aside0 (Below w0.heap.size w0 wc))
   case first =>
    have H := wx.out
    clear wx
    by_cases c44 : (cG.length : Int) > 0
    rotate_left
    ·rw [if_neg c44] at H
     have jr : decide (0 < (cG.length : Int)) = false := decide_eq_false c44
     have kM : decide (0 < cG.length) = false := decide_eq_false (by omega)
     clear c44
     (first | rw [jr] | (simp only [i64_w, i32_w]; rw [jr]) | rw [kM] | skip)
     have H' := Aside0.mk H
     clear H
     go_wp2
     go_meet
     case rel => exact ⟨_, (lT), (lU), (oI), (oJ), H', ⟨(by have := HK1.out; first | omega | exact Nat.le_refl _)⟩, ⟨q70t⟩, ⟨q71t⟩, ⟨q69t⟩, ⟨qbk a9⟩, ⟨qbk bd⟩, ⟨qbk aG⟩, ⟨q39t⟩, ⟨q29t⟩, ⟨q38t⟩⟩
    rw [if_pos c44] at H
    have jr : decide (0 < (cG.length : Int)) = true := decide_eq_true c44
    have kM : decide (0 < cG.length) = true := decide_eq_true (by omega)
    clear c44
    (first | rw [jr] | (simp only [i64_w, i32_w]; rw [jr]) | rw [kM] | skip)
    by_cases c45 : 0 < (cG.length : Int)
    rotate_left
    ·rw [if_neg c45] at H
     exact absurd H q126t
    rw [if_pos c45] at H
    have wz : decide (0 < (cG.length : Int)) = true := decide_eq_true c45
    have wA : decide (0 < cG.length) = true := decide_eq_true (by omega)
    clear c45
    obtain ⟨⟨Bu, Bv, Bw⟩, nv, H⟩ := bnd H
    try dsimp only at H
    have H' := Aside0.mk H
    clear H
    have wB := lQ.out
    have wC := lP.out
    have Bx := lS.out
    have By := lR.out
    have G7 := fZ.out
    have G8 := nu.out
    have wD := qc13 aG.out
    have wE := qf13 aG.out
    have p207 : 0 ≤ (0 : Int) := (by omega)
    have q207 : 0 < (cG.length : Int) := of_decide_eq_true q118t
    obtain ⟨Pf, e207, q8⟩ := Kd.at_int (Kd.R_reads' dE.out).2.2 0 p207 q207
    cases e207
    have qi207 : (0 < cG.length) = True := eq_true (by omega)
    (try rw [show ((0 : Int)).toNat = 0 from rfl] at q8)
    (try rw [Addr.add_zero'] at q8)
    replace p207 := eq_true p207
    replace q207 := eq_true q207
    have tU := pE.out
    have tV := pF.out
    have Bz := gl.out
    have BA := qS.out
    have q9 := qc6 a9.out
    have ra := qf6 a9.out
    go_wp2_with (first | ((with_reducible refine gate_callee (f := 26) rfl ?_); refine goesL_ (some 53) rfl rfl Tryd.func26 (by kernel_rfl) rfl #[.pointer (some ⟨g, 0, none⟩), (wrap64 (ai + 1))] rfl q66t ?_; (with_reducible refine (spec_l1Below.calls g ah lT lU (wrap64 (ai + 1)) Bu Bv Bw w0 _ ?side1 ?side2 nv.out).mono ?_); (case side1 => repeat (first | (with_reducible first | exact HI0.out | apply IsS69.alloc | apply IsS69.drewN | apply IsS69.drew | apply IsS69.set_1 | apply IsS69.set_2 | refine IsS69.far ?_ (Aside0.out q123t) _) | exact HI0.out)); (case side2 => repeat (first | (with_reducible first | exact HB.out | apply below_alloc | apply pw_below_drewN | apply below_drew1 | refine below_set ?_ (IsS69.ge HI0.out) | refine below_set ?_ (Aside0.out q123t)) | exact HB.out)); rintro e w54 ⟨rfl, hi, hb, hk⟩; refine ⟨_, rfl, ?_⟩; replace dE := am (Kd.R_mono (Kd.R_keep (IsS69.apart (show IsS69 w0 _ g ah lT lU from by repeat (first | (with_reducible first | exact HI0.out | apply IsS69.alloc | apply IsS69.drewN | apply IsS69.drew | apply IsS69.set_1 | apply IsS69.set_2 | refine IsS69.far ?_ (Aside0.out q123t) _) | exact HI0.out)) (by (with_reducible repeat (first | apply Kd.R_alloc | apply Kd.R_drewN | apply Kd.R_drew)); exact (Kd.R_mono (rkf (Kd.R_types dE.out aG.out q125t)) (fun _ h_ => h_.1))) q125t) hk (fun _ h => h.2)) (fun _ h => h.1)); replace dJ := am (Kd.R_mono (Kd.R_keep (IsS69.apart (show IsS69 w0 _ g ah lT lU from by repeat (first | (with_reducible first | exact HI0.out | apply IsS69.alloc | apply IsS69.drewN | apply IsS69.drew | apply IsS69.set_1 | apply IsS69.set_2 | refine IsS69.far ?_ (Aside0.out q123t) _) | exact HI0.out)) (by (with_reducible repeat (first | apply Kd.R_alloc | apply Kd.R_drewN | apply Kd.R_drew)); exact (Kd.R_mono (rkf (Kd.R_types dJ.out aG.out q125t)) (fun _ h_ => h_.1))) q125t) hk (fun _ h => h.2)) (fun _ h => h.1)); replace dK := am (Kd.R_mono (Kd.R_keep (IsS69.apart (show IsS69 w0 _ g ah lT lU from by repeat (first | (with_reducible first | exact HI0.out | apply IsS69.alloc | apply IsS69.drewN | apply IsS69.drew | apply IsS69.set_1 | apply IsS69.set_2 | refine IsS69.far ?_ (Aside0.out q123t) _) | exact HI0.out)) (by (with_reducible repeat (first | apply Kd.R_alloc | apply Kd.R_drewN | apply Kd.R_drew)); exact (Kd.R_mono (rkf (Kd.R_types dK.out aG.out q125t)) (fun _ h_ => h_.1))) q125t) hk (fun _ h => h.2)) (fun _ h => h.1)); replace a9 := am (KeepBut.blk hk (g' := dv) (o := .cells #[aj, ai, ak, ap, aq, ao] 25 (0, 0)) (qbf a9) gl.out q126t); replace bd := am (KeepBut.blk hk (g' := dm) (o := .cells #[.int .i64 0, .int .i64 0, .int .i64 0, .int .i64 0, .int .i64 0, .int .i64 0, .int .i64 0, .int .i64 0, .slice none 0 0, .int .i64 0, .int .i64 0, .slice none 0 0, .slice none 0 0] 29 (0, 0)) (qbf bd) hZ.out q126t); replace aG := kbp aG hk fZ.out q126t; replace HK := am (KeepBut.trans q29t hk (.inl rfl)); replace HB := am (hb); replace HI0 := am (hi); (try clear hb); (try clear hb2); (try clear hk); (try clear hi); have nw := qc13 aG.out; have nx := qf13 aG.out))
    go_meet
    case rel => exact ⟨_, (Bv), (Bw), (wrap64 ((rd cG 0) + 1)), (Bu), H', ⟨(by have := HK1.out; first | omega | exact Nat.le_refl _)⟩, ⟨(by (with_reducible repeat (first | apply Kd.R_alloc | apply Kd.R_drewN | apply Kd.R_drew)); exact Kd.R_mono (rkf (Kd.R_types dE.out aG.out q125t)) (fun _ hk => hk.1))⟩, ⟨q48t⟩, ⟨(by (with_reducible repeat (first | apply Kd.R_alloc | apply Kd.R_drewN | apply Kd.R_drew)); exact Kd.R_mono (rkf (Kd.R_types dK.out aG.out q125t)) (fun _ hk => hk.1))⟩, ⟨(qbf a9)⟩, ⟨(qbf bd)⟩, ⟨qbp aG⟩, ⟨q39t⟩, ⟨q29t⟩, ⟨q38t⟩⟩
   case rest =>
    clear wx
    try clear c1
    try clear c2
    try clear p2
    try clear p2
    try clear q2
    try clear hx2
    try clear qi2
    try clear c3
    try clear c4
    try clear c5
    try clear c6
    try clear d9
    try clear gg
    try clear p6
    try clear p6
    try clear c11
    try clear c12
    try clear c17
    try clear c18
    try clear c19
    try clear c20
    try clear p20
    try clear q20
    try clear hx20
    try clear qi20
    try clear c26
    try clear c29
    try clear tT
    try clear c30
    try clear c31
    try clear c32
    try clear c33
    try clear c39
    try clear c40
    try clear c41
    try clear c44
    try clear jr
    try clear kM
    try clear c45
    try clear wz
    try clear wA
    try clear c47
    try clear c48
    try clear c49
    try clear c51
    try clear c52
    try clear kE
    try clear kG
    try clear lV
    try clear gJ
    try clear kI
    try clear lX
    try clear kK
    try clear wD
    try clear q9
    try clear nw
    try clear kF
    try clear kH
    try clear lW
    try clear gj
    try clear kJ
    try clear lY
    try clear kL
    try clear wE
    try clear ra
    try clear nx
    try clear q8
    try clear p207
    try clear q207
    obtain ⟨kq, oK, oL, jp, jq, HA, tW, dE, dJ, dK, a9, bd, aG, HI0, HK, HB⟩ := hcut
    cases kq with
    | zero => exact absurd HA.out (by simp [spec_l7Draw.j1])
    | succ kj37 =>
     have H := HA.out
     clear HA
     simp only [spec_l7Draw.j1] at H
     obtain ⟨⟨BB, BC, BD⟩, G9, H⟩ := bnd H
     try dsimp only at H
     have H' := Aside0.mk H
     clear H
     go_wp2_with (first | ((with_reducible refine gate_callee (f := 26) rfl ?_); refine goesL_ (some 56) rfl rfl Tryd.func26 (by kernel_rfl) rfl #[.pointer (some ⟨g, 0, none⟩), .int .i64 3] rfl q66t ?_; (with_reducible refine (spec_l1Below.calls g ah oK oL 3 BB BC BD w0 _ ?side1 ?side2 G9.out).mono ?_); (case side1 => repeat (first | (with_reducible first | exact HI0.out | apply IsS69.alloc | apply IsS69.drewN | apply IsS69.drew | apply IsS69.set_1 | apply IsS69.set_2 | refine IsS69.far ?_ (Aside0.out q123t) _) | exact HI0.out)); (case side2 => repeat (first | (with_reducible first | exact HB.out | apply below_alloc | apply pw_below_drewN | apply below_drew1 | refine below_set ?_ (IsS69.ge HI0.out) | refine below_set ?_ (Aside0.out q123t)) | exact HB.out)); rintro e w57 ⟨rfl, hi, hb, hk⟩; refine ⟨_, rfl, ?_⟩; replace dE := am (Kd.R_mono (Kd.R_keep (IsS69.apart (show IsS69 w0 _ g ah oK oL from by repeat (first | (with_reducible first | exact HI0.out | apply IsS69.alloc | apply IsS69.drewN | apply IsS69.drew | apply IsS69.set_1 | apply IsS69.set_2 | refine IsS69.far ?_ (Aside0.out q123t) _) | exact HI0.out)) q70t q125t) hk (fun _ h => h.2)) (fun _ h => h.1)); replace dJ := am (Kd.R_mono (Kd.R_keep (IsS69.apart (show IsS69 w0 _ g ah oK oL from by repeat (first | (with_reducible first | exact HI0.out | apply IsS69.alloc | apply IsS69.drewN | apply IsS69.drew | apply IsS69.set_1 | apply IsS69.set_2 | refine IsS69.far ?_ (Aside0.out q123t) _) | exact HI0.out)) q71t q125t) hk (fun _ h => h.2)) (fun _ h => h.1)); replace dK := am (Kd.R_mono (Kd.R_keep (IsS69.apart (show IsS69 w0 _ g ah oK oL from by repeat (first | (with_reducible first | exact HI0.out | apply IsS69.alloc | apply IsS69.drewN | apply IsS69.drew | apply IsS69.set_1 | apply IsS69.set_2 | refine IsS69.far ?_ (Aside0.out q123t) _) | exact HI0.out)) q69t q125t) hk (fun _ h => h.2)) (fun _ h => h.1)); replace a9 := kbb a9 hk gl.out q126t; replace bd := kbb bd hk hZ.out q126t; replace aG := kbb aG hk fZ.out q126t; replace HK := am (KeepBut.trans q29t hk (.inl rfl)); replace HB := am (hb); replace HI0 := am (hi); (try clear hb); (try clear hb2); (try clear hk); (try clear hi)))
     go_loopg [7] kj37 (fun kq v7 w' => ∃ (ny : Int) (gP : Int) (gQ : Int) (kN : List (S33)) (u195011 : Value), v7 = .int .i64 ny ∧ Aside0 (spec_l7Draw.l1 kq ny ah gP gQ aj ai ak ap aq ao eR fQ gM fR fS fT fU fV cG jp jq kN eG = some (r1, r2, r3, r4, r5, r6, r7, r8, r9, r10, r11, r12, r13, r14, r15)) ∧ Aside0 (kq ≤ kj37) ∧ Aside0 (Kd.R (Kd.int .i64) 3 w' w.heap.size (fun k_ => some k_ ≠ ((.slice ia eG.length ib) : Value).ownBlock) (.slice gN cG.length gO) cG) ∧ Aside0 (Kd.R k33 33 w' w.heap.size (fun _ => True) u195011 kN) ∧ Aside0 (Kd.R (Kd.int .i64) 3 w' w.heap.size (fun k_ => some k_ ≠ ((.slice gN cG.length gO) : Value).ownBlock) (.slice ia eG.length ib) eG) ∧ Aside0 (w'.heap[dv]? = some (.cells #[aj, ai, ak, ap, aq, ao] 25 (0, 0))) ∧ Aside0 (w'.heap[dm]? = some (.cells #[.int .i64 0, .int .i64 0, .int .i64 0, .int .i64 0, .int .i64 0, .int .i64 0, .int .i64 0, .int .i64 0, (.slice none 0 0), .int .i64 0, .int .i64 0, (.slice none 0 0), (.slice none 0 0)] 29 (0, 0))) ∧ Aside0 (w'.heap[ct]? = some (.cells #[eR, fQ, gM, fR, fS, fT, fU, fV, (.slice gN cG.length gO), jp, jq, u195011, (.slice ia eG.length ib)] 29 (0, 0))) ∧ Aside0 (IsS69 w0 w' g ah gP gQ) ∧ Aside0 (KeepBut w w' g none) ∧ Aside0 (Below w0.heap.size w0 w'))
     case atStart => exact ⟨(BB), (BC), (BD), (hY), (.slice qX hY.length qY), q121t, H', ⟨Nat.le_refl _⟩, ⟨q70t⟩, ⟨q71t⟩, ⟨q69t⟩, ⟨qbk a9⟩, ⟨qbk bd⟩, ⟨qbk aG⟩, ⟨q39t⟩, ⟨q29t⟩, ⟨q38t⟩⟩
     case round =>
      clear H'
      try clear c1
      try clear c2
      try clear p2
      try clear p2
      try clear q2
      try clear q2
      try clear hx2
      try clear qi2
      try clear c3
      try clear c4
      try clear c5
      try clear c6
      try clear d9
      try clear gg
      try clear p6
      try clear p6
      try clear c11
      try clear c12
      try clear c17
      try clear c18
      try clear c19
      try clear c20
      try clear p20
      try clear p20
      try clear q20
      try clear q20
      try clear hx20
      try clear qi20
      try clear c26
      try clear c29
      try clear tT
      try clear c30
      try clear c31
      try clear c32
      try clear c33
      try clear c39
      try clear c40
      try clear c41
      try clear c44
      try clear jr
      try clear kM
      try clear c45
      try clear wz
      try clear wA
      try clear c47
      try clear c48
      try clear c49
      try clear c51
      try clear c52
      try clear kE
      try clear kG
      try clear lV
      try clear gJ
      try clear kI
      try clear lX
      try clear kK
      try clear wD
      try clear q9
      try clear nw
      try clear kF
      try clear kH
      try clear lW
      try clear gj
      try clear kJ
      try clear lY
      try clear kL
      try clear wE
      try clear ra
      try clear nx
      try clear q8
      try clear p207
      try clear q207
      obtain ⟨ny, gP, gQ, kN, u195011, rfl, HA, HK3, dE, dJ, dK, a9, bd, aG, HI0, HK, HB⟩ := hrel
      cases gk with
      | zero => exact absurd HA.out (by simp [spec_l7Draw.l1])
      | succ k3 =>
       have H := HA.out
       clear HA
       simp only [spec_l7Draw.l1] at H
       by_cases c58 : ny > 0
       ·rw [if_pos c58] at H
        have BE : decide (0 < ny) = true := decide_eq_true c58
        clear c58
        obtain ⟨⟨pG, pH, pI, pJ, pK⟩, Ha, H⟩ := bnd H
        try dsimp only at H
        by_cases c60 : kN.length < 5864062014805
        rotate_left
        ·rw [if_neg c60] at H
         exact absurd H q126t
        rw [if_pos c60] at H
        have LMc60 := Aside0.mk c60
        clear c60
        obtain ⟨wF, hy220⟩ : ∃ y_ : List (S33), y_ = (kN ++ [(⟨pG, pH, pI⟩ : S33)]) := ⟨_, rfl⟩
        replace H : (spec_l7Draw.l1 k3 (wrap64 (ny - 1)) ah pJ pK aj ai ak ap aq ao eR fQ gM fR fS fT fU fV cG jp jq wF eG) = some (r1, r2, r3, r4, r5, r6, r7, r8, r9, r10, r11, r12, r13, r14, r15) := by first | (rw [hy220]; with_reducible exact H) | (have H2_ := (Option.bind_some _ _).symm.trans H; rw [hy220]; with_reducible exact H2_) | (have H2_ := (Option.bind_some _ _).symm.trans H; with_reducible exact H2_) | with_reducible exact H | (rw [hy220]; exact H) | exact H
        have Hb := Aside0.mk hy220
        clear hy220
        have H' := Aside0.mk H
        clear H
        have Hc := pE.out
        have Hd := pF.out
        have BF := lP.out
        have BG := lQ.out
        have BH := gl.out
        have BI := qS.out
        have tX := qc6 a9.out
        have rb := qf6 a9.out
        go_wp2_with (first | ((with_reducible refine gate_callee (f := 29) rfl ?_); refine goesL_ (some 63) rfl rfl Tryd.func29 (by kernel_rfl) rfl #[.pointer (some ⟨g, 0, none⟩), .agg #[aj, ai, ak, ap, aq, ao]] rfl q66t ?_; (with_reducible refine (spec_l7Thing.calls k3 g ah gP gQ aj ai ak ap aq ao pG pH pI pJ pK w0 _ ?side1 ?side2 Ha.out).mono ?_); (case side1 => repeat (first | (with_reducible first | exact HI0.out | apply IsS69.alloc | apply IsS69.drewN | apply IsS69.drew | apply IsS69.set_1 | apply IsS69.set_2 | refine IsS69.far ?_ (Aside0.out q123t) _) | exact HI0.out)); (case side2 => repeat (first | (with_reducible first | exact HB.out | apply below_alloc | apply pw_below_drewN | apply below_drew1 | refine below_set ?_ (IsS69.ge HI0.out) | refine below_set ?_ (Aside0.out q123t)) | exact HB.out)); rintro e w65 ⟨rfl, hi, hb, hk⟩; refine ⟨_, rfl, ?_⟩; replace dE := am (Kd.R_mono (Kd.R_keep (IsS69.apart (show IsS69 w0 _ g ah gP gQ from by repeat (first | (with_reducible first | exact HI0.out | apply IsS69.alloc | apply IsS69.drewN | apply IsS69.drew | apply IsS69.set_1 | apply IsS69.set_2 | refine IsS69.far ?_ (Aside0.out q123t) _) | exact HI0.out)) q70t q125t) hk (fun _ h => h.2)) (fun _ h => h.1)); replace dJ := am (Kd.R_mono (Kd.R_keep (IsS69.apart (show IsS69 w0 _ g ah gP gQ from by repeat (first | (with_reducible first | exact HI0.out | apply IsS69.alloc | apply IsS69.drewN | apply IsS69.drew | apply IsS69.set_1 | apply IsS69.set_2 | refine IsS69.far ?_ (Aside0.out q123t) _) | exact HI0.out)) q71t q125t) hk (fun _ h => h.2)) (fun _ h => h.1)); replace dK := am (Kd.R_mono (Kd.R_keep (IsS69.apart (show IsS69 w0 _ g ah gP gQ from by repeat (first | (with_reducible first | exact HI0.out | apply IsS69.alloc | apply IsS69.drewN | apply IsS69.drew | apply IsS69.set_1 | apply IsS69.set_2 | refine IsS69.far ?_ (Aside0.out q123t) _) | exact HI0.out)) q69t q125t) hk (fun _ h => h.2)) (fun _ h => h.1)); replace a9 := kbb a9 hk gl.out q126t; replace bd := kbb bd hk hZ.out q126t; replace aG := kbb aG hk fZ.out q126t; replace HK := am (KeepBut.trans q29t hk (.inl rfl)); replace HB := am (hb); replace HI0 := am (hi); (try clear hb); (try clear hb2); (try clear hk); (try clear hi)) | ((with_reducible refine gate_dst (N := 8) rfl ?_); refine box_ev 8 #[.int .i64 0, .int .i64 0, .int .i64 0] 33 ?_; intro f4 hg w66 hbox hb; replace dE := am (Kd.R_below q70t hb); replace dJ := am (Kd.R_below (Kd.R_elderB q71t f4 (Nat.le_of_eq hg.symm)) hb); replace dK := am (Kd.R_below q69t hb); replace HB := am (below_step q38t hb); have oM := am (hbox); have F0 := am ((by rw [hg]; exact (keep_size (w := w) (g := g) (row := none) q29t) : w.heap.size ≤ f4)); have Pg := am ((Nat.le_trans HW0.out (by rw [hg]; exact (keep_size (w := w) (g := g) (row := none) q29t) : w.heap.size ≤ f4) : w0.heap.size ≤ f4)); replace HK := am (KeepBut.trans q29t (KeepBut.of_below hb g none) (.inl rfl)); have He := am ((by rw [hg]; exact Nat.ne_of_lt (blk_lt (qbk a9)) : dv ≠ f4)); have Hf := am ((by rw [hg]; exact Nat.ne_of_gt (blk_lt (qbk a9)) : f4 ≠ dv)); replace a9 := blb a9 hb; have Hg := am ((by rw [hg]; exact Nat.ne_of_lt (blk_lt (qbk bd)) : dm ≠ f4)); have Hh := am ((by rw [hg]; exact Nat.ne_of_gt (blk_lt (qbk bd)) : f4 ≠ dm)); replace bd := blb bd hb; have Hi := am ((by rw [hg]; exact Nat.ne_of_lt (blk_lt (qbk aG)) : ct ≠ f4)); have Hj := am ((by rw [hg]; exact Nat.ne_of_gt (blk_lt (qbk aG)) : f4 ≠ ct)); replace aG := blb aG hb; have Hk := am ((by rw [hg]; exact Nat.ne_of_lt (IsS69.lt (show IsS69 w0 _ g ah pJ pK from by repeat (first | (with_reducible first | exact HI0.out | apply IsS69.alloc | apply IsS69.drewN | apply IsS69.drew | apply IsS69.set_1 | apply IsS69.set_2 | refine IsS69.far ?_ (Aside0.out q123t) _) | exact HI0.out))) : g ≠ f4)); have Hl := am ((by rw [hg]; exact Nat.ne_of_gt (IsS69.lt (show IsS69 w0 _ g ah pJ pK from by repeat (first | (with_reducible first | exact HI0.out | apply IsS69.alloc | apply IsS69.drewN | apply IsS69.drew | apply IsS69.set_1 | apply IsS69.set_2 | refine IsS69.far ?_ (Aside0.out q123t) _) | exact HI0.out))) : f4 ≠ g)); replace HI0 := am (IsS69.below q39t hb); clear hb hbox hg; have wG := Hf.out; have wH := He.out; have Hm := Hh.out; have Hn := Hg.out; have Ho := Hj.out; have Hp := Hi.out; have BJ := Hl.out; have BL := Hk.out; have rc := qc3 oM.out; have re := qf3 oM.out; have Hq := lS.out; have Hr := lR.out; have BM := fZ.out; have BN := nu.out; have wI := qc13 aG.out; have wJ := qf13 aG.out) | ((with_reducible refine gate_builtin (b := .append) (xs := #[.tmp 65, .tmp 67]) rfl ?_); at_builtin; refine Kd.R_append k33 w.heap.size rfl (.tmp 65) (.tmp 67) 27 33 (.agg #[(.int .i64 0), (.int .i64 0), (.int .i64 0)]) 24 rfl Tryd.underlying27 info33 rfl q125t (by omega) u195011 kN (⟨pG, pH, pI⟩ : S33) [.int .i64 pG, .int .i64 pH, .int .i64 pI] (fun k_ => k_ ≠ f4) (fun _ => False) rfl (by first | (go_simp; done) | (go_simp; rfl)) ?aP (fun _ hk => hk.elim) ?aF ?aO (Below.refl _ _) ?aS ?aL ?_; (case aP => exact k33_mkM _ _ _ (⟨pG, pH, pI⟩ : S33)); (case aF => exact (fun k_ hk => Kd.freshB (g := f4) (o := .cells #[pG, pH, pI] 33 (0, 0)) (qbp oM) k_ hk)); (case aO => exact (by (with_reducible repeat (first | apply Kd.R_alloc | apply Kd.R_drewN | apply Kd.R_drew)); exact Kd.R_mono (rk3 (Kd.R_mono dJ.out (fun k_ hk => (⟨hk, hk.2⟩ : _ ∧ k_ ≠ f4)))) (fun _ hk => hk.1.2))); (case aS => exact (keep_size (w := w) (g := g) (row := none) q14t)); (case aL => have := LMc60.out; omega); intro v221 w75 ho hb hg hat; rw [← Hb.out] at ho; replace dE := am (Kd.R_over' (by (with_reducible repeat (first | apply Kd.R_alloc | apply Kd.R_drewN | apply Kd.R_drew)); exact (Kd.R_mono (rk3 (Kd.R_types dE.out oM.out q125t)) (fun _ h_ => h_.1))) (Kd.R_typed (by (with_reducible repeat (first | apply Kd.R_alloc | apply Kd.R_drewN | apply Kd.R_drew)); exact (Kd.R_mono (rk3 (Kd.R_mono dJ.out (fun k_ hk => (⟨hk, hk.2⟩ : _ ∧ k_ ≠ f4)))) (fun _ h_ => h_.1)))) q125t hg); replace dK := am (Kd.R_over' (by (with_reducible repeat (first | apply Kd.R_alloc | apply Kd.R_drewN | apply Kd.R_drew)); exact (Kd.R_mono (rk3 (Kd.R_types dK.out oM.out q125t)) (fun _ h_ => h_.1))) (Kd.R_typed (by (with_reducible repeat (first | apply Kd.R_alloc | apply Kd.R_drewN | apply Kd.R_drew)); exact (Kd.R_mono (rk3 (Kd.R_mono dJ.out (fun k_ hk => (⟨hk, hk.2⟩ : _ ∧ k_ ≠ f4)))) (fun _ h_ => h_.1)))) q125t hg); replace a9 := am (blk_grown (g := dv) (o := .cells #[aj, ai, ak, ap, aq, ao] 25 (0, 0)) (qbf a9) hg (Kd.R_ne dJ.out a9.out q125t)); replace bd := am (blk_grown (g := dm) (o := .cells #[.int .i64 0, .int .i64 0, .int .i64 0, .int .i64 0, .int .i64 0, .int .i64 0, .int .i64 0, .int .i64 0, .slice none 0 0, .int .i64 0, .int .i64 0, .slice none 0 0, .slice none 0 0] 29 (0, 0)) (qbf bd) hg (Kd.R_ne dJ.out bd.out q125t)); replace aG := am (blk_grown (g := ct) (o := .cells #[eR, fQ, gM, fR, fS, fT, fU, fV, .slice gN cG.length gO, jp, jq, u195011, .slice ia eG.length ib] 29 (0, 0)) (qbf aG) hg (Kd.R_ne dJ.out aG.out q125t)); replace oM := am (blk_grown (qbp oM) hg (Kd.R_away dJ.out (fun _ hk => hk.2))); replace HB := am (below_weaken q38t HL.out hb); replace HI0 : Aside0 (IsS69 w0 _ g ah pJ pK) := am (IsS69.grown q39t hg (IsS69.own_ne HI0.out dJ.out q125t)); replace HK := am (KeepBut.trans q14t (KeepBut.of_grown hg g) (Kd.R_base2 dJ.out)); have BO := am (ho); clear dJ; clear ho hb hg hat; obtain ⟨Hs, Ht, Hu⟩ := Kd.R_slice BO.out; subst Hu; have pL := qc13 aG.out; have pM := qf13 aG.out))
        go_roundg k3
        case measure => have := HK1.out; have := tW.out; have := HK3.out; omega
        case rel => exact ⟨(wrap64 (ny - 1)), (pJ), (pK), (wF), (.slice Hs wF.length Ht), q121t, H', ⟨(by have := HK1.out; have := tW.out; have := HK3.out; omega)⟩, ⟨(by (with_reducible repeat (first | apply Kd.R_alloc | apply Kd.R_drewN | apply Kd.R_drew)); exact Kd.R_mono (rkf (Kd.R_types dE.out aG.out q125t)) (fun _ hk => hk.1))⟩, ⟨(by (with_reducible repeat (first | apply Kd.R_alloc | apply Kd.R_drewN | apply Kd.R_drew)); exact Kd.R_mono (rkf (Kd.R_types BO.out aG.out q125t)) (fun _ hk => trivial))⟩, ⟨(by (with_reducible repeat (first | apply Kd.R_alloc | apply Kd.R_drewN | apply Kd.R_drew)); exact Kd.R_mono (rkf (Kd.R_types dK.out aG.out q125t)) (fun _ hk => hk.1))⟩, ⟨(qbf a9)⟩, ⟨(qbf bd)⟩, ⟨qbp aG⟩, ⟨q39t⟩, ⟨q14t⟩, ⟨q38t⟩⟩
       rw [if_neg c58] at H
       have BE : decide (0 < ny) = false := decide_eq_false c58
       clear c58
       obtain ⟨⟨BP, BQ, BR⟩, Hv, H⟩ := bnd H
       try dsimp only at H
       have H' := Aside0.mk H
       clear H
       go_wp2_with (first | ((with_reducible refine gate_callee (f := 26) rfl ?_); refine goesL_ (some 71) rfl rfl Tryd.func26 (by kernel_rfl) rfl #[.pointer (some ⟨g, 0, none⟩), .int .i64 3] rfl q66t ?_; (with_reducible refine (spec_l1Below.calls g ah gP gQ 3 BP BQ BR w0 _ ?side1 ?side2 Hv.out).mono ?_); (case side1 => repeat (first | (with_reducible first | exact HI0.out | apply IsS69.alloc | apply IsS69.drewN | apply IsS69.drew | apply IsS69.set_1 | apply IsS69.set_2 | refine IsS69.far ?_ (Aside0.out q123t) _) | exact HI0.out)); (case side2 => repeat (first | (with_reducible first | exact HB.out | apply below_alloc | apply pw_below_drewN | apply below_drew1 | refine below_set ?_ (IsS69.ge HI0.out) | refine below_set ?_ (Aside0.out q123t)) | exact HB.out)); rintro e w79 ⟨rfl, hi, hb, hk⟩; refine ⟨_, rfl, ?_⟩; replace dE := am (Kd.R_mono (Kd.R_keep (IsS69.apart (show IsS69 w0 _ g ah gP gQ from by repeat (first | (with_reducible first | exact HI0.out | apply IsS69.alloc | apply IsS69.drewN | apply IsS69.drew | apply IsS69.set_1 | apply IsS69.set_2 | refine IsS69.far ?_ (Aside0.out q123t) _) | exact HI0.out)) q70t q125t) hk (fun _ h => h.2)) (fun _ h => h.1)); replace dJ := am (Kd.R_mono (Kd.R_keep (IsS69.apart (show IsS69 w0 _ g ah gP gQ from by repeat (first | (with_reducible first | exact HI0.out | apply IsS69.alloc | apply IsS69.drewN | apply IsS69.drew | apply IsS69.set_1 | apply IsS69.set_2 | refine IsS69.far ?_ (Aside0.out q123t) _) | exact HI0.out)) q71t q125t) hk (fun _ h => h.2)) (fun _ h => h.1)); replace dK := am (Kd.R_mono (Kd.R_keep (IsS69.apart (show IsS69 w0 _ g ah gP gQ from by repeat (first | (with_reducible first | exact HI0.out | apply IsS69.alloc | apply IsS69.drewN | apply IsS69.drew | apply IsS69.set_1 | apply IsS69.set_2 | refine IsS69.far ?_ (Aside0.out q123t) _) | exact HI0.out)) q69t q125t) hk (fun _ h => h.2)) (fun _ h => h.1)); replace a9 := kbb a9 hk gl.out q126t; replace bd := kbb bd hk hZ.out q126t; replace aG := kbb aG hk fZ.out q126t; replace HK := am (KeepBut.trans q29t hk (.inl rfl)); replace HB := am (hb); replace HI0 := am (hi); (try clear hb); (try clear hb2); (try clear hk); (try clear hi)))
       go_loopg [9] k3 (fun kq v9 w' => ∃ (nz : Int) (j6 : Int) (j7 : Int) (oN : List Int) (u195012 : Value), v9 = .int .i64 nz ∧ Aside0 (spec_l7Draw.l2 kq nz ah j6 j7 eR fQ gM fR fS fT fU fV cG jp jq kN oN = some (r1, r2, r3, r4, r5, r6, r7, r8, r9, r10, r11, r12, r13, r14, r15)) ∧ Aside0 (kq ≤ k3) ∧ Aside0 (Kd.R (Kd.int .i64) 3 w' w.heap.size (fun k_ => some k_ ≠ (u195012 : Value).ownBlock) (.slice gN cG.length gO) cG) ∧ Aside0 (Kd.R k33 33 w' w.heap.size (fun _ => True) u195011 kN) ∧ Aside0 (Kd.R (Kd.int .i64) 3 w' w.heap.size (fun k_ => some k_ ≠ ((.slice gN cG.length gO) : Value).ownBlock) u195012 oN) ∧ Aside0 (w'.heap[dv]? = some (.cells #[aj, ai, ak, ap, aq, ao] 25 (0, 0))) ∧ Aside0 (w'.heap[dm]? = some (.cells #[.int .i64 0, .int .i64 0, .int .i64 0, .int .i64 0, .int .i64 0, .int .i64 0, .int .i64 0, .int .i64 0, (.slice none 0 0), .int .i64 0, .int .i64 0, (.slice none 0 0), (.slice none 0 0)] 29 (0, 0))) ∧ Aside0 (w'.heap[ct]? = some (.cells #[eR, fQ, gM, fR, fS, fT, fU, fV, (.slice gN cG.length gO), jp, jq, u195011, u195012] 29 (0, 0))) ∧ Aside0 (IsS69 w0 w' g ah j6 j7) ∧ Aside0 (KeepBut w w' g none) ∧ Aside0 (Below w0.heap.size w0 w'))
       case atStart => exact ⟨(BP), (BQ), (BR), (eG), (.slice ia eG.length ib), q121t, H', ⟨Nat.le_refl _⟩, ⟨q70t⟩, ⟨q71t⟩, ⟨q69t⟩, ⟨qbk a9⟩, ⟨qbk bd⟩, ⟨qbk aG⟩, ⟨q39t⟩, ⟨q29t⟩, ⟨q38t⟩⟩
       case round =>
        clear H'
        try clear c1
        try clear c2
        try clear p2
        try clear p2
        try clear q2
        try clear q2
        try clear hx2
        try clear qi2
        try clear c3
        try clear c4
        try clear c5
        try clear c6
        try clear d9
        try clear gg
        try clear p6
        try clear p6
        try clear c7
        try clear c11
        try clear c12
        try clear c17
        try clear c18
        try clear c19
        try clear c20
        try clear p20
        try clear p20
        try clear q20
        try clear q20
        try clear hx20
        try clear qi20
        try clear c26
        try clear c29
        try clear tT
        try clear c30
        try clear c31
        try clear c32
        try clear c33
        try clear c39
        try clear c40
        try clear c41
        try clear c44
        try clear jr
        try clear kM
        try clear c45
        try clear wz
        try clear wA
        try clear c47
        try clear c48
        try clear c49
        try clear c51
        try clear c52
        try clear c58
        try clear BE
        try clear c60
        try clear c61
        try clear c62
        try clear c63
        try clear p64
        try clear c67
        try clear c68
        try clear c69
        try clear c70
        try clear c72
        try clear c73
        try clear kE
        try clear kG
        try clear lV
        try clear gJ
        try clear kI
        try clear lX
        try clear kK
        try clear wD
        try clear q9
        try clear nw
        try clear tX
        try clear rc
        try clear wI
        try clear pL
        try clear kF
        try clear kH
        try clear lW
        try clear gj
        try clear kJ
        try clear lY
        try clear kL
        try clear wE
        try clear ra
        try clear nx
        try clear rb
        try clear re
        try clear wJ
        try clear pM
        try clear q8
        try clear p207
        try clear q207
        obtain ⟨nz, j6, j7, oN, u195012, rfl, HA, HK4, dE, dJ, dK, a9, bd, aG, HI0, HK, HB⟩ := hrel
        cases gk with
        | zero => exact absurd HA.out (by simp [spec_l7Draw.l2])
        | succ k4 =>
         have H := HA.out
         clear HA
         simp only [spec_l7Draw.l2] at H
         by_cases c80 : nz > 0
         rotate_left
         ·rw [if_neg c80] at H
          have Hw : decide (0 < nz) = false := decide_eq_false c80
          clear c80
          simp only [Option.some.injEq, Prod.mk.injEq] at H
          obtain ⟨rfl, rfl, rfl, rfl, rfl, rfl, rfl, rfl, rfl, rfl, rfl, rfl, rfl, rfl, rfl⟩ := H
          have Ph := lQ.out
          have Pi := lP.out
          have Pj := lS.out
          have Pk := lR.out
          have Hx := fZ.out
          have Hy := nu.out
          have Hz := qc13 aG.out
          have HC := qf13 aG.out
          have HD := pF.out
          have HE := pE.out
          have Pl := hZ.out
          have Pm := wk.out
          have Pn := qc13 bd.out
          have Po := qf13 bd.out
          obtain ⟨wK, wL, tY⟩ := Kd.R_slice dJ.out
          subst tY
          obtain ⟨wM, wN, tZ⟩ := Kd.R_slice dK.out
          subst tZ
          go_wp2
          refine bodyPost_ret (results_cell_row rfl _ _ dm 29 #[eR, fQ, gM, fR, fS, fT, fU, fV, .slice gN cG.length gO, jp, jq, .slice wK kN.length wL, .slice wM oN.length wN] (0, 0) _ rfl (qbp bd) Tryd.underlying29 rfl (by kernel_rfl)) rfl ?_
          exact ⟨_, _, _, q114t, (by (with_reducible repeat (first | apply Kd.R_alloc | apply Kd.R_drewN | apply Kd.R_drew)); exact Kd.R_mono (rk13 (Kd.R_types dE.out bd.out q125t)) (fun _ hk => hk.1)), (by (with_reducible repeat (first | apply Kd.R_alloc | apply Kd.R_drewN | apply Kd.R_drew)); exact Kd.R_mono (rk13 (Kd.R_types dJ.out bd.out q125t)) (fun _ hk => trivial)), (by (with_reducible repeat (first | apply Kd.R_alloc | apply Kd.R_drewN | apply Kd.R_drew)); exact Kd.R_mono (rk13 (Kd.R_types dK.out bd.out q125t)) (fun _ hk => hk.1)), q39t, q38t, q29t⟩
         rw [if_pos c80] at H
         have Hw : decide (0 < nz) = true := decide_eq_true c80
         clear c80
         obtain ⟨⟨t3, wO, wP⟩, HF, H⟩ := bnd H
         try dsimp only at H
         by_cases c82 : oN.length < 17592186044416
         rotate_left
         ·rw [if_neg c82] at H
          exact absurd H q126t
         rw [if_pos c82] at H
         have LMc82 := Aside0.mk c82
         clear c82
         obtain ⟨wQ, hy229⟩ : ∃ y_ : List Int, y_ = (oN ++ [t3]) := ⟨_, rfl⟩
         replace H : (spec_l7Draw.l2 k4 (wrap64 (nz - 1)) ah wO wP eR fQ gM fR fS fT fU fV cG jp jq kN wQ) = some (r1, r2, r3, r4, r5, r6, r7, r8, r9, r10, r11, r12, r13, r14, r15) := by first | (rw [hy229]; with_reducible exact H) | (have H2_ := (Option.bind_some _ _).symm.trans H; rw [hy229]; with_reducible exact H2_) | (have H2_ := (Option.bind_some _ _).symm.trans H; with_reducible exact H2_) | with_reducible exact H | (rw [hy229]; exact H) | exact H
         have HG := Aside0.mk hy229
         clear hy229
         have H' := Aside0.mk H
         clear H
         try go_wp2
         replace dE := am (Kd.R_drew dE.out)
         replace dJ := am (Kd.R_drew dJ.out)
         replace dK := am (Kd.R_drew dK.out)
         replace a9 := am (blk_drew a9.out)
         replace bd := am (blk_drew bd.out)
         replace aG := am (blk_drew aG.out)
         replace HI0 := am (IsS69.drew HI0.out)
         replace HK := am (keep_drew HK.out)
         replace HB := am (below_drew1 HB.out)
         refine start_ (n := 8) (S := fun w' => w'.cell? ⟨ct, 0, none⟩ = some (.int .i64 eR) ∧ w'.cell? ⟨ct, 1, none⟩ = some (.int .i64 fQ) ∧ w'.cell? ⟨ct, 2, none⟩ = some (.int .i64 gM) ∧ w'.cell? ⟨ct, 3, none⟩ = some (.int .i64 fR) ∧ w'.cell? ⟨ct, 4, none⟩ = some (.int .i64 fS) ∧ w'.cell? ⟨ct, 5, none⟩ = some (.int .i64 fT) ∧ w'.cell? ⟨ct, 6, none⟩ = some (.int .i64 fU) ∧ w'.cell? ⟨ct, 7, none⟩ = some (.int .i64 fV) ∧ w'.cell? ⟨ct, 8, none⟩ = some (.slice gN cG.length gO) ∧ w'.cell? ⟨ct, 9, none⟩ = some (.int .i64 jp) ∧ w'.cell? ⟨ct, 10, none⟩ = some (.int .i64 jq) ∧ w'.cell? ⟨ct, 11, none⟩ = some (u195011) ∧ w'.cell? ⟨ct, 12, none⟩ = some (u195012)) (ds := [7]) (bm 8 0) (by kernel_rfl) rfl (by kernel_rfl) qst (fun hHeld => ?_); refine with_tabW spec_l7Draw.tab21 spec_l7Draw.bits21 (fun HT_ HW_ => ?_)
         generalize wr.drew = w83 at dE dJ dK a9 bd aG HI0 HK HB hHeld ⊢
         refine pv_ 0 76 (bm 8 1) ?_
         refine pv_ 2 78 (bm 8 5) ?_
         refine tv_ 1 77 (bm 8 7) ?_
         refine one_ (i := 3) (N := some 79) (bm 8 15) rfl rfl (one_of HT_.out (by kernel_rfl)) q125t (fun K hK => ?_)
         refine goes_ Tryd.func26 (by kernel_rfl) rfl #[.pointer (some ⟨g, 0, none⟩), .int .i64 256] q127t rfl rfl q66t ?_
         with_reducible refine (spec_l1Below.calls g ah j6 j7 256 t3 wO wP w0 _ ?side1 ?side2 HF.out).mono ?_
         (case side1 => repeat (first | (with_reducible first | exact HI0.out | apply IsS69.alloc | apply IsS69.drewN | apply IsS69.drew | apply IsS69.set_1 | apply IsS69.set_2 | refine IsS69.far ?_ (Aside0.out q123t) _) | exact HI0.out))
         (case side2 => repeat (first | (with_reducible first | exact HB.out | apply below_alloc | apply pw_below_drewN | apply below_drew1 | refine below_set ?_ (IsS69.ge HI0.out) | refine below_set ?_ (Aside0.out q123t)) | exact HB.out))
         rintro e w84 ⟨rfl, hi, hb, hk⟩
         refine ⟨_, rfl, ?_⟩
         replace dE := am (Kd.R_mono (Kd.R_keep (IsS69.apart (show IsS69 w0 _ g ah j6 j7 from by repeat (first | (with_reducible first | exact HI0.out | apply IsS69.alloc | apply IsS69.drewN | apply IsS69.drew | apply IsS69.set_1 | apply IsS69.set_2 | refine IsS69.far ?_ (Aside0.out q123t) _) | exact HI0.out)) q70t q125t) hk (fun _ h => h.2)) (fun _ h => h.1))
         replace dJ := am (Kd.R_mono (Kd.R_keep (IsS69.apart (show IsS69 w0 _ g ah j6 j7 from by repeat (first | (with_reducible first | exact HI0.out | apply IsS69.alloc | apply IsS69.drewN | apply IsS69.drew | apply IsS69.set_1 | apply IsS69.set_2 | refine IsS69.far ?_ (Aside0.out q123t) _) | exact HI0.out)) q71t q125t) hk (fun _ h => h.2)) (fun _ h => h.1))
         replace dK := am (Kd.R_mono (Kd.R_keep (IsS69.apart (show IsS69 w0 _ g ah j6 j7 from by repeat (first | (with_reducible first | exact HI0.out | apply IsS69.alloc | apply IsS69.drewN | apply IsS69.drew | apply IsS69.set_1 | apply IsS69.set_2 | refine IsS69.far ?_ (Aside0.out q123t) _) | exact HI0.out)) q69t q125t) hk (fun _ h => h.2)) (fun _ h => h.1))
         replace a9 := kbb a9 hk gl.out q126t
         replace bd := kbb bd hk hZ.out q126t
         replace aG := kbb aG hk fZ.out q126t
         replace HK := am (KeepBut.trans q29t hk (.inl rfl))
         replace HB := am (hb)
         replace HI0 := am (hi)
         (try clear hb)
         (try clear hb2)
         (try clear hk)
         (try clear hi)
         refine hK.out _ _ (by first | exact ⟨(blk_cell aG.out 0).trans rfl, (blk_cell aG.out 1).trans rfl, (blk_cell aG.out 2).trans rfl, (blk_cell aG.out 3).trans rfl, (blk_cell aG.out 4).trans rfl, (blk_cell aG.out 5).trans rfl, (blk_cell aG.out 6).trans rfl, (blk_cell aG.out 7).trans rfl, (blk_cell aG.out 8).trans rfl, (blk_cell aG.out 9).trans rfl, (blk_cell aG.out 10).trans rfl, (blk_cell aG.out 11).trans rfl, (blk_cell aG.out 12).trans rfl⟩ | exact hHeld) (fun hHeld => ?_)
         clear hK K
         refine norm_ (a' := ?_) ?_ ?_
         rotate_left
         ·show Act.put _ (some 79) _ = _
          simp only [Act.put, List.setIfInBounds_toArray, List.set_cons_zero, List.set_cons_succ, i64_w, i32_w]
          rfl
         refine one_ (i := 4) (N := some 80) (bm 8 31) rfl rfl (one_of HT_.out (by kernel_rfl)) q125t (fun K hK => ?_)
         refine value_ (w1 := ?_) (v := ?_) q127t rfl ?_ ?_
         rotate_left 2
         ·go_simp
          constructor
          ·rfl
          rfl
         refine hK.out _ _ (by first | exact ⟨(blk_cell (blk_alloc aG.out _) 0).trans rfl, (blk_cell (blk_alloc aG.out _) 1).trans rfl, (blk_cell (blk_alloc aG.out _) 2).trans rfl, (blk_cell (blk_alloc aG.out _) 3).trans rfl, (blk_cell (blk_alloc aG.out _) 4).trans rfl, (blk_cell (blk_alloc aG.out _) 5).trans rfl, (blk_cell (blk_alloc aG.out _) 6).trans rfl, (blk_cell (blk_alloc aG.out _) 7).trans rfl, (blk_cell (blk_alloc aG.out _) 8).trans rfl, (blk_cell (blk_alloc aG.out _) 9).trans rfl, (blk_cell (blk_alloc aG.out _) 10).trans rfl, (blk_cell (blk_alloc aG.out _) 11).trans rfl, (blk_cell (blk_alloc aG.out _) 12).trans rfl⟩ | exact hHeld) (fun hHeld => ?_)
         clear hK K
         refine norm_ (a' := ?_) ?_ ?_
         rotate_left
         ·show Act.put _ (some 80) _ = _
          simp only [Act.put, List.setIfInBounds_toArray, List.set_cons_zero, List.set_cons_succ, i64_w, i32_w]
          rfl
         refine one_ (i := 5) (N := some 81) (bm 8 63) rfl rfl (one_of HT_.out (by kernel_rfl)) q125t (fun K hK => ?_)
         refine Kd.R_append_step (Kd.int .i64) w.heap.size q127t (.tmp 77) (.tmp 80) 26 3 (.int .i64 0) 8 rfl Tryd.underlying26 info3 rfl q125t (by omega) u195012 oN t3 [.int .i64 t3] (fun k_ => some k_ ≠ (.slice gN cG.length gO : Value).ownBlock) (fun _ => False) rfl rfl ?aP (fun _ hk => hk.elim) ?aF ?aO (Below.refl _ _) ?aS ?aL ?_
         (case aP => exact rfl)
         (case aF => exact (fun k_ hk => Kd.fresh' (Kd.R_lt q70t) k_ hk))
         (case aO => exact q69t)
         (case aS => exact (keep_size (w := w) (g := g) (row := none) q29t))
         (case aL => have := LMc82.out; omega)
         intro v230 w85 ho hb hg hat
         rw [← HG.out] at ho
         replace dE := am (Kd.R_after (ok := (fun _ => True)) (by (with_reducible repeat (first | apply Kd.R_alloc | apply Kd.R_drewN | apply Kd.R_drew)); exact Kd.R_mono dE.out (fun _ hk => ⟨trivial, hk⟩)) hg hat)
         replace dJ := am (Kd.R_over' q71t (Kd.R_typed q69t) q125t hg)
         replace a9 := gbb a9 hg (Kd.R_ne dK.out a9.out q125t)
         replace bd := gbb bd hg (Kd.R_ne dK.out bd.out q125t)
         replace aG := gbb aG hg (Kd.R_ne dK.out aG.out q125t)
         replace HB := am (below_weaken q38t HL.out hb)
         replace HI0 := am (IsS69.grown q39t hg (IsS69.own_ne HI0.out dK.out q125t))
         replace HK := am (KeepBut.trans q29t (KeepBut.of_grown hg g) (Kd.R_base2 dK.out))
         have BS := am (ho)
         clear dK
         clear ho hb hg hat
         obtain ⟨HI, HJ, BU⟩ := Kd.R_slice BS.out
         (first | subst BU | (injection BU with f1_ f2_ f3_; have f4_ := f1_.symm; have f5_ := f3_.symm; clear f1_ f2_ f3_; subst f4_; subst f5_))
         refine hK.out _ _ (by first | exact ⟨(blk_cell aG.out 0).trans rfl, (blk_cell aG.out 1).trans rfl, (blk_cell aG.out 2).trans rfl, (blk_cell aG.out 3).trans rfl, (blk_cell aG.out 4).trans rfl, (blk_cell aG.out 5).trans rfl, (blk_cell aG.out 6).trans rfl, (blk_cell aG.out 7).trans rfl, (blk_cell aG.out 8).trans rfl, (blk_cell aG.out 9).trans rfl, (blk_cell aG.out 10).trans rfl, (blk_cell aG.out 11).trans rfl, (blk_cell aG.out 12).trans rfl⟩ | exact hHeld) (fun hHeld => ?_)
         clear hK K
         refine norm_ (a' := ?_) ?_ ?_
         rotate_left
         ·show Act.put _ (some 81) _ = _
          simp only [Act.put, List.setIfInBounds_toArray, List.set_cons_zero, List.set_cons_succ, i64_w, i32_w]
          rfl
         refine pv_ 6 82 (bm 8 127) ?_
         refine last_ (i := 7) (N := none) #[true, true, true, true, true, true, true, true] rfl rfl (one_of HT_.out (by kernel_rfl)) q125t (fun K hK => ?_)
         have hs87 : w85.cell? ⟨ct, 12, none⟩ = some (u195012) := (blk_cell aG.out 12).trans rfl
         have hfs87 := blk_frozen aG.out 12
         have HM := lP.out
         have Pp := lR.out
         have HN := lQ.out
         have Pq := lS.out
         refine skip_ (w1 := ?_) q127t rfl ?_ ?_
         rotate_left
         ·go_simp
          rfl
         refine hK.out _ _ ?_
         clear hK K
         refine done_ (done_of HT_.out (by kernel_rfl)) ?_
         try go_wp2
         go_roundg k4
         case measure => have := HK1.out; have := tW.out; have := HK3.out; have := HK4.out; omega
         case rel => exact ⟨(wrap64 (nz - 1)), (wO), (wP), (wQ), (.slice HI wQ.length HJ), q121t, H', ⟨(by have := HK1.out; have := tW.out; have := HK3.out; have := HK4.out; omega)⟩, ⟨(by (with_reducible repeat (first | apply Kd.R_alloc | apply Kd.R_drewN | apply Kd.R_drew)); exact Kd.R_mono (rkf (Kd.R_types dE.out aG.out q125t)) (fun _ hk => hk.1.2))⟩, ⟨q48t⟩, ⟨(by (with_reducible repeat (first | apply Kd.R_alloc | apply Kd.R_drewN | apply Kd.R_drew)); exact Kd.R_mono (rkf (Kd.R_types BS.out aG.out q125t)) (fun _ hk => hk.1))⟩, ⟨(qbf a9)⟩, ⟨(qbf bd)⟩, ⟨qbp aG⟩, ⟨q39t⟩, ⟨q29t⟩, ⟨q38t⟩⟩

end Go.Proofs.YtofpmdgndegalacDoor.QFnNodes
