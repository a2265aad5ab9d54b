/- What the functions that the law FnNodes reaches compute, as plain functions, and that the code computes just that (by a program of this session's; the library's functions by hand). No condition. -/
import Derived.Test.YtofpmdgndegalacDoorQFnNodesx0
import Derived.Test.YtofpmdgndegalacDoorQFnNodesx9
import Derived.Test.YtofpmdgndegalacDoorQFnNodesx10
import Derived.Test.YtofpmdgndegalacDoorQFnNodesx12
namespace Go.Proofs.YtofpmdgndegalacDoor.QFnNodes
open Go.RowKit Go.Proofs.YtofpmdgndegalacDoorW.PrintWords Go.Proofs.YtofpmdgndegalacDoorW.PrintLast Go.Proofs.YtofpmdgndegalacDoorW.PrintMore
attribute [local go_sem] max2_int min2_int max_two min_two max_three min_three max_four min_four   -- for this text's walks alone
set_option linter.unusedVariables false
set_option linter.unusedSimpArgs false

/-! ### impl_NodeOk: function 9 -/
mutual
def impl_NodeOk.j0 : Nat → Bool → Int → Int → Int → Int → Int → Int → Int → Int → Int → Int → Int → Int → Int → Int → List Int → Int → Int → List (S33) → List Int → Option (Bool)
 | 0, _, _, _, _, _, _, _, _, _, _, _, _, _, _, _, _, _, _, _, _ => none
 | k + 1, x23, iq, gw, hE, ir, iu, iv, iw, iR, iy, iz, iA, iB, iC, iD, hF, hG, gx, hH, hJ => if x23 = true then (some false) else (if iw = 1 then ((some (([iz, iB, iC, iD] : List Int) : List Int)).bind fun e7 => (impl_NodeOk.l0 k e7 (e7.length : Int) 0 iq gw hE ir iu iv iw iR iy iz iA iB iC iD hF hG gx hH hJ)) else ((impl_Bare.f k iw iR iy iz iA iB iC iD hF hG gx hH hJ).bind fun yS => (some yS)))
def impl_NodeOk.l0 : Nat → List Int → Int → Int → Int → Int → Int → Int → Int → Int → Int → Int → Int → Int → Int → Int → Int → Int → List Int → Int → Int → List (S33) → List Int → Option (Bool)
 | 0, _, _, _, _, _, _, _, _, _, _, _, _, _, _, _, _, _, _, _, _, _, _ => none
 | k + 1, x37, x38, x39, iq, gw, hE, ir, iu, iv, iw, iR, iy, iz, iA, iB, iC, iD, hF, hG, gx, hH, hJ => if x39 < x38 then (if 0 ≤ x39 then (if x39 < (x37.length : Int) then ((impl_within.f (rd x37 x39) 0 hE).bind fun yT => (if yT = true then (impl_NodeOk.l0 k x37 x38 (wrap64 (x39 + 1)) iq gw hE ir iu iv iw iR iy iz iA iB iC iD hF hG gx hH hJ) else (some false))) else (none)) else (none)) else (if iy < 0 then (impl_NodeOk.j2 k true iq gw hE ir iu iv iw iR iy iz iA iB iC iD hF hG gx hH hJ) else (if iA < 0 then (impl_NodeOk.j2 k true iq gw hE ir iu iv iw iR iy iz iA iB iC iD hF hG gx hH hJ) else ((impl_distinct.f k iq gw hE ir iu iv hF).bind fun yU => (if yU = true then (if hG = 0 then ((impl_within.f gx 0 gw).bind fun yV => (if yV = true then (impl_NodeOk.j2 k (gx != 0) iq gw hE ir iu iv iw iR iy iz iA iB iC iD hF hG gx hH hJ) else (impl_NodeOk.j2 k true iq gw hE ir iu iv iw iR iy iz iA iB iC iD hF hG gx hH hJ))) else ((slices_Contains_int_int.f k hF (wrap64 (hG - 1))).bind fun yW => (if yW = true then ((impl_within.f gx 0 gw).bind fun yX => (if yX = true then (impl_NodeOk.j2 k false iq gw hE ir iu iv iw iR iy iz iA iB iC iD hF hG gx hH hJ) else (impl_NodeOk.j2 k true iq gw hE ir iu iv iw iR iy iz iA iB iC iD hF hG gx hH hJ))) else (impl_NodeOk.j2 k true iq gw hE ir iu iv iw iR iy iz iA iB iC iD hF hG gx hH hJ)))) else (impl_NodeOk.j2 k true iq gw hE ir iu iv iw iR iy iz iA iB iC iD hF hG gx hH hJ)))))
def impl_NodeOk.j2 : Nat → Bool → Int → Int → Int → Int → Int → Int → Int → Int → Int → Int → Int → Int → Int → Int → List Int → Int → Int → List (S33) → List Int → Option (Bool)
 | 0, _, _, _, _, _, _, _, _, _, _, _, _, _, _, _, _, _, _, _, _ => none
 | k + 1, x95, iq, gw, hE, ir, iu, iv, iw, iR, iy, iz, iA, iB, iC, iD, hF, hG, gx, hH, hJ => if x95 = true then (some false) else (if (hH.length : Int) ≤ 12 then (if (hJ.length : Int) ≤ 6 then ((impl_areBytes.f k hJ).bind fun yY => (if yY = true then ((impl_Thing_36.f k hH iq gw hE ir iu iv).bind fun yZ => (some (!yZ))) else (some false))) else (some false)) else (some false))
end
def impl_NodeOk.f (k : Nat) (aa : Int) (ab : Int) (ac : Int) (af : Int) (ag : Int) (ae : Int) (aj : Int) (ai : Int) (ak : Int) (ap : Int) (aq : Int) (ao : Int) (aQ : Int) (aT : Int) (an : List Int) (aH : Int) (aU : Int) (ar : List (S33)) (aC : List Int) : Option (Bool) := (impl_ConfOk.f aa ab ac af ag ae).bind fun s1 => (if s1 = true then ((impl_within.f aj 0 3).bind fun s2 => (if s2 = true then ((impl_within.f ai 1 ae).bind fun qq => (impl_NodeOk.j0 k (!qq) aa ab ac af ag ae aj ai ak ap aq ao aQ aT an aH aU ar aC)) else (impl_NodeOk.j0 k true aa ab ac af ag ae aj ai ak ap aq ao aQ aT an aH aU ar aC))) else (impl_NodeOk.j0 k true aa ab ac af ag ae aj ai ak ap aq ao aQ aT an aH aU ar aC))
set_option maxHeartbeats 8000000 in
set_option maxRecDepth 100000 in
theorem impl_NodeOk.calls (k : Nat) (aa : Int) (ab : Int) (ac : Int) (af : Int) (ag : Int) (ae : Int) (aj : Int) (ai : Int) (ak : Int) (ap : Int) (aq : Int) (ao : Int) (aQ : Int) (aT : Int) (A1_8 : Option Addr) (c1_8 : Nat) (an : List Int) (aH : Int) (aU : Int) (A1_11 : Option Addr) (c1_11 : Nat) (ar : List (S33)) (A1_12 : Option Addr) (c1_12 : Nat) (aC : List Int) (r : Bool) (w : World) (hr1_8 : Kd.C (Kd.int .i64) w A1_8 an.length an) (hc1_8 : an.length ≤ c1_8) (hr1_11 : Kd.C k33 w A1_11 ar.length ar) (hc1_11 : ar.length ≤ c1_11) (hr1_12 : Kd.C (Kd.int .i64) w A1_12 aC.length aC) (hc1_12 : aC.length ≤ c1_12) (h : impl_NodeOk.f k aa ab ac af ag ae aj ai ak ap aq ao aQ aT an aH aU ar aC = some r) :
  Calls Tryd.prog 9 #[.agg #[aa, ab, ac, af, ag, ae], .agg #[aj, ai, ak, ap, aq, ao, aQ, aT, .slice A1_8 an.length c1_8, aH, aU, .slice A1_11 ar.length c1_11, .slice A1_12 aC.length c1_12]] w fun e w' => e = .returned (.bool r) ∧ Below w.heap.size w w' := by
 have hmf : ∀ (fn : Fn) (first cap : Array Value) (w : World), (Instr.makeFunc fn first cap).run Tryd.prog w = .ok (.func fn first cap) w := fun _ _ _ _ => rfl
 have hu25 := Tryd.underlying25
 have hu29 := Tryd.underlying29
 have b6 := Aside0.mk hr1_8
 have ck := Aside0.mk hc1_8
 clear hr1_8 hc1_8
 have gv := Aside0.mk hr1_11
 have jE := Aside0.mk hc1_11
 clear hr1_11 hc1_11
 have ga := Aside0.mk hr1_12
 have hD := Aside0.mk hc1_12
 clear hr1_12 hc1_12
 have HB := am (Below.refl w.heap.size w)
 have H : ((impl_ConfOk.f aa ab ac af ag ae).bind fun s1 => (if s1 = true then ((impl_within.f aj 0 3).bind fun s2 => (if s2 = true then ((impl_within.f ai 1 ae).bind fun qq => (impl_NodeOk.j0 k (!qq) aa ab ac af ag ae aj ai ak ap aq ao aQ aT an aH aU ar aC)) else (impl_NodeOk.j0 k true aa ab ac af ag ae aj ai ak ap aq ao aQ aT an aH aU ar aC))) else (impl_NodeOk.j0 k true aa ab ac af ag ae aj ai ak ap aq ao aQ aT an aH aU ar aC))) = some r := h
 clear h
 have eK := Aside0.mk H
 clear H
 go_enter Tryd.func9, Tryd.ntmps9
 go_upto_region 1 with (first | ((with_reducible refine gate_dst (N := 2) rfl ?_); (try (refine gate_guard q127t ?_; dsimp only)); refine box_ev 2 #[aa, ab, ac, af, ag, ae] 25 ?_; intro nZ hg w4 hbox hb; have bb := am (hbox); have Wf := am ((q63t : w.heap.size ≤ nZ)); have Wg := am ((q63t : w.heap.size ≤ nZ)); replace HB := am (below_step q68t hb); clear hb hbox hg) | ((with_reducible refine gate_dst (N := 3) rfl ?_); (try (refine gate_guard q127t ?_; dsimp only)); refine box_ev 3 #[aj, ai, ak, ap, aq, ao, aQ, aT, .slice A1_8 an.length c1_8, aH, aU, .slice A1_11 ar.length c1_11, .slice A1_12 aC.length c1_12] 29 ?_; intro pn hg w5 hbox hb; have a8 := am (hbox); have Wh := am ((q41t : w.heap.size ≤ pn)); have Wi := am ((q41t : w.heap.size ≤ pn)); replace HB := am (below_step q47t hb); have fm := am ((by rw [hg]; exact Nat.ne_of_lt (blk_lt (qbk bb)) : nZ ≠ pn)); have fo := am ((by rw [hg]; exact Nat.ne_of_gt (blk_lt (qbk bb)) : pn ≠ nZ)); replace bb := blb bb hb; clear hb hbox hg))
 (try simp only [Act.put, List.setIfInBounds_toArray, List.set_cons_zero, List.set_cons_succ])
 go_cut [23] (fun v23 wc => ∃ (kq : Nat) (mG : Bool), v23 = .bool mG ∧ Aside0 (impl_NodeOk.j0 kq mG aa ab ac af ag ae aj ai ak ap aq ao aQ aT an aH aU ar aC = some r) ∧ Aside0 (kq ≤ k) ∧ Aside0 (wc.heap[nZ]? = some (.cells #[aa, ab, ac, af, ag, ae] 25 (0, 0))) ∧ Aside0 (wc.heap[pn]? = some (.cells #[aj, ai, ak, ap, aq, ao, aQ, aT, (.slice A1_8 an.length c1_8), aH, aU, (.slice A1_11 ar.length c1_11), (.slice A1_12 aC.length c1_12)] 29 (0, 0))) ∧ Aside0 (Below w.heap.size w wc))
 case first =>
  have H := eK.out
  clear eK
  obtain ⟨s1, A6, H⟩ := bnd H
  try dsimp only at H
  by_cases c7 : s1 = true
  rotate_left
  ·replace c7 := Bool.eq_false_iff.mpr c7
   subst c7
   rw [if_neg (show ¬ (false = true) by decide)] at H
   have H' := Aside0.mk H
   clear H
   have sd := fm.out
   have se := fo.out
   have k0 := qc6 bb.out
   have ij := qf6 bb.out
   go_wp2_with (first | ((with_reducible refine gate_callee (f := 31) rfl ?_); refine goesL_ (some 8) rfl rfl Tryd.func31 (by kernel_rfl) rfl #[.agg #[aa, ab, ac, af, ag, ae]] rfl q66t ?_; (with_reducible refine (impl_ConfOk.calls aa ab ac af ag ae false _ A6.out).mono ?_); rintro e w22 ⟨rfl, hb⟩; refine ⟨_, rfl, ?_⟩; replace bb := blb bb hb; replace a8 := blb a8 hb; replace HB := am (below_step q47t hb); (try clear hb); (try clear hb2); (try clear hk); (try clear hi)))
   go_meet
   case rel => exact ⟨_, (true), q121t, H', ⟨q122t⟩, ⟨qbk bb⟩, ⟨qbk a8⟩, ⟨q47t⟩⟩
  subst c7
  rw [if_pos rfl] at H
  obtain ⟨s2, A8, H⟩ := bnd H
  try dsimp only at H
  by_cases c9 : s2 = true
  ·subst c9
   rw [if_pos rfl] at H
   obtain ⟨qq, jO, H⟩ := bnd H
   try dsimp only at H
   have H' := Aside0.mk H
   clear H
   have qV := fm.out
   have qW := fo.out
   have pg := qc6 bb.out
   have nM := qf6 bb.out
   go_wp2_with (first | ((with_reducible refine gate_callee (f := 31) rfl ?_); refine goesL_ (some 8) rfl rfl Tryd.func31 (by kernel_rfl) rfl #[.agg #[aa, ab, ac, af, ag, ae]] rfl q66t ?_; (with_reducible refine (impl_ConfOk.calls aa ab ac af ag ae true _ A6.out).mono ?_); rintro e w13 ⟨rfl, hb⟩; refine ⟨_, rfl, ?_⟩; replace bb := blb bb hb; replace a8 := blb a8 hb; replace HB := am (below_step q47t hb); (try clear hb); (try clear hb2); (try clear hk); (try clear hi); have nH := qc13 a8.out; have jz := qf13 a8.out) | (go_at_call 32; (with_reducible refine (impl_within.calls aj 0 3 true _ A8.out).mono ?_); rintro e w' ⟨rfl, ⟨nd, rfl⟩⟩; have mn := qc6 bb.out; have iL := qf6 bb.out) | (go_at_call 32; (with_reducible refine (impl_within.calls ai 1 ae qq _ jO.out).mono ?_); rintro e w' ⟨rfl, ⟨nd, rfl⟩⟩))
   go_meet
   case rel => exact ⟨_, (!qq), q121t, H', ⟨q122t⟩, ⟨qbk bb⟩, ⟨qbk a8⟩, ⟨q47t⟩⟩
  replace c9 := Bool.eq_false_iff.mpr c9
  subst c9
  rw [if_neg (show ¬ (false = true) by decide)] at H
  have H' := Aside0.mk H
  clear H
  have Lb := fm.out
  have Lc := fo.out
  have qo := qc6 bb.out
  have k8 := qf6 bb.out
  go_wp2_with (first | ((with_reducible refine gate_callee (f := 31) rfl ?_); refine goesL_ (some 8) rfl rfl Tryd.func31 (by kernel_rfl) rfl #[.agg #[aa, ab, ac, af, ag, ae]] rfl q66t ?_; (with_reducible refine (impl_ConfOk.calls aa ab ac af ag ae true _ A6.out).mono ?_); rintro e w18 ⟨rfl, hb⟩; refine ⟨_, rfl, ?_⟩; replace bb := blb bb hb; replace a8 := blb a8 hb; replace HB := am (below_step q47t hb); (try clear hb); (try clear hb2); (try clear hk); (try clear hi); have po := qc13 a8.out; have ky := qf13 a8.out) | (go_at_call 32; (with_reducible refine (impl_within.calls aj 0 3 false _ A8.out).mono ?_); rintro e w' ⟨rfl, ⟨nd, rfl⟩⟩))
  go_meet
  case rel => exact ⟨_, (true), q121t, H', ⟨q122t⟩, ⟨qbk bb⟩, ⟨qbk a8⟩, ⟨q47t⟩⟩
 case rest =>
  clear eK
  try clear c1
  try clear c2
  try clear p2
  try clear c3
  try clear c7
  try clear c9
  try clear c11
  try clear c16
  try clear c20
  try clear pg
  try clear nH
  try clear mn
  try clear qo
  try clear po
  try clear k0
  try clear nM
  try clear jz
  try clear iL
  try clear k8
  try clear ky
  try clear ij
  obtain ⟨kq, mG, rfl, HA, gD, bb, a8, HB⟩ := hcut
  cases kq with
  | zero => exact absurd HA.out (by simp [impl_NodeOk.j0])
  | succ kj2 =>
   have H := HA.out
   clear HA
   simp only [impl_NodeOk.j0] at H
   by_cases c23 : mG = true
   ·subst c23
    rw [if_pos rfl] at H
    obtain rfl := Option.some.inj H
    go_wp2
    go_ret
    exact ⟨q114t, q47t⟩
   replace c23 := Bool.eq_false_iff.mpr c23
   subst c23
   rw [if_neg (show ¬ (false = true) by decide)] at H
   by_cases c24 : aj = 1
   rotate_left
   ·rw [if_neg c24] at H
    have iQ : (aj == 1) = false := beq_eq_false_iff_ne.mpr c24
    have kx : (aj != 1) = true := bne_iff_ne.mpr c24
    obtain ⟨yS, qr, H⟩ := bnd H
    try dsimp only at H
    obtain rfl := Option.some.inj H
    have GN := fo.out
    have GO := fm.out
    have Wj := qc13 a8.out
    have Wk := qf13 a8.out
    go_wp2_with (first | ((with_reducible refine gate_callee (f := 13) rfl ?_); refine goesL_ (some 28) rfl rfl Tryd.func13 (by kernel_rfl) rfl #[.agg #[aj, ai, ak, ap, aq, ao, aQ, aT, .slice A1_8 an.length c1_8, aH, aU, .slice A1_11 ar.length c1_11, .slice A1_12 aC.length c1_12]] rfl q66t ?_; (with_reducible refine (impl_Bare.calls kj2 aj ai ak ap aq ao aQ aT _ _ an aH aU _ _ ar _ _ aC yS _ ?side1 ?side2 ?side3 ?side4 ?side5 ?side6 qr.out).mono ?_); (case side1 => exact sC (Kd.C_below b6.out HB.out)); (case side2 => exact ck.out); (case side3 => exact sC (Kd.C_below gv.out HB.out)); (case side4 => exact jE.out); (case side5 => exact sC (Kd.C_below ga.out HB.out)); (case side6 => exact hD.out); rintro e w107 ⟨rfl, hb⟩; refine ⟨_, rfl, ?_⟩; replace bb := blb bb hb; replace a8 := blb a8 hb; replace HB := am (below_step q47t hb); (try clear hb); (try clear hb2); (try clear hk); (try clear hi)))
    go_ret
    exact ⟨q114t, q47t⟩
   rw [if_pos c24] at H
   have iQ : (aj == 1) = true := beq_iff_eq.mpr c24
   have kx : (aj != 1) = false := bne_eq_false_iff_eq.mpr c24
   clear c24
   obtain ⟨e7, hy623⟩ : ∃ y_ : List Int, y_ = (([ap, ao, aQ, aT] : List Int)) := ⟨_, rfl⟩
   replace H : (impl_NodeOk.l0 kj2 e7 (e7.length : Int) 0 aa ab ac af ag ae aj ai ak ap aq ao aQ aT an aH aU ar aC) = some r := by first | (rw [hy623]; with_reducible exact H) | (have H2_ := (Option.bind_some _ _).symm.trans H; rw [hy623]; with_reducible exact H2_) | (have H2_ := (Option.bind_some _ _).symm.trans H; with_reducible exact H2_) | with_reducible exact H | (rw [hy623]; exact H) | exact H
   have EZ := Aside0.mk hy623
   clear hy623
   have H' := Aside0.mk H
   clear H
   have pz := fo.out
   have pA := fm.out
   have sG := qc13 a8.out
   have sH := qf13 a8.out
   go_wp2_with (first | ((with_reducible refine gate_dst (N := 37) rfl ?_); (try (refine gate_guard q127t ?_; dsimp only)); refine Kd.R_lit (Kd.int .i64) _ 3 ?hg (N := 37) ?hd (xs := ([ap, ao, aQ, aT] : List Int)) (inner := [.int .i64 ap, .int .i64 ao, .int .i64 aQ, .int .i64 aT]) (ok := fun _ => True) (okp := fun _ => True) ?hr ?hp (fun _ hk => hk) trivial (Below.refl _ _) (Nat.le_refl _) q126t ?_; (case hd => rfl); (case hg => rfl); (case hr => first | (go_simp; done) | (go_simp; rfl)); (case hp => exact (Reps.one (show Kd.M (Kd.int .i64) _ _ _ ap [.int .i64 ap] from rfl) (Reps.one (show Kd.M (Kd.int .i64) _ _ _ ao [.int .i64 ao] from rfl) (Reps.one (show Kd.M (Kd.int .i64) _ _ _ aQ [.int .i64 aQ] from rfl) (Reps.one (show Kd.M (Kd.int .i64) _ _ _ aT [.int .i64 aT] from rfl) (Reps.none _ _)))))); intro v624 w27 ho28 hb hg_ hnew_; clear hg_ hnew_; (first | rw [← EZ.out] at ho28 | (simp only [Int.reduceToNat] at ho28; rw [← EZ.out] at ho28)); have E0 := am (Kd.R_lower ho28 (below_size q47t)); replace bb := blb bb hb; replace a8 := blb a8 hb; replace HB := am (below_step q47t hb); clear hb ho28; obtain ⟨yg, yh, yi⟩ := Kd.R_slice E0.out; subst yi))
   go_loopg [39] kj2 (fun kq v39 w' => ∃ (eW : Int), v39 = .int .i64 eW ∧ Aside0 (impl_NodeOk.l0 kq e7 (e7.length : Int) eW aa ab ac af ag ae aj ai ak ap aq ao aQ aT an aH aU ar aC = some r) ∧ Aside0 (kq ≤ kj2) ∧ Aside0 (Kd.R (Kd.int .i64) 3 w' w.heap.size (fun _ => True) (.slice yg e7.length yh) e7) ∧ Aside0 (w'.heap[nZ]? = some (.cells #[aa, ab, ac, af, ag, ae] 25 (0, 0))) ∧ Aside0 (w'.heap[pn]? = some (.cells #[aj, ai, ak, ap, aq, ao, aQ, aT, (.slice A1_8 an.length c1_8), aH, aU, (.slice A1_11 ar.length c1_11), (.slice A1_12 aC.length c1_12)] 29 (0, 0))) ∧ Aside0 (Below w.heap.size w w'))
   case atStart => exact ⟨(0), q121t, H', ⟨Nat.le_refl _⟩, ⟨(by (with_reducible repeat (first | apply Kd.R_alloc | apply Kd.R_drewN | apply Kd.R_drew)); exact E0.out)⟩, ⟨qbk bb⟩, ⟨qbk a8⟩, ⟨q47t⟩⟩
   case round =>
    clear H'
    try clear c1
    try clear c2
    try clear p2
    try clear p2
    try clear c3
    try clear c7
    try clear c9
    try clear c11
    try clear c16
    try clear c20
    try clear c23
    try clear c24
    try clear iQ
    try clear kx
    try clear c25
    try clear pg
    try clear nH
    try clear mn
    try clear qo
    try clear po
    try clear k0
    try clear sG
    try clear nM
    try clear jz
    try clear iL
    try clear k8
    try clear ky
    try clear ij
    try clear sH
    obtain ⟨eW, rfl, HA, HK2, lM, bb, a8, HB⟩ := hrel
    cases gk with
    | zero => exact absurd HA.out (by simp [impl_NodeOk.l0])
    | succ k2 =>
     have H := HA.out
     clear HA
     simp only [impl_NodeOk.l0] at H
     by_cases c30 : eW < (e7.length : Int)
     ·rw [if_pos c30] at H
      have rx : decide (eW < (e7.length : Int)) = true := decide_eq_true c30
      clear c30
      by_cases c31 : 0 ≤ eW
      rotate_left
      ·rw [if_neg c31] at H
       exact absurd H q126t
      rw [if_pos c31] at H
      have s3 : decide (0 ≤ eW) = true := decide_eq_true c31
      clear c31
      by_cases c32 : eW < (e7.length : Int)
      rotate_left
      ·rw [if_neg c32] at H
       exact absurd H q126t
      rw [if_pos c32] at H
      have Ld : decide (eW < (e7.length : Int)) = true := decide_eq_true c32
      clear c32
      obtain ⟨yT, s0, H⟩ := bnd H
      try dsimp only at H
      by_cases c34 : yT = true
      ·subst c34
       rw [if_pos rfl] at H
       have H' := Aside0.mk H
       clear H
       have p626 : 0 ≤ (eW : Int) := of_decide_eq_true q118t
       have q626 : eW < (e7.length : Int) := of_decide_eq_true q118t
       obtain ⟨Le, e626, E1⟩ := Kd.at_int (Kd.R_reads' lM.out).2.2 eW p626 q626
       cases e626
       replace p626 := eq_true p626
       replace q626 := eq_true q626
       have xc := fm.out
       have xd := fo.out
       have sD := qc6 bb.out
       have sE := qf6 bb.out
       go_wp2_with (first | ((with_reducible refine gate_callee (f := 32) rfl ?_); refine goesL_ (some 46) rfl rfl Tryd.func32 (by kernel_rfl) rfl #[.int .i64 (rd e7 eW), .int .i64 0, ac] rfl q66t ?_; (with_reducible refine (impl_within.calls (rd e7 eW) 0 ac true _ s0.out).mono ?_); rintro e w' ⟨rfl, ⟨nd, rfl⟩⟩; refine ⟨_, rfl, ?_⟩))
       go_roundg k2
       case measure => have := gD.out; have := HK2.out; omega
       case rel => exact ⟨(wrap64 (eW + 1)), q121t, H', ⟨(by have := gD.out; have := HK2.out; omega)⟩, ⟨q93t⟩, ⟨qbk bb⟩, ⟨qbk a8⟩, ⟨q47t⟩⟩
      replace c34 := Bool.eq_false_iff.mpr c34
      subst c34
      rw [if_neg (show ¬ (false = true) by decide)] at H
      obtain rfl := Option.some.inj H
      have p626 : 0 ≤ (eW : Int) := of_decide_eq_true q118t
      have q626 : eW < (e7.length : Int) := of_decide_eq_true q118t
      obtain ⟨Le, e626, E1⟩ := Kd.at_int (Kd.R_reads' lM.out).2.2 eW p626 q626
      cases e626
      replace p626 := eq_true p626
      replace q626 := eq_true q626
      have xH := fm.out
      have xI := fo.out
      have uv := qc6 bb.out
      have uw := qf6 bb.out
      go_wp2_with (first | ((with_reducible refine gate_callee (f := 32) rfl ?_); refine goesL_ (some 46) rfl rfl Tryd.func32 (by kernel_rfl) rfl #[.int .i64 (rd e7 eW), .int .i64 0, ac] rfl q66t ?_; (with_reducible refine (impl_within.calls (rd e7 eW) 0 ac false _ s0.out).mono ?_); rintro e w' ⟨rfl, ⟨nd, rfl⟩⟩; refine ⟨_, rfl, ?_⟩))
      go_ret
      exact ⟨q114t, q47t⟩
     rw [if_neg c30] at H
     have rx : decide (eW < (e7.length : Int)) = false := decide_eq_false c30
     clear c30
     have y3 := Aside0.mk H
     clear H
     go_upto_region 11 with (fail)
     go_cut [95] (fun v95 wc => ∃ (kq : Nat) (vt : Bool), v95 = .bool vt ∧ Aside0 (impl_NodeOk.j2 kq vt aa ab ac af ag ae aj ai ak ap aq ao aQ aT an aH aU ar aC = some r) ∧ Aside0 (kq ≤ k2) ∧ Aside0 (wc.heap[nZ]? = some (.cells #[aa, ab, ac, af, ag, ae] 25 (0, 0))) ∧ Aside0 (wc.heap[pn]? = some (.cells #[aj, ai, ak, ap, aq, ao, aQ, aT, (.slice A1_8 an.length c1_8), aH, aU, (.slice A1_11 ar.length c1_11), (.slice A1_12 aC.length c1_12)] 29 (0, 0))) ∧ Aside0 (Below w.heap.size w wc))
     case first =>
      have H := y3.out
      clear y3
      by_cases c40 : ak < 0
      ·rw [if_pos c40] at H
       have qt : decide (ak < 0) = true := decide_eq_true c40
       clear c40
       (first | rw [qt] | (simp only [i64_w, i32_w]; rw [qt]) | skip)
       have H' := Aside0.mk H
       clear H
       have q3 := fo.out
       have q4 := fm.out
       have kK := qc13 a8.out
       have kL := qf13 a8.out
       go_wp2
       go_meet
       case rel => exact ⟨_, (true), q121t, H', ⟨q115t⟩, ⟨qbk bb⟩, ⟨qbk a8⟩, ⟨q47t⟩⟩
      rw [if_neg c40] at H
      have qt : decide (ak < 0) = false := decide_eq_false c40
      clear c40
      (first | rw [qt] | (simp only [i64_w, i32_w]; rw [qt]) | skip)
      by_cases c43 : aq < 0
      ·rw [if_pos c43] at H
       have E2 : decide (aq < 0) = true := decide_eq_true c43
       clear c43
       have H' := Aside0.mk H
       clear H
       have uc := fo.out
       have ud := fm.out
       have vu := qc13 a8.out
       have vv := qf13 a8.out
       go_wp2
       go_meet
       case rel => exact ⟨_, (true), q121t, H', ⟨q115t⟩, ⟨qbk bb⟩, ⟨qbk a8⟩, ⟨q47t⟩⟩
      rw [if_neg c43] at H
      have E2 : decide (aq < 0) = false := decide_eq_false c43
      clear c43
      obtain ⟨yU, nv, H⟩ := bnd H
      try dsimp only at H
      by_cases c47 : yU = true
      rotate_left
      ·replace c47 := Bool.eq_false_iff.mpr c47
       subst c47
       rw [if_neg (show ¬ (false = true) by decide)] at H
       have H' := Aside0.mk H
       clear H
       have Lf := fo.out
       have Lg := fm.out
       have y4 := qc13 a8.out
       have y5 := qf13 a8.out
       have Lh := qc6 bb.out
       have Li := qf6 bb.out
       go_wp2_with (first | (go_at_call 33; (with_reducible refine (impl_distinct.calls k2 aa ab ac af ag ae _ _ an false _ ?side1 ?side2 nv.out).mono ?_); (case side1 => exact sC (Kd.C_below b6.out HB.out)); (case side2 => exact ck.out); rintro e w87 ⟨rfl, hb⟩; replace lM := am (Kd.R_below q93t hb); replace bb := blb bb hb; replace a8 := blb a8 hb; replace HB := am (below_step q47t hb); (try clear hb); (try clear hb2); (try clear hk); (try clear hi)))
       go_meet
       case rel => exact ⟨_, (true), q121t, H', ⟨q115t⟩, ⟨qbk bb⟩, ⟨qbk a8⟩, ⟨q47t⟩⟩
      subst c47
      rw [if_pos rfl] at H
      by_cases c48 : aH = 0
      ·rw [if_pos c48] at H
       have oW : (aH == 0) = true := beq_iff_eq.mpr c48
       have oX : (aH != 0) = false := bne_eq_false_iff_eq.mpr c48
       clear c48
       obtain ⟨yV, pS, H⟩ := bnd H
       try dsimp only at H
       by_cases c50 : yV = true
       ·subst c50
        rw [if_pos rfl] at H
        have H' := Aside0.mk H
        clear H
        have tU := fo.out
        have tV := fm.out
        have k6 := qc13 a8.out
        have kt := qf13 a8.out
        have q9 := qc6 bb.out
        have ra := qf6 bb.out
        go_wp2_with (first | (go_at_call 33; (with_reducible refine (impl_distinct.calls k2 aa ab ac af ag ae _ _ an true _ ?side1 ?side2 nv.out).mono ?_); (case side1 => exact sC (Kd.C_below b6.out HB.out)); (case side2 => exact ck.out); rintro e w54 ⟨rfl, hb⟩; replace lM := am (Kd.R_below q93t hb); replace bb := blb bb hb; replace a8 := blb a8 hb; replace HB := am (below_step q47t hb); (try clear hb); (try clear hb2); (try clear hk); (try clear hi); have nw := qc13 a8.out; have nx := qf13 a8.out; have nG := qc6 bb.out; have mb := qf6 bb.out) | (go_at_call 32; (with_reducible refine (impl_within.calls aU 0 ab true _ pS.out).mono ?_); rintro e w' ⟨rfl, ⟨nd, rfl⟩⟩))
        go_meet
        case rel => exact ⟨_, ((aU != 0)), q121t, H', ⟨q115t⟩, ⟨qbk bb⟩, ⟨qbk a8⟩, ⟨q47t⟩⟩
       replace c50 := Bool.eq_false_iff.mpr c50
       subst c50
       rw [if_neg (show ¬ (false = true) by decide)] at H
       have H' := Aside0.mk H
       clear H
       have Kv := fo.out
       have Kw := fm.out
       have vw := qc13 a8.out
       have vx := qf13 a8.out
       have Lj := qc6 bb.out
       have Lk := qf6 bb.out
       go_wp2_with (first | (go_at_call 33; (with_reducible refine (impl_distinct.calls k2 aa ab ac af ag ae _ _ an true _ ?side1 ?side2 nv.out).mono ?_); (case side1 => exact sC (Kd.C_below b6.out HB.out)); (case side2 => exact ck.out); rintro e w60 ⟨rfl, hb⟩; replace lM := am (Kd.R_below q93t hb); replace bb := blb bb hb; replace a8 := blb a8 hb; replace HB := am (below_step q47t hb); (try clear hb); (try clear hb2); (try clear hk); (try clear hi); have sB := qc13 a8.out; have ql := qf13 a8.out; have uV := qc6 bb.out; have uW := qf6 bb.out) | (go_at_call 32; (with_reducible refine (impl_within.calls aU 0 ab false _ pS.out).mono ?_); rintro e w' ⟨rfl, ⟨nd, rfl⟩⟩))
       go_meet
       case rel => exact ⟨_, (true), q121t, H', ⟨q115t⟩, ⟨qbk bb⟩, ⟨qbk a8⟩, ⟨q47t⟩⟩
      rw [if_neg c48] at H
      have oW : (aH == 0) = false := beq_eq_false_iff_ne.mpr c48
      have oX : (aH != 0) = true := bne_iff_ne.mpr c48
      obtain ⟨yW, s4, H⟩ := bnd H
      try dsimp only at H
      by_cases c64 : yW = true
      ·subst c64
       rw [if_pos rfl] at H
       obtain ⟨yX, E3, H⟩ := bnd H
       try dsimp only at H
       by_cases c66 : yX = true
       ·subst c66
        rw [if_pos rfl] at H
        have H' := Aside0.mk H
        clear H
        have wG := fo.out
        have wH := fm.out
        have xO := qc13 a8.out
        have xP := qf13 a8.out
        have s5 := qc6 bb.out
        have qu := qf6 bb.out
        go_wp2_with (first | (go_at_call 33; (with_reducible refine (impl_distinct.calls k2 aa ab ac af ag ae _ _ an true _ ?side1 ?side2 nv.out).mono ?_); (case side1 => exact sC (Kd.C_below b6.out HB.out)); (case side2 => exact ck.out); rintro e w70 ⟨rfl, hb⟩; replace lM := am (Kd.R_below q93t hb); replace bb := blb bb hb; replace a8 := blb a8 hb; replace HB := am (below_step q47t hb); (try clear hb); (try clear hb2); (try clear hk); (try clear hi); have rc := qc13 a8.out; have re := qf13 a8.out) | (go_at_call 34; (with_reducible refine (slices_Contains_int_int.calls k2 _ _ an (wrap64 (aH - 1)) true _ ?side1 ?side2 s4.out).mono ?_); (case side1 => exact sC (Kd.C_below b6.out HB.out)); (case side2 => exact ck.out); rintro e w' ⟨rfl, ⟨nd, rfl⟩⟩; have EH := qc6 bb.out; have EI := qf6 bb.out) | (go_at_call 32; (with_reducible refine (impl_within.calls aU 0 ab true _ E3.out).mono ?_); rintro e w' ⟨rfl, ⟨nd, rfl⟩⟩))
        go_meet
        case rel => exact ⟨_, (false), q121t, H', ⟨q115t⟩, ⟨qbk bb⟩, ⟨qbk a8⟩, ⟨q47t⟩⟩
       replace c66 := Bool.eq_false_iff.mpr c66
       subst c66
       rw [if_neg (show ¬ (false = true) by decide)] at H
       have H' := Aside0.mk H
       clear H
       have BM := fo.out
       have BN := fm.out
       have wI := qc13 a8.out
       have wJ := qf13 a8.out
       have Cq := qc6 bb.out
       have Cr := qf6 bb.out
       go_wp2_with (first | (go_at_call 33; (with_reducible refine (impl_distinct.calls k2 aa ab ac af ag ae _ _ an true _ ?side1 ?side2 nv.out).mono ?_); (case side1 => exact sC (Kd.C_below b6.out HB.out)); (case side2 => exact ck.out); rintro e w76 ⟨rfl, hb⟩; replace lM := am (Kd.R_below q93t hb); replace bb := blb bb hb; replace a8 := blb a8 hb; replace HB := am (below_step q47t hb); (try clear hb); (try clear hb2); (try clear hk); (try clear hi); have pL := qc13 a8.out; have pM := qf13 a8.out) | (go_at_call 34; (with_reducible refine (slices_Contains_int_int.calls k2 _ _ an (wrap64 (aH - 1)) true _ ?side1 ?side2 s4.out).mono ?_); (case side1 => exact sC (Kd.C_below b6.out HB.out)); (case side2 => exact ck.out); rintro e w' ⟨rfl, ⟨nd, rfl⟩⟩; have Ll := qc6 bb.out; have Lm := qf6 bb.out) | (go_at_call 32; (with_reducible refine (impl_within.calls aU 0 ab false _ E3.out).mono ?_); rintro e w' ⟨rfl, ⟨nd, rfl⟩⟩))
       go_meet
       case rel => exact ⟨_, (true), q121t, H', ⟨q115t⟩, ⟨qbk bb⟩, ⟨qbk a8⟩, ⟨q47t⟩⟩
      replace c64 := Bool.eq_false_iff.mpr c64
      subst c64
      rw [if_neg (show ¬ (false = true) by decide)] at H
      have H' := Aside0.mk H
      clear H
      have Wl := fo.out
      have Wm := fm.out
      have Ln := qc13 a8.out
      have Lo := qf13 a8.out
      have vk := qc6 bb.out
      have vl := qf6 bb.out
      go_wp2_with (first | (go_at_call 33; (with_reducible refine (impl_distinct.calls k2 aa ab ac af ag ae _ _ an true _ ?side1 ?side2 nv.out).mono ?_); (case side1 => exact sC (Kd.C_below b6.out HB.out)); (case side2 => exact ck.out); rintro e w82 ⟨rfl, hb⟩; replace lM := am (Kd.R_below q93t hb); replace bb := blb bb hb; replace a8 := blb a8 hb; replace HB := am (below_step q47t hb); (try clear hb); (try clear hb2); (try clear hk); (try clear hi); have Lp := qc13 a8.out; have Lq := qf13 a8.out) | (go_at_call 34; (with_reducible refine (slices_Contains_int_int.calls k2 _ _ an (wrap64 (aH - 1)) false _ ?side1 ?side2 s4.out).mono ?_); (case side1 => exact sC (Kd.C_below b6.out HB.out)); (case side2 => exact ck.out); rintro e w' ⟨rfl, ⟨nd, rfl⟩⟩))
      go_meet
      case rel => exact ⟨_, (true), q121t, H', ⟨q115t⟩, ⟨qbk bb⟩, ⟨qbk a8⟩, ⟨q47t⟩⟩
     case rest =>
      clear y3
      try clear c1
      try clear p2
      try clear p2
      try clear c3
      try clear c4
      try clear c5
      try clear c6
      try clear p6
      try clear q6
      try clear hx6
      try clear c7
      try clear c8
      try clear c30
      try clear rx
      try clear c31
      try clear s3
      try clear c32
      try clear Ld
      try clear c34
      try clear c35
      try clear c37
      try clear c40
      try clear qt
      try clear c41
      try clear c43
      try clear E2
      try clear c44
      try clear c47
      try clear c48
      try clear oW
      try clear oX
      try clear c50
      try clear c51
      try clear c57
      try clear p62
      try clear q62
      try clear hx62
      try clear c64
      try clear p64
      try clear c66
      try clear c67
      try clear c73
      try clear c79
      try clear c84
      try clear sG
      try clear sD
      try clear uv
      try clear kK
      try clear vu
      try clear k6
      try clear q9
      try clear nw
      try clear nG
      try clear vw
      try clear Lj
      try clear sB
      try clear uV
      try clear xO
      try clear s5
      try clear rc
      try clear EH
      try clear wI
      try clear Cq
      try clear pL
      try clear Ll
      try clear Ln
      try clear vk
      try clear Lp
      try clear y4
      try clear Lh
      try clear nM
      try clear jz
      try clear iL
      try clear k8
      try clear ky
      try clear ij
      try clear sH
      try clear sE
      try clear uw
      try clear kL
      try clear vv
      try clear kt
      try clear ra
      try clear nx
      try clear mb
      try clear vx
      try clear Lk
      try clear ql
      try clear uW
      try clear xP
      try clear qu
      try clear re
      try clear EI
      try clear wJ
      try clear Cr
      try clear pM
      try clear Lm
      try clear Lo
      try clear vl
      try clear Lq
      try clear y5
      try clear Li
      try clear E1
      try clear p626
      try clear q626
      obtain ⟨kq, vt, rfl, HA, Wn, bb, a8, HB⟩ := hcut
      cases kq with
      | zero => exact absurd HA.out (by simp [impl_NodeOk.j2])
      | succ kj38 =>
       have H := HA.out
       clear HA
       simp only [impl_NodeOk.j2] at H
       by_cases c88 : vt = true
       ·subst c88
        rw [if_pos rfl] at H
        obtain rfl := Option.some.inj H
        go_wp2
        go_ret
        exact ⟨q114t, q47t⟩
       replace c88 := Bool.eq_false_iff.mpr c88
       subst c88
       rw [if_neg (show ¬ (false = true) by decide)] at H
       by_cases c89 : (ar.length : Int) ≤ 12
       rotate_left
       ·rw [if_neg c89] at H
        have Lr : decide ((ar.length : Int) ≤ 12) = false := decide_eq_false c89
        have Ls : decide (ar.length ≤ 12) = false := decide_eq_false (by omega)
        clear c89
        obtain rfl := Option.some.inj H
        have Wo := fo.out
        have Wp := fm.out
        have Wq := qc13 a8.out
        have Wr := qf13 a8.out
        go_wp2
        go_ret
        exact ⟨q114t, q47t⟩
       rw [if_pos c89] at H
       have Lr : decide ((ar.length : Int) ≤ 12) = true := decide_eq_true c89
       have Ls : decide (ar.length ≤ 12) = true := decide_eq_true (by omega)
       clear c89
       by_cases c90 : (aC.length : Int) ≤ 6
       rotate_left
       ·rw [if_neg c90] at H
        have Lt : decide ((aC.length : Int) ≤ 6) = false := decide_eq_false c90
        have Lu : decide (aC.length ≤ 6) = false := decide_eq_false (by omega)
        clear c90
        obtain rfl := Option.some.inj H
        have Bm := fo.out
        have Bn := fm.out
        have GK := qc13 a8.out
        have GL := qf13 a8.out
        go_wp2
        go_ret
        exact ⟨q114t, q47t⟩
       rw [if_pos c90] at H
       have Lt : decide ((aC.length : Int) ≤ 6) = true := decide_eq_true c90
       have Lu : decide (aC.length ≤ 6) = true := decide_eq_true (by omega)
       clear c90
       obtain ⟨yY, E4, H⟩ := bnd H
       try dsimp only at H
       by_cases c92 : yY = true
       ·subst c92
        rw [if_pos rfl] at H
        obtain ⟨yZ, Lv, H⟩ := bnd H
        try dsimp only at H
        obtain rfl := Option.some.inj H
        have Lw := fo.out
        have Lx := fm.out
        have Ly := qc13 a8.out
        have Lz := qf13 a8.out
        go_wp2_with (first | (go_at_call 35; (with_reducible refine (impl_areBytes.calls kj38 _ _ aC true _ ?side1 ?side2 E4.out).mono ?_); (case side1 => exact sC (Kd.C_below ga.out HB.out)); (case side2 => exact hD.out); rintro e w' ⟨rfl, ⟨nd, rfl⟩⟩; have Ws := qc6 bb.out; have Wt := qf6 bb.out) | (go_at_call 36; (with_reducible refine (impl_Thing_36.calls kj38 _ _ ar aa ab ac af ag ae yZ _ ?side1 ?side2 Lv.out nZ (qbk bb)).mono ?_); (case side1 => repeat (first | exact (Kd.C_below gv.out q47t) | (with_reducible refine Kd.C_alloc ?_ _) | (with_reducible refine Kd.C_drewN ?_ _) | (with_reducible refine Kd.C_drew ?_))); (case side2 => exact jE.out); rintro e w97 ⟨rfl, hb⟩; replace bb := blb bb hb; replace a8 := blb a8 hb; replace HB := am (below_step q47t hb); (try clear hb); (try clear hb2); (try clear hk); (try clear hi)))
        go_ret
        exact ⟨q114t, q47t⟩
       replace c92 := Bool.eq_false_iff.mpr c92
       subst c92
       rw [if_neg (show ¬ (false = true) by decide)] at H
       obtain rfl := Option.some.inj H
       have Wu := fo.out
       have Wv := fm.out
       have Ww := qc13 a8.out
       have Wx := qf13 a8.out
       go_wp2_with (first | (go_at_call 35; (with_reducible refine (impl_areBytes.calls kj38 _ _ aC false _ ?side1 ?side2 E4.out).mono ?_); (case side1 => exact sC (Kd.C_below ga.out HB.out)); (case side2 => exact hD.out); rintro e w' ⟨rfl, ⟨nd, rfl⟩⟩))
       go_ret
       exact ⟨q114t, q47t⟩

end Go.Proofs.YtofpmdgndegalacDoor.QFnNodes
