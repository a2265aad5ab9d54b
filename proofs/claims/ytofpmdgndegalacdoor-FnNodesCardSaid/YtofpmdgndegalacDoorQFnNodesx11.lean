/- What the functions that the law FnNodes reaches compute, as plain functions, and that the code computes just that (by a program of this session's; the library's functions by hand). No condition. -/
import Derived.Test.YtofpmdgndegalacDoorQFnNodesx0
import Derived.Test.YtofpmdgndegalacDoorQFnNodesx10
namespace Go.Proofs.YtofpmdgndegalacDoor.QFnNodes
open Go.RowKit Go.Proofs.YtofpmdgndegalacDoorW.PrintWords Go.Proofs.YtofpmdgndegalacDoorW.PrintLast Go.Proofs.YtofpmdgndegalacDoorW.PrintMore
attribute [local go_sem] max2_int min2_int max_two min_two max_three min_three max_four min_four   -- for this text's walks alone
set_option linter.unusedVariables false
set_option linter.unusedSimpArgs false

/-! ### impl_ThingOk: function 11 -/
def impl_ThingOk.j0 : Nat → Bool → Int → Int → Int → Int → Int → Int → Int → Int → Int → Option (Bool)
 | 0, _, _, _, _, _, _, _, _, _, _ => none
 | k + 1, x30, ER, nY, ES, ET, EU, EV, yN, vr, EW => if x30 = true then (some false) else (if EW = 0 then (if vr ≤ nY then (if nY = 0 then (none) else (some ((wrap64 (Int.tdiv yN nY)) == (wrap64 (Int.tdiv (wrap64 ((wrap64 (yN + vr)) - 1)) nY))))) else (some false)) else ((impl_IsLarge.f ER nY ES ET EU EV vr).bind fun yO => (if yO = true then ((impl_ChunksFor.f ER nY ES ET EU EV vr).bind fun mF => (if EW = mF then (if nY = 0 then (none) else (some ((Int.tmod yN nY) == 0))) else (some false))) else (some false))))
def impl_ThingOk.f (k : Nat) (aa : Int) (ab : Int) (ac : Int) (af : Int) (ag : Int) (ae : Int) (aj : Int) (ai : Int) (ak : Int) : Option (Bool) := (impl_BytesOf.f aa ab ac af ag ae).bind fun kw => (if ai ≤ 0 then (impl_ThingOk.j0 k true aa ab ac af ag ae aj ai ak) else (if aj < 0 then (impl_ThingOk.j0 k true aa ab ac af ag ae aj ai ak) else (if ai > kw then (impl_ThingOk.j0 k true aa ab ac af ag ae aj ai ak) else (impl_ThingOk.j0 k (decide (aj > (wrap64 (kw - ai)))) aa ab ac af ag ae aj ai ak))))
def impl_ThingOk.T5 : Bool × List (List Nat × List Nat) := (true, [([], []), ([0], [0]), ([], []), ([2], [2]), ([1, 3], [1, 3]), ([4], [4]), ([5], [5]), ([6, 5], [5, 6]), ([5], [5]), ([8, 5], [5, 8]), ([7, 9, 5], [5, 7, 9]), ([5], [5]), ([11, 5], [5, 11]), ([5], [5]), ([13, 5], [5, 13]), ([12, 14, 5], [5, 12, 14]), ([15, 5], [5, 15]), ([5], [5]), ([17, 5], [5, 17]), ([16, 18, 5], [5, 16, 18]), ([10, 19, 5], [5, 10, 19]), ([5, 20], [5, 20]), ([21, 5, 0, 1, 2, 3, 4, 5, 6, 7, 8, 9, 10, 11, 12, 13, 14, 15, 16, 17, 18, 19, 20, 21], [21])])
def impl_ThingOk.B5 : List Nat := [0, 1, 0, 4, 15, 31, 63, 127, 63, 319, 1023, 63, 2111, 63, 8255, 30783, 63551, 63, 131135, 522303, 1048575, 2097151, 4194303]
theorem impl_ThingOk.tab5 : rtab .any (opsOf Tryd.f11 5) = impl_ThingOk.T5 := by kernel_rfl
theorem impl_ThingOk.bits5 : waitsOk impl_ThingOk.T5.2 impl_ThingOk.B5 = true := by kernel_rfl
def impl_ThingOk.T6 : Bool × List (List Nat × List Nat) := (true, [([], []), ([], []), ([1], [1]), ([0, 2], [0, 2]), ([3, 3], [3]), ([4], [4]), ([5, 4], [4, 5]), ([4], [4]), ([4], [4]), ([8, 4], [4, 8]), ([7, 9, 4, 4], [4, 7, 9]), ([6, 10, 4], [4, 6, 10]), ([4, 11], [4, 11]), ([12, 10], [12]), ([13], [13]), ([14, 13], [13, 14]), ([13], [13]), ([16, 13], [13, 16]), ([15, 17, 13], [13, 15, 17]), ([18, 13], [13, 18]), ([13, 19], [13, 19]), ([20, 13, 0, 1, 2, 3, 4, 5, 6, 7, 8, 9, 10, 11, 12, 13, 14, 15, 16, 17, 18, 19, 20], [20])])
def impl_ThingOk.B6 : List Nat := [0, 0, 2, 7, 15, 31, 63, 31, 31, 287, 927, 2047, 4095, 8191, 16383, 32767, 16383, 81919, 262143, 524287, 1048575, 2097151]
theorem impl_ThingOk.tab6 : rtab .any (opsOf Tryd.f11 6) = impl_ThingOk.T6 := by kernel_rfl
theorem impl_ThingOk.bits6 : waitsOk impl_ThingOk.T6.2 impl_ThingOk.B6 = true := by kernel_rfl
set_option maxHeartbeats 8000000 in
set_option maxRecDepth 100000 in
theorem impl_ThingOk.calls (k : Nat) (aa : Int) (ab : Int) (ac : Int) (af : Int) (ag : Int) (ae : Int) (aj : Int) (ai : Int) (ak : Int) (r : Bool) (w : World) (h : impl_ThingOk.f k aa ab ac af ag ae aj ai ak = some r) :
  Calls Tryd.prog 11 #[.agg #[aa, ab, ac, af, ag, ae], .agg #[aj, ai, ak]] w fun e w' => e = .returned (.bool r) ∧ Below w.heap.size w w' := by
 have hu25 := Tryd.underlying25
 have hu33 := Tryd.underlying33
 have HB := am (Below.refl w.heap.size w)
 have H : ((impl_BytesOf.f aa ab ac af ag ae).bind fun kw => (if ai ≤ 0 then (impl_ThingOk.j0 k true aa ab ac af ag ae aj ai ak) else (if aj < 0 then (impl_ThingOk.j0 k true aa ab ac af ag ae aj ai ak) else (if ai > kw then (impl_ThingOk.j0 k true aa ab ac af ag ae aj ai ak) else (impl_ThingOk.j0 k (decide (aj > (wrap64 (kw - ai)))) aa ab ac af ag ae aj ai ak))))) = some r := h
 clear h
 obtain ⟨kw, A3, H⟩ := bnd H
 try dsimp only at H
 have kk := Aside0.mk H
 clear H
 go_enter Tryd.func11, Tryd.ntmps11
 go_upto_region 2 with (first | ((with_reducible refine gate_dst (N := 2) rfl ?_); refine box_ev 2 #[aa, ab, ac, af, ag, ae] 25 ?_; intro de hg w5 hbox hb; have bu := am (hbox); have Wb := am ((q63t : w.heap.size ≤ de)); have Wc := am ((q63t : w.heap.size ≤ de)); replace HB := am (below_step q68t hb); clear hb hbox hg) | ((with_reducible refine gate_dst (N := 3) rfl ?_); refine box_ev 3 #[aj, ai, ak] 33 ?_; intro e6 hg w6 hbox hb; have bk := am (hbox); have Wd := am ((q41t : w.heap.size ≤ e6)); have We := am ((q41t : w.heap.size ≤ e6)); replace HB := am (below_step q47t hb); have k9 := am ((by rw [hg]; exact Nat.ne_of_lt (blk_lt (qbk bu)) : de ≠ e6)); have la := am ((by rw [hg]; exact Nat.ne_of_gt (blk_lt (qbk bu)) : e6 ≠ de)); replace bu := blb bu hb; clear hb hbox hg; have D8 := k9.out; have D9 := la.out; have uP := qc6 bu.out; have uQ := qf6 bu.out) | ((with_reducible refine gate_callee (f := 21) rfl ?_); refine goesL_ (some 7) rfl rfl Tryd.func21 (by kernel_rfl) rfl #[.agg #[aa, ab, ac, af, ag, ae]] rfl q66t ?_; (with_reducible refine (impl_BytesOf.calls aa ab ac af ag ae kw _ A3.out).mono ?_); rintro e w9 ⟨rfl, hb⟩; refine ⟨_, rfl, ?_⟩; replace bu := blb bu hb; replace bk := blb bk hb; replace HB := am (below_step q47t hb); (try clear hb); (try clear hb2); (try clear hk); (try clear hi)))
 (try simp only [Act.put, List.setIfInBounds_toArray, List.set_cons_zero, List.set_cons_succ])
 go_cut [30] (fun v30 wc => ∃ (kq : Nat) (vs : Bool), v30 = .bool vs ∧ Aside0 (impl_ThingOk.j0 kq vs aa ab ac af ag ae aj ai ak = some r) ∧ Aside0 (kq ≤ k) ∧ Aside0 (wc.heap[de]? = some (.cells #[aa, ab, ac, af, ag, ae] 25 (0, 0))) ∧ Aside0 (wc.heap[e6]? = some (.cells #[aj, ai, ak] 33 (0, 0))) ∧ Aside0 (Below w.heap.size w wc))
 case first =>
  have H := kk.out
  clear kk
  by_cases c10 : ai ≤ 0
  ·rw [if_pos c10] at H
   have eN : decide (ai ≤ 0) = true := decide_eq_true c10
   clear c10
   (first | rw [eN] | (simp only [i64_w, i32_w]; rw [eN]) | skip)
   have H' := Aside0.mk H
   clear H
   have qV := la.out
   have qW := k9.out
   have pg := qc3 bk.out
   have nM := qf3 bk.out
   go_wp2
   go_meet
   case rel => exact ⟨_, (true), q121t, H', ⟨q122t⟩, ⟨qbk bu⟩, ⟨qbk bk⟩, ⟨q47t⟩⟩
  rw [if_neg c10] at H
  have eN : decide (ai ≤ 0) = false := decide_eq_false c10
  clear c10
  (first | rw [eN] | (simp only [i64_w, i32_w]; rw [eN]) | skip)
  by_cases c13 : aj < 0
  ·rw [if_pos c13] at H
   have k7 : decide (aj < 0) = true := decide_eq_true c13
   clear c13
   have H' := Aside0.mk H
   clear H
   have wW := la.out
   have wX := k9.out
   have mn := qc3 bk.out
   have iL := qf3 bk.out
   go_wp2
   go_meet
   case rel => exact ⟨_, (true), q121t, H', ⟨q122t⟩, ⟨qbk bu⟩, ⟨qbk bk⟩, ⟨q47t⟩⟩
  rw [if_neg c13] at H
  have k7 : decide (aj < 0) = false := decide_eq_false c13
  clear c13
  by_cases c16 : ai > kw
  ·rw [if_pos c16] at H
   have qp : decide (kw < ai) = true := decide_eq_true c16
   clear c16
   have H' := Aside0.mk H
   clear H
   have Bp := la.out
   have Bq := k9.out
   have rI := qc3 bk.out
   have rJ := qf3 bk.out
   go_wp2
   go_meet
   case rel => exact ⟨_, (true), q121t, H', ⟨q122t⟩, ⟨qbk bu⟩, ⟨qbk bk⟩, ⟨q47t⟩⟩
  rw [if_neg c16] at H
  have qp : decide (kw < ai) = false := decide_eq_false c16
  clear c16
  have H' := Aside0.mk H
  clear H
  have wn := la.out
  have wo := k9.out
  have kG := qc3 bk.out
  have kH := qf3 bk.out
  go_wp2
  go_meet
  case rel => exact ⟨_, (decide (aj > (wrap64 (kw - ai)))), q121t, H', ⟨q122t⟩, ⟨qbk bu⟩, ⟨qbk bk⟩, ⟨q47t⟩⟩
 case rest =>
  clear kk
  try clear c1
  try clear c2
  try clear p2
  try clear p6
  try clear c7
  try clear c10
  try clear eN
  try clear c11
  try clear c13
  try clear k7
  try clear c14
  try clear c16
  try clear qp
  try clear c17
  try clear c19
  try clear pg
  try clear mn
  try clear rI
  try clear kG
  try clear uP
  try clear nM
  try clear iL
  try clear rJ
  try clear kH
  try clear uQ
  obtain ⟨kq, vs, rfl, HA, Dp, bu, bk, HB⟩ := hcut
  cases kq with
  | zero => exact absurd HA.out (by simp [impl_ThingOk.j0])
  | succ kj3 =>
   have H := HA.out
   clear HA
   simp only [impl_ThingOk.j0] at H
   by_cases c21 : vs = true
   ·subst c21
    rw [if_pos rfl] at H
    obtain rfl := Option.some.inj H
    go_wp2
    go_ret
    exact ⟨q114t, q47t⟩
   replace c21 := Bool.eq_false_iff.mpr c21
   subst c21
   rw [if_neg (show ¬ (false = true) by decide)] at H
   by_cases c22 : ak = 0
   ·rw [if_pos c22] at H
    have yP : (ak == 0) = true := beq_iff_eq.mpr c22
    have yQ : (ak != 0) = false := bne_eq_false_iff_eq.mpr c22
    clear c22
    by_cases c23 : ai ≤ ab
    ·rw [if_pos c23] at H
     have yR : decide (ai ≤ ab) = true := decide_eq_true c23
     clear c23
     by_cases c24 : ab = 0
     ·rw [if_pos c24] at H
      exact absurd H q126t
     rw [if_neg c24] at H
     have iQ : (ab == 0) = false := beq_eq_false_iff_ne.mpr c24
     have kx : (ab != 0) = true := bne_iff_ne.mpr c24
     obtain rfl := Option.some.inj H
     have pz := la.out
     have pA := k9.out
     have sG := qc3 bk.out
     have sH := qf3 bk.out
     try go_wp2
     (try (rw [drewN_self wc]; generalize hq_ : World.drewN wc _ = wc; have hh_ := congrArg World.heap hq_; dsimp only [World.drewN] at hh_; have zb_ : Below w.heap.size w wc := (by rw [← hq_]; exact pw_below_drewN HB.out _); have z_ := bu.out; rw [hh_] at z_; clear bu; have bu := Aside0.mk z_; clear z_; have z_ := bk.out; rw [hh_] at z_; clear bk; have bk := Aside0.mk z_; clear z_; clear HB; have HB := Aside0.mk zb_; clear zb_ hh_ hq_))
     replace bu := am (blk_drew bu.out)
     replace bk := am (blk_drew bk.out)
     replace HB := am (below_drew1 HB.out)
     refine start_ (n := 23) (S := fun w' => w'.cell? ⟨e6, 0, none⟩ = some (.int .i64 aj) ∧ w'.cell? ⟨e6, 1, none⟩ = some (.int .i64 ai) ∧ w'.cell? ⟨e6, 2, none⟩ = some (.int .i64 ak) ∧ w'.cell? ⟨de, 0, none⟩ = some (.int .i64 aa) ∧ w'.cell? ⟨de, 1, none⟩ = some (.int .i64 ab) ∧ w'.cell? ⟨de, 2, none⟩ = some (.int .i64 ac) ∧ w'.cell? ⟨de, 3, none⟩ = some (.int .i64 af) ∧ w'.cell? ⟨de, 4, none⟩ = some (.int .i64 ag) ∧ w'.cell? ⟨de, 5, none⟩ = some (.int .i64 ae)) (ds := []) (bm 23 0) (by kernel_rfl) rfl (by kernel_rfl) qst (fun hHeld => ?_); refine with_tabW impl_ThingOk.tab5 impl_ThingOk.bits5 (fun HT_ HW_ => ?_)
     generalize wc.drew = w27 at bu bk HB hHeld ⊢
     refine pv_ 0 34 (bm 23 1) ?_
     refine pv_ 2 36 (bm 23 5) ?_
     refine tv_ 1 35 (bm 23 7) ?_
     refine tv_ 3 37 (bm 23 15) ?_
     refine pv_ 4 38 (bm 23 31) ?_
     refine pv_ 5 39 (bm 23 63) ?_
     refine pv_ 6 40 (bm 23 127) ?_
     refine pv_ 8 42 (bm 23 383) ?_
     refine pv_ 11 45 (bm 23 2431) ?_
     refine pv_ 13 47 (bm 23 10623) ?_
     refine pv_ 17 51 (bm 23 141695) ?_
     refine tv_ 7 41 (bm 23 141823) ?_
     refine tv_ 9 43 (bm 23 142335) ?_
     refine pv_ 10 44 (bm 23 143359) ?_
     refine tv_ 12 46 (bm 23 147455) ?_
     refine tv_ 14 48 (bm 23 163839) ?_
     refine pv_ 15 49 (bm 23 196607) ?_
     refine pv_ 16 50 (bm 23 262143) ?_
     refine tv_ 18 52 (bm 23 524287) ?_
     refine pv_ 19 53 (bm 23 1048575) ?_
     refine pv_ 20 54 (bm 23 2097151) ?_
     refine pv_ 21 55 (bm 23 4194303) ?_
     refine pv_ 22 4 (bm 23 8388607) ?_
     refine done_ (done_of HT_.out (by kernel_rfl)) ?_
     try go_wp2
     go_ret
     exact ⟨q114t, q47t⟩
    rw [if_neg c23] at H
    have yR : decide (ai ≤ ab) = false := decide_eq_false c23
    clear c23
    obtain rfl := Option.some.inj H
    have I7 := la.out
    have I8 := k9.out
    have tR := qc3 bk.out
    have tS := qf3 bk.out
    try go_wp2
    (try (rw [drewN_self wc]; generalize hq_ : World.drewN wc _ = wc; have hh_ := congrArg World.heap hq_; dsimp only [World.drewN] at hh_; have zb_ : Below w.heap.size w wc := (by rw [← hq_]; exact pw_below_drewN HB.out _); have z_ := bu.out; rw [hh_] at z_; clear bu; have bu := Aside0.mk z_; clear z_; have z_ := bk.out; rw [hh_] at z_; clear bk; have bk := Aside0.mk z_; clear z_; clear HB; have HB := Aside0.mk zb_; clear zb_ hh_ hq_))
    replace bu := am (blk_drew bu.out)
    replace bk := am (blk_drew bk.out)
    replace HB := am (below_drew1 HB.out)
    refine start_ (n := 23) (S := fun w' => w'.cell? ⟨e6, 0, none⟩ = some (.int .i64 aj) ∧ w'.cell? ⟨e6, 1, none⟩ = some (.int .i64 ai) ∧ w'.cell? ⟨e6, 2, none⟩ = some (.int .i64 ak) ∧ w'.cell? ⟨de, 0, none⟩ = some (.int .i64 aa) ∧ w'.cell? ⟨de, 1, none⟩ = some (.int .i64 ab) ∧ w'.cell? ⟨de, 2, none⟩ = some (.int .i64 ac) ∧ w'.cell? ⟨de, 3, none⟩ = some (.int .i64 af) ∧ w'.cell? ⟨de, 4, none⟩ = some (.int .i64 ag) ∧ w'.cell? ⟨de, 5, none⟩ = some (.int .i64 ae)) (ds := []) (bm 23 0) (by kernel_rfl) rfl (by kernel_rfl) qst (fun hHeld => ?_); refine with_tabW impl_ThingOk.tab5 impl_ThingOk.bits5 (fun HT_ HW_ => ?_)
    generalize wc.drew = w30 at bu bk HB hHeld ⊢
    refine pv_ 0 34 (bm 23 1) ?_
    refine pv_ 2 36 (bm 23 5) ?_
    refine tv_ 1 35 (bm 23 7) ?_
    refine tv_ 3 37 (bm 23 15) ?_
    refine pv_ 4 38 (bm 23 31) ?_
    refine pv_ 5 39 (bm 23 63) ?_
    refine pm_ 6 40 (bm 23 127) ?_
    refine pm_ 7 41 (bm 23 255) ?_
    refine pm_ 8 42 (bm 23 511) ?_
    refine pm_ 9 43 (bm 23 1023) ?_
    refine pm_ 10 44 (bm 23 2047) ?_
    refine pm_ 11 45 (bm 23 4095) ?_
    refine pm_ 12 46 (bm 23 8191) ?_
    refine pm_ 13 47 (bm 23 16383) ?_
    refine pm_ 14 48 (bm 23 32767) ?_
    refine pm_ 15 49 (bm 23 65535) ?_
    refine pm_ 16 50 (bm 23 131071) ?_
    refine pm_ 17 51 (bm 23 262143) ?_
    refine pm_ 18 52 (bm 23 524287) ?_
    refine pm_ 19 53 (bm 23 1048575) ?_
    refine pm_ 20 54 (bm 23 2097151) ?_
    refine pv_ 21 55 (bm 23 4194303) ?_
    refine pv_ 22 4 (bm 23 8388607) ?_
    refine done_ (done_of HT_.out (by kernel_rfl)) ?_
    try go_wp2
    go_ret
    exact ⟨q114t, q47t⟩
   rw [if_neg c22] at H
   have yP : (ak == 0) = false := beq_eq_false_iff_ne.mpr c22
   have yQ : (ak != 0) = true := bne_iff_ne.mpr c22
   obtain ⟨yO, ry, H⟩ := bnd H
   try dsimp only at H
   by_cases c32 : yO = true
   ·subst c32
    rw [if_pos rfl] at H
    obtain ⟨mF, s0, H⟩ := bnd H
    try dsimp only at H
    by_cases c34 : ak = mF
    ·rw [if_pos c34] at H
     have K9 : (ak == mF) = true := beq_iff_eq.mpr c34
     have La : (ak != mF) = false := bne_eq_false_iff_eq.mpr c34
     clear c34
     by_cases c35 : ab = 0
     ·rw [if_pos c35] at H
      exact absurd H q126t
     rw [if_neg c35] at H
     have EX : (ab == 0) = false := beq_eq_false_iff_ne.mpr c35
     have EY : (ab != 0) = true := bne_iff_ne.mpr c35
     obtain rfl := Option.some.inj H
     have xe := la.out
     have xf := k9.out
     have lX := qc3 bk.out
     have lY := qf3 bk.out
     try go_wp2
     (try (rw [drewN_self wc]; generalize hq_ : World.drewN wc _ = wc; have hh_ := congrArg World.heap hq_; dsimp only [World.drewN] at hh_; have zb_ : Below w.heap.size w wc := (by rw [← hq_]; exact pw_below_drewN HB.out _); have z_ := bu.out; rw [hh_] at z_; clear bu; have bu := Aside0.mk z_; clear z_; have z_ := bk.out; rw [hh_] at z_; clear bk; have bk := Aside0.mk z_; clear z_; clear HB; have HB := Aside0.mk zb_; clear zb_ hh_ hq_))
     replace bu := am (blk_drew bu.out)
     replace bk := am (blk_drew bk.out)
     replace HB := am (below_drew1 HB.out)
     refine start_ (n := 22) (S := fun w' => w'.cell? ⟨de, 0, none⟩ = some (.int .i64 aa) ∧ w'.cell? ⟨de, 1, none⟩ = some (.int .i64 ab) ∧ w'.cell? ⟨de, 2, none⟩ = some (.int .i64 ac) ∧ w'.cell? ⟨de, 3, none⟩ = some (.int .i64 af) ∧ w'.cell? ⟨de, 4, none⟩ = some (.int .i64 ag) ∧ w'.cell? ⟨de, 5, none⟩ = some (.int .i64 ae) ∧ w'.cell? ⟨e6, 0, none⟩ = some (.int .i64 aj) ∧ w'.cell? ⟨e6, 1, none⟩ = some (.int .i64 ai) ∧ w'.cell? ⟨e6, 2, none⟩ = some (.int .i64 ak)) (ds := []) (bm 22 0) (by kernel_rfl) rfl (by kernel_rfl) qst (fun hHeld => ?_); refine with_tabW impl_ThingOk.tab6 impl_ThingOk.bits6 (fun HT_ HW_ => ?_)
     generalize wc.drew = w38 at bu bk HB hHeld ⊢
     refine pv_ 1 57 (bm 22 2) ?_
     refine tv_ 0 56 (bm 22 3) ?_
     refine tv_ 2 58 (bm 22 7) ?_
     refine one_ (i := 3) (N := some 59) (bm 22 15) rfl rfl (one_of HT_.out (by kernel_rfl)) q125t (fun K hK => ?_)
     refine goes_ Tryd.func40 (by kernel_rfl) rfl #[.agg #[aa, ab, ac, af, ag, ae], ai] q127t rfl rfl q66t ?_
     with_reducible refine (impl_IsLarge.calls aa ab ac af ag ae ai true _ ry.out).mono ?_
     rintro e w39 ⟨rfl, hb⟩
     refine ⟨_, rfl, ?_⟩
     replace bu := blb bu hb
     replace bk := blb bk hb
     replace HB := am (below_step q47t hb)
     (try clear hb)
     (try clear hb2)
     (try clear hk)
     (try clear hi)
     refine hK.out _ _ q9t (fun hHeld => ?_)
     clear hK K
     refine norm_ (a' := ?_) ?_ ?_
     rotate_left
     ·show Act.put _ (some 59) _ = _
      simp only [Act.put, List.setIfInBounds_toArray, List.set_cons_zero, List.set_cons_succ, i64_w, i32_w]
      rfl
     refine pv_ 4 60 (bm 22 31) ?_
     refine pv_ 5 61 (bm 22 63) ?_
     refine pv_ 8 64 (bm 22 319) ?_
     refine tv_ 6 62 (bm 22 383) ?_
     refine tv_ 7 63 (bm 22 511) ?_
     refine tv_ 9 65 (bm 22 1023) ?_
     refine one_ (i := 10) (N := some 66) (bm 22 2047) rfl rfl (one_of HT_.out (by kernel_rfl)) q125t (fun K hK => ?_)
     refine goes_ Tryd.func41 (by kernel_rfl) rfl #[.agg #[aa, ab, ac, af, ag, ae], ai] q127t rfl rfl q66t ?_
     with_reducible refine (impl_ChunksFor.calls aa ab ac af ag ae ai mF _ s0.out).mono ?_
     rintro e w40 ⟨rfl, hb⟩
     refine ⟨_, rfl, ?_⟩
     replace bu := blb bu hb
     replace bk := blb bk hb
     replace HB := am (below_step q47t hb)
     (try clear hb)
     (try clear hb2)
     (try clear hk)
     (try clear hi)
     refine hK.out _ _ q9t (fun hHeld => ?_)
     clear hK K
     refine norm_ (a' := ?_) ?_ ?_
     rotate_left
     ·show Act.put _ (some 66) _ = _
      simp only [Act.put, List.setIfInBounds_toArray, List.set_cons_zero, List.set_cons_succ, i64_w, i32_w]
      rfl
     refine pv_ 11 67 (bm 22 4095) ?_
     refine pv_ 12 68 (bm 22 8191) ?_
     refine pv_ 13 69 (bm 22 16383) ?_
     refine pv_ 14 70 (bm 22 32767) ?_
     refine pv_ 16 72 (bm 22 98303) ?_
     refine tv_ 15 71 (bm 22 131071) ?_
     refine tv_ 17 73 (bm 22 262143) ?_
     refine pv_ 18 74 (bm 22 524287) ?_
     refine pv_ 19 75 (bm 22 1048575) ?_
     refine pv_ 20 76 (bm 22 2097151) ?_
     refine pv_ 21 4 (bm 22 4194303) ?_
     refine done_ (done_of HT_.out (by kernel_rfl)) ?_
     try go_wp2
     go_ret
     exact ⟨q114t, q47t⟩
    rw [if_neg c34] at H
    have K9 : (ak == mF) = false := beq_eq_false_iff_ne.mpr c34
    have La : (ak != mF) = true := bne_iff_ne.mpr c34
    obtain rfl := Option.some.inj H
    have q3 := la.out
    have q4 := k9.out
    have kK := qc3 bk.out
    have kL := qf3 bk.out
    try go_wp2
    (try (rw [drewN_self wc]; generalize hq_ : World.drewN wc _ = wc; have hh_ := congrArg World.heap hq_; dsimp only [World.drewN] at hh_; have zb_ : Below w.heap.size w wc := (by rw [← hq_]; exact pw_below_drewN HB.out _); have z_ := bu.out; rw [hh_] at z_; clear bu; have bu := Aside0.mk z_; clear z_; have z_ := bk.out; rw [hh_] at z_; clear bk; have bk := Aside0.mk z_; clear z_; clear HB; have HB := Aside0.mk zb_; clear zb_ hh_ hq_))
    replace bu := am (blk_drew bu.out)
    replace bk := am (blk_drew bk.out)
    replace HB := am (below_drew1 HB.out)
    refine start_ (n := 22) (S := fun w' => w'.cell? ⟨de, 0, none⟩ = some (.int .i64 aa) ∧ w'.cell? ⟨de, 1, none⟩ = some (.int .i64 ab) ∧ w'.cell? ⟨de, 2, none⟩ = some (.int .i64 ac) ∧ w'.cell? ⟨de, 3, none⟩ = some (.int .i64 af) ∧ w'.cell? ⟨de, 4, none⟩ = some (.int .i64 ag) ∧ w'.cell? ⟨de, 5, none⟩ = some (.int .i64 ae) ∧ w'.cell? ⟨e6, 0, none⟩ = some (.int .i64 aj) ∧ w'.cell? ⟨e6, 1, none⟩ = some (.int .i64 ai) ∧ w'.cell? ⟨e6, 2, none⟩ = some (.int .i64 ak)) (ds := []) (bm 22 0) (by kernel_rfl) rfl (by kernel_rfl) qst (fun hHeld => ?_); refine with_tabW impl_ThingOk.tab6 impl_ThingOk.bits6 (fun HT_ HW_ => ?_)
    generalize wc.drew = w43 at bu bk HB hHeld ⊢
    refine pv_ 1 57 (bm 22 2) ?_
    refine tv_ 0 56 (bm 22 3) ?_
    refine tv_ 2 58 (bm 22 7) ?_
    refine one_ (i := 3) (N := some 59) (bm 22 15) rfl rfl (one_of HT_.out (by kernel_rfl)) q125t (fun K hK => ?_)
    refine goes_ Tryd.func40 (by kernel_rfl) rfl #[.agg #[aa, ab, ac, af, ag, ae], ai] q127t rfl rfl q66t ?_
    with_reducible refine (impl_IsLarge.calls aa ab ac af ag ae ai true _ ry.out).mono ?_
    rintro e w44 ⟨rfl, hb⟩
    refine ⟨_, rfl, ?_⟩
    replace bu := blb bu hb
    replace bk := blb bk hb
    replace HB := am (below_step q47t hb)
    (try clear hb)
    (try clear hb2)
    (try clear hk)
    (try clear hi)
    refine hK.out _ _ q9t (fun hHeld => ?_)
    clear hK K
    refine norm_ (a' := ?_) ?_ ?_
    rotate_left
    ·show Act.put _ (some 59) _ = _
     simp only [Act.put, List.setIfInBounds_toArray, List.set_cons_zero, List.set_cons_succ, i64_w, i32_w]
     rfl
    refine pv_ 4 60 (bm 22 31) ?_
    refine pv_ 5 61 (bm 22 63) ?_
    refine pv_ 8 64 (bm 22 319) ?_
    refine tv_ 6 62 (bm 22 383) ?_
    refine tv_ 7 63 (bm 22 511) ?_
    refine tv_ 9 65 (bm 22 1023) ?_
    refine one_ (i := 10) (N := some 66) (bm 22 2047) rfl rfl (one_of HT_.out (by kernel_rfl)) q125t (fun K hK => ?_)
    refine goes_ Tryd.func41 (by kernel_rfl) rfl #[.agg #[aa, ab, ac, af, ag, ae], ai] q127t rfl rfl q66t ?_
    with_reducible refine (impl_ChunksFor.calls aa ab ac af ag ae ai mF _ s0.out).mono ?_
    rintro e w45 ⟨rfl, hb⟩
    refine ⟨_, rfl, ?_⟩
    replace bu := blb bu hb
    replace bk := blb bk hb
    replace HB := am (below_step q47t hb)
    (try clear hb)
    (try clear hb2)
    (try clear hk)
    (try clear hi)
    refine hK.out _ _ q9t (fun hHeld => ?_)
    clear hK K
    refine norm_ (a' := ?_) ?_ ?_
    rotate_left
    ·show Act.put _ (some 66) _ = _
     simp only [Act.put, List.setIfInBounds_toArray, List.set_cons_zero, List.set_cons_succ, i64_w, i32_w]
     rfl
    refine pv_ 11 67 (bm 22 4095) ?_
    refine pv_ 12 68 (bm 22 8191) ?_
    refine pv_ 13 69 (bm 22 16383) ?_
    refine pm_ 14 70 (bm 22 32767) ?_
    refine pm_ 15 71 (bm 22 65535) ?_
    refine pm_ 16 72 (bm 22 131071) ?_
    refine pm_ 17 73 (bm 22 262143) ?_
    refine pm_ 18 74 (bm 22 524287) ?_
    refine pm_ 19 75 (bm 22 1048575) ?_
    refine pv_ 20 76 (bm 22 2097151) ?_
    refine pv_ 21 4 (bm 22 4194303) ?_
    refine done_ (done_of HT_.out (by kernel_rfl)) ?_
    try go_wp2
    go_ret
    exact ⟨q114t, q47t⟩
   replace c32 := Bool.eq_false_iff.mpr c32
   subst c32
   rw [if_neg (show ¬ (false = true) by decide)] at H
   obtain rfl := Option.some.inj H
   have ue := la.out
   have uf := k9.out
   have nA := qc3 bk.out
   have l5 := qf3 bk.out
   try go_wp2
   (try (rw [drewN_self wc]; generalize hq_ : World.drewN wc _ = wc; have hh_ := congrArg World.heap hq_; dsimp only [World.drewN] at hh_; have zb_ : Below w.heap.size w wc := (by rw [← hq_]; exact pw_below_drewN HB.out _); have z_ := bu.out; rw [hh_] at z_; clear bu; have bu := Aside0.mk z_; clear z_; have z_ := bk.out; rw [hh_] at z_; clear bk; have bk := Aside0.mk z_; clear z_; clear HB; have HB := Aside0.mk zb_; clear zb_ hh_ hq_))
   replace bu := am (blk_drew bu.out)
   replace bk := am (blk_drew bk.out)
   replace HB := am (below_drew1 HB.out)
   refine start_ (n := 22) (S := fun w' => w'.cell? ⟨de, 0, none⟩ = some (.int .i64 aa) ∧ w'.cell? ⟨de, 1, none⟩ = some (.int .i64 ab) ∧ w'.cell? ⟨de, 2, none⟩ = some (.int .i64 ac) ∧ w'.cell? ⟨de, 3, none⟩ = some (.int .i64 af) ∧ w'.cell? ⟨de, 4, none⟩ = some (.int .i64 ag) ∧ w'.cell? ⟨de, 5, none⟩ = some (.int .i64 ae) ∧ w'.cell? ⟨e6, 0, none⟩ = some (.int .i64 aj) ∧ w'.cell? ⟨e6, 1, none⟩ = some (.int .i64 ai) ∧ w'.cell? ⟨e6, 2, none⟩ = some (.int .i64 ak)) (ds := []) (bm 22 0) (by kernel_rfl) rfl (by kernel_rfl) qst (fun hHeld => ?_); refine with_tabW impl_ThingOk.tab6 impl_ThingOk.bits6 (fun HT_ HW_ => ?_)
   generalize wc.drew = w48 at bu bk HB hHeld ⊢
   refine pv_ 1 57 (bm 22 2) ?_
   refine tv_ 0 56 (bm 22 3) ?_
   refine tv_ 2 58 (bm 22 7) ?_
   refine one_ (i := 3) (N := some 59) (bm 22 15) rfl rfl (one_of HT_.out (by kernel_rfl)) q125t (fun K hK => ?_)
   refine goes_ Tryd.func40 (by kernel_rfl) rfl #[.agg #[aa, ab, ac, af, ag, ae], ai] q127t rfl rfl q66t ?_
   with_reducible refine (impl_IsLarge.calls aa ab ac af ag ae ai false _ ry.out).mono ?_
   rintro e w49 ⟨rfl, hb⟩
   refine ⟨_, rfl, ?_⟩
   replace bu := blb bu hb
   replace bk := blb bk hb
   replace HB := am (below_step q47t hb)
   (try clear hb)
   (try clear hb2)
   (try clear hk)
   (try clear hi)
   refine hK.out _ _ q9t (fun hHeld => ?_)
   clear hK K
   refine norm_ (a' := ?_) ?_ ?_
   rotate_left
   ·show Act.put _ (some 59) _ = _
    simp only [Act.put, List.setIfInBounds_toArray, List.set_cons_zero, List.set_cons_succ, i64_w, i32_w]
    rfl
   refine pv_ 4 60 (bm 22 31) ?_
   refine pm_ 5 61 (bm 22 63) ?_
   refine pm_ 6 62 (bm 22 127) ?_
   refine pm_ 7 63 (bm 22 255) ?_
   refine pm_ 8 64 (bm 22 511) ?_
   refine pm_ 9 65 (bm 22 1023) ?_
   refine pm_ 10 66 (bm 22 2047) ?_
   refine pm_ 11 67 (bm 22 4095) ?_
   refine pv_ 12 68 (bm 22 8191) ?_
   refine pv_ 13 69 (bm 22 16383) ?_
   refine pm_ 14 70 (bm 22 32767) ?_
   refine pm_ 15 71 (bm 22 65535) ?_
   refine pm_ 16 72 (bm 22 131071) ?_
   refine pm_ 17 73 (bm 22 262143) ?_
   refine pm_ 18 74 (bm 22 524287) ?_
   refine pm_ 19 75 (bm 22 1048575) ?_
   refine pv_ 20 76 (bm 22 2097151) ?_
   refine pv_ 21 4 (bm 22 4194303) ?_
   refine done_ (done_of HT_.out (by kernel_rfl)) ?_
   try go_wp2
   go_ret
   exact ⟨q114t, q47t⟩

end Go.Proofs.YtofpmdgndegalacDoor.QFnNodes
