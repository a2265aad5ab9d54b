/- What the functions that the law FnNodes reaches compute, as plain functions, and that the code computes just that (by a program of this session's; the library's functions by hand). No condition. -/
import Derived.Test.YtofpmdgndegalacDoorQFnNodesx0
import Derived.Test.YtofpmdgndegalacDoorQFnNodesx14
namespace Go.Proofs.YtofpmdgndegalacDoor.QFnNodes
open Go.RowKit Go.Proofs.YtofpmdgndegalacDoorW.PrintWords Go.Proofs.YtofpmdgndegalacDoorW.PrintLast Go.Proofs.YtofpmdgndegalacDoorW.PrintMore
attribute [local go_sem] max2_int min2_int max_two min_two max_three min_three max_four min_four   -- for this text's walks alone
set_option linter.unusedVariables false
set_option linter.unusedSimpArgs false

/-! ### spec_ThingOk: function 12 -/
def spec_ThingOk.j0 : Nat → Bool → Int → Int → Int → Int → Int → Int → Int → Int → Int → Option (Bool)
 | 0, _, _, _, _, _, _, _, _, _, _ => none
 | k + 1, x34, E9, n0, Fa, Fb, Fc, Fd, y6, vy, Fe => if x34 = true then (some false) else (if Fe = 0 then (if vy ≤ n0 then (if n0 = 0 then (none) else (some ((wrap64 (Int.tdiv y6 n0)) == (wrap64 (Int.tdiv (wrap64 ((wrap64 (y6 + vy)) - 1)) n0))))) else (some false)) else ((spec_IsLarge.f E9 n0 Fa Fb Fc Fd vy).bind fun y7 => (if y7 = true then ((spec_ChunksFor.f E9 n0 Fa Fb Fc Fd vy).bind fun mH => (if Fe = mH then (if n0 = 0 then (none) else (some ((Int.tmod y6 n0) == 0))) else (some false))) else (some false))))
def spec_ThingOk.f (k : Nat) (aa : Int) (ab : Int) (ac : Int) (af : Int) (ag : Int) (ae : Int) (aj : Int) (ai : Int) (ak : Int) : Option (Bool) := (spec_BytesOf.f aa ab ac af ag ae).bind fun fH => (if fH = 0 then (spec_ThingOk.j0 k true aa ab ac af ag ae aj ai ak) else (if ai < 1 then (spec_ThingOk.j0 k true aa ab ac af ag ae aj ai ak) else (if aj < 0 then (spec_ThingOk.j0 k true aa ab ac af ag ae aj ai ak) else (if aj > fH then (spec_ThingOk.j0 k true aa ab ac af ag ae aj ai ak) else (spec_ThingOk.j0 k (decide (ai > (wrap64 (fH - aj)))) aa ab ac af ag ae aj ai ak)))))
def spec_ThingOk.T5 : Bool × List (List Nat × List Nat) := (true, [([], []), ([0], [0]), ([], []), ([2], [2]), ([1, 3], [1, 3]), ([4], [4]), ([5], [5]), ([6, 5], [5, 6]), ([5], [5]), ([8, 5], [5, 8]), ([7, 9, 5], [5, 7, 9]), ([5], [5]), ([11, 5], [5, 11]), ([5], [5]), ([13, 5], [5, 13]), ([12, 14, 5], [5, 12, 14]), ([15, 5], [5, 15]), ([5], [5]), ([17, 5], [5, 17]), ([16, 18, 5], [5, 16, 18]), ([10, 19, 5], [5, 10, 19]), ([5, 20], [5, 20]), ([21, 5, 0, 1, 2, 3, 4, 5, 6, 7, 8, 9, 10, 11, 12, 13, 14, 15, 16, 17, 18, 19, 20, 21], [21])])
def spec_ThingOk.B5 : List Nat := [0, 1, 0, 4, 15, 31, 63, 127, 63, 319, 1023, 63, 2111, 63, 8255, 30783, 63551, 63, 131135, 522303, 1048575, 2097151, 4194303]
theorem spec_ThingOk.tab5 : rtab .any (opsOf Tryd.f12 5) = spec_ThingOk.T5 := by kernel_rfl
theorem spec_ThingOk.bits5 : waitsOk spec_ThingOk.T5.2 spec_ThingOk.B5 = true := by kernel_rfl
def spec_ThingOk.T6 : Bool × List (List Nat × List Nat) := (true, [([], []), ([], []), ([1], [1]), ([0, 2], [0, 2]), ([3, 3], [3]), ([4], [4]), ([5, 4], [4, 5]), ([4], [4]), ([4], [4]), ([8, 4], [4, 8]), ([7, 9, 4, 4], [4, 7, 9]), ([6, 10, 4], [4, 6, 10]), ([4, 11], [4, 11]), ([12, 10], [12]), ([13], [13]), ([14, 13], [13, 14]), ([13], [13]), ([16, 13], [13, 16]), ([15, 17, 13], [13, 15, 17]), ([18, 13], [13, 18]), ([13, 19], [13, 19]), ([20, 13, 0, 1, 2, 3, 4, 5, 6, 7, 8, 9, 10, 11, 12, 13, 14, 15, 16, 17, 18, 19, 20], [20])])
def spec_ThingOk.B6 : List Nat := [0, 0, 2, 7, 15, 31, 63, 31, 31, 287, 927, 2047, 4095, 8191, 16383, 32767, 16383, 81919, 262143, 524287, 1048575, 2097151]
theorem spec_ThingOk.tab6 : rtab .any (opsOf Tryd.f12 6) = spec_ThingOk.T6 := by kernel_rfl
theorem spec_ThingOk.bits6 : waitsOk spec_ThingOk.T6.2 spec_ThingOk.B6 = true := by kernel_rfl
set_option maxHeartbeats 8000000 in
set_option maxRecDepth 100000 in
theorem spec_ThingOk.calls (k : Nat) (aa : Int) (ab : Int) (ac : Int) (af : Int) (ag : Int) (ae : Int) (aj : Int) (ai : Int) (ak : Int) (r : Bool) (w : World) (h : spec_ThingOk.f k aa ab ac af ag ae aj ai ak = some r) :
  Calls Tryd.prog 12 #[.agg #[aa, ab, ac, af, ag, ae], .agg #[aj, ai, ak]] w fun e w' => e = .returned (.bool r) ∧ Below w.heap.size w w' := by
 have hu25 := Tryd.underlying25
 have hu33 := Tryd.underlying33
 have HB := am (Below.refl w.heap.size w)
 have H : ((spec_BytesOf.f aa ab ac af ag ae).bind fun fH => (if fH = 0 then (spec_ThingOk.j0 k true aa ab ac af ag ae aj ai ak) else (if ai < 1 then (spec_ThingOk.j0 k true aa ab ac af ag ae aj ai ak) else (if aj < 0 then (spec_ThingOk.j0 k true aa ab ac af ag ae aj ai ak) else (if aj > fH then (spec_ThingOk.j0 k true aa ab ac af ag ae aj ai ak) else (spec_ThingOk.j0 k (decide (ai > (wrap64 (fH - aj)))) aa ab ac af ag ae aj ai ak)))))) = some r := h
 clear h
 obtain ⟨fH, A3, H⟩ := bnd H
 try dsimp only at H
 have kk := Aside0.mk H
 clear H
 go_enter Tryd.func12, Tryd.ntmps12
 go_upto_region 2 with (first | ((with_reducible refine gate_dst (N := 2) rfl ?_); refine box_ev 2 #[aa, ab, ac, af, ag, ae] 25 ?_; intro df hg w5 hbox hb; have bs := am (hbox); have WC := am ((q63t : w.heap.size ≤ df)); have WD := am ((q63t : w.heap.size ≤ df)); replace HB := am (below_step q68t hb); clear hb hbox hg) | ((with_reducible refine gate_dst (N := 3) rfl ?_); refine box_ev 3 #[aj, ai, ak] 33 ?_; intro e8 hg w6 hbox hb; have bi := am (hbox); have WE := am ((q41t : w.heap.size ≤ e8)); have WF := am ((q41t : w.heap.size ≤ e8)); replace HB := am (below_step q47t hb); have lb := am ((by rw [hg]; exact Nat.ne_of_lt (blk_lt (qbk bs)) : df ≠ e8)); have lc := am ((by rw [hg]; exact Nat.ne_of_gt (blk_lt (qbk bs)) : e8 ≠ df)); replace bs := blb bs hb; clear hb hbox hg; have D8 := lb.out; have D9 := lc.out; have uP := qc6 bs.out; have uQ := qf6 bs.out) | ((with_reducible refine gate_callee (f := 42) rfl ?_); refine goesL_ (some 7) rfl rfl Tryd.func42 (by kernel_rfl) rfl #[.agg #[aa, ab, ac, af, ag, ae]] rfl q66t ?_; (with_reducible refine (spec_BytesOf.calls aa ab ac af ag ae fH _ A3.out).mono ?_); rintro e w9 ⟨rfl, hb⟩; refine ⟨_, rfl, ?_⟩; replace bs := blb bs hb; replace bi := blb bi hb; replace HB := am (below_step q47t hb); (try clear hb); (try clear hb2); (try clear hk); (try clear hi)))
 (try simp only [Act.put, List.setIfInBounds_toArray, List.set_cons_zero, List.set_cons_succ])
 go_cut [34] (fun v34 wc => ∃ (kq : Nat) (vz : Bool), v34 = .bool vz ∧ Aside0 (spec_ThingOk.j0 kq vz aa ab ac af ag ae aj ai ak = some r) ∧ Aside0 (kq ≤ k) ∧ Aside0 (wc.heap[df]? = some (.cells #[aa, ab, ac, af, ag, ae] 25 (0, 0))) ∧ Aside0 (wc.heap[e8]? = some (.cells #[aj, ai, ak] 33 (0, 0))) ∧ Aside0 (Below w.heap.size w wc))
 case first =>
  have H := kk.out
  clear kk
  by_cases c10 : fH = 0
  ·rw [if_pos c10] at H
   have eN : (fH == 0) = true := beq_iff_eq.mpr c10
   have jK : (fH != 0) = false := bne_eq_false_iff_eq.mpr c10
   clear c10
   (first | rw [eN] | (simp only [i64_w, i32_w]; rw [eN]) | skip)
   have H' := Aside0.mk H
   clear H
   go_wp2
   go_meet
   case rel => exact ⟨_, (true), q121t, H', ⟨q122t⟩, ⟨qbk bs⟩, ⟨qbk bi⟩, ⟨q47t⟩⟩
  rw [if_neg c10] at H
  have eN : (fH == 0) = false := beq_eq_false_iff_ne.mpr c10
  have jK : (fH != 0) = true := bne_iff_ne.mpr c10
  (first | rw [eN] | (simp only [i64_w, i32_w]; rw [eN]) | skip)
  by_cases c11 : ai < 1
  ·rw [if_pos c11] at H
   have kB : decide (ai < 1) = true := decide_eq_true c11
   clear c11
   have H' := Aside0.mk H
   clear H
   have wl := lc.out
   have wm := lb.out
   have kE := qc3 bi.out
   have kF := qf3 bi.out
   go_wp2
   go_meet
   case rel => exact ⟨_, (true), q121t, H', ⟨q122t⟩, ⟨qbk bs⟩, ⟨qbk bi⟩, ⟨q47t⟩⟩
  rw [if_neg c11] at H
  have kB : decide (ai < 1) = false := decide_eq_false c11
  clear c11
  by_cases c14 : aj < 0
  ·rw [if_pos c14] at H
   have vo : decide (aj < 0) = true := decide_eq_true c14
   clear c14
   have H' := Aside0.mk H
   clear H
   have wY := lc.out
   have wZ := lb.out
   have lZ := qc3 bi.out
   have l3 := qf3 bi.out
   go_wp2
   go_meet
   case rel => exact ⟨_, (true), q121t, H', ⟨q122t⟩, ⟨qbk bs⟩, ⟨qbk bi⟩, ⟨q47t⟩⟩
  rw [if_neg c14] at H
  have vo : decide (aj < 0) = false := decide_eq_false c14
  clear c14
  by_cases c17 : aj > fH
  ·rw [if_pos c17] at H
   have vA : decide (fH < aj) = true := decide_eq_true c17
   clear c17
   have H' := Aside0.mk H
   clear H
   have Br := lc.out
   have Bs := lb.out
   have po := qc3 bi.out
   have ky := qf3 bi.out
   go_wp2
   go_meet
   case rel => exact ⟨_, (true), q121t, H', ⟨q122t⟩, ⟨qbk bs⟩, ⟨qbk bi⟩, ⟨q47t⟩⟩
  rw [if_neg c17] at H
  have vA : decide (fH < aj) = false := decide_eq_false c17
  clear c17
  have H' := Aside0.mk H
  clear H
  have sd := lc.out
  have se := lb.out
  have k0 := qc3 bi.out
  have ij := qf3 bi.out
  go_wp2
  go_meet
  case rel => exact ⟨_, (decide (ai > (wrap64 (fH - aj)))), q121t, H', ⟨q122t⟩, ⟨qbk bs⟩, ⟨qbk bi⟩, ⟨q47t⟩⟩
 case rest =>
  clear kk
  try clear c1
  try clear c2
  try clear p2
  try clear c4
  try clear p6
  try clear c7
  try clear c10
  try clear eN
  try clear jK
  try clear c11
  try clear kB
  try clear c12
  try clear c14
  try clear vo
  try clear c15
  try clear c17
  try clear vA
  try clear c18
  try clear c20
  try clear kE
  try clear lZ
  try clear po
  try clear k0
  try clear uP
  try clear kF
  try clear l3
  try clear ky
  try clear ij
  try clear uQ
  obtain ⟨kq, vz, rfl, HA, Dp, bs, bi, HB⟩ := hcut
  cases kq with
  | zero => exact absurd HA.out (by simp [spec_ThingOk.j0])
  | succ kj3 =>
   have H := HA.out
   clear HA
   simp only [spec_ThingOk.j0] at H
   by_cases c22 : vz = true
   ·subst c22
    rw [if_pos rfl] at H
    obtain rfl := Option.some.inj H
    go_wp2
    go_ret
    exact ⟨q114t, q47t⟩
   replace c22 := Bool.eq_false_iff.mpr c22
   subst c22
   rw [if_neg (show ¬ (false = true) by decide)] at H
   by_cases c23 : ak = 0
   ·rw [if_pos c23] at H
    have yR : (ak == 0) = true := beq_iff_eq.mpr c23
    have LC : (ak != 0) = false := bne_eq_false_iff_eq.mpr c23
    clear c23
    by_cases c24 : ai ≤ ab
    ·rw [if_pos c24] at H
     have iQ : decide (ai ≤ ab) = true := decide_eq_true c24
     clear c24
     by_cases c25 : ab = 0
     ·rw [if_pos c25] at H
      exact absurd H q126t
     rw [if_neg c25] at H
     have WG : (ab == 0) = false := beq_eq_false_iff_ne.mpr c25
     have WH : (ab != 0) = true := bne_iff_ne.mpr c25
     obtain rfl := Option.some.inj H
     have qO := lc.out
     have qP := lb.out
     have gJ := qc3 bi.out
     have gj := qf3 bi.out
     try go_wp2
     (try (rw [drewN_self wc]; generalize hq_ : World.drewN wc _ = wc; have hh_ := congrArg World.heap hq_; dsimp only [World.drewN] at hh_; have zb_ : Below w.heap.size w wc := (by rw [← hq_]; exact pw_below_drewN HB.out _); have z_ := bs.out; rw [hh_] at z_; clear bs; have bs := Aside0.mk z_; clear z_; have z_ := bi.out; rw [hh_] at z_; clear bi; have bi := Aside0.mk z_; clear z_; clear HB; have HB := Aside0.mk zb_; clear zb_ hh_ hq_))
     replace bs := am (blk_drew bs.out)
     replace bi := am (blk_drew bi.out)
     replace HB := am (below_drew1 HB.out)
     refine start_ (n := 23) (S := fun w' => w'.cell? ⟨e8, 0, none⟩ = some (.int .i64 aj) ∧ w'.cell? ⟨e8, 1, none⟩ = some (.int .i64 ai) ∧ w'.cell? ⟨e8, 2, none⟩ = some (.int .i64 ak) ∧ w'.cell? ⟨df, 0, none⟩ = some (.int .i64 aa) ∧ w'.cell? ⟨df, 1, none⟩ = some (.int .i64 ab) ∧ w'.cell? ⟨df, 2, none⟩ = some (.int .i64 ac) ∧ w'.cell? ⟨df, 3, none⟩ = some (.int .i64 af) ∧ w'.cell? ⟨df, 4, none⟩ = some (.int .i64 ag) ∧ w'.cell? ⟨df, 5, none⟩ = some (.int .i64 ae)) (ds := []) (bm 23 0) (by kernel_rfl) rfl (by kernel_rfl) qst (fun hHeld => ?_); refine with_tabW spec_ThingOk.tab5 spec_ThingOk.bits5 (fun HT_ HW_ => ?_)
     generalize wc.drew = w28 at bs bi HB hHeld ⊢
     refine pv_ 0 38 (bm 23 1) ?_
     refine pv_ 2 40 (bm 23 5) ?_
     refine tv_ 1 39 (bm 23 7) ?_
     refine tv_ 3 41 (bm 23 15) ?_
     refine pv_ 4 42 (bm 23 31) ?_
     refine pv_ 5 43 (bm 23 63) ?_
     refine pv_ 6 44 (bm 23 127) ?_
     refine pv_ 8 46 (bm 23 383) ?_
     refine pv_ 11 49 (bm 23 2431) ?_
     refine pv_ 13 51 (bm 23 10623) ?_
     refine pv_ 17 55 (bm 23 141695) ?_
     refine tv_ 7 45 (bm 23 141823) ?_
     refine tv_ 9 47 (bm 23 142335) ?_
     refine pv_ 10 48 (bm 23 143359) ?_
     refine tv_ 12 50 (bm 23 147455) ?_
     refine tv_ 14 52 (bm 23 163839) ?_
     refine pv_ 15 53 (bm 23 196607) ?_
     refine pv_ 16 54 (bm 23 262143) ?_
     refine tv_ 18 56 (bm 23 524287) ?_
     refine pv_ 19 57 (bm 23 1048575) ?_
     refine pv_ 20 58 (bm 23 2097151) ?_
     refine pv_ 21 59 (bm 23 4194303) ?_
     refine pv_ 22 4 (bm 23 8388607) ?_
     refine done_ (done_of HT_.out (by kernel_rfl)) ?_
     try go_wp2
     go_ret
     exact ⟨q114t, q47t⟩
    rw [if_neg c24] at H
    have iQ : decide (ai ≤ ab) = false := decide_eq_false c24
    clear c24
    obtain rfl := Option.some.inj H
    have uK := lc.out
    have uL := lb.out
    have rZ := qc3 bi.out
    have qh := qf3 bi.out
    try go_wp2
    (try (rw [drewN_self wc]; generalize hq_ : World.drewN wc _ = wc; have hh_ := congrArg World.heap hq_; dsimp only [World.drewN] at hh_; have zb_ : Below w.heap.size w wc := (by rw [← hq_]; exact pw_below_drewN HB.out _); have z_ := bs.out; rw [hh_] at z_; clear bs; have bs := Aside0.mk z_; clear z_; have z_ := bi.out; rw [hh_] at z_; clear bi; have bi := Aside0.mk z_; clear z_; clear HB; have HB := Aside0.mk zb_; clear zb_ hh_ hq_))
    replace bs := am (blk_drew bs.out)
    replace bi := am (blk_drew bi.out)
    replace HB := am (below_drew1 HB.out)
    refine start_ (n := 23) (S := fun w' => w'.cell? ⟨e8, 0, none⟩ = some (.int .i64 aj) ∧ w'.cell? ⟨e8, 1, none⟩ = some (.int .i64 ai) ∧ w'.cell? ⟨e8, 2, none⟩ = some (.int .i64 ak) ∧ w'.cell? ⟨df, 0, none⟩ = some (.int .i64 aa) ∧ w'.cell? ⟨df, 1, none⟩ = some (.int .i64 ab) ∧ w'.cell? ⟨df, 2, none⟩ = some (.int .i64 ac) ∧ w'.cell? ⟨df, 3, none⟩ = some (.int .i64 af) ∧ w'.cell? ⟨df, 4, none⟩ = some (.int .i64 ag) ∧ w'.cell? ⟨df, 5, none⟩ = some (.int .i64 ae)) (ds := []) (bm 23 0) (by kernel_rfl) rfl (by kernel_rfl) qst (fun hHeld => ?_); refine with_tabW spec_ThingOk.tab5 spec_ThingOk.bits5 (fun HT_ HW_ => ?_)
    generalize wc.drew = w31 at bs bi HB hHeld ⊢
    refine pv_ 0 38 (bm 23 1) ?_
    refine pv_ 2 40 (bm 23 5) ?_
    refine tv_ 1 39 (bm 23 7) ?_
    refine tv_ 3 41 (bm 23 15) ?_
    refine pv_ 4 42 (bm 23 31) ?_
    refine pv_ 5 43 (bm 23 63) ?_
    refine pm_ 6 44 (bm 23 127) ?_
    refine pm_ 7 45 (bm 23 255) ?_
    refine pm_ 8 46 (bm 23 511) ?_
    refine pm_ 9 47 (bm 23 1023) ?_
    refine pm_ 10 48 (bm 23 2047) ?_
    refine pm_ 11 49 (bm 23 4095) ?_
    refine pm_ 12 50 (bm 23 8191) ?_
    refine pm_ 13 51 (bm 23 16383) ?_
    refine pm_ 14 52 (bm 23 32767) ?_
    refine pm_ 15 53 (bm 23 65535) ?_
    refine pm_ 16 54 (bm 23 131071) ?_
    refine pm_ 17 55 (bm 23 262143) ?_
    refine pm_ 18 56 (bm 23 524287) ?_
    refine pm_ 19 57 (bm 23 1048575) ?_
    refine pm_ 20 58 (bm 23 2097151) ?_
    refine pv_ 21 59 (bm 23 4194303) ?_
    refine pv_ 22 4 (bm 23 8388607) ?_
    refine done_ (done_of HT_.out (by kernel_rfl)) ?_
    try go_wp2
    go_ret
    exact ⟨q114t, q47t⟩
   rw [if_neg c23] at H
   have yR : (ak == 0) = false := beq_eq_false_iff_ne.mpr c23
   have LC : (ak != 0) = true := bne_iff_ne.mpr c23
   obtain ⟨y7, y8, H⟩ := bnd H
   try dsimp only at H
   by_cases c33 : y7 = true
   ·subst c33
    rw [if_pos rfl] at H
    obtain ⟨mH, ld, H⟩ := bnd H
    try dsimp only at H
    by_cases c35 : ak = mH
    ·rw [if_pos c35] at H
     have EX : (ak == mH) = true := beq_iff_eq.mpr c35
     have EY : (ak != mH) = false := bne_eq_false_iff_eq.mpr c35
     clear c35
     by_cases c36 : ab = 0
     ·rw [if_pos c36] at H
      exact absurd H q126t
     rw [if_neg c36] at H
     have WI : (ab == 0) = false := beq_eq_false_iff_ne.mpr c36
     have WJ : (ab != 0) = true := bne_iff_ne.mpr c36
     obtain rfl := Option.some.inj H
     have xH := lc.out
     have xI := lb.out
     have uv := qc3 bi.out
     have uw := qf3 bi.out
     try go_wp2
     (try (rw [drewN_self wc]; generalize hq_ : World.drewN wc _ = wc; have hh_ := congrArg World.heap hq_; dsimp only [World.drewN] at hh_; have zb_ : Below w.heap.size w wc := (by rw [← hq_]; exact pw_below_drewN HB.out _); have z_ := bs.out; rw [hh_] at z_; clear bs; have bs := Aside0.mk z_; clear z_; have z_ := bi.out; rw [hh_] at z_; clear bi; have bi := Aside0.mk z_; clear z_; clear HB; have HB := Aside0.mk zb_; clear zb_ hh_ hq_))
     replace bs := am (blk_drew bs.out)
     replace bi := am (blk_drew bi.out)
     replace HB := am (below_drew1 HB.out)
     refine start_ (n := 22) (S := fun w' => w'.cell? ⟨df, 0, none⟩ = some (.int .i64 aa) ∧ w'.cell? ⟨df, 1, none⟩ = some (.int .i64 ab) ∧ w'.cell? ⟨df, 2, none⟩ = some (.int .i64 ac) ∧ w'.cell? ⟨df, 3, none⟩ = some (.int .i64 af) ∧ w'.cell? ⟨df, 4, none⟩ = some (.int .i64 ag) ∧ w'.cell? ⟨df, 5, none⟩ = some (.int .i64 ae) ∧ w'.cell? ⟨e8, 0, none⟩ = some (.int .i64 aj) ∧ w'.cell? ⟨e8, 1, none⟩ = some (.int .i64 ai) ∧ w'.cell? ⟨e8, 2, none⟩ = some (.int .i64 ak)) (ds := []) (bm 22 0) (by kernel_rfl) rfl (by kernel_rfl) qst (fun hHeld => ?_); refine with_tabW spec_ThingOk.tab6 spec_ThingOk.bits6 (fun HT_ HW_ => ?_)
     generalize wc.drew = w39 at bs bi HB hHeld ⊢
     refine pv_ 1 61 (bm 22 2) ?_
     refine tv_ 0 60 (bm 22 3) ?_
     refine tv_ 2 62 (bm 22 7) ?_
     refine one_ (i := 3) (N := some 63) (bm 22 15) rfl rfl (one_of HT_.out (by kernel_rfl)) q125t (fun K hK => ?_)
     refine goes_ Tryd.func43 (by kernel_rfl) rfl #[.agg #[aa, ab, ac, af, ag, ae], ai] q127t rfl rfl q66t ?_
     with_reducible refine (spec_IsLarge.calls aa ab ac af ag ae ai true _ y8.out).mono ?_
     rintro e w40 ⟨rfl, hb⟩
     refine ⟨_, rfl, ?_⟩
     replace bs := blb bs hb
     replace bi := blb bi hb
     replace HB := am (below_step q47t hb)
     (try clear hb)
     (try clear hb2)
     (try clear hk)
     (try clear hi)
     refine hK.out _ _ q10t (fun hHeld => ?_)
     clear hK K
     refine norm_ (a' := ?_) ?_ ?_
     rotate_left
     ·show Act.put _ (some 63) _ = _
      simp only [Act.put, List.setIfInBounds_toArray, List.set_cons_zero, List.set_cons_succ, i64_w, i32_w]
      rfl
     refine pv_ 4 64 (bm 22 31) ?_
     refine pv_ 5 65 (bm 22 63) ?_
     refine pv_ 8 68 (bm 22 319) ?_
     refine tv_ 6 66 (bm 22 383) ?_
     refine tv_ 7 67 (bm 22 511) ?_
     refine tv_ 9 69 (bm 22 1023) ?_
     refine one_ (i := 10) (N := some 70) (bm 22 2047) rfl rfl (one_of HT_.out (by kernel_rfl)) q125t (fun K hK => ?_)
     refine goes_ Tryd.func44 (by kernel_rfl) rfl #[.agg #[aa, ab, ac, af, ag, ae], ai] q127t rfl rfl q66t ?_
     with_reducible refine (spec_ChunksFor.calls aa ab ac af ag ae ai mH _ ld.out).mono ?_
     rintro e w41 ⟨rfl, hb⟩
     refine ⟨_, rfl, ?_⟩
     replace bs := blb bs hb
     replace bi := blb bi hb
     replace HB := am (below_step q47t hb)
     (try clear hb)
     (try clear hb2)
     (try clear hk)
     (try clear hi)
     refine hK.out _ _ q10t (fun hHeld => ?_)
     clear hK K
     refine norm_ (a' := ?_) ?_ ?_
     rotate_left
     ·show Act.put _ (some 70) _ = _
      simp only [Act.put, List.setIfInBounds_toArray, List.set_cons_zero, List.set_cons_succ, i64_w, i32_w]
      rfl
     refine pv_ 11 71 (bm 22 4095) ?_
     refine pv_ 12 72 (bm 22 8191) ?_
     refine pv_ 13 73 (bm 22 16383) ?_
     refine pv_ 14 74 (bm 22 32767) ?_
     refine pv_ 16 76 (bm 22 98303) ?_
     refine tv_ 15 75 (bm 22 131071) ?_
     refine tv_ 17 77 (bm 22 262143) ?_
     refine pv_ 18 78 (bm 22 524287) ?_
     refine pv_ 19 79 (bm 22 1048575) ?_
     refine pv_ 20 80 (bm 22 2097151) ?_
     refine pv_ 21 4 (bm 22 4194303) ?_
     refine done_ (done_of HT_.out (by kernel_rfl)) ?_
     try go_wp2
     go_ret
     exact ⟨q114t, q47t⟩
    rw [if_neg c35] at H
    have EX : (ak == mH) = false := beq_eq_false_iff_ne.mpr c35
    have EY : (ak != mH) = true := bne_iff_ne.mpr c35
    obtain rfl := Option.some.inj H
    have Et := lc.out
    have Eu := lb.out
    have y9 := qc3 bi.out
    have za := qf3 bi.out
    try go_wp2
    (try (rw [drewN_self wc]; generalize hq_ : World.drewN wc _ = wc; have hh_ := congrArg World.heap hq_; dsimp only [World.drewN] at hh_; have zb_ : Below w.heap.size w wc := (by rw [← hq_]; exact pw_below_drewN HB.out _); have z_ := bs.out; rw [hh_] at z_; clear bs; have bs := Aside0.mk z_; clear z_; have z_ := bi.out; rw [hh_] at z_; clear bi; have bi := Aside0.mk z_; clear z_; clear HB; have HB := Aside0.mk zb_; clear zb_ hh_ hq_))
    replace bs := am (blk_drew bs.out)
    replace bi := am (blk_drew bi.out)
    replace HB := am (below_drew1 HB.out)
    refine start_ (n := 22) (S := fun w' => w'.cell? ⟨df, 0, none⟩ = some (.int .i64 aa) ∧ w'.cell? ⟨df, 1, none⟩ = some (.int .i64 ab) ∧ w'.cell? ⟨df, 2, none⟩ = some (.int .i64 ac) ∧ w'.cell? ⟨df, 3, none⟩ = some (.int .i64 af) ∧ w'.cell? ⟨df, 4, none⟩ = some (.int .i64 ag) ∧ w'.cell? ⟨df, 5, none⟩ = some (.int .i64 ae) ∧ w'.cell? ⟨e8, 0, none⟩ = some (.int .i64 aj) ∧ w'.cell? ⟨e8, 1, none⟩ = some (.int .i64 ai) ∧ w'.cell? ⟨e8, 2, none⟩ = some (.int .i64 ak)) (ds := []) (bm 22 0) (by kernel_rfl) rfl (by kernel_rfl) qst (fun hHeld => ?_); refine with_tabW spec_ThingOk.tab6 spec_ThingOk.bits6 (fun HT_ HW_ => ?_)
    generalize wc.drew = w44 at bs bi HB hHeld ⊢
    refine pv_ 1 61 (bm 22 2) ?_
    refine tv_ 0 60 (bm 22 3) ?_
    refine tv_ 2 62 (bm 22 7) ?_
    refine one_ (i := 3) (N := some 63) (bm 22 15) rfl rfl (one_of HT_.out (by kernel_rfl)) q125t (fun K hK => ?_)
    refine goes_ Tryd.func43 (by kernel_rfl) rfl #[.agg #[aa, ab, ac, af, ag, ae], ai] q127t rfl rfl q66t ?_
    with_reducible refine (spec_IsLarge.calls aa ab ac af ag ae ai true _ y8.out).mono ?_
    rintro e w45 ⟨rfl, hb⟩
    refine ⟨_, rfl, ?_⟩
    replace bs := blb bs hb
    replace bi := blb bi hb
    replace HB := am (below_step q47t hb)
    (try clear hb)
    (try clear hb2)
    (try clear hk)
    (try clear hi)
    refine hK.out _ _ q10t (fun hHeld => ?_)
    clear hK K
    refine norm_ (a' := ?_) ?_ ?_
    rotate_left
    ·show Act.put _ (some 63) _ = _
     simp only [Act.put, List.setIfInBounds_toArray, List.set_cons_zero, List.set_cons_succ, i64_w, i32_w]
     rfl
    refine pv_ 4 64 (bm 22 31) ?_
    refine pv_ 5 65 (bm 22 63) ?_
    refine pv_ 8 68 (bm 22 319) ?_
    refine tv_ 6 66 (bm 22 383) ?_
    refine tv_ 7 67 (bm 22 511) ?_
    refine tv_ 9 69 (bm 22 1023) ?_
    refine one_ (i := 10) (N := some 70) (bm 22 2047) rfl rfl (one_of HT_.out (by kernel_rfl)) q125t (fun K hK => ?_)
    refine goes_ Tryd.func44 (by kernel_rfl) rfl #[.agg #[aa, ab, ac, af, ag, ae], ai] q127t rfl rfl q66t ?_
    with_reducible refine (spec_ChunksFor.calls aa ab ac af ag ae ai mH _ ld.out).mono ?_
    rintro e w46 ⟨rfl, hb⟩
    refine ⟨_, rfl, ?_⟩
    replace bs := blb bs hb
    replace bi := blb bi hb
    replace HB := am (below_step q47t hb)
    (try clear hb)
    (try clear hb2)
    (try clear hk)
    (try clear hi)
    refine hK.out _ _ q10t (fun hHeld => ?_)
    clear hK K
    refine norm_ (a' := ?_) ?_ ?_
    rotate_left
    ·show Act.put _ (some 70) _ = _
     simp only [Act.put, List.setIfInBounds_toArray, List.set_cons_zero, List.set_cons_succ, i64_w, i32_w]
     rfl
    refine pv_ 11 71 (bm 22 4095) ?_
    refine pv_ 12 72 (bm 22 8191) ?_
    refine pv_ 13 73 (bm 22 16383) ?_
    refine pm_ 14 74 (bm 22 32767) ?_
    refine pm_ 15 75 (bm 22 65535) ?_
    refine pm_ 16 76 (bm 22 131071) ?_
    refine pm_ 17 77 (bm 22 262143) ?_
    refine pm_ 18 78 (bm 22 524287) ?_
    refine pm_ 19 79 (bm 22 1048575) ?_
    refine pv_ 20 80 (bm 22 2097151) ?_
    refine pv_ 21 4 (bm 22 4194303) ?_
    refine done_ (done_of HT_.out (by kernel_rfl)) ?_
    try go_wp2
    go_ret
    exact ⟨q114t, q47t⟩
   replace c33 := Bool.eq_false_iff.mpr c33
   subst c33
   rw [if_neg (show ¬ (false = true) by decide)] at H
   obtain rfl := Option.some.inj H
   have wB := lc.out
   have wC := lb.out
   have zb := qc3 bi.out
   have zc := qf3 bi.out
   try go_wp2
   (try (rw [drewN_self wc]; generalize hq_ : World.drewN wc _ = wc; have hh_ := congrArg World.heap hq_; dsimp only [World.drewN] at hh_; have zb_ : Below w.heap.size w wc := (by rw [← hq_]; exact pw_below_drewN HB.out _); have z_ := bs.out; rw [hh_] at z_; clear bs; have bs := Aside0.mk z_; clear z_; have z_ := bi.out; rw [hh_] at z_; clear bi; have bi := Aside0.mk z_; clear z_; clear HB; have HB := Aside0.mk zb_; clear zb_ hh_ hq_))
   replace bs := am (blk_drew bs.out)
   replace bi := am (blk_drew bi.out)
   replace HB := am (below_drew1 HB.out)
   refine start_ (n := 22) (S := fun w' => w'.cell? ⟨df, 0, none⟩ = some (.int .i64 aa) ∧ w'.cell? ⟨df, 1, none⟩ = some (.int .i64 ab) ∧ w'.cell? ⟨df, 2, none⟩ = some (.int .i64 ac) ∧ w'.cell? ⟨df, 3, none⟩ = some (.int .i64 af) ∧ w'.cell? ⟨df, 4, none⟩ = some (.int .i64 ag) ∧ w'.cell? ⟨df, 5, none⟩ = some (.int .i64 ae) ∧ w'.cell? ⟨e8, 0, none⟩ = some (.int .i64 aj) ∧ w'.cell? ⟨e8, 1, none⟩ = some (.int .i64 ai) ∧ w'.cell? ⟨e8, 2, none⟩ = some (.int .i64 ak)) (ds := []) (bm 22 0) (by kernel_rfl) rfl (by kernel_rfl) qst (fun hHeld => ?_); refine with_tabW spec_ThingOk.tab6 spec_ThingOk.bits6 (fun HT_ HW_ => ?_)
   generalize wc.drew = w49 at bs bi HB hHeld ⊢
   refine pv_ 1 61 (bm 22 2) ?_
   refine tv_ 0 60 (bm 22 3) ?_
   refine tv_ 2 62 (bm 22 7) ?_
   refine one_ (i := 3) (N := some 63) (bm 22 15) rfl rfl (one_of HT_.out (by kernel_rfl)) q125t (fun K hK => ?_)
   refine goes_ Tryd.func43 (by kernel_rfl) rfl #[.agg #[aa, ab, ac, af, ag, ae], ai] q127t rfl rfl q66t ?_
   with_reducible refine (spec_IsLarge.calls aa ab ac af ag ae ai false _ y8.out).mono ?_
   rintro e w50 ⟨rfl, hb⟩
   refine ⟨_, rfl, ?_⟩
   replace bs := blb bs hb
   replace bi := blb bi hb
   replace HB := am (below_step q47t hb)
   (try clear hb)
   (try clear hb2)
   (try clear hk)
   (try clear hi)
   refine hK.out _ _ q10t (fun hHeld => ?_)
   clear hK K
   refine norm_ (a' := ?_) ?_ ?_
   rotate_left
   ·show Act.put _ (some 63) _ = _
    simp only [Act.put, List.setIfInBounds_toArray, List.set_cons_zero, List.set_cons_succ, i64_w, i32_w]
    rfl
   refine pv_ 4 64 (bm 22 31) ?_
   refine pm_ 5 65 (bm 22 63) ?_
   refine pm_ 6 66 (bm 22 127) ?_
   refine pm_ 7 67 (bm 22 255) ?_
   refine pm_ 8 68 (bm 22 511) ?_
   refine pm_ 9 69 (bm 22 1023) ?_
   refine pm_ 10 70 (bm 22 2047) ?_
   refine pm_ 11 71 (bm 22 4095) ?_
   refine pv_ 12 72 (bm 22 8191) ?_
   refine pv_ 13 73 (bm 22 16383) ?_
   refine pm_ 14 74 (bm 22 32767) ?_
   refine pm_ 15 75 (bm 22 65535) ?_
   refine pm_ 16 76 (bm 22 131071) ?_
   refine pm_ 17 77 (bm 22 262143) ?_
   refine pm_ 18 78 (bm 22 524287) ?_
   refine pm_ 19 79 (bm 22 1048575) ?_
   refine pv_ 20 80 (bm 22 2097151) ?_
   refine pv_ 21 4 (bm 22 4194303) ?_
   refine done_ (done_of HT_.out (by kernel_rfl)) ?_
   try go_wp2
   go_ret
   exact ⟨q114t, q47t⟩

end Go.Proofs.YtofpmdgndegalacDoor.QFnNodes
