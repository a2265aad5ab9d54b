/- What the functions that the law FnNodes reaches compute, as plain functions, and that the code computes just that (by a program of this session's; the library's functions by hand). No condition. -/
import Derived.Test.YtofpmdgndegalacDoorQFnNodesx0
import Derived.Test.YtofpmdgndegalacDoorQFnNodesx2
namespace Go.Proofs.YtofpmdgndegalacDoor.QFnNodes
open Go.RowKit Go.Proofs.YtofpmdgndegalacDoorW.PrintWords Go.Proofs.YtofpmdgndegalacDoorW.PrintLast Go.Proofs.YtofpmdgndegalacDoorW.PrintMore
attribute [local go_sem] max2_int min2_int max_two min_two max_three min_three max_four min_four   -- for this text's walks alone
set_option linter.unusedVariables false
set_option linter.unusedSimpArgs false

/-! ### spec_l7Thing: function 29 -/
def spec_l7Thing.j0 : Nat → Bool → List Int → Int → Int → Int → Int → Int → Int → Int → Int → Option (Int × Int × Int × Int × Int)
 | 0, _, _, _, _, _, _, _, _, _, _ => none
 | k + 1, x13, eJ, fE, fF, AX, py, OO, OP, OQ, OR => if x13 = true then ((spec_l1Below.f eJ fE fF (wrap64 (AX - 1))).bind fun vV => ((spec_l1Below.f eJ vV.2.1 vV.2.2 py).bind fun vW => (some (wrap64 (py * vV.1), wrap64 ((wrap64 (py + 1)) + vW.1), 2, vW.2.1, vW.2.2)))) else ((spec_l1Below.f eJ fE fF AX).bind fun vX => ((spec_l1Below.f eJ vX.2.1 vX.2.2 py).bind fun tL => ((spec_l1Below.f eJ tL.2.1 tL.2.2 (wrap64 (py - tL.1))).bind fun vY => (some (wrap64 ((wrap64 (vX.1 * py)) + tL.1), wrap64 (1 + vY.1), 0, vY.2.1, vY.2.2)))))
def spec_l7Thing.f (k : Nat) (ah : List Int) (a5 : Int) (a7 : Int) (aj : Int) (ai : Int) (ak : Int) (ap : Int) (aq : Int) (ao : Int) : Option (Int × Int × Int × Int × Int) := (spec_l1Once.f ah a5 a7 4).bind fun jT => (if jT.1 = true then (spec_l7Thing.j0 k (decide (aj > 2)) ah jT.2.1 jT.2.2 aj ai ak ap aq ao) else (spec_l7Thing.j0 k false ah jT.2.1 jT.2.2 aj ai ak ap aq ao))
def spec_l7Thing.T2 : Bool × List (List Nat × List Nat) := (true, [([], []), ([0], [0]), ([], []), ([], []), ([3], [3]), ([4], [4]), ([2, 5], [2, 5]), ([1, 6], [1, 6]), ([], []), ([8], [8]), ([9], [9]), ([], []), ([], []), ([12], [12]), ([11, 13, 6], [11, 13]), ([10, 14], [10, 14]), ([7, 15], [7, 15]), ([16, 14, 0, 1, 2, 3, 4, 5, 6, 7, 8, 9, 10, 11, 12, 13, 14, 15, 16], [16])])
def spec_l7Thing.B2 : List Nat := [0, 1, 0, 0, 8, 24, 60, 127, 0, 256, 768, 0, 0, 4096, 14460, 32636, 65535, 131071]
theorem spec_l7Thing.tab2 : rtab .any (opsOf Tryd.f29 2) = spec_l7Thing.T2 := by kernel_rfl
theorem spec_l7Thing.bits2 : waitsOk spec_l7Thing.T2.2 spec_l7Thing.B2 = true := by kernel_rfl
def spec_l7Thing.T5 : Bool × List (List Nat × List Nat) := (true, [([], []), ([], []), ([1], [1]), ([0, 2], [0, 2]), ([], []), ([3, 4], [3, 4]), ([], []), ([], []), ([7], [7]), ([], []), ([8, 9], [8, 9]), ([6, 10], [6, 10]), ([11], [11]), ([5, 12], [5, 12]), ([13, 11, 0, 1, 2, 3, 4, 5, 6, 7, 8, 9, 10, 11, 12, 13], [13])])
def spec_l7Thing.B5 : List Nat := [0, 0, 2, 7, 0, 31, 0, 0, 128, 0, 896, 1984, 4032, 8191, 16383]
theorem spec_l7Thing.tab5 : rtab .any (opsOf Tryd.f29 5) = spec_l7Thing.T5 := by kernel_rfl
theorem spec_l7Thing.bits5 : waitsOk spec_l7Thing.T5.2 spec_l7Thing.B5 = true := by kernel_rfl
set_option maxHeartbeats 8000000 in
set_option maxRecDepth 100000 in
theorem spec_l7Thing.calls (k : Nat) (g : Nat) (ah : List Int) (a5 : Int) (a7 : Int) (aj : Int) (ai : Int) (ak : Int) (ap : Int) (aq : Int) (ao : Int) (r1 : Int) (r2 : Int) (r3 : Int) (r4 : Int) (r5 : Int) (w0 w : World) (hI : IsS69 w0 w g ah a5 a7) (hB : Below w0.heap.size w0 w) (h : spec_l7Thing.f k ah a5 a7 aj ai ak ap aq ao = some (r1, r2, r3, r4, r5)) :
  Calls Tryd.prog 29 #[.pointer (some ⟨g, 0, none⟩), .agg #[aj, ai, ak, ap, aq, ao]] w fun e w' => e = .returned (.agg #[r1, r2, r3]) ∧ IsS69 w0 w' g ah r4 r5 ∧ Below w0.heap.size w0 w' ∧ KeepBut w w' g none := by
 have hu25 := Tryd.underlying25
 have hu33 := Tryd.underlying33
 have HI0 := Aside0.mk hI
 have HK := am (KeepBut.refl w g none)
 have HL := Aside0.mk hB.size
 clear hI
 have HW0 := Aside0.mk hB.size
 have HB := Aside0.mk hB
 clear hB
 have H : ((spec_l1Once.f ah a5 a7 4).bind fun jT => (if jT.1 = true then (spec_l7Thing.j0 k (decide (aj > 2)) ah jT.2.1 jT.2.2 aj ai ak ap aq ao) else (spec_l7Thing.j0 k false ah jT.2.1 jT.2.2 aj ai ak ap aq ao))) = some (r1, r2, r3, r4, r5) := h
 clear h
 have eK := Aside0.mk H
 clear H
 go_enter Tryd.func29, Tryd.ntmps29
 go_upto_region 1 with (first | ((with_reducible refine gate_dst (N := 3) rfl ?_); refine box_ev 3 #[aj, ai, ak, ap, aq, ao] 25 ?_; intro eY hg w4 hbox hb; replace HB := am (below_step q60t hb); have cE := am (hbox); have AL := am ((q46t : w.heap.size ≤ eY)); have OS := am ((Nat.le_trans HW0.out (q46t : w.heap.size ≤ eY) : w0.heap.size ≤ eY)); replace HK := am (KeepBut.trans q64t (KeepBut.of_below hb g none) (.inl rfl)); have AY := am ((q18t : g ≠ eY)); have lN := am ((q19t : eY ≠ g)); replace HI0 := am (IsS69.below q61t hb); clear hb hbox hg) | ((with_reducible refine gate_dst (N := 4) rfl ?_); refine box_ev 4 #[.int .i64 0, .int .i64 0, .int .i64 0] 33 ?_; intro gi hg w5 hbox hb; replace HB := am (below_step q38t hb); have cN := am (hbox); have F2 := am ((by rw [hg]; exact (keep_size (w := w) (g := g) (row := none) q50t) : w.heap.size ≤ gi)); have OT := am ((Nat.le_trans HW0.out (by rw [hg]; exact (keep_size (w := w) (g := g) (row := none) q50t) : w.heap.size ≤ gi) : w0.heap.size ≤ gi)); replace HK := am (KeepBut.trans q50t (KeepBut.of_below hb g none) (.inl rfl)); have nl := am ((by rw [hg]; exact Nat.ne_of_lt (blk_lt (qbk cE)) : eY ≠ gi)); have nm := am ((by rw [hg]; exact Nat.ne_of_gt (blk_lt (qbk cE)) : gi ≠ eY)); replace cE := blb cE hb; have OU := am ((q12t : g ≠ gi)); have oE := am ((q13t : gi ≠ g)); replace HI0 := am (IsS69.below q39t hb); clear hb hbox hg))
 (try simp only [Act.put, List.setIfInBounds_toArray, List.set_cons_zero, List.set_cons_succ])
 go_cut [13] (fun v13 wc => ∃ (kq : Nat) (tM : Bool) (qK : Int) (qL : Int), v13 = .bool tM ∧ Aside0 (spec_l7Thing.j0 kq tM ah qK qL aj ai ak ap aq ao = some (r1, r2, r3, r4, r5)) ∧ Aside0 (kq ≤ k) ∧ Aside0 (wc.heap[eY]? = some (.cells #[aj, ai, ak, ap, aq, ao] 25 (0, 0))) ∧ Aside0 (wc.heap[gi]? = some (.cells #[.int .i64 0, .int .i64 0, .int .i64 0] 33 (0, 0))) ∧ Aside0 (IsS69 w0 wc g ah qK qL) ∧ Aside0 (KeepBut w wc g none) ∧ Aside0 (Below w0.heap.size w0 wc))
 case first =>
  have H := eK.out
  clear eK
  obtain ⟨⟨Gw, tN, tO⟩, A6, H⟩ := bnd H
  try dsimp only at H
  by_cases c7 : Gw = true
  ·subst c7
   rw [if_pos rfl] at H
   have H' := Aside0.mk H
   clear H
   go_wp2_with (first | ((with_reducible refine gate_callee (f := 28) rfl ?_); refine goesL_ (some 8) rfl rfl Tryd.func28 (by kernel_rfl) rfl #[.pointer (some ⟨g, 0, none⟩), .int .i64 4] rfl q66t ?_; (with_reducible refine (spec_l1Once.calls g ah a5 a7 4 true tN tO w0 _ ?side1 ?side2 A6.out).mono ?_); (case side1 => repeat (first | (with_reducible first | exact HI0.out | apply IsS69.alloc | apply IsS69.drewN | apply IsS69.drew | apply IsS69.set_1 | apply IsS69.set_2 | refine IsS69.far ?_ (Aside0.out q123t) _) | exact HI0.out)); (case side2 => repeat (first | (with_reducible first | exact HB.out | apply below_alloc | apply pw_below_drewN | apply below_drew1 | refine below_set ?_ (IsS69.ge HI0.out) | refine below_set ?_ (Aside0.out q123t)) | exact HB.out)); rintro e w8 ⟨rfl, hi, hb, hk⟩; refine ⟨_, rfl, ?_⟩; replace cE := kbb cE hk lN.out q126t; replace cN := kbb cN hk oE.out q126t; replace HK := am (KeepBut.trans q42t hk (.inl rfl)); replace HB := am (hb); replace HI0 := am (hi); (try clear hb); (try clear hb2); (try clear hk); (try clear hi); have vZ := nl.out; have wa := nm.out; have AZ := lN.out; have Ba := AY.out; have wb := qc6 cE.out; have wd := qf6 cE.out))
   go_meet
   case rel => exact ⟨_, (decide (aj > 2)), (tN), (tO), q121t, H', ⟨q122t⟩, ⟨qbk cE⟩, ⟨qbk cN⟩, ⟨q39t⟩, ⟨q42t⟩, ⟨q38t⟩⟩
  replace c7 := Bool.eq_false_iff.mpr c7
  subst c7
  rw [if_neg (show ¬ (false = true) by decide)] at H
  have H' := Aside0.mk H
  clear H
  go_wp2_with (first | ((with_reducible refine gate_callee (f := 28) rfl ?_); refine goesL_ (some 8) rfl rfl Tryd.func28 (by kernel_rfl) rfl #[.pointer (some ⟨g, 0, none⟩), .int .i64 4] rfl q66t ?_; (with_reducible refine (spec_l1Once.calls g ah a5 a7 4 false tN tO w0 _ ?side1 ?side2 A6.out).mono ?_); (case side1 => repeat (first | (with_reducible first | exact HI0.out | apply IsS69.alloc | apply IsS69.drewN | apply IsS69.drew | apply IsS69.set_1 | apply IsS69.set_2 | refine IsS69.far ?_ (Aside0.out q123t) _) | exact HI0.out)); (case side2 => repeat (first | (with_reducible first | exact HB.out | apply below_alloc | apply pw_below_drewN | apply below_drew1 | refine below_set ?_ (IsS69.ge HI0.out) | refine below_set ?_ (Aside0.out q123t)) | exact HB.out)); rintro e w12 ⟨rfl, hi, hb, hk⟩; refine ⟨_, rfl, ?_⟩; replace cE := kbb cE hk lN.out q126t; replace cN := kbb cN hk oE.out q126t; replace HK := am (KeepBut.trans q42t hk (.inl rfl)); replace HB := am (hb); replace HI0 := am (hi); (try clear hb); (try clear hb2); (try clear hk); (try clear hi)))
  go_meet
  case rel => exact ⟨_, (false), (tN), (tO), q121t, H', ⟨q122t⟩, ⟨qbk cE⟩, ⟨qbk cN⟩, ⟨q39t⟩, ⟨q42t⟩, ⟨q38t⟩⟩
 case rest =>
  clear eK
  try clear c1
  try clear c2
  try clear p2
  try clear c7
  try clear c9
  try clear c10
  try clear wb
  try clear wd
  obtain ⟨kq, tM, qK, qL, rfl, HA, gD, cE, cN, HI0, HK, HB⟩ := hcut
  cases kq with
  | zero => exact absurd HA.out (by simp [spec_l7Thing.j0])
  | succ kj2 =>
   have H := HA.out
   clear HA
   simp only [spec_l7Thing.j0] at H
   by_cases c13 : tM = true
   ·subst c13
    rw [if_pos rfl] at H
    obtain ⟨⟨Bb, Bc, Bd⟩, eS, H⟩ := bnd H
    try dsimp only at H
    obtain ⟨⟨Be, Gx, Gy⟩, tP, H⟩ := bnd H
    try dsimp only at H
    simp only [Option.some.injEq, Prod.mk.injEq] at H
    obtain ⟨rfl, rfl, rfl, rfl, rfl⟩ := H
    try go_wp2
    replace cE := am (blk_drew cE.out)
    replace cN := am (blk_drew cN.out)
    replace HI0 := am (IsS69.drew HI0.out)
    replace HK := am (keep_drew HK.out)
    replace HB := am (below_drew1 HB.out)
    refine start_ (n := 18) (S := fun w' => w'.cell? ⟨eY, 0, none⟩ = some (.int .i64 aj) ∧ w'.cell? ⟨eY, 1, none⟩ = some (.int .i64 ai) ∧ w'.cell? ⟨eY, 2, none⟩ = some (.int .i64 ak) ∧ w'.cell? ⟨eY, 3, none⟩ = some (.int .i64 ap) ∧ w'.cell? ⟨eY, 4, none⟩ = some (.int .i64 aq) ∧ w'.cell? ⟨eY, 5, none⟩ = some (.int .i64 ao)) (ds := []) (bm 18 0) (by kernel_rfl) rfl (by kernel_rfl) qst (fun hHeld => ?_); refine with_tabW spec_l7Thing.tab2 spec_l7Thing.bits2 (fun HT_ HW_ => ?_)
    generalize wc.drew = w16 at cE cN HI0 HK HB hHeld ⊢
    refine pv_ 0 14 (bm 18 1) ?_
    refine pv_ 2 16 (bm 18 5) ?_
    refine pv_ 3 17 (bm 18 13) ?_
    refine pv_ 8 22 (bm 18 269) ?_
    refine pv_ 11 25 (bm 18 2317) ?_
    refine pv_ 12 26 (bm 18 6413) ?_
    refine tv_ 1 15 (bm 18 6415) ?_
    refine tv_ 4 18 (bm 18 6431) ?_
    refine pv_ 5 19 (bm 18 6463) ?_
    refine tv_ 9 23 (bm 18 6975) ?_
    refine pv_ 10 24 (bm 18 7999) ?_
    refine tv_ 13 27 (bm 18 16191) ?_
    refine one_ (i := 6) (N := some 20) (bm 18 16255) rfl rfl (one_of HT_.out (by kernel_rfl)) q125t (fun K hK => ?_)
    refine goes_ Tryd.func26 (by kernel_rfl) rfl #[.pointer (some ⟨g, 0, none⟩), (wrap64 (aj - 1))] q127t rfl rfl q66t ?_
    with_reducible refine (spec_l1Below.calls g ah qK qL (wrap64 (aj - 1)) Bb Bc Bd w0 _ ?side1 ?side2 eS.out).mono ?_
    (case side1 => repeat (first | (with_reducible first | exact HI0.out | apply IsS69.alloc | apply IsS69.drewN | apply IsS69.drew | apply IsS69.set_1 | apply IsS69.set_2 | refine IsS69.far ?_ (Aside0.out q123t) _) | exact HI0.out))
    (case side2 => repeat (first | (with_reducible first | exact HB.out | apply below_alloc | apply pw_below_drewN | apply below_drew1 | refine below_set ?_ (IsS69.ge HI0.out) | refine below_set ?_ (Aside0.out q123t)) | exact HB.out))
    rintro e w17 ⟨rfl, hi, hb, hk⟩
    refine ⟨_, rfl, ?_⟩
    replace cE := kbb cE hk lN.out q126t
    replace cN := kbb cN hk oE.out q126t
    replace HK := am (KeepBut.trans q42t hk (.inl rfl))
    replace HB := am (hb)
    replace HI0 := am (hi)
    (try clear hb)
    (try clear hb2)
    (try clear hk)
    (try clear hi)
    refine hK.out _ _ q40t (fun hHeld => ?_)
    clear hK K
    refine norm_ (a' := ?_) ?_ ?_
    rotate_left
    ·show Act.put _ (some 20) _ = _
     simp only [Act.put, List.setIfInBounds_toArray, List.set_cons_zero, List.set_cons_succ, i64_w, i32_w]
     rfl
    refine pv_ 7 21 (bm 18 16383) ?_
    refine one_ (i := 14) (N := some 28) (bm 18 32767) rfl rfl (one_of HT_.out (by kernel_rfl)) q125t (fun K hK => ?_)
    refine goes_ Tryd.func26 (by kernel_rfl) rfl #[.pointer (some ⟨g, 0, none⟩), ai] q127t rfl rfl q66t ?_
    with_reducible refine (spec_l1Below.calls g ah Bc Bd ai Be Gx Gy w0 _ ?side1 ?side2 tP.out).mono ?_
    (case side1 => repeat (first | (with_reducible first | exact HI0.out | apply IsS69.alloc | apply IsS69.drewN | apply IsS69.drew | apply IsS69.set_1 | apply IsS69.set_2 | refine IsS69.far ?_ (Aside0.out q123t) _) | exact HI0.out))
    (case side2 => repeat (first | (with_reducible first | exact HB.out | apply below_alloc | apply pw_below_drewN | apply below_drew1 | refine below_set ?_ (IsS69.ge HI0.out) | refine below_set ?_ (Aside0.out q123t)) | exact HB.out))
    rintro e w18 ⟨rfl, hi, hb, hk⟩
    refine ⟨_, rfl, ?_⟩
    replace cE := kbb cE hk lN.out q126t
    replace cN := kbb cN hk oE.out q126t
    replace HK := am (KeepBut.trans q42t hk (.inl rfl))
    replace HB := am (hb)
    replace HI0 := am (hi)
    (try clear hb)
    (try clear hb2)
    (try clear hk)
    (try clear hi)
    refine hK.out _ _ q40t (fun hHeld => ?_)
    clear hK K
    refine norm_ (a' := ?_) ?_ ?_
    rotate_left
    ·show Act.put _ (some 28) _ = _
     simp only [Act.put, List.setIfInBounds_toArray, List.set_cons_zero, List.set_cons_succ, i64_w, i32_w]
     rfl
    refine pv_ 15 29 (bm 18 65535) ?_
    refine pv_ 16 30 (bm 18 131071) ?_
    refine one_ (i := 17) (N := none) (bm 18 262143) rfl rfl (one_of HT_.out (by kernel_rfl)) q125t (fun K hK => ?_)
    have hs19 : w18.cell? ⟨gi, 0, none⟩ = some (.int .i64 0) := (blk_cell cN.out 0).trans rfl
    have hfs19 := blk_frozen cN.out 0
    have OV := nl.out
    have OW := nm.out
    have hs20 : w18.cell? ⟨gi, 1, none⟩ = some (.int .i64 0) := (blk_cell cN.out 1).trans rfl
    have hfs20 := blk_frozen cN.out 1
    have OX := nl.out
    have OY := nm.out
    have hs21 : w18.cell? ⟨gi, 2, none⟩ = some (.int .i64 0) := (blk_cell cN.out 2).trans rfl
    have hfs21 := blk_frozen cN.out 2
    have OZ := nl.out
    have O0 := nm.out
    refine skip_ (w1 := ?_) q127t rfl ?_ ?_
    rotate_left
    ·go_simp
     rfl
    refine hK.out _ _ qcf (fun hHeld => ?_)
    clear hK K
    refine done_ (done_of HT_.out (by kernel_rfl)) ?_
    try go_wp2
    refine bodyPost_ret (results_cell_row rfl _ _ gi 33 #[(wrap64 (ai * Bb)), (wrap64 ((wrap64 (ai + 1)) + Be)), .int .i64 2] (0, 0) _ rfl (qbp cN) Tryd.underlying33 rfl (by kernel_rfl)) rfl ?_
    exact ⟨q114t, q39t, q38t, q42t⟩
   replace c13 := Bool.eq_false_iff.mpr c13
   subst c13
   rw [if_neg (show ¬ (false = true) by decide)] at H
   obtain ⟨⟨Bf, Bg, Bh⟩, qM, H⟩ := bnd H
   try dsimp only at H
   obtain ⟨⟨tQ, Bi, Bj⟩, qN, H⟩ := bnd H
   try dsimp only at H
   obtain ⟨⟨Bk, Gz, GA⟩, GB, H⟩ := bnd H
   try dsimp only at H
   simp only [Option.some.injEq, Prod.mk.injEq] at H
   obtain ⟨rfl, rfl, rfl, rfl, rfl⟩ := H
   have pz := nl.out
   have pA := nm.out
   have qO := lN.out
   have qP := AY.out
   have gJ := qc6 cE.out
   have gj := qf6 cE.out
   try go_wp2_with (first | ((with_reducible refine gate_callee (f := 26) rfl ?_); refine goesL_ (some 34) rfl rfl Tryd.func26 (by kernel_rfl) rfl #[.pointer (some ⟨g, 0, none⟩), aj] rfl q66t ?_; (with_reducible refine (spec_l1Below.calls g ah qK qL aj Bf Bg Bh w0 _ ?side1 ?side2 qM.out).mono ?_); (case side1 => repeat (first | (with_reducible first | exact HI0.out | apply IsS69.alloc | apply IsS69.drewN | apply IsS69.drew | apply IsS69.set_1 | apply IsS69.set_2 | refine IsS69.far ?_ (Aside0.out q123t) _) | exact HI0.out)); (case side2 => repeat (first | (with_reducible first | exact HB.out | apply below_alloc | apply pw_below_drewN | apply below_drew1 | refine below_set ?_ (IsS69.ge HI0.out) | refine below_set ?_ (Aside0.out q123t)) | exact HB.out)); rintro e w28 ⟨rfl, hi, hb, hk⟩; refine ⟨_, rfl, ?_⟩; replace cE := kbb cE hk lN.out q126t; replace cN := kbb cN hk oE.out q126t; replace HK := am (KeepBut.trans q42t hk (.inl rfl)); replace HB := am (hb); replace HI0 := am (hi); (try clear hb); (try clear hb2); (try clear hk); (try clear hi); have tR := qc6 cE.out; have tS := qf6 cE.out) | ((with_reducible refine gate_callee (f := 26) rfl ?_); refine goesL_ (some 38) rfl rfl Tryd.func26 (by kernel_rfl) rfl #[.pointer (some ⟨g, 0, none⟩), ai] rfl q66t ?_; (with_reducible refine (spec_l1Below.calls g ah Bg Bh ai tQ Bi Bj w0 _ ?side1 ?side2 qN.out).mono ?_); (case side1 => repeat (first | (with_reducible first | exact HI0.out | apply IsS69.alloc | apply IsS69.drewN | apply IsS69.drew | apply IsS69.set_1 | apply IsS69.set_2 | refine IsS69.far ?_ (Aside0.out q123t) _) | exact HI0.out)); (case side2 => repeat (first | (with_reducible first | exact HB.out | apply below_alloc | apply pw_below_drewN | apply below_drew1 | refine below_set ?_ (IsS69.ge HI0.out) | refine below_set ?_ (Aside0.out q123t)) | exact HB.out)); rintro e w30 ⟨rfl, hi, hb, hk⟩; refine ⟨_, rfl, ?_⟩; replace cE := kbb cE hk lN.out q126t; replace cN := kbb cN hk oE.out q126t; replace HK := am (KeepBut.trans q42t hk (.inl rfl)); replace HB := am (hb); replace HI0 := am (hi); (try clear hb); (try clear hb2); (try clear hk); (try clear hi)))
   replace cE := am (blk_drew cE.out)
   replace cN := am (blk_drew cN.out)
   replace HI0 := am (IsS69.drew HI0.out)
   replace HK := am (keep_drew HK.out)
   replace HB := am (below_drew1 HB.out)
   refine start_ (n := 15) (S := fun w' => w'.cell? ⟨eY, 0, none⟩ = some (.int .i64 aj) ∧ w'.cell? ⟨eY, 1, none⟩ = some (.int .i64 ai) ∧ w'.cell? ⟨eY, 2, none⟩ = some (.int .i64 ak) ∧ w'.cell? ⟨eY, 3, none⟩ = some (.int .i64 ap) ∧ w'.cell? ⟨eY, 4, none⟩ = some (.int .i64 aq) ∧ w'.cell? ⟨eY, 5, none⟩ = some (.int .i64 ao)) (ds := []) (bm 15 0) (by kernel_rfl) rfl (by kernel_rfl) qst (fun hHeld => ?_); refine with_tabW spec_l7Thing.tab5 spec_l7Thing.bits5 (fun HT_ HW_ => ?_)
   generalize w30.drew = w31 at cE cN HI0 HK HB hHeld ⊢
   refine pv_ 0 39 (bm 15 1) ?_
   refine pv_ 1 40 (bm 15 3) ?_
   refine pv_ 4 43 (bm 15 19) ?_
   refine pv_ 6 45 (bm 15 83) ?_
   refine pv_ 7 46 (bm 15 211) ?_
   refine pv_ 9 48 (bm 15 723) ?_
   refine tv_ 2 41 (bm 15 727) ?_
   refine pv_ 3 42 (bm 15 735) ?_
   refine pv_ 5 44 (bm 15 767) ?_
   refine tv_ 8 47 (bm 15 1023) ?_
   refine pv_ 10 49 (bm 15 2047) ?_
   refine one_ (i := 11) (N := some 50) (bm 15 4095) rfl rfl (one_of HT_.out (by kernel_rfl)) q125t (fun K hK => ?_)
   refine goes_ Tryd.func26 (by kernel_rfl) rfl #[.pointer (some ⟨g, 0, none⟩), (wrap64 (ai - tQ))] q127t rfl rfl q66t ?_
   with_reducible refine (spec_l1Below.calls g ah Bi Bj (wrap64 (ai - tQ)) Bk Gz GA w0 _ ?side1 ?side2 GB.out).mono ?_
   (case side1 => repeat (first | (with_reducible first | exact HI0.out | apply IsS69.alloc | apply IsS69.drewN | apply IsS69.drew | apply IsS69.set_1 | apply IsS69.set_2 | refine IsS69.far ?_ (Aside0.out q123t) _) | exact HI0.out))
   (case side2 => repeat (first | (with_reducible first | exact HB.out | apply below_alloc | apply pw_below_drewN | apply below_drew1 | refine below_set ?_ (IsS69.ge HI0.out) | refine below_set ?_ (Aside0.out q123t)) | exact HB.out))
   rintro e w32 ⟨rfl, hi, hb, hk⟩
   refine ⟨_, rfl, ?_⟩
   replace cE := kbb cE hk lN.out q126t
   replace cN := kbb cN hk oE.out q126t
   replace HK := am (KeepBut.trans q42t hk (.inl rfl))
   replace HB := am (hb)
   replace HI0 := am (hi)
   (try clear hb)
   (try clear hb2)
   (try clear hk)
   (try clear hi)
   refine hK.out _ _ q40t (fun hHeld => ?_)
   clear hK K
   refine norm_ (a' := ?_) ?_ ?_
   rotate_left
   ·show Act.put _ (some 50) _ = _
    simp only [Act.put, List.setIfInBounds_toArray, List.set_cons_zero, List.set_cons_succ, i64_w, i32_w]
    rfl
   refine pv_ 12 51 (bm 15 8191) ?_
   refine pv_ 13 52 (bm 15 16383) ?_
   refine one_ (i := 14) (N := none) (bm 15 32767) rfl rfl (one_of HT_.out (by kernel_rfl)) q125t (fun K hK => ?_)
   have hs33 : w32.cell? ⟨gi, 0, none⟩ = some (.int .i64 0) := (blk_cell cN.out 0).trans rfl
   have hfs33 := blk_frozen cN.out 0
   have GC := nl.out
   have GD := nm.out
   have hs34 : w32.cell? ⟨gi, 1, none⟩ = some (.int .i64 0) := (blk_cell cN.out 1).trans rfl
   have hfs34 := blk_frozen cN.out 1
   have GE := nl.out
   have GF := nm.out
   have hs35 : w32.cell? ⟨gi, 2, none⟩ = some (.int .i64 0) := (blk_cell cN.out 2).trans rfl
   have hfs35 := blk_frozen cN.out 2
   have O1 := nl.out
   have O2 := nm.out
   refine skip_ (w1 := ?_) q127t rfl ?_ ?_
   rotate_left
   ·go_simp
    rfl
   refine hK.out _ _ qcf (fun hHeld => ?_)
   clear hK K
   refine done_ (done_of HT_.out (by kernel_rfl)) ?_
   try go_wp2
   refine bodyPost_ret (results_cell_row rfl _ _ gi 33 #[(wrap64 ((wrap64 (Bf * ai)) + tQ)), (wrap64 (1 + Bk)), .int .i64 0] (0, 0) _ rfl (qbp cN) Tryd.underlying33 rfl (by kernel_rfl)) rfl ?_
   exact ⟨q114t, q39t, q38t, q42t⟩

end Go.Proofs.YtofpmdgndegalacDoor.QFnNodes
