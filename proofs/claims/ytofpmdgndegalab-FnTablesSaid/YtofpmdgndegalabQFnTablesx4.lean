/- What the functions that the law FnTables reaches compute, as plain functions, and that the code computes just that (by a program of this session's; the library's functions by hand). No condition. -/
import Derived.Test.YtofpmdgndegalabQFnTablesx0
import Derived.Test.YtofpmdgndegalabQFnTablesx3
namespace Go.Proofs.Ytofpmdgndegalab.QFnTables
open Go.RowKit Go.Proofs.YtofpmdgndegalabW.PrintWords Go.Proofs.YtofpmdgndegalabW.PrintLast Go.Proofs.YtofpmdgndegalabW.PrintMore
attribute [local go_sem] max2_int min2_int max_two min_two max_three min_three max_four min_four   -- for this text's walks alone
set_option linter.unusedVariables false
set_option linter.unusedSimpArgs false

/-! ### spec_l7Thing: function 57 -/
def spec_l7Thing.j0 : Nat → Bool → List Int → Int → Int → Int → Int → Int → Int → Int → Int → Option (Int × Int × Int × Int × Int)
 | 0, _, _, _, _, _, _, _, _, _, _ => none
 | k + 1, x13, x1000, x1001, x1002, x151000, x151001, x151002, x151003, x151004, x151005 => if x13 = true then ((spec_l1Below.f x1000 x1001 x1002 (wrap64 (x151000 - 1))).bind fun bt155 => ((spec_l1Below.f x1000 bt155.2.1 bt155.2.2 x151001).bind fun bt158 => (some (wrap64 (x151001 * bt155.1), wrap64 ((wrap64 (x151001 + 1)) + bt158.1), 2, bt158.2.1, bt158.2.2)))) else ((spec_l1Below.f x1000 x1001 x1002 x151000).bind fun bt161 => ((spec_l1Below.f x1000 bt161.2.1 bt161.2.2 x151001).bind fun bt164 => ((spec_l1Below.f x1000 bt164.2.1 bt164.2.2 (wrap64 (x151001 - bt164.1))).bind fun bt167 => (some (wrap64 ((wrap64 (bt161.1 * x151001)) + bt164.1), wrap64 (1 + bt167.1), 0, bt167.2.1, bt167.2.2)))))
def spec_l7Thing.f (k : Nat) (s0_0 : List Int) (s0_1 : Int) (s0_2 : Int) (a1_0 : Int) (a1_1 : Int) (a1_2 : Int) (a1_3 : Int) (a1_4 : Int) (a1_5 : Int) : Option (Int × Int × Int × Int × Int) := (spec_l1Once.f s0_0 s0_1 s0_2 4).bind fun bt152 => (if bt152.1 = true then (spec_l7Thing.j0 k (decide (a1_0 > 2)) s0_0 bt152.2.1 bt152.2.2 a1_0 a1_1 a1_2 a1_3 a1_4 a1_5) else (spec_l7Thing.j0 k false s0_0 bt152.2.1 bt152.2.2 a1_0 a1_1 a1_2 a1_3 a1_4 a1_5))
theorem spec_l7Thing.mono_l : ∀ k, (∀ y0 y1 y2 y3 y4 y5 y6 y7 y8 y9, LeO (spec_l7Thing.j0 k y0 y1 y2 y3 y4 y5 y6 y7 y8 y9) (spec_l7Thing.j0 (k + 1) y0 y1 y2 y3 y4 y5 y6 y7 y8 y9))
 | 0 => fun _ _ _ _ _ _ _ _ _ _ r h => by simp [spec_l7Thing.j0] at h
 | k + 1 => by
  have ih0 := spec_l7Thing.mono_l k
  ·intro y0 y1 y2 y3 y4 y5 y6 y7 y8 y9
   unfold spec_l7Thing.j0
   repeat' first
   | (with_reducible exact ih0 _ _ _ _ _ _ _ _ _ _)
   | (with_reducible exact LeO.refl _)
   | (with_reducible exact LeO.none _)
   | (with_reducible refine LeO.ite ?_ ?_)
   | (with_reducible refine LeO.bind ?_ (fun _ => ?_))
   | exact ih0 _ _ _ _ _ _ _ _ _ _
   | exact LeO.none _
   | refine LeO.ite ?_ ?_
   | refine LeO.bind ?_ (fun _ => ?_)
theorem spec_l7Thing.mono : ∀ a0 a1 a2 a3 a4 a5 a6 a7 a8 k, LeO (spec_l7Thing.f k a0 a1 a2 a3 a4 a5 a6 a7 a8) (spec_l7Thing.f (k + 1) a0 a1 a2 a3 a4 a5 a6 a7 a8) := by
 intro a0 a1 a2 a3 a4 a5 a6 a7 a8 k
 have ih0 := spec_l7Thing.mono_l k
 unfold spec_l7Thing.f
 repeat' first
   | (with_reducible exact ih0 _ _ _ _ _ _ _ _ _ _)
   | (with_reducible exact LeO.refl _)
   | (with_reducible exact LeO.none _)
   | (with_reducible refine LeO.ite ?_ ?_)
   | (with_reducible refine LeO.bind ?_ (fun _ => ?_))
   | exact ih0 _ _ _ _ _ _ _ _ _ _
   | exact LeO.none _
   | refine LeO.ite ?_ ?_
   | refine LeO.bind ?_ (fun _ => ?_)
def spec_l7Thing.T2 : Bool × List (List Nat × List Nat) := (true, [([], []), ([0], [0]), ([], []), ([], []), ([3], [3]), ([4], [4]), ([2, 5], [2, 5]), ([1, 6], [1, 6]), ([], []), ([8], [8]), ([9], [9]), ([], []), ([], []), ([12], [12]), ([11, 13, 6], [11, 13]), ([10, 14], [10, 14]), ([7, 15], [7, 15]), ([16, 14, 0, 1, 2, 3, 4, 5, 6, 7, 8, 9, 10, 11, 12, 13, 14, 15, 16], [16])])
def spec_l7Thing.B2 : List Nat := [0, 1, 0, 0, 8, 24, 60, 127, 0, 256, 768, 0, 0, 4096, 14460, 32636, 65535, 131071]
theorem spec_l7Thing.tab2 : rtab .any (opsOf Try.f57 2) = spec_l7Thing.T2 := by kernel_rfl
theorem spec_l7Thing.bits2 : waitsOk spec_l7Thing.T2.2 spec_l7Thing.B2 = true := by kernel_rfl
def spec_l7Thing.T5 : Bool × List (List Nat × List Nat) := (true, [([], []), ([], []), ([1], [1]), ([0, 2], [0, 2]), ([], []), ([3, 4], [3, 4]), ([], []), ([], []), ([7], [7]), ([], []), ([8, 9], [8, 9]), ([6, 10], [6, 10]), ([11], [11]), ([5, 12], [5, 12]), ([13, 11, 0, 1, 2, 3, 4, 5, 6, 7, 8, 9, 10, 11, 12, 13], [13])])
def spec_l7Thing.B5 : List Nat := [0, 0, 2, 7, 0, 31, 0, 0, 128, 0, 896, 1984, 4032, 8191, 16383]
theorem spec_l7Thing.tab5 : rtab .any (opsOf Try.f57 5) = spec_l7Thing.T5 := by kernel_rfl
theorem spec_l7Thing.bits5 : waitsOk spec_l7Thing.T5.2 spec_l7Thing.B5 = true := by kernel_rfl
set_option maxHeartbeats 8000000 in
set_option maxRecDepth 100000 in
theorem spec_l7Thing.calls (k : Nat) (g : Nat) (s0_0 : List Int) (s0_1 : Int) (s0_2 : Int) (a1_0 : Int) (a1_1 : Int) (a1_2 : Int) (a1_3 : Int) (a1_4 : Int) (a1_5 : Int) (r1 : Int) (r2 : Int) (r3 : Int) (r4 : Int) (r5 : Int) (w0 w : World) (hI : IsS67 w0 w g s0_0 s0_1 s0_2) (hB : Below w0.heap.size w0 w) (h : spec_l7Thing.f k s0_0 s0_1 s0_2 a1_0 a1_1 a1_2 a1_3 a1_4 a1_5 = some (r1, r2, r3, r4, r5)) :
  Calls Try.prog 57 #[.pointer (some ⟨g, 0, none⟩), .agg #[.int .i64 a1_0, .int .i64 a1_1, .int .i64 a1_2, .int .i64 a1_3, .int .i64 a1_4, .int .i64 a1_5]] w fun e w' => e = .returned (.agg #[.int .i64 r1, .int .i64 r2, .int .i64 r3]) ∧ IsS67 w0 w' g s0_0 r4 r5 ∧ Below w0.heap.size w0 w' ∧ KeepBut w w' g none := by
 have hu33 := Try.underlying33
 have hu74 := Try.underlying74
 have HI0 := Aside0.mk hI
 have HK := Aside0.mk (KeepBut.refl w g none)
 have HL := Aside0.mk hB.size
 clear hI
 have HW0 := Aside0.mk hB.size
 have HB := Aside0.mk hB
 clear hB
 have H : ((spec_l1Once.f s0_0 s0_1 s0_2 4).bind fun bt152 => (if bt152.1 = true then (spec_l7Thing.j0 k (decide (a1_0 > 2)) s0_0 bt152.2.1 bt152.2.2 a1_0 a1_1 a1_2 a1_3 a1_4 a1_5) else (spec_l7Thing.j0 k false s0_0 bt152.2.1 bt152.2.2 a1_0 a1_1 a1_2 a1_3 a1_4 a1_5))) = some (r1, r2, r3, r4, r5) := h
 clear h
 have HC3 := Aside0.mk H
 clear H
 go_enter Try.func57, Try.ntmps57
 go_upto_region 1 with (first | ((with_reducible refine gate_dst (N := 3) rfl ?_); refine box_ev 3 #[.int .i64 a1_0, .int .i64 a1_1, .int .i64 a1_2, .int .i64 a1_3, .int .i64 a1_4, .int .i64 a1_5] 33 ?_; intro gb150 hg w4 hbox hb; replace HB := Aside0.mk (below_step q45t hb); have BK150 := Aside0.mk (hbox); have GW150 := Aside0.mk ((q32t : w.heap.size ≤ gb150)); have GE150 := Aside0.mk ((Nat.le_trans HW0.out (q32t : w.heap.size ≤ gb150) : w0.heap.size ≤ gb150)); replace HK := Aside0.mk (KeepBut.trans q49t (KeepBut.of_below hb g none) (.inl rfl)); have NB0_150 := Aside0.mk ((q14t : g ≠ gb150)); have NB150_0 := Aside0.mk ((q15t : gb150 ≠ g)); replace HI0 := Aside0.mk (IsS67.below q46t hb); clear hb hbox hg) | ((with_reducible refine gate_dst (N := 4) rfl ?_); refine box_ev 4 #[.int .i64 0, .int .i64 0, .int .i64 0] 74 ?_; intro gb151 hg w5 hbox hb; replace HB := Aside0.mk (below_step q22t hb); have BK151 := Aside0.mk (hbox); have GW151 := Aside0.mk ((by rw [hg]; exact (keep_size (w := w) (g := g) (row := none) q36t) : w.heap.size ≤ gb151)); have GE151 := Aside0.mk ((Nat.le_trans HW0.out (by rw [hg]; exact (keep_size (w := w) (g := g) (row := none) q36t) : w.heap.size ≤ gb151) : w0.heap.size ≤ gb151)); replace HK := Aside0.mk (KeepBut.trans q36t (KeepBut.of_below hb g none) (.inl rfl)); have NB150_151 := Aside0.mk ((by rw [hg]; exact Nat.ne_of_lt (blk_lt (qbk BK150)) : gb150 ≠ gb151)); have NB151_150 := Aside0.mk ((by rw [hg]; exact Nat.ne_of_gt (blk_lt (qbk BK150)) : gb151 ≠ gb150)); replace BK150 := blb BK150 hb; have NB0_151 := Aside0.mk ((q3t : g ≠ gb151)); have NB151_0 := Aside0.mk ((q4t : gb151 ≠ g)); replace HI0 := Aside0.mk (IsS67.below q23t hb); clear hb hbox hg))
 (try simp only [Act.put, List.setIfInBounds_toArray, List.set_cons_zero, List.set_cons_succ])
 go_cut [13] (fun v13 wc => ∃ (kq : Nat) (x13_2 : Bool) (x1001_2 : Int) (x1002_2 : Int), v13 = .bool x13_2 ∧ Aside0 (spec_l7Thing.j0 kq x13_2 s0_0 x1001_2 x1002_2 a1_0 a1_1 a1_2 a1_3 a1_4 a1_5 = some (r1, r2, r3, r4, r5)) ∧ Aside0 (kq ≤ k) ∧ Aside0 (wc.heap[gb150]? = some (.cells #[.int .i64 a1_0, .int .i64 a1_1, .int .i64 a1_2, .int .i64 a1_3, .int .i64 a1_4, .int .i64 a1_5] 33 (0, 0))) ∧ Aside0 (wc.heap[gb151]? = some (.cells #[.int .i64 0, .int .i64 0, .int .i64 0] 74 (0, 0))) ∧ Aside0 (IsS67 w0 wc g s0_0 x1001_2 x1002_2) ∧ Aside0 (KeepBut w wc g none) ∧ Aside0 (Below w0.heap.size w0 wc))
 case first =>
  have H := HC3.out
  clear HC3
  replace H := Option.bind_eq_some_iff.mp H
  obtain ⟨⟨t152, t153, t154⟩, A60, H⟩ := H
  try dsimp only at H
  have A6 := Aside0.mk A60
  clear A60
  by_cases c7 : t152 = true
  ·subst c7
   rw [if_pos rfl] at H
   have H' := Aside0.mk H
   clear H
   go_wp2_with (first | ((with_reducible refine gate_callee (f := 30) rfl ?_); refine goesL_ (some 8) rfl rfl Try.func30 (by kernel_rfl) rfl #[.pointer (some ⟨g, 0, none⟩), .int .i64 4] rfl q51t ?_; (with_reducible refine (spec_l1Once.calls g s0_0 s0_1 s0_2 4 true t153 t154 w0 _ ?side1 ?side2 A6.out).mono ?_); (case side1 => repeat (first | (with_reducible first | exact HI0.out | apply IsS67.alloc | apply IsS67.drewN | apply IsS67.drew | apply IsS67.set_1 | apply IsS67.set_2 | refine IsS67.far ?_ (Aside0.out q83t) _) | exact HI0.out)); (case side2 => repeat (first | (with_reducible first | exact HB.out | apply below_alloc | apply pw_below_drewN | apply below_drew1 | refine below_set ?_ (IsS67.ge HI0.out) | refine below_set ?_ (Aside0.out q83t)) | exact HB.out)); rintro e w8 ⟨rfl, hi, hb, hk⟩; refine ⟨_, rfl, ?_⟩; replace BK150 := kbb BK150 hk NB150_0.out q87t; replace BK151 := kbb BK151 hk NB151_0.out q87t; replace HK := Aside0.mk (KeepBut.trans q27t hk (.inl rfl)); replace HB := Aside0.mk (hb); replace HI0 := Aside0.mk (hi); (try clear hb); (try clear hb2); (try clear hk); (try clear hi); have hnb9 := NB150_151.out; have hnc9 := NB151_150.out; have hnb10 := NB150_0.out; have hnc10 := NB0_150.out; obtain ⟨hcz11_0, hcz11_1, hcz11_2, hcz11_3, hcz11_4, hcz11_5⟩ := qc6 BK150.out; obtain ⟨hfz11_0, hfz11_1, hfz11_2, hfz11_3, hfz11_4, hfz11_5⟩ := qf6 BK150.out))
   go_meet
   case rel => exact ⟨_, (decide (a1_0 > 2)), (t153), (t154), q81t, H', ⟨q82t⟩, ⟨qbk BK150⟩, ⟨qbk BK151⟩, ⟨q23t⟩, ⟨q27t⟩, ⟨q22t⟩⟩
  replace c7 := Bool.eq_false_iff.mpr c7
  subst c7
  rw [if_neg (show ¬ (false = true) by decide)] at H
  have H' := Aside0.mk H
  clear H
  go_wp2_with (first | ((with_reducible refine gate_callee (f := 30) rfl ?_); refine goesL_ (some 8) rfl rfl Try.func30 (by kernel_rfl) rfl #[.pointer (some ⟨g, 0, none⟩), .int .i64 4] rfl q51t ?_; (with_reducible refine (spec_l1Once.calls g s0_0 s0_1 s0_2 4 false t153 t154 w0 _ ?side1 ?side2 A6.out).mono ?_); (case side1 => repeat (first | (with_reducible first | exact HI0.out | apply IsS67.alloc | apply IsS67.drewN | apply IsS67.drew | apply IsS67.set_1 | apply IsS67.set_2 | refine IsS67.far ?_ (Aside0.out q83t) _) | exact HI0.out)); (case side2 => repeat (first | (with_reducible first | exact HB.out | apply below_alloc | apply pw_below_drewN | apply below_drew1 | refine below_set ?_ (IsS67.ge HI0.out) | refine below_set ?_ (Aside0.out q83t)) | exact HB.out)); rintro e w12 ⟨rfl, hi, hb, hk⟩; refine ⟨_, rfl, ?_⟩; replace BK150 := kbb BK150 hk NB150_0.out q87t; replace BK151 := kbb BK151 hk NB151_0.out q87t; replace HK := Aside0.mk (KeepBut.trans q27t hk (.inl rfl)); replace HB := Aside0.mk (hb); replace HI0 := Aside0.mk (hi); (try clear hb); (try clear hb2); (try clear hk); (try clear hi)))
  go_meet
  case rel => exact ⟨_, (false), (t153), (t154), q81t, H', ⟨q82t⟩, ⟨qbk BK150⟩, ⟨qbk BK151⟩, ⟨q23t⟩, ⟨q27t⟩, ⟨q22t⟩⟩
 case rest =>
  clear HC3
  try clear c1
  try clear p2
  try clear c3
  try clear c5
  try clear c7
  try clear c9
  try clear c10
  try clear hcz11_0 hcz11_1 hcz11_2 hcz11_3 hcz11_4 hcz11_5
  try clear hfz11_0 hfz11_1 hfz11_2 hfz11_3 hfz11_4 hfz11_5
  obtain ⟨kq, x13_2, x1001_2, x1002_2, rfl, HA, HJ2, BK150, BK151, HI0, HK, HB⟩ := hcut
  cases kq with
  | zero => exact absurd HA.out (by simp [spec_l7Thing.j0])
  | succ kj2 =>
   have H := HA.out
   clear HA
   simp only [spec_l7Thing.j0] at H
   by_cases c13 : x13_2 = true
   ·subst c13
    rw [if_pos rfl] at H
    replace H := Option.bind_eq_some_iff.mp H
    obtain ⟨⟨t155, t156, t157⟩, A140, H⟩ := H
    try dsimp only at H
    have A14 := Aside0.mk A140
    clear A140
    replace H := Option.bind_eq_some_iff.mp H
    obtain ⟨⟨t158, t159, t160⟩, A150, H⟩ := H
    try dsimp only at H
    have A15 := Aside0.mk A150
    clear A150
    simp only [Option.some.injEq, Prod.mk.injEq] at H
    obtain ⟨rfl, rfl, rfl, rfl, rfl⟩ := H
    try go_wp2
    replace BK150 := Aside0.mk (blk_drew BK150.out)
    replace BK151 := Aside0.mk (blk_drew BK151.out)
    replace HI0 := Aside0.mk (IsS67.drew HI0.out)
    replace HK := Aside0.mk (keep_drew HK.out)
    replace HB := Aside0.mk (below_drew1 HB.out)
    refine start_ (n := 18) (S := fun w' => w'.cell? ⟨gb150, 0, none⟩ = some (.int .i64 a1_0) ∧ w'.cell? ⟨gb150, 1, none⟩ = some (.int .i64 a1_1) ∧ w'.cell? ⟨gb150, 2, none⟩ = some (.int .i64 a1_2) ∧ w'.cell? ⟨gb150, 3, none⟩ = some (.int .i64 a1_3) ∧ w'.cell? ⟨gb150, 4, none⟩ = some (.int .i64 a1_4) ∧ w'.cell? ⟨gb150, 5, none⟩ = some (.int .i64 a1_5)) (ds := []) (bm 18 0) (by kernel_rfl) rfl (by kernel_rfl) ⟨(blk_cell BK150.out 0).trans rfl, (blk_cell BK150.out 1).trans rfl, (blk_cell BK150.out 2).trans rfl, (blk_cell BK150.out 3).trans rfl, (blk_cell BK150.out 4).trans rfl, (blk_cell BK150.out 5).trans rfl⟩ (fun hHeld => ?_); refine with_tabW spec_l7Thing.tab2 spec_l7Thing.bits2 (fun HT_ HW_ => ?_)
    generalize wc.drew = w16 at BK150 BK151 HI0 HK HB hHeld ⊢
    refine pu_ 0 (some 14) (bm 18 1) (any_of HT_.out (by kernel_rfl)) ?_
    refine pu_ 2 (some 16) (bm 18 5) (any_of HT_.out (by kernel_rfl)) ?_
    refine pu_ 3 (some 17) (bm 18 13) (any_of HT_.out (by kernel_rfl)) ?_
    refine pu_ 8 (some 22) (bm 18 269) (any_of HT_.out (by kernel_rfl)) ?_
    refine pu_ 11 (some 25) (bm 18 2317) (any_of HT_.out (by kernel_rfl)) ?_
    refine pu_ 12 (some 26) (bm 18 6413) (any_of HT_.out (by kernel_rfl)) ?_
    refine tk_ 1 (some 15) (bm 18 6415) (take_ofW HT_.out HW_.out (by kernel_rfl)) hHeld ?_
    refine tk_ 4 (some 18) (bm 18 6431) (take_ofW HT_.out HW_.out (by kernel_rfl)) hHeld ?_
    refine pu_ 5 (some 19) (bm 18 6463) (any_of HT_.out (by kernel_rfl)) ?_
    refine tk_ 9 (some 23) (bm 18 6975) (take_ofW HT_.out HW_.out (by kernel_rfl)) hHeld ?_
    refine pu_ 10 (some 24) (bm 18 7999) (any_of HT_.out (by kernel_rfl)) ?_
    refine tk_ 13 (some 27) (bm 18 16191) (take_ofW HT_.out HW_.out (by kernel_rfl)) hHeld ?_
    refine one_ (i := 6) (N := some 20) (bm 18 16255) rfl rfl (one_of HT_.out (by kernel_rfl)) q85t (fun K hK => ?_)
    refine goes_ Try.func27 (by kernel_rfl) rfl #[.pointer (some ⟨g, 0, none⟩), .int .i64 (wrap64 (a1_0 - 1))] (by rfl) rfl rfl q51t ?_
    with_reducible refine (spec_l1Below.calls g s0_0 x1001_2 x1002_2 (wrap64 (a1_0 - 1)) t155 t156 t157 w0 _ ?side1 ?side2 A14.out).mono ?_
    (case side1 => repeat (first | (with_reducible first | exact HI0.out | apply IsS67.alloc | apply IsS67.drewN | apply IsS67.drew | apply IsS67.set_1 | apply IsS67.set_2 | refine IsS67.far ?_ (Aside0.out q83t) _) | exact HI0.out))
    (case side2 => repeat (first | (with_reducible first | exact HB.out | apply below_alloc | apply pw_below_drewN | apply below_drew1 | refine below_set ?_ (IsS67.ge HI0.out) | refine below_set ?_ (Aside0.out q83t)) | exact HB.out))
    rintro e w17 ⟨rfl, hi, hb, hk⟩
    refine ⟨_, rfl, ?_⟩
    replace BK150 := kbb BK150 hk NB150_0.out q87t
    replace BK151 := kbb BK151 hk NB151_0.out q87t
    replace HK := Aside0.mk (KeepBut.trans q27t hk (.inl rfl))
    replace HB := Aside0.mk (hb)
    replace HI0 := Aside0.mk (hi)
    (try clear hb)
    (try clear hb2)
    (try clear hk)
    (try clear hi)
    refine hK.out _ _ q24t (fun hHeld => ?_)
    clear hK K
    refine norm_ (a' := ?_) ?_ ?_
    rotate_left
    ·show Act.put _ (some 20) _ = _
     simp only [Act.put, List.setIfInBounds_toArray, List.set_cons_zero, List.set_cons_succ, i64_w, i32_w]
     rfl
    refine pu_ 7 (some 21) (bm 18 16383) (any_of HT_.out (by kernel_rfl)) ?_
    refine one_ (i := 14) (N := some 28) (bm 18 32767) rfl rfl (one_of HT_.out (by kernel_rfl)) q85t (fun K hK => ?_)
    refine goes_ Try.func27 (by kernel_rfl) rfl #[.pointer (some ⟨g, 0, none⟩), .int .i64 a1_1] (by rfl) rfl rfl q51t ?_
    with_reducible refine (spec_l1Below.calls g s0_0 t156 t157 a1_1 t158 t159 t160 w0 _ ?side1 ?side2 A15.out).mono ?_
    (case side1 => repeat (first | (with_reducible first | exact HI0.out | apply IsS67.alloc | apply IsS67.drewN | apply IsS67.drew | apply IsS67.set_1 | apply IsS67.set_2 | refine IsS67.far ?_ (Aside0.out q83t) _) | exact HI0.out))
    (case side2 => repeat (first | (with_reducible first | exact HB.out | apply below_alloc | apply pw_below_drewN | apply below_drew1 | refine below_set ?_ (IsS67.ge HI0.out) | refine below_set ?_ (Aside0.out q83t)) | exact HB.out))
    rintro e w18 ⟨rfl, hi, hb, hk⟩
    refine ⟨_, rfl, ?_⟩
    replace BK150 := kbb BK150 hk NB150_0.out q87t
    replace BK151 := kbb BK151 hk NB151_0.out q87t
    replace HK := Aside0.mk (KeepBut.trans q27t hk (.inl rfl))
    replace HB := Aside0.mk (hb)
    replace HI0 := Aside0.mk (hi)
    (try clear hb)
    (try clear hb2)
    (try clear hk)
    (try clear hi)
    refine hK.out _ _ q24t (fun hHeld => ?_)
    clear hK K
    refine norm_ (a' := ?_) ?_ ?_
    rotate_left
    ·show Act.put _ (some 28) _ = _
     simp only [Act.put, List.setIfInBounds_toArray, List.set_cons_zero, List.set_cons_succ, i64_w, i32_w]
     rfl
    refine pu_ 15 (some 29) (bm 18 65535) (any_of HT_.out (by kernel_rfl)) ?_
    refine pu_ 16 (some 30) (bm 18 131071) (any_of HT_.out (by kernel_rfl)) ?_
    refine one_ (i := 17) (N := none) (bm 18 262143) rfl rfl (one_of HT_.out (by kernel_rfl)) q85t (fun K hK => ?_)
    have hs19 : w18.cell? ⟨gb151, 0, none⟩ = some (.int .i64 0) := (blk_cell BK151.out 0).trans rfl
    have hfs19 := blk_frozen BK151.out 0
    have hns19_0 := NB150_151.out
    have hms19_0 := NB151_150.out
    have hs20 : w18.cell? ⟨gb151, 1, none⟩ = some (.int .i64 0) := (blk_cell BK151.out 1).trans rfl
    have hfs20 := blk_frozen BK151.out 1
    have hns20_0 := NB150_151.out
    have hms20_0 := NB151_150.out
    have hs21 : w18.cell? ⟨gb151, 2, none⟩ = some (.int .i64 0) := (blk_cell BK151.out 2).trans rfl
    have hfs21 := blk_frozen BK151.out 2
    have hns21_0 := NB150_151.out
    have hms21_0 := NB151_150.out
    refine skip_ (w1 := ?_) (by rfl) rfl ?_ ?_
    rotate_left
    ·go_simp
     rfl
    refine hK.out _ _ (by first | exact ⟨((cell_far (p := ⟨gb151, _, none⟩) NB150_151.out _).trans (((cell_far (p := ⟨gb151, _, none⟩) NB150_151.out _).trans (((cell_far (p := ⟨gb151, _, none⟩) NB150_151.out _).trans (hHeld.1)))))), ((cell_far (p := ⟨gb151, _, none⟩) NB150_151.out _).trans (((cell_far (p := ⟨gb151, _, none⟩) NB150_151.out _).trans (((cell_far (p := ⟨gb151, _, none⟩) NB150_151.out _).trans (hHeld.2.1)))))), ((cell_far (p := ⟨gb151, _, none⟩) NB150_151.out _).trans (((cell_far (p := ⟨gb151, _, none⟩) NB150_151.out _).trans (((cell_far (p := ⟨gb151, _, none⟩) NB150_151.out _).trans (hHeld.2.2.1)))))), ((cell_far (p := ⟨gb151, _, none⟩) NB150_151.out _).trans (((cell_far (p := ⟨gb151, _, none⟩) NB150_151.out _).trans (((cell_far (p := ⟨gb151, _, none⟩) NB150_151.out _).trans (hHeld.2.2.2.1)))))), ((cell_far (p := ⟨gb151, _, none⟩) NB150_151.out _).trans (((cell_far (p := ⟨gb151, _, none⟩) NB150_151.out _).trans (((cell_far (p := ⟨gb151, _, none⟩) NB150_151.out _).trans (hHeld.2.2.2.2.1)))))), ((cell_far (p := ⟨gb151, _, none⟩) NB150_151.out _).trans (((cell_far (p := ⟨gb151, _, none⟩) NB150_151.out _).trans (((cell_far (p := ⟨gb151, _, none⟩) NB150_151.out _).trans (hHeld.2.2.2.2.2))))))⟩ | exact hHeld) (fun hHeld => ?_)
    clear hK K
    refine done_ (done_of HT_.out (by kernel_rfl)) ?_
    try go_wp2
    refine bodyPost_ret (results_cell_row rfl _ _ gb151 74 #[.int .i64 (wrap64 (a1_1 * t155)), .int .i64 (wrap64 ((wrap64 (a1_1 + 1)) + t158)), .int .i64 2] (0, 0) _ rfl (qbp BK151) Try.underlying74 rfl (by kernel_rfl)) rfl ?_
    exact ⟨q73t, q23t, q22t, q27t⟩
   replace c13 := Bool.eq_false_iff.mpr c13
   subst c13
   rw [if_neg (show ¬ (false = true) by decide)] at H
   replace H := Option.bind_eq_some_iff.mp H
   obtain ⟨⟨t161, t162, t163⟩, A220, H⟩ := H
   try dsimp only at H
   have A22 := Aside0.mk A220
   clear A220
   replace H := Option.bind_eq_some_iff.mp H
   obtain ⟨⟨t164, t165, t166⟩, A230, H⟩ := H
   try dsimp only at H
   have A23 := Aside0.mk A230
   clear A230
   replace H := Option.bind_eq_some_iff.mp H
   obtain ⟨⟨t167, t168, t169⟩, A240, H⟩ := H
   try dsimp only at H
   have A24 := Aside0.mk A240
   clear A240
   simp only [Option.some.injEq, Prod.mk.injEq] at H
   obtain ⟨rfl, rfl, rfl, rfl, rfl⟩ := H
   have hnb25 := NB150_151.out
   have hnc25 := NB151_150.out
   have hnb26 := NB150_0.out
   have hnc26 := NB0_150.out
   obtain ⟨hcz27_0, hcz27_1, hcz27_2, hcz27_3, hcz27_4, hcz27_5⟩ := qc6 BK150.out
   obtain ⟨hfz27_0, hfz27_1, hfz27_2, hfz27_3, hfz27_4, hfz27_5⟩ := qf6 BK150.out
   try go_wp2_with (first | ((with_reducible refine gate_callee (f := 27) rfl ?_); refine goesL_ (some 34) rfl rfl Try.func27 (by kernel_rfl) rfl #[.pointer (some ⟨g, 0, none⟩), .int .i64 a1_0] rfl q51t ?_; (with_reducible refine (spec_l1Below.calls g s0_0 x1001_2 x1002_2 a1_0 t161 t162 t163 w0 _ ?side1 ?side2 A22.out).mono ?_); (case side1 => repeat (first | (with_reducible first | exact HI0.out | apply IsS67.alloc | apply IsS67.drewN | apply IsS67.drew | apply IsS67.set_1 | apply IsS67.set_2 | refine IsS67.far ?_ (Aside0.out q83t) _) | exact HI0.out)); (case side2 => repeat (first | (with_reducible first | exact HB.out | apply below_alloc | apply pw_below_drewN | apply below_drew1 | refine below_set ?_ (IsS67.ge HI0.out) | refine below_set ?_ (Aside0.out q83t)) | exact HB.out)); rintro e w28 ⟨rfl, hi, hb, hk⟩; refine ⟨_, rfl, ?_⟩; replace BK150 := kbb BK150 hk NB150_0.out q87t; replace BK151 := kbb BK151 hk NB151_0.out q87t; replace HK := Aside0.mk (KeepBut.trans q27t hk (.inl rfl)); replace HB := Aside0.mk (hb); replace HI0 := Aside0.mk (hi); (try clear hb); (try clear hb2); (try clear hk); (try clear hi); obtain ⟨hcz29_0, hcz29_1, hcz29_2, hcz29_3, hcz29_4, hcz29_5⟩ := qc6 BK150.out; obtain ⟨hfz29_0, hfz29_1, hfz29_2, hfz29_3, hfz29_4, hfz29_5⟩ := qf6 BK150.out) | ((with_reducible refine gate_callee (f := 27) rfl ?_); refine goesL_ (some 38) rfl rfl Try.func27 (by kernel_rfl) rfl #[.pointer (some ⟨g, 0, none⟩), .int .i64 a1_1] rfl q51t ?_; (with_reducible refine (spec_l1Below.calls g s0_0 t162 t163 a1_1 t164 t165 t166 w0 _ ?side1 ?side2 A23.out).mono ?_); (case side1 => repeat (first | (with_reducible first | exact HI0.out | apply IsS67.alloc | apply IsS67.drewN | apply IsS67.drew | apply IsS67.set_1 | apply IsS67.set_2 | refine IsS67.far ?_ (Aside0.out q83t) _) | exact HI0.out)); (case side2 => repeat (first | (with_reducible first | exact HB.out | apply below_alloc | apply pw_below_drewN | apply below_drew1 | refine below_set ?_ (IsS67.ge HI0.out) | refine below_set ?_ (Aside0.out q83t)) | exact HB.out)); rintro e w30 ⟨rfl, hi, hb, hk⟩; refine ⟨_, rfl, ?_⟩; replace BK150 := kbb BK150 hk NB150_0.out q87t; replace BK151 := kbb BK151 hk NB151_0.out q87t; replace HK := Aside0.mk (KeepBut.trans q27t hk (.inl rfl)); replace HB := Aside0.mk (hb); replace HI0 := Aside0.mk (hi); (try clear hb); (try clear hb2); (try clear hk); (try clear hi)))
   replace BK150 := Aside0.mk (blk_drew BK150.out)
   replace BK151 := Aside0.mk (blk_drew BK151.out)
   replace HI0 := Aside0.mk (IsS67.drew HI0.out)
   replace HK := Aside0.mk (keep_drew HK.out)
   replace HB := Aside0.mk (below_drew1 HB.out)
   refine start_ (n := 15) (S := fun w' => w'.cell? ⟨gb150, 0, none⟩ = some (.int .i64 a1_0) ∧ w'.cell? ⟨gb150, 1, none⟩ = some (.int .i64 a1_1) ∧ w'.cell? ⟨gb150, 2, none⟩ = some (.int .i64 a1_2) ∧ w'.cell? ⟨gb150, 3, none⟩ = some (.int .i64 a1_3) ∧ w'.cell? ⟨gb150, 4, none⟩ = some (.int .i64 a1_4) ∧ w'.cell? ⟨gb150, 5, none⟩ = some (.int .i64 a1_5)) (ds := []) (bm 15 0) (by kernel_rfl) rfl (by kernel_rfl) ⟨(blk_cell BK150.out 0).trans rfl, (blk_cell BK150.out 1).trans rfl, (blk_cell BK150.out 2).trans rfl, (blk_cell BK150.out 3).trans rfl, (blk_cell BK150.out 4).trans rfl, (blk_cell BK150.out 5).trans rfl⟩ (fun hHeld => ?_); refine with_tabW spec_l7Thing.tab5 spec_l7Thing.bits5 (fun HT_ HW_ => ?_)
   generalize w30.drew = w31 at BK150 BK151 HI0 HK HB hHeld ⊢
   refine pu_ 0 (some 39) (bm 15 1) (any_of HT_.out (by kernel_rfl)) ?_
   refine pu_ 1 (some 40) (bm 15 3) (any_of HT_.out (by kernel_rfl)) ?_
   refine pu_ 4 (some 43) (bm 15 19) (any_of HT_.out (by kernel_rfl)) ?_
   refine pu_ 6 (some 45) (bm 15 83) (any_of HT_.out (by kernel_rfl)) ?_
   refine pu_ 7 (some 46) (bm 15 211) (any_of HT_.out (by kernel_rfl)) ?_
   refine pu_ 9 (some 48) (bm 15 723) (any_of HT_.out (by kernel_rfl)) ?_
   refine tk_ 2 (some 41) (bm 15 727) (take_ofW HT_.out HW_.out (by kernel_rfl)) hHeld ?_
   refine pu_ 3 (some 42) (bm 15 735) (any_of HT_.out (by kernel_rfl)) ?_
   refine pu_ 5 (some 44) (bm 15 767) (any_of HT_.out (by kernel_rfl)) ?_
   refine tk_ 8 (some 47) (bm 15 1023) (take_ofW HT_.out HW_.out (by kernel_rfl)) hHeld ?_
   refine pu_ 10 (some 49) (bm 15 2047) (any_of HT_.out (by kernel_rfl)) ?_
   refine one_ (i := 11) (N := some 50) (bm 15 4095) rfl rfl (one_of HT_.out (by kernel_rfl)) q85t (fun K hK => ?_)
   refine goes_ Try.func27 (by kernel_rfl) rfl #[.pointer (some ⟨g, 0, none⟩), .int .i64 (wrap64 (a1_1 - t164))] (by rfl) rfl rfl q51t ?_
   with_reducible refine (spec_l1Below.calls g s0_0 t165 t166 (wrap64 (a1_1 - t164)) t167 t168 t169 w0 _ ?side1 ?side2 A24.out).mono ?_
   (case side1 => repeat (first | (with_reducible first | exact HI0.out | apply IsS67.alloc | apply IsS67.drewN | apply IsS67.drew | apply IsS67.set_1 | apply IsS67.set_2 | refine IsS67.far ?_ (Aside0.out q83t) _) | exact HI0.out))
   (case side2 => repeat (first | (with_reducible first | exact HB.out | apply below_alloc | apply pw_below_drewN | apply below_drew1 | refine below_set ?_ (IsS67.ge HI0.out) | refine below_set ?_ (Aside0.out q83t)) | exact HB.out))
   rintro e w32 ⟨rfl, hi, hb, hk⟩
   refine ⟨_, rfl, ?_⟩
   replace BK150 := kbb BK150 hk NB150_0.out q87t
   replace BK151 := kbb BK151 hk NB151_0.out q87t
   replace HK := Aside0.mk (KeepBut.trans q27t hk (.inl rfl))
   replace HB := Aside0.mk (hb)
   replace HI0 := Aside0.mk (hi)
   (try clear hb)
   (try clear hb2)
   (try clear hk)
   (try clear hi)
   refine hK.out _ _ q24t (fun hHeld => ?_)
   clear hK K
   refine norm_ (a' := ?_) ?_ ?_
   rotate_left
   ·show Act.put _ (some 50) _ = _
    simp only [Act.put, List.setIfInBounds_toArray, List.set_cons_zero, List.set_cons_succ, i64_w, i32_w]
    rfl
   refine pu_ 12 (some 51) (bm 15 8191) (any_of HT_.out (by kernel_rfl)) ?_
   refine pu_ 13 (some 52) (bm 15 16383) (any_of HT_.out (by kernel_rfl)) ?_
   refine one_ (i := 14) (N := none) (bm 15 32767) rfl rfl (one_of HT_.out (by kernel_rfl)) q85t (fun K hK => ?_)
   have hs33 : w32.cell? ⟨gb151, 0, none⟩ = some (.int .i64 0) := (blk_cell BK151.out 0).trans rfl
   have hfs33 := blk_frozen BK151.out 0
   have hns33_0 := NB150_151.out
   have hms33_0 := NB151_150.out
   have hs34 : w32.cell? ⟨gb151, 1, none⟩ = some (.int .i64 0) := (blk_cell BK151.out 1).trans rfl
   have hfs34 := blk_frozen BK151.out 1
   have hns34_0 := NB150_151.out
   have hms34_0 := NB151_150.out
   have hs35 : w32.cell? ⟨gb151, 2, none⟩ = some (.int .i64 0) := (blk_cell BK151.out 2).trans rfl
   have hfs35 := blk_frozen BK151.out 2
   have hns35_0 := NB150_151.out
   have hms35_0 := NB151_150.out
   refine skip_ (w1 := ?_) (by rfl) rfl ?_ ?_
   rotate_left
   ·go_simp
    rfl
   refine hK.out _ _ (by first | exact ⟨((cell_far (p := ⟨gb151, _, none⟩) NB150_151.out _).trans (((cell_far (p := ⟨gb151, _, none⟩) NB150_151.out _).trans (((cell_far (p := ⟨gb151, _, none⟩) NB150_151.out _).trans (hHeld.1)))))), ((cell_far (p := ⟨gb151, _, none⟩) NB150_151.out _).trans (((cell_far (p := ⟨gb151, _, none⟩) NB150_151.out _).trans (((cell_far (p := ⟨gb151, _, none⟩) NB150_151.out _).trans (hHeld.2.1)))))), ((cell_far (p := ⟨gb151, _, none⟩) NB150_151.out _).trans (((cell_far (p := ⟨gb151, _, none⟩) NB150_151.out _).trans (((cell_far (p := ⟨gb151, _, none⟩) NB150_151.out _).trans (hHeld.2.2.1)))))), ((cell_far (p := ⟨gb151, _, none⟩) NB150_151.out _).trans (((cell_far (p := ⟨gb151, _, none⟩) NB150_151.out _).trans (((cell_far (p := ⟨gb151, _, none⟩) NB150_151.out _).trans (hHeld.2.2.2.1)))))), ((cell_far (p := ⟨gb151, _, none⟩) NB150_151.out _).trans (((cell_far (p := ⟨gb151, _, none⟩) NB150_151.out _).trans (((cell_far (p := ⟨gb151, _, none⟩) NB150_151.out _).trans (hHeld.2.2.2.2.1)))))), ((cell_far (p := ⟨gb151, _, none⟩) NB150_151.out _).trans (((cell_far (p := ⟨gb151, _, none⟩) NB150_151.out _).trans (((cell_far (p := ⟨gb151, _, none⟩) NB150_151.out _).trans (hHeld.2.2.2.2.2))))))⟩ | exact hHeld) (fun hHeld => ?_)
   clear hK K
   refine done_ (done_of HT_.out (by kernel_rfl)) ?_
   try go_wp2
   refine bodyPost_ret (results_cell_row rfl _ _ gb151 74 #[.int .i64 (wrap64 ((wrap64 (t161 * a1_1)) + t164)), .int .i64 (wrap64 (1 + t167)), .int .i64 0] (0, 0) _ rfl (qbp BK151) Try.underlying74 rfl (by kernel_rfl)) rfl ?_
   exact ⟨q73t, q23t, q22t, q27t⟩

end Go.Proofs.Ytofpmdgndegalab.QFnTables
