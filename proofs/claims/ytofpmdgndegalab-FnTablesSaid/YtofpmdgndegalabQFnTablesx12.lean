/- What the functions that the law FnTables reaches compute, as plain functions, and that the code computes just that (by a program of this session's; the library's functions by hand). No condition. -/
import Derived.Test.YtofpmdgndegalabQFnTablesx0
import Derived.Test.YtofpmdgndegalabQFnTablesx6
namespace Go.Proofs.Ytofpmdgndegalab.QFnTables
open Go.RowKit Go.Proofs.YtofpmdgndegalabW.PrintWords Go.Proofs.YtofpmdgndegalabW.PrintLast Go.Proofs.YtofpmdgndegalabW.PrintMore
attribute [local go_sem] max2_int min2_int max_two min_two max_three min_three max_four min_four   -- for this text's walks alone
set_option linter.unusedVariables false
set_option linter.unusedSimpArgs false

/-! ### spec_PlaceOf: function 15 -/
def spec_PlaceOf.j0 : Nat → Bool → Int → Int → Option (Int)
 | 0, _, _, _ => none
 | k + 1, x31, x591000, x591001 => if x31 = true then (some (-1)) else (some x591000)
def spec_PlaceOf.f (k : Nat) (l0 : List (S48)) (a1_0 : Int) (a1_1 : Int) : Option (Int) := (spec_l1In.f a1_0 0 (wrap64 ((l0.length : Int) - 1))).bind fun t591 => (if t591 = true then (if 0 ≤ a1_0 then (if a1_0 < (l0.length : Int) then (if ((rd_T48 l0 a1_0).f0) = 1 then (spec_PlaceOf.j0 k (((rd_T48 l0 a1_0).f1) != a1_1) a1_0 a1_1) else (spec_PlaceOf.j0 k true a1_0 a1_1)) else (none)) else (none)) else (spec_PlaceOf.j0 k true a1_0 a1_1))
theorem spec_PlaceOf.mono_l : ∀ k, (∀ y0 y1 y2, LeO (spec_PlaceOf.j0 k y0 y1 y2) (spec_PlaceOf.j0 (k + 1) y0 y1 y2))
 | 0 => fun _ _ _ r h => by simp [spec_PlaceOf.j0] at h
 | k + 1 => by
  have ih0 := spec_PlaceOf.mono_l k
  ·intro y0 y1 y2
   unfold spec_PlaceOf.j0
   repeat' first
   | (with_reducible exact ih0 _ _ _)
   | (with_reducible exact LeO.refl _)
   | (with_reducible exact LeO.none _)
   | (with_reducible refine LeO.ite ?_ ?_)
   | (with_reducible refine LeO.bind ?_ (fun _ => ?_))
   | exact ih0 _ _ _
   | exact LeO.none _
   | refine LeO.ite ?_ ?_
   | refine LeO.bind ?_ (fun _ => ?_)
theorem spec_PlaceOf.mono : ∀ a0 a1 a2 k, LeO (spec_PlaceOf.f k a0 a1 a2) (spec_PlaceOf.f (k + 1) a0 a1 a2) := by
 intro a0 a1 a2 k
 have ih0 := spec_PlaceOf.mono_l k
 unfold spec_PlaceOf.f
 repeat' first
   | (with_reducible exact ih0 _ _ _)
   | (with_reducible exact LeO.refl _)
   | (with_reducible exact LeO.none _)
   | (with_reducible refine LeO.ite ?_ ?_)
   | (with_reducible refine LeO.bind ?_ (fun _ => ?_))
   | exact ih0 _ _ _
   | exact LeO.none _
   | refine LeO.ite ?_ ?_
   | refine LeO.bind ?_ (fun _ => ?_)
def spec_PlaceOf.T1 : Bool × List (List Nat × List Nat) := (true, [([], []), ([0], [0]), ([], []), ([2], [2]), ([3], [3]), ([1, 4], [1, 4]), ([5], [5]), ([6, 5], [6]), ([7], [7]), ([7], [7]), ([9, 7], [7, 9]), ([8, 10, 7], [7, 8, 10]), ([11, 7], [7, 11]), ([12, 7], [7, 12]), ([13, 7], [7, 13]), ([7, 14], [7, 14]), ([15, 7], [15]), ([16], [16]), ([16], [16]), ([18, 16], [16, 18]), ([17, 19, 16], [16, 17, 19]), ([20, 16], [16, 20]), ([21, 16], [16, 21]), ([16], [16]), ([23, 16], [16, 23]), ([22, 24, 16], [16, 22, 24]), ([16, 25], [16, 25])])
def spec_PlaceOf.B1 : List Nat := [0, 1, 0, 4, 12, 31, 63, 127, 255, 255, 767, 2047, 4095, 8191, 16383, 32767, 65535, 131071, 131071, 393215, 1048575, 2097151, 4194303, 131071, 8519679, 33554431, 67108863]
theorem spec_PlaceOf.tab1 : rtab .any (opsOf Try.f15 1) = spec_PlaceOf.T1 := by kernel_rfl
theorem spec_PlaceOf.bits1 : waitsOk spec_PlaceOf.T1.2 spec_PlaceOf.B1 = true := by kernel_rfl
set_option maxHeartbeats 8000000 in
set_option maxRecDepth 100000 in
theorem spec_PlaceOf.calls (k : Nat) (A0 : Option Addr) (c0 : Nat) (l0 : List (S48)) (a1_0 : Int) (a1_1 : Int) (r : Int) (w : World) (hr0 : Kd.C k48 w A0 l0.length l0) (hc0 : l0.length ≤ c0) (h : spec_PlaceOf.f k l0 a1_0 a1_1 = some r) :
  Calls Try.prog 15 #[.slice A0 l0.length c0, .agg #[.int .i64 a1_0, .int .i64 a1_1]] w fun e w' => e = .returned (.int .i64 r) ∧ Below w.heap.size w w' := by
 have hu29 := Try.underlying29
 have HR0 := Aside0.mk hr0
 have HC0 := Aside0.mk hc0
 clear hr0 hc0
 have HB := Aside0.mk (Below.refl w.heap.size w)
 have H : ((spec_l1In.f a1_0 0 (wrap64 ((l0.length : Int) - 1))).bind fun t591 => (if t591 = true then (if 0 ≤ a1_0 then (if a1_0 < (l0.length : Int) then (if ((rd_T48 l0 a1_0).f0) = 1 then (spec_PlaceOf.j0 k (((rd_T48 l0 a1_0).f1) != a1_1) a1_0 a1_1) else (spec_PlaceOf.j0 k true a1_0 a1_1)) else (none)) else (none)) else (spec_PlaceOf.j0 k true a1_0 a1_1))) = some r := h
 clear h
 have HC3 := Aside0.mk H
 clear H
 go_enter Try.func15, Try.ntmps15
 go_upto_region 1 with (first | ((with_reducible refine gate_dst (N := 3) rfl ?_); refine box_ev 3 #[.int .i64 a1_0, .int .i64 a1_1] 29 ?_; intro gb590 hg w4 hbox hb; have BK590 := Aside0.mk (hbox); have GW590 := Aside0.mk ((q48t : w.heap.size ≤ gb590)); have GE590 := Aside0.mk ((q48t : w.heap.size ≤ gb590)); replace HB := Aside0.mk (below_step q53t hb); clear hb hbox hg))
 (try simp only [Act.put, List.setIfInBounds_toArray, List.set_cons_zero, List.set_cons_succ])
 go_cut [31] (fun v31 wc => ∃ (kq : Nat) (x31_2 : Bool), v31 = .bool x31_2 ∧ Aside0 (spec_PlaceOf.j0 kq x31_2 a1_0 a1_1 = some r) ∧ Aside0 (kq ≤ k) ∧ Aside0 (wc.heap[gb590]? = some (.cells #[.int .i64 a1_0, .int .i64 a1_1] 29 (0, 0))) ∧ Aside0 (Below w.heap.size w wc))
 case first =>
  have H := HC3.out
  clear HC3
  replace H := Option.bind_eq_some_iff.mp H
  obtain ⟨t591, A50, H⟩ := H
  try dsimp only at H
  have A5 := Aside0.mk A50
  clear A50
  by_cases c6 : t591 = true
  rotate_left
  ·replace c6 := Bool.eq_false_iff.mpr c6
   subst c6
   rw [if_neg (show ¬ (false = true) by decide)] at H
   have H' := Aside0.mk H
   clear H
   try go_wp2
   (try (rw [drewN_self w4]; generalize hq_ : World.drewN w4 _ = w4; have hh_ := congrArg World.heap hq_; dsimp only [World.drewN] at hh_; have zb_ : Below w.heap.size w w4 := (by rw [← hq_]; exact pw_below_drewN HB.out _); have z_ := BK590.out; rw [hh_] at z_; clear BK590; have BK590 := Aside0.mk z_; clear z_; clear HB; have HB := Aside0.mk zb_; clear zb_ hh_ hq_))
   replace BK590 := Aside0.mk (blk_drew BK590.out)
   replace HB := Aside0.mk (below_drew1 HB.out)
   refine start_ (n := 27) (S := fun w' => w'.cell? ⟨gb590, 0, none⟩ = some (.int .i64 a1_0) ∧ w'.cell? ⟨gb590, 1, none⟩ = some (.int .i64 a1_1)) (ds := []) (bm 27 0) (by kernel_rfl) rfl (by kernel_rfl) ⟨(blk_cell BK590.out 0).trans rfl, (blk_cell BK590.out 1).trans rfl⟩ (fun hHeld => ?_); refine with_tabW spec_PlaceOf.tab1 spec_PlaceOf.bits1 (fun HT_ HW_ => ?_)
   generalize w4.drew = w12 at BK590 HB hHeld ⊢
   refine pu_ 0 (some 5) (bm 27 1) (any_of HT_.out (by kernel_rfl)) ?_
   refine pu_ 2 (some 7) (bm 27 5) (any_of HT_.out (by kernel_rfl)) ?_
   refine pu_ 3 (some 8) (bm 27 13) (any_of HT_.out (by kernel_rfl)) ?_
   refine pu_ 4 (some 9) (bm 27 29) (any_of HT_.out (by kernel_rfl)) ?_
   refine tk_ 1 (some 6) (bm 27 31) (take_ofW HT_.out HW_.out (by kernel_rfl)) hHeld ?_
   refine one_ (i := 5) (N := some 10) (bm 27 63) rfl rfl (one_of HT_.out (by kernel_rfl)) q85t (fun K hK => ?_)
   refine goes_ Try.func35 (by kernel_rfl) rfl #[.int .i64 a1_0, .int .i64 0, .int .i64 (wrap64 ((l0.length : Int) - 1))] (by rfl) rfl rfl q51t ?_
   with_reducible refine (spec_l1In.calls a1_0 0 (wrap64 ((l0.length : Int) - 1)) false _ A5.out).mono ?_
   rintro e w' ⟨rfl, ⟨nd, rfl⟩⟩
   refine ⟨_, rfl, ?_⟩
   refine hK.out _ _ (by first | exact ⟨(blk_cell BK590.out 0).trans rfl, (blk_cell BK590.out 1).trans rfl⟩ | exact hHeld) (fun hHeld => ?_)
   clear hK K
   refine norm_ (a' := ?_) ?_ ?_
   rotate_left
   ·show Act.put _ (some 10) _ = _
    simp only [Act.put, List.setIfInBounds_toArray, List.set_cons_zero, List.set_cons_succ, i64_w, i32_w]
    rfl
   refine pu_ 6 (some 11) (bm 27 127) (any_of HT_.out (by kernel_rfl)) ?_
   refine pu_ 7 (some 12) (bm 27 255) (any_of HT_.out (by kernel_rfl)) ?_
   refine pn_ 8 (some 13) (bm 27 511) (any_of HT_.out (by kernel_rfl)) ?_
   refine pn_ 9 (some 14) (bm 27 1023) (any_of HT_.out (by kernel_rfl)) ?_
   refine pn_ 10 (some 15) (bm 27 2047) (any_of HT_.out (by kernel_rfl)) ?_
   refine pn_ 11 (some 16) (bm 27 4095) (any_of HT_.out (by kernel_rfl)) ?_
   refine pn_ 12 (some 17) (bm 27 8191) (any_of HT_.out (by kernel_rfl)) ?_
   refine pn_ 13 (some 18) (bm 27 16383) (any_of HT_.out (by kernel_rfl)) ?_
   refine pn_ 14 (some 19) (bm 27 32767) (any_of HT_.out (by kernel_rfl)) ?_
   refine pu_ 15 (some 20) (bm 27 65535) (any_of HT_.out (by kernel_rfl)) ?_
   refine pu_ 16 (some 21) (bm 27 131071) (any_of HT_.out (by kernel_rfl)) ?_
   refine pn_ 17 (some 22) (bm 27 262143) (any_of HT_.out (by kernel_rfl)) ?_
   refine pn_ 18 (some 23) (bm 27 524287) (any_of HT_.out (by kernel_rfl)) ?_
   refine pn_ 19 (some 24) (bm 27 1048575) (any_of HT_.out (by kernel_rfl)) ?_
   refine pn_ 20 (some 25) (bm 27 2097151) (any_of HT_.out (by kernel_rfl)) ?_
   refine pn_ 21 (some 26) (bm 27 4194303) (any_of HT_.out (by kernel_rfl)) ?_
   refine pn_ 22 (some 27) (bm 27 8388607) (any_of HT_.out (by kernel_rfl)) ?_
   refine pn_ 23 (some 28) (bm 27 16777215) (any_of HT_.out (by kernel_rfl)) ?_
   refine pn_ 24 (some 29) (bm 27 33554431) (any_of HT_.out (by kernel_rfl)) ?_
   refine pn_ 25 (some 30) (bm 27 67108863) (any_of HT_.out (by kernel_rfl)) ?_
   refine pu_ 26 (some 31) (bm 27 134217727) (any_of HT_.out (by kernel_rfl)) ?_
   refine done_ (done_of HT_.out (by kernel_rfl)) ?_
   try go_wp2
   go_meet
   case rel => exact ⟨_, (true), q81t, H', ⟨q82t⟩, ⟨qbk BK590⟩, ⟨q33t⟩⟩
  subst c6
  rw [if_pos rfl] at H
  by_cases c7 : 0 ≤ a1_0
  rotate_left
  ·rw [if_neg c7] at H
   exact absurd H q87t
  rw [if_pos c7] at H
  have c7b0 : decide (0 ≤ a1_0) = true := decide_eq_true c7
  clear c7
  (first | rw [c7b0] | (simp only [i64_w, i32_w]; rw [c7b0]) | skip)
  by_cases c8 : a1_0 < (l0.length : Int)
  rotate_left
  ·rw [if_neg c8] at H
   exact absurd H q87t
  rw [if_pos c8] at H
  have c8b0 : decide (a1_0 < (l0.length : Int)) = true := decide_eq_true c8
  clear c8
  by_cases c9 : ((rd_T48 l0 a1_0).f0) = 1
  ·rw [if_pos c9] at H
   have c9b0 : (((rd_T48 l0 a1_0).f0) == 1) = true := beq_iff_eq.mpr c9
   have c9b1 : (((rd_T48 l0 a1_0).f0) != 1) = false := bne_eq_false_iff_eq.mpr c9
   clear c9
   have H' := Aside0.mk H
   clear H
   try go_wp2
   replace BK590 := Aside0.mk (blk_drew BK590.out)
   replace HB := Aside0.mk (below_drew1 HB.out)
   have p592 : 0 ≤ (a1_0 : Int) := of_decide_eq_true q76t
   have q592 : a1_0 < (l0.length : Int) := of_decide_eq_true q76t
   obtain ⟨ad592, A592_8, c592_8, A592_11, c592_11, A592_12, c592_12, e592, hx592_0, hx592_1, hx592_2, hx592_3, hx592_4, hx592_5, hx592_6, hx592_7, hx592_8, hx592_9, hx592_10, hx592_11, hx592_12, hl592_8, hi592_8, hl592_11, hi592_11, hl592_12, hi592_12⟩ := at_T48 HR0.out a1_0 p592 q592
   have hw592_12 := hx592_12
   have hw592_11 := hx592_11
   have hw592_10 := hx592_10
   have hw592_9 := hx592_9
   have hw592_8 := hx592_8
   have hw592_7 := hx592_7
   have hw592_6 := hx592_6
   have hw592_5 := hx592_5
   have hw592_4 := hx592_4
   have hw592_3 := hx592_3
   have hw592_2 := hx592_2
   have hw592_1 := hx592_1
   have hw592_0 := hx592_0
   cases e592
   replace hx592_0 := hbt HB hx592_0
   replace hx592_1 := hbt HB hx592_1
   replace hx592_2 := hbt HB hx592_2
   replace hx592_3 := hbt HB hx592_3
   replace hx592_4 := hbt HB hx592_4
   replace hx592_5 := hbt HB hx592_5
   replace hx592_6 := hbt HB hx592_6
   replace hx592_7 := hbt HB hx592_7
   replace hx592_8 := hbt HB hx592_8
   replace hx592_9 := hbt HB hx592_9
   replace hx592_10 := hbt HB hx592_10
   replace hx592_11 := hbt HB hx592_11
   replace hx592_12 := hbt HB hx592_12
   have HR592_8 := Aside0.mk hi592_8
   have HC592_8 := Aside0.mk hl592_8
   clear hi592_8 hl592_8
   have HR592_11 := Aside0.mk hi592_11
   have HC592_11 := Aside0.mk hl592_11
   clear hi592_11 hl592_11
   have HR592_12 := Aside0.mk hi592_12
   have HC592_12 := Aside0.mk hl592_12
   clear hi592_12 hl592_12
   replace p592 := eq_true p592
   replace q592 := eq_true q592
   have p593 : 0 ≤ (a1_0 : Int) := of_decide_eq_true q76t
   have q593 : a1_0 < (l0.length : Int) := of_decide_eq_true q76t
   obtain ⟨ad593, A593_8, c593_8, A593_11, c593_11, A593_12, c593_12, e593, hx593_0, hx593_1, hx593_2, hx593_3, hx593_4, hx593_5, hx593_6, hx593_7, hx593_8, hx593_9, hx593_10, hx593_11, hx593_12, hl593_8, hi593_8, hl593_11, hi593_11, hl593_12, hi593_12⟩ := at_T48 HR0.out a1_0 p593 q593
   have hw593_12 := hx593_12
   have hw593_11 := hx593_11
   have hw593_10 := hx593_10
   have hw593_9 := hx593_9
   have hw593_8 := hx593_8
   have hw593_7 := hx593_7
   have hw593_6 := hx593_6
   have hw593_5 := hx593_5
   have hw593_4 := hx593_4
   have hw593_3 := hx593_3
   have hw593_2 := hx593_2
   have hw593_1 := hx593_1
   have hw593_0 := hx593_0
   obtain rfl : ad592 = ad593 := (by injection e593)
   replace hx593_0 := hbt HB hx593_0
   replace hx593_1 := hbt HB hx593_1
   replace hx593_2 := hbt HB hx593_2
   replace hx593_3 := hbt HB hx593_3
   replace hx593_4 := hbt HB hx593_4
   replace hx593_5 := hbt HB hx593_5
   replace hx593_6 := hbt HB hx593_6
   replace hx593_7 := hbt HB hx593_7
   replace hx593_8 := hbt HB hx593_8
   replace hx593_9 := hbt HB hx593_9
   replace hx593_10 := hbt HB hx593_10
   replace hx593_11 := hbt HB hx593_11
   replace hx593_12 := hbt HB hx593_12
   have HR593_8 := Aside0.mk hi593_8
   have HC593_8 := Aside0.mk hl593_8
   clear hi593_8 hl593_8
   have HR593_11 := Aside0.mk hi593_11
   have HC593_11 := Aside0.mk hl593_11
   clear hi593_11 hl593_11
   have HR593_12 := Aside0.mk hi593_12
   have HC593_12 := Aside0.mk hl593_12
   clear hi593_12 hl593_12
   replace p593 := eq_true p593
   replace q593 := eq_true q593
   have ea_ := Option.some.inj (hx592_8.symm.trans hx593_8)
   injection ea_ with ea_ en_ ec_
   subst ea_
   subst ec_
   clear en_
   have ea_ := Option.some.inj (hx592_11.symm.trans hx593_11)
   injection ea_ with ea_ en_ ec_
   subst ea_
   subst ec_
   clear en_
   have ea_ := Option.some.inj (hx592_12.symm.trans hx593_12)
   injection ea_ with ea_ en_ ec_
   subst ea_
   subst ec_
   clear en_
   refine start_ (n := 27) (S := fun w' => w'.cell? ⟨gb590, 0, none⟩ = some (.int .i64 a1_0) ∧ w'.cell? ⟨gb590, 1, none⟩ = some (.int .i64 a1_1) ∧ w'.cell? (ad592.add ((a1_0).toNat * 13)) = some (.int .i64 ((rd_T48 l0 a1_0).f0)) ∧ w'.cell? ⟨(ad592.add ((a1_0).toNat * 13)).block, (ad592.add ((a1_0).toNat * 13)).off + 1, none⟩ = some (.int .i64 ((rd_T48 l0 a1_0).f1)) ∧ w'.cell? ⟨(ad592.add ((a1_0).toNat * 13)).block, (ad592.add ((a1_0).toNat * 13)).off + 2, none⟩ = some (.int .i64 ((rd_T48 l0 a1_0).f2)) ∧ w'.cell? ⟨(ad592.add ((a1_0).toNat * 13)).block, (ad592.add ((a1_0).toNat * 13)).off + 3, none⟩ = some (.int .i64 ((rd_T48 l0 a1_0).f3)) ∧ w'.cell? ⟨(ad592.add ((a1_0).toNat * 13)).block, (ad592.add ((a1_0).toNat * 13)).off + 4, none⟩ = some (.int .i64 ((rd_T48 l0 a1_0).f4)) ∧ w'.cell? ⟨(ad592.add ((a1_0).toNat * 13)).block, (ad592.add ((a1_0).toNat * 13)).off + 5, none⟩ = some (.int .i64 ((rd_T48 l0 a1_0).f5)) ∧ w'.cell? ⟨(ad592.add ((a1_0).toNat * 13)).block, (ad592.add ((a1_0).toNat * 13)).off + 6, none⟩ = some (.int .i64 ((rd_T48 l0 a1_0).f6)) ∧ w'.cell? ⟨(ad592.add ((a1_0).toNat * 13)).block, (ad592.add ((a1_0).toNat * 13)).off + 7, none⟩ = some (.int .i64 ((rd_T48 l0 a1_0).f7)) ∧ w'.cell? ⟨(ad592.add ((a1_0).toNat * 13)).block, (ad592.add ((a1_0).toNat * 13)).off + 8, none⟩ = some (.slice A592_8 ((rd_T48 l0 a1_0).f8).length c592_8) ∧ w'.cell? ⟨(ad592.add ((a1_0).toNat * 13)).block, (ad592.add ((a1_0).toNat * 13)).off + 9, none⟩ = some (.int .i64 ((rd_T48 l0 a1_0).f9)) ∧ w'.cell? ⟨(ad592.add ((a1_0).toNat * 13)).block, (ad592.add ((a1_0).toNat * 13)).off + 10, none⟩ = some (.int .i64 ((rd_T48 l0 a1_0).f10)) ∧ w'.cell? ⟨(ad592.add ((a1_0).toNat * 13)).block, (ad592.add ((a1_0).toNat * 13)).off + 11, none⟩ = some (.slice A592_11 ((rd_T48 l0 a1_0).f11).length c592_11) ∧ w'.cell? ⟨(ad592.add ((a1_0).toNat * 13)).block, (ad592.add ((a1_0).toNat * 13)).off + 12, none⟩ = some (.slice A592_12 ((rd_T48 l0 a1_0).f12).length c592_12) ∧ w'.cell? (ad592.add ((a1_0).toNat * 13)) = some (.int .i64 ((rd_T48 l0 a1_0).f0)) ∧ w'.cell? ⟨(ad592.add ((a1_0).toNat * 13)).block, (ad592.add ((a1_0).toNat * 13)).off + 1, none⟩ = some (.int .i64 ((rd_T48 l0 a1_0).f1)) ∧ w'.cell? ⟨(ad592.add ((a1_0).toNat * 13)).block, (ad592.add ((a1_0).toNat * 13)).off + 2, none⟩ = some (.int .i64 ((rd_T48 l0 a1_0).f2)) ∧ w'.cell? ⟨(ad592.add ((a1_0).toNat * 13)).block, (ad592.add ((a1_0).toNat * 13)).off + 3, none⟩ = some (.int .i64 ((rd_T48 l0 a1_0).f3)) ∧ w'.cell? ⟨(ad592.add ((a1_0).toNat * 13)).block, (ad592.add ((a1_0).toNat * 13)).off + 4, none⟩ = some (.int .i64 ((rd_T48 l0 a1_0).f4)) ∧ w'.cell? ⟨(ad592.add ((a1_0).toNat * 13)).block, (ad592.add ((a1_0).toNat * 13)).off + 5, none⟩ = some (.int .i64 ((rd_T48 l0 a1_0).f5)) ∧ w'.cell? ⟨(ad592.add ((a1_0).toNat * 13)).block, (ad592.add ((a1_0).toNat * 13)).off + 6, none⟩ = some (.int .i64 ((rd_T48 l0 a1_0).f6)) ∧ w'.cell? ⟨(ad592.add ((a1_0).toNat * 13)).block, (ad592.add ((a1_0).toNat * 13)).off + 7, none⟩ = some (.int .i64 ((rd_T48 l0 a1_0).f7)) ∧ w'.cell? ⟨(ad592.add ((a1_0).toNat * 13)).block, (ad592.add ((a1_0).toNat * 13)).off + 8, none⟩ = some (.slice A592_8 ((rd_T48 l0 a1_0).f8).length c592_8) ∧ w'.cell? ⟨(ad592.add ((a1_0).toNat * 13)).block, (ad592.add ((a1_0).toNat * 13)).off + 9, none⟩ = some (.int .i64 ((rd_T48 l0 a1_0).f9)) ∧ w'.cell? ⟨(ad592.add ((a1_0).toNat * 13)).block, (ad592.add ((a1_0).toNat * 13)).off + 10, none⟩ = some (.int .i64 ((rd_T48 l0 a1_0).f10)) ∧ w'.cell? ⟨(ad592.add ((a1_0).toNat * 13)).block, (ad592.add ((a1_0).toNat * 13)).off + 11, none⟩ = some (.slice A592_11 ((rd_T48 l0 a1_0).f11).length c592_11) ∧ w'.cell? ⟨(ad592.add ((a1_0).toNat * 13)).block, (ad592.add ((a1_0).toNat * 13)).off + 12, none⟩ = some (.slice A592_12 ((rd_T48 l0 a1_0).f12).length c592_12)) (ds := []) (bm 27 0) (by kernel_rfl) rfl (by kernel_rfl) ⟨(blk_cell BK590.out 0).trans rfl, (blk_cell BK590.out 1).trans rfl, (hbt HB hw592_0), (hbt HB hw592_1), (hbt HB hw592_2), (hbt HB hw592_3), (hbt HB hw592_4), (hbt HB hw592_5), (hbt HB hw592_6), (hbt HB hw592_7), (hbt HB hw592_8), (hbt HB hw592_9), (hbt HB hw592_10), (hbt HB hw592_11), (hbt HB hw592_12), (hbt HB hw593_0), (hbt HB hw593_1), (hbt HB hw593_2), (hbt HB hw593_3), (hbt HB hw593_4), (hbt HB hw593_5), (hbt HB hw593_6), (hbt HB hw593_7), (hbt HB hw593_8), (hbt HB hw593_9), (hbt HB hw593_10), (hbt HB hw593_11), (hbt HB hw593_12)⟩ (fun hHeld => ?_); refine with_tabW spec_PlaceOf.tab1 spec_PlaceOf.bits1 (fun HT_ HW_ => ?_)
   generalize w4.drew = w10 at BK590 HB HR592_11 HR592_12 HR592_8 HR593_11 HR593_12 HR593_8 hx592_0 hx592_1 hx592_10 hx592_11 hx592_12 hx592_2 hx592_3 hx592_4 hx592_5 hx592_6 hx592_7 hx592_8 hx592_9 hx593_0 hx593_1 hx593_10 hx593_11 hx593_12 hx593_2 hx593_3 hx593_4 hx593_5 hx593_6 hx593_7 hx593_8 hx593_9 hHeld ⊢
   refine pu_ 0 (some 5) (bm 27 1) (any_of HT_.out (by kernel_rfl)) ?_
   refine pu_ 2 (some 7) (bm 27 5) (any_of HT_.out (by kernel_rfl)) ?_
   refine pu_ 3 (some 8) (bm 27 13) (any_of HT_.out (by kernel_rfl)) ?_
   refine pu_ 4 (some 9) (bm 27 29) (any_of HT_.out (by kernel_rfl)) ?_
   refine tk_ 1 (some 6) (bm 27 31) (take_ofW HT_.out HW_.out (by kernel_rfl)) hHeld ?_
   refine one_ (i := 5) (N := some 10) (bm 27 63) rfl rfl (one_of HT_.out (by kernel_rfl)) q85t (fun K hK => ?_)
   refine goes_ Try.func35 (by kernel_rfl) rfl #[.int .i64 a1_0, .int .i64 0, .int .i64 (wrap64 ((l0.length : Int) - 1))] (by rfl) rfl rfl q51t ?_
   with_reducible refine (spec_l1In.calls a1_0 0 (wrap64 ((l0.length : Int) - 1)) true _ A5.out).mono ?_
   rintro e w' ⟨rfl, ⟨nd, rfl⟩⟩
   refine ⟨_, rfl, ?_⟩
   refine hK.out _ _ (by first | exact ⟨(blk_cell BK590.out 0).trans rfl, (blk_cell BK590.out 1).trans rfl, (hbt HB hw592_0), (hbt HB hw592_1), (hbt HB hw592_2), (hbt HB hw592_3), (hbt HB hw592_4), (hbt HB hw592_5), (hbt HB hw592_6), (hbt HB hw592_7), (hbt HB hw592_8), (hbt HB hw592_9), (hbt HB hw592_10), (hbt HB hw592_11), (hbt HB hw592_12), (hbt HB hw593_0), (hbt HB hw593_1), (hbt HB hw593_2), (hbt HB hw593_3), (hbt HB hw593_4), (hbt HB hw593_5), (hbt HB hw593_6), (hbt HB hw593_7), (hbt HB hw593_8), (hbt HB hw593_9), (hbt HB hw593_10), (hbt HB hw593_11), (hbt HB hw593_12)⟩ | exact hHeld) (fun hHeld => ?_)
   clear hK K
   refine norm_ (a' := ?_) ?_ ?_
   rotate_left
   ·show Act.put _ (some 10) _ = _
    simp only [Act.put, List.setIfInBounds_toArray, List.set_cons_zero, List.set_cons_succ, i64_w, i32_w]
    rfl
   refine pu_ 6 (some 11) (bm 27 127) (any_of HT_.out (by kernel_rfl)) ?_
   refine pu_ 7 (some 12) (bm 27 255) (any_of HT_.out (by kernel_rfl)) ?_
   refine pu_ 8 (some 13) (bm 27 511) (any_of HT_.out (by kernel_rfl)) ?_
   refine pu_ 9 (some 14) (bm 27 1023) (any_of HT_.out (by kernel_rfl)) ?_
   refine tk_ 10 (some 15) (bm 27 2047) (take_ofW HT_.out HW_.out (by kernel_rfl)) hHeld ?_
   refine pu_ 11 (some 16) (bm 27 4095) (any_of HT_.out (by kernel_rfl)) ?_
   refine pu_ 12 (some 17) (bm 27 8191) (any_of HT_.out (by kernel_rfl)) ?_
   refine tk_ 13 (some 18) (bm 27 16383) (take_ofW HT_.out HW_.out (by kernel_rfl)) hHeld ?_
   refine pu_ 14 (some 19) (bm 27 32767) (any_of HT_.out (by kernel_rfl)) ?_
   refine pu_ 15 (some 20) (bm 27 65535) (any_of HT_.out (by kernel_rfl)) ?_
   refine pu_ 16 (some 21) (bm 27 131071) (any_of HT_.out (by kernel_rfl)) ?_
   refine pu_ 17 (some 22) (bm 27 262143) (any_of HT_.out (by kernel_rfl)) ?_
   refine pu_ 18 (some 23) (bm 27 524287) (any_of HT_.out (by kernel_rfl)) ?_
   refine pu_ 23 (some 28) (bm 27 8912895) (any_of HT_.out (by kernel_rfl)) ?_
   refine tk_ 19 (some 24) (bm 27 9437183) (take_ofW HT_.out HW_.out (by kernel_rfl)) hHeld ?_
   refine pu_ 20 (some 25) (bm 27 10485759) (any_of HT_.out (by kernel_rfl)) ?_
   refine pu_ 21 (some 26) (bm 27 12582911) (any_of HT_.out (by kernel_rfl)) ?_
   refine tk_ 22 (some 27) (bm 27 16777215) (take_ofW HT_.out HW_.out (by kernel_rfl)) hHeld ?_
   refine tk_ 24 (some 29) (bm 27 33554431) (take_ofW HT_.out HW_.out (by kernel_rfl)) hHeld ?_
   refine pu_ 25 (some 30) (bm 27 67108863) (any_of HT_.out (by kernel_rfl)) ?_
   refine pu_ 26 (some 31) (bm 27 134217727) (any_of HT_.out (by kernel_rfl)) ?_
   refine done_ (done_of HT_.out (by kernel_rfl)) ?_
   try go_wp2
   go_meet
   case rel => exact ⟨_, ((((rd_T48 l0 a1_0).f1) != a1_1)), q81t, H', ⟨q82t⟩, ⟨qbk BK590⟩, ⟨q33t⟩⟩
  rw [if_neg c9] at H
  have c9b0 : (((rd_T48 l0 a1_0).f0) == 1) = false := beq_eq_false_iff_ne.mpr c9
  have c9b1 : (((rd_T48 l0 a1_0).f0) != 1) = true := bne_iff_ne.mpr c9
  have H' := Aside0.mk H
  clear H
  try go_wp2
  replace BK590 := Aside0.mk (blk_drew BK590.out)
  replace HB := Aside0.mk (below_drew1 HB.out)
  have p592 : 0 ≤ (a1_0 : Int) := of_decide_eq_true q76t
  have q592 : a1_0 < (l0.length : Int) := of_decide_eq_true q76t
  obtain ⟨ad592, A592_8, c592_8, A592_11, c592_11, A592_12, c592_12, e592, hx592_0, hx592_1, hx592_2, hx592_3, hx592_4, hx592_5, hx592_6, hx592_7, hx592_8, hx592_9, hx592_10, hx592_11, hx592_12, hl592_8, hi592_8, hl592_11, hi592_11, hl592_12, hi592_12⟩ := at_T48 HR0.out a1_0 p592 q592
  have hw592_12 := hx592_12
  have hw592_11 := hx592_11
  have hw592_10 := hx592_10
  have hw592_9 := hx592_9
  have hw592_8 := hx592_8
  have hw592_7 := hx592_7
  have hw592_6 := hx592_6
  have hw592_5 := hx592_5
  have hw592_4 := hx592_4
  have hw592_3 := hx592_3
  have hw592_2 := hx592_2
  have hw592_1 := hx592_1
  have hw592_0 := hx592_0
  cases e592
  replace hx592_0 := hbt HB hx592_0
  replace hx592_1 := hbt HB hx592_1
  replace hx592_2 := hbt HB hx592_2
  replace hx592_3 := hbt HB hx592_3
  replace hx592_4 := hbt HB hx592_4
  replace hx592_5 := hbt HB hx592_5
  replace hx592_6 := hbt HB hx592_6
  replace hx592_7 := hbt HB hx592_7
  replace hx592_8 := hbt HB hx592_8
  replace hx592_9 := hbt HB hx592_9
  replace hx592_10 := hbt HB hx592_10
  replace hx592_11 := hbt HB hx592_11
  replace hx592_12 := hbt HB hx592_12
  have HR592_8 := Aside0.mk hi592_8
  have HC592_8 := Aside0.mk hl592_8
  clear hi592_8 hl592_8
  have HR592_11 := Aside0.mk hi592_11
  have HC592_11 := Aside0.mk hl592_11
  clear hi592_11 hl592_11
  have HR592_12 := Aside0.mk hi592_12
  have HC592_12 := Aside0.mk hl592_12
  clear hi592_12 hl592_12
  replace p592 := eq_true p592
  replace q592 := eq_true q592
  refine start_ (n := 27) (S := fun w' => w'.cell? ⟨gb590, 0, none⟩ = some (.int .i64 a1_0) ∧ w'.cell? ⟨gb590, 1, none⟩ = some (.int .i64 a1_1) ∧ w'.cell? (ad592.add ((a1_0).toNat * 13)) = some (.int .i64 ((rd_T48 l0 a1_0).f0)) ∧ w'.cell? ⟨(ad592.add ((a1_0).toNat * 13)).block, (ad592.add ((a1_0).toNat * 13)).off + 1, none⟩ = some (.int .i64 ((rd_T48 l0 a1_0).f1)) ∧ w'.cell? ⟨(ad592.add ((a1_0).toNat * 13)).block, (ad592.add ((a1_0).toNat * 13)).off + 2, none⟩ = some (.int .i64 ((rd_T48 l0 a1_0).f2)) ∧ w'.cell? ⟨(ad592.add ((a1_0).toNat * 13)).block, (ad592.add ((a1_0).toNat * 13)).off + 3, none⟩ = some (.int .i64 ((rd_T48 l0 a1_0).f3)) ∧ w'.cell? ⟨(ad592.add ((a1_0).toNat * 13)).block, (ad592.add ((a1_0).toNat * 13)).off + 4, none⟩ = some (.int .i64 ((rd_T48 l0 a1_0).f4)) ∧ w'.cell? ⟨(ad592.add ((a1_0).toNat * 13)).block, (ad592.add ((a1_0).toNat * 13)).off + 5, none⟩ = some (.int .i64 ((rd_T48 l0 a1_0).f5)) ∧ w'.cell? ⟨(ad592.add ((a1_0).toNat * 13)).block, (ad592.add ((a1_0).toNat * 13)).off + 6, none⟩ = some (.int .i64 ((rd_T48 l0 a1_0).f6)) ∧ w'.cell? ⟨(ad592.add ((a1_0).toNat * 13)).block, (ad592.add ((a1_0).toNat * 13)).off + 7, none⟩ = some (.int .i64 ((rd_T48 l0 a1_0).f7)) ∧ w'.cell? ⟨(ad592.add ((a1_0).toNat * 13)).block, (ad592.add ((a1_0).toNat * 13)).off + 8, none⟩ = some (.slice A592_8 ((rd_T48 l0 a1_0).f8).length c592_8) ∧ w'.cell? ⟨(ad592.add ((a1_0).toNat * 13)).block, (ad592.add ((a1_0).toNat * 13)).off + 9, none⟩ = some (.int .i64 ((rd_T48 l0 a1_0).f9)) ∧ w'.cell? ⟨(ad592.add ((a1_0).toNat * 13)).block, (ad592.add ((a1_0).toNat * 13)).off + 10, none⟩ = some (.int .i64 ((rd_T48 l0 a1_0).f10)) ∧ w'.cell? ⟨(ad592.add ((a1_0).toNat * 13)).block, (ad592.add ((a1_0).toNat * 13)).off + 11, none⟩ = some (.slice A592_11 ((rd_T48 l0 a1_0).f11).length c592_11) ∧ w'.cell? ⟨(ad592.add ((a1_0).toNat * 13)).block, (ad592.add ((a1_0).toNat * 13)).off + 12, none⟩ = some (.slice A592_12 ((rd_T48 l0 a1_0).f12).length c592_12)) (ds := []) (bm 27 0) (by kernel_rfl) rfl (by kernel_rfl) ⟨(blk_cell BK590.out 0).trans rfl, (blk_cell BK590.out 1).trans rfl, (hbt HB hw592_0), (hbt HB hw592_1), (hbt HB hw592_2), (hbt HB hw592_3), (hbt HB hw592_4), (hbt HB hw592_5), (hbt HB hw592_6), (hbt HB hw592_7), (hbt HB hw592_8), (hbt HB hw592_9), (hbt HB hw592_10), (hbt HB hw592_11), (hbt HB hw592_12)⟩ (fun hHeld => ?_); refine with_tabW spec_PlaceOf.tab1 spec_PlaceOf.bits1 (fun HT_ HW_ => ?_)
  generalize w4.drew = w11 at BK590 HB HR592_11 HR592_12 HR592_8 hx592_0 hx592_1 hx592_10 hx592_11 hx592_12 hx592_2 hx592_3 hx592_4 hx592_5 hx592_6 hx592_7 hx592_8 hx592_9 hHeld ⊢
  refine pu_ 0 (some 5) (bm 27 1) (any_of HT_.out (by kernel_rfl)) ?_
  refine pu_ 2 (some 7) (bm 27 5) (any_of HT_.out (by kernel_rfl)) ?_
  refine pu_ 3 (some 8) (bm 27 13) (any_of HT_.out (by kernel_rfl)) ?_
  refine pu_ 4 (some 9) (bm 27 29) (any_of HT_.out (by kernel_rfl)) ?_
  refine tk_ 1 (some 6) (bm 27 31) (take_ofW HT_.out HW_.out (by kernel_rfl)) hHeld ?_
  refine one_ (i := 5) (N := some 10) (bm 27 63) rfl rfl (one_of HT_.out (by kernel_rfl)) q85t (fun K hK => ?_)
  refine goes_ Try.func35 (by kernel_rfl) rfl #[.int .i64 a1_0, .int .i64 0, .int .i64 (wrap64 ((l0.length : Int) - 1))] (by rfl) rfl rfl q51t ?_
  with_reducible refine (spec_l1In.calls a1_0 0 (wrap64 ((l0.length : Int) - 1)) true _ A5.out).mono ?_
  rintro e w' ⟨rfl, ⟨nd, rfl⟩⟩
  refine ⟨_, rfl, ?_⟩
  refine hK.out _ _ (by first | exact ⟨(blk_cell BK590.out 0).trans rfl, (blk_cell BK590.out 1).trans rfl, (hbt HB hw592_0), (hbt HB hw592_1), (hbt HB hw592_2), (hbt HB hw592_3), (hbt HB hw592_4), (hbt HB hw592_5), (hbt HB hw592_6), (hbt HB hw592_7), (hbt HB hw592_8), (hbt HB hw592_9), (hbt HB hw592_10), (hbt HB hw592_11), (hbt HB hw592_12)⟩ | exact hHeld) (fun hHeld => ?_)
  clear hK K
  refine norm_ (a' := ?_) ?_ ?_
  rotate_left
  ·show Act.put _ (some 10) _ = _
   simp only [Act.put, List.setIfInBounds_toArray, List.set_cons_zero, List.set_cons_succ, i64_w, i32_w]
   rfl
  refine pu_ 6 (some 11) (bm 27 127) (any_of HT_.out (by kernel_rfl)) ?_
  refine pu_ 7 (some 12) (bm 27 255) (any_of HT_.out (by kernel_rfl)) ?_
  refine pu_ 8 (some 13) (bm 27 511) (any_of HT_.out (by kernel_rfl)) ?_
  refine pu_ 9 (some 14) (bm 27 1023) (any_of HT_.out (by kernel_rfl)) ?_
  refine tk_ 10 (some 15) (bm 27 2047) (take_ofW HT_.out HW_.out (by kernel_rfl)) hHeld ?_
  refine pu_ 11 (some 16) (bm 27 4095) (any_of HT_.out (by kernel_rfl)) ?_
  refine pu_ 12 (some 17) (bm 27 8191) (any_of HT_.out (by kernel_rfl)) ?_
  refine tk_ 13 (some 18) (bm 27 16383) (take_ofW HT_.out HW_.out (by kernel_rfl)) hHeld ?_
  refine pu_ 14 (some 19) (bm 27 32767) (any_of HT_.out (by kernel_rfl)) ?_
  refine pu_ 15 (some 20) (bm 27 65535) (any_of HT_.out (by kernel_rfl)) ?_
  refine pu_ 16 (some 21) (bm 27 131071) (any_of HT_.out (by kernel_rfl)) ?_
  refine pn_ 17 (some 22) (bm 27 262143) (any_of HT_.out (by kernel_rfl)) ?_
  refine pn_ 18 (some 23) (bm 27 524287) (any_of HT_.out (by kernel_rfl)) ?_
  refine pn_ 19 (some 24) (bm 27 1048575) (any_of HT_.out (by kernel_rfl)) ?_
  refine pn_ 20 (some 25) (bm 27 2097151) (any_of HT_.out (by kernel_rfl)) ?_
  refine pn_ 21 (some 26) (bm 27 4194303) (any_of HT_.out (by kernel_rfl)) ?_
  refine pn_ 22 (some 27) (bm 27 8388607) (any_of HT_.out (by kernel_rfl)) ?_
  refine pn_ 23 (some 28) (bm 27 16777215) (any_of HT_.out (by kernel_rfl)) ?_
  refine pn_ 24 (some 29) (bm 27 33554431) (any_of HT_.out (by kernel_rfl)) ?_
  refine pn_ 25 (some 30) (bm 27 67108863) (any_of HT_.out (by kernel_rfl)) ?_
  refine pu_ 26 (some 31) (bm 27 134217727) (any_of HT_.out (by kernel_rfl)) ?_
  refine done_ (done_of HT_.out (by kernel_rfl)) ?_
  try go_wp2
  go_meet
  case rel => exact ⟨_, (true), q81t, H', ⟨q82t⟩, ⟨qbk BK590⟩, ⟨q33t⟩⟩
 case rest =>
  clear HC3
  try clear p2
  try clear c3
  try clear c5
  try clear p5
  try clear q5
  try clear hx5
  try clear c6
  try clear p6
  try clear c7
  try clear c8
  try clear c9
  try clear c9b0
  try clear c9b1
  try clear hx592_0
  try clear hx592_1
  try clear hx592_10
  try clear hx592_11
  try clear hx592_12
  try clear hx592_2
  try clear hx592_3
  try clear hx592_4
  try clear hx592_5
  try clear hx592_6
  try clear hx592_7
  try clear hx592_8
  try clear hx592_9
  try clear p592
  try clear q592
  obtain ⟨kq, x31_2, rfl, HA, HJ2, BK590, HB⟩ := hcut
  cases kq with
  | zero => exact absurd HA.out (by simp [spec_PlaceOf.j0])
  | succ kj2 =>
   have H := HA.out
   clear HA
   simp only [spec_PlaceOf.j0] at H
   by_cases c13 : x31_2 = true
   ·subst c13
    rw [if_pos rfl] at H
    obtain rfl := Option.some.inj H
    go_wp2
    go_ret
    exact ⟨q73t, q33t⟩
   replace c13 := Bool.eq_false_iff.mpr c13
   subst c13
   rw [if_neg (show ¬ (false = true) by decide)] at H
   obtain rfl := Option.some.inj H
   obtain ⟨hcz14_0, hcz14_1⟩ := qc2 BK590.out
   obtain ⟨hfz14_0, hfz14_1⟩ := qf2 BK590.out
   go_wp2
   go_ret
   exact ⟨q73t, q33t⟩

end Go.Proofs.Ytofpmdgndegalab.QFnTables
