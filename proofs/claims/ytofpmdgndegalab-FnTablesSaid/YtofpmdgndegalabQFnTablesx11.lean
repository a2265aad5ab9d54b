/- What the functions that the law FnTables reaches compute, as plain functions, and that the code computes just that (by a program of this session's; the library's functions by hand). No condition. -/
import Derived.Test.YtofpmdgndegalabQFnTablesx0
import Derived.Test.YtofpmdgndegalabQFnTablesx6
namespace Go.Proofs.Ytofpmdgndegalab.QFnTables
open Go.RowKit Go.Proofs.YtofpmdgndegalabW.PrintWords Go.Proofs.YtofpmdgndegalabW.PrintLast Go.Proofs.YtofpmdgndegalabW.PrintMore
attribute [local go_sem] max2_int min2_int max_two min_two max_three min_three max_four min_four   -- for this text's walks alone
set_option linter.unusedVariables false
set_option linter.unusedSimpArgs false

/-! ### impl_PlaceOf: function 14 -/
def impl_PlaceOf.j0 : Nat → Bool → Int → Int → Option (Int)
 | 0, _, _, _ => none
 | k + 1, x29, x587000, x587001 => if x29 = true then (some (-1)) else (some x587000)
def impl_PlaceOf.f (k : Nat) (l0 : List (S48)) (a1_0 : Int) (a1_1 : Int) : Option (Int) := (impl_isSlot.f l0 a1_0).bind fun t587 => (if t587 = true then (if 0 ≤ a1_0 then (if a1_0 < (l0.length : Int) then (if ((rd_T48 l0 a1_0).f0) = 1 then (impl_PlaceOf.j0 k (((rd_T48 l0 a1_0).f1) != a1_1) a1_0 a1_1) else (impl_PlaceOf.j0 k true a1_0 a1_1)) else (none)) else (none)) else (impl_PlaceOf.j0 k true a1_0 a1_1))
theorem impl_PlaceOf.mono_l : ∀ k, (∀ y0 y1 y2, LeO (impl_PlaceOf.j0 k y0 y1 y2) (impl_PlaceOf.j0 (k + 1) y0 y1 y2))
 | 0 => fun _ _ _ r h => by simp [impl_PlaceOf.j0] at h
 | k + 1 => by
  have ih0 := impl_PlaceOf.mono_l k
  ·intro y0 y1 y2
   unfold impl_PlaceOf.j0
   repeat' first
   | (with_reducible exact ih0 _ _ _)
   | (with_reducible exact LeO.refl _)
   | (with_reducible exact LeO.none _)
   | (with_reducible refine LeO.ite ?_ ?_)
   | (with_reducible refine LeO.bind ?_ (fun _ => ?_))
   | exact ih0 _ _ _
   | exact LeO.none _
   | refine LeO.ite ?_ ?_
   | refine LeO.bind ?_ (fun _ => ?_)
theorem impl_PlaceOf.mono : ∀ a0 a1 a2 k, LeO (impl_PlaceOf.f k a0 a1 a2) (impl_PlaceOf.f (k + 1) a0 a1 a2) := by
 intro a0 a1 a2 k
 have ih0 := impl_PlaceOf.mono_l k
 unfold impl_PlaceOf.f
 repeat' first
   | (with_reducible exact ih0 _ _ _)
   | (with_reducible exact LeO.refl _)
   | (with_reducible exact LeO.none _)
   | (with_reducible refine LeO.ite ?_ ?_)
   | (with_reducible refine LeO.bind ?_ (fun _ => ?_))
   | exact ih0 _ _ _
   | exact LeO.none _
   | refine LeO.ite ?_ ?_
   | refine LeO.bind ?_ (fun _ => ?_)
def impl_PlaceOf.T1 : Bool × List (List Nat × List Nat) := (true, [([], []), ([], []), ([1], [1]), ([0, 2], [0, 2]), ([3], [3]), ([4, 3], [4]), ([5], [5]), ([5], [5]), ([7, 5], [5, 7]), ([6, 8, 5], [5, 6, 8]), ([9, 5], [5, 9]), ([10, 5], [5, 10]), ([11, 5], [5, 11]), ([5, 12], [5, 12]), ([13, 5], [13]), ([14], [14]), ([14], [14]), ([16, 14], [14, 16]), ([15, 17, 14], [14, 15, 17]), ([18, 14], [14, 18]), ([19, 14], [14, 19]), ([14], [14]), ([21, 14], [14, 21]), ([20, 22, 14], [14, 20, 22]), ([14, 23], [14, 23])])
def impl_PlaceOf.B1 : List Nat := [0, 0, 2, 7, 15, 31, 63, 63, 191, 511, 1023, 2047, 4095, 8191, 16383, 32767, 32767, 98303, 262143, 524287, 1048575, 32767, 2129919, 8388607, 16777215]
theorem impl_PlaceOf.tab1 : rtab .any (opsOf Try.f14 1) = impl_PlaceOf.T1 := by kernel_rfl
theorem impl_PlaceOf.bits1 : waitsOk impl_PlaceOf.T1.2 impl_PlaceOf.B1 = true := by kernel_rfl
set_option maxHeartbeats 8000000 in
set_option maxRecDepth 100000 in
theorem impl_PlaceOf.calls (k : Nat) (A0 : Option Addr) (c0 : Nat) (l0 : List (S48)) (a1_0 : Int) (a1_1 : Int) (r : Int) (w : World) (hr0 : Kd.C k48 w A0 l0.length l0) (hc0 : l0.length ≤ c0) (h : impl_PlaceOf.f k l0 a1_0 a1_1 = some r) :
  Calls Try.prog 14 #[.slice A0 l0.length c0, .agg #[.int .i64 a1_0, .int .i64 a1_1]] w fun e w' => e = .returned (.int .i64 r) ∧ Below w.heap.size w w' := by
 have hu29 := Try.underlying29
 have HR0 := Aside0.mk hr0
 have HC0 := Aside0.mk hc0
 clear hr0 hc0
 have HB := Aside0.mk (Below.refl w.heap.size w)
 have H : ((impl_isSlot.f l0 a1_0).bind fun t587 => (if t587 = true then (if 0 ≤ a1_0 then (if a1_0 < (l0.length : Int) then (if ((rd_T48 l0 a1_0).f0) = 1 then (impl_PlaceOf.j0 k (((rd_T48 l0 a1_0).f1) != a1_1) a1_0 a1_1) else (impl_PlaceOf.j0 k true a1_0 a1_1)) else (none)) else (none)) else (impl_PlaceOf.j0 k true a1_0 a1_1))) = some r := h
 clear h
 have HC3 := Aside0.mk H
 clear H
 go_enter Try.func14, Try.ntmps14
 go_upto_region 1 with (first | ((with_reducible refine gate_dst (N := 3) rfl ?_); refine box_ev 3 #[.int .i64 a1_0, .int .i64 a1_1] 29 ?_; intro gb586 hg w4 hbox hb; have BK586 := Aside0.mk (hbox); have GW586 := Aside0.mk ((q48t : w.heap.size ≤ gb586)); have GE586 := Aside0.mk ((q48t : w.heap.size ≤ gb586)); replace HB := Aside0.mk (below_step q53t hb); clear hb hbox hg))
 (try simp only [Act.put, List.setIfInBounds_toArray, List.set_cons_zero, List.set_cons_succ])
 go_cut [29] (fun v29 wc => ∃ (kq : Nat) (x29_2 : Bool), v29 = .bool x29_2 ∧ Aside0 (impl_PlaceOf.j0 kq x29_2 a1_0 a1_1 = some r) ∧ Aside0 (kq ≤ k) ∧ Aside0 (wc.heap[gb586]? = some (.cells #[.int .i64 a1_0, .int .i64 a1_1] 29 (0, 0))) ∧ Aside0 (Below w.heap.size w wc))
 case first =>
  have H := HC3.out
  clear HC3
  replace H := Option.bind_eq_some_iff.mp H
  obtain ⟨t587, A50, H⟩ := H
  try dsimp only at H
  have A5 := Aside0.mk A50
  clear A50
  by_cases c6 : t587 = true
  rotate_left
  ·replace c6 := Bool.eq_false_iff.mpr c6
   subst c6
   rw [if_neg (show ¬ (false = true) by decide)] at H
   have H' := Aside0.mk H
   clear H
   try go_wp2
   (try (rw [drewN_self w4]; generalize hq_ : World.drewN w4 _ = w4; have hh_ := congrArg World.heap hq_; dsimp only [World.drewN] at hh_; have zb_ : Below w.heap.size w w4 := (by rw [← hq_]; exact pw_below_drewN HB.out _); have z_ := BK586.out; rw [hh_] at z_; clear BK586; have BK586 := Aside0.mk z_; clear z_; clear HB; have HB := Aside0.mk zb_; clear zb_ hh_ hq_))
   replace BK586 := Aside0.mk (blk_drew BK586.out)
   replace HB := Aside0.mk (below_drew1 HB.out)
   refine start_ (n := 25) (S := fun w' => w'.cell? ⟨gb586, 0, none⟩ = some (.int .i64 a1_0) ∧ w'.cell? ⟨gb586, 1, none⟩ = some (.int .i64 a1_1)) (ds := []) (bm 25 0) (by kernel_rfl) rfl (by kernel_rfl) ⟨(blk_cell BK586.out 0).trans rfl, (blk_cell BK586.out 1).trans rfl⟩ (fun hHeld => ?_); refine with_tabW impl_PlaceOf.tab1 impl_PlaceOf.bits1 (fun HT_ HW_ => ?_)
   generalize w4.drew = w12 at BK586 HB hHeld ⊢
   refine pu_ 0 (some 5) (bm 25 1) (any_of HT_.out (by kernel_rfl)) ?_
   refine pu_ 1 (some 6) (bm 25 3) (any_of HT_.out (by kernel_rfl)) ?_
   refine tk_ 2 (some 7) (bm 25 7) (take_ofW HT_.out HW_.out (by kernel_rfl)) hHeld ?_
   refine one_ (i := 3) (N := some 8) (bm 25 15) rfl rfl (one_of HT_.out (by kernel_rfl)) q85t (fun K hK => ?_)
   refine goes_ Try.func29 (by kernel_rfl) rfl #[.slice _ l0.length c0, .int .i64 a1_0] (by rfl) rfl rfl q51t ?_
   with_reducible refine (impl_isSlot.calls _ _ l0 a1_0 false _ ?side1 ?side2 A5.out).mono ?_
   (case side1 => exact sC (Kd.C_below HR0.out HB.out))
   (case side2 => exact HC0.out)
   rintro e w' ⟨rfl, ⟨nd, rfl⟩⟩
   refine ⟨_, rfl, ?_⟩
   refine hK.out _ _ (by first | exact ⟨(blk_cell BK586.out 0).trans rfl, (blk_cell BK586.out 1).trans rfl⟩ | exact hHeld) (fun hHeld => ?_)
   clear hK K
   refine norm_ (a' := ?_) ?_ ?_
   rotate_left
   ·show Act.put _ (some 8) _ = _
    simp only [Act.put, List.setIfInBounds_toArray, List.set_cons_zero, List.set_cons_succ, i64_w, i32_w]
    rfl
   refine pu_ 4 (some 9) (bm 25 31) (any_of HT_.out (by kernel_rfl)) ?_
   refine pu_ 5 (some 10) (bm 25 63) (any_of HT_.out (by kernel_rfl)) ?_
   refine pn_ 6 (some 11) (bm 25 127) (any_of HT_.out (by kernel_rfl)) ?_
   refine pn_ 7 (some 12) (bm 25 255) (any_of HT_.out (by kernel_rfl)) ?_
   refine pn_ 8 (some 13) (bm 25 511) (any_of HT_.out (by kernel_rfl)) ?_
   refine pn_ 9 (some 14) (bm 25 1023) (any_of HT_.out (by kernel_rfl)) ?_
   refine pn_ 10 (some 15) (bm 25 2047) (any_of HT_.out (by kernel_rfl)) ?_
   refine pn_ 11 (some 16) (bm 25 4095) (any_of HT_.out (by kernel_rfl)) ?_
   refine pn_ 12 (some 17) (bm 25 8191) (any_of HT_.out (by kernel_rfl)) ?_
   refine pu_ 13 (some 18) (bm 25 16383) (any_of HT_.out (by kernel_rfl)) ?_
   refine pu_ 14 (some 19) (bm 25 32767) (any_of HT_.out (by kernel_rfl)) ?_
   refine pn_ 15 (some 20) (bm 25 65535) (any_of HT_.out (by kernel_rfl)) ?_
   refine pn_ 16 (some 21) (bm 25 131071) (any_of HT_.out (by kernel_rfl)) ?_
   refine pn_ 17 (some 22) (bm 25 262143) (any_of HT_.out (by kernel_rfl)) ?_
   refine pn_ 18 (some 23) (bm 25 524287) (any_of HT_.out (by kernel_rfl)) ?_
   refine pn_ 19 (some 24) (bm 25 1048575) (any_of HT_.out (by kernel_rfl)) ?_
   refine pn_ 20 (some 25) (bm 25 2097151) (any_of HT_.out (by kernel_rfl)) ?_
   refine pn_ 21 (some 26) (bm 25 4194303) (any_of HT_.out (by kernel_rfl)) ?_
   refine pn_ 22 (some 27) (bm 25 8388607) (any_of HT_.out (by kernel_rfl)) ?_
   refine pn_ 23 (some 28) (bm 25 16777215) (any_of HT_.out (by kernel_rfl)) ?_
   refine pu_ 24 (some 29) (bm 25 33554431) (any_of HT_.out (by kernel_rfl)) ?_
   refine done_ (done_of HT_.out (by kernel_rfl)) ?_
   try go_wp2
   go_meet
   case rel => exact ⟨_, (true), q81t, H', ⟨q82t⟩, ⟨qbk BK586⟩, ⟨q33t⟩⟩
  subst c6
  rw [if_pos rfl] at H
  by_cases c7 : 0 ≤ a1_0
  rotate_left
  ·rw [if_neg c7] at H
   exact absurd H q87t
  rw [if_pos c7] at H
  have c7b0 : decide (0 ≤ a1_0) = true := decide_eq_true c7
  clear c7
  (first | rw [c7b0] | (simp only [i64_w, i32_w]; rw [c7b0]) | skip)
  by_cases c8 : a1_0 < (l0.length : Int)
  rotate_left
  ·rw [if_neg c8] at H
   exact absurd H q87t
  rw [if_pos c8] at H
  have c8b0 : decide (a1_0 < (l0.length : Int)) = true := decide_eq_true c8
  clear c8
  by_cases c9 : ((rd_T48 l0 a1_0).f0) = 1
  ·rw [if_pos c9] at H
   have c9b0 : (((rd_T48 l0 a1_0).f0) == 1) = true := beq_iff_eq.mpr c9
   have c9b1 : (((rd_T48 l0 a1_0).f0) != 1) = false := bne_eq_false_iff_eq.mpr c9
   clear c9
   have H' := Aside0.mk H
   clear H
   try go_wp2
   replace BK586 := Aside0.mk (blk_drew BK586.out)
   replace HB := Aside0.mk (below_drew1 HB.out)
   have p588 : 0 ≤ (a1_0 : Int) := of_decide_eq_true q76t
   have q588 : a1_0 < (l0.length : Int) := of_decide_eq_true q76t
   obtain ⟨ad588, A588_8, c588_8, A588_11, c588_11, A588_12, c588_12, e588, hx588_0, hx588_1, hx588_2, hx588_3, hx588_4, hx588_5, hx588_6, hx588_7, hx588_8, hx588_9, hx588_10, hx588_11, hx588_12, hl588_8, hi588_8, hl588_11, hi588_11, hl588_12, hi588_12⟩ := at_T48 HR0.out a1_0 p588 q588
   have hw588_12 := hx588_12
   have hw588_11 := hx588_11
   have hw588_10 := hx588_10
   have hw588_9 := hx588_9
   have hw588_8 := hx588_8
   have hw588_7 := hx588_7
   have hw588_6 := hx588_6
   have hw588_5 := hx588_5
   have hw588_4 := hx588_4
   have hw588_3 := hx588_3
   have hw588_2 := hx588_2
   have hw588_1 := hx588_1
   have hw588_0 := hx588_0
   cases e588
   replace hx588_0 := hbt HB hx588_0
   replace hx588_1 := hbt HB hx588_1
   replace hx588_2 := hbt HB hx588_2
   replace hx588_3 := hbt HB hx588_3
   replace hx588_4 := hbt HB hx588_4
   replace hx588_5 := hbt HB hx588_5
   replace hx588_6 := hbt HB hx588_6
   replace hx588_7 := hbt HB hx588_7
   replace hx588_8 := hbt HB hx588_8
   replace hx588_9 := hbt HB hx588_9
   replace hx588_10 := hbt HB hx588_10
   replace hx588_11 := hbt HB hx588_11
   replace hx588_12 := hbt HB hx588_12
   have HR588_8 := Aside0.mk hi588_8
   have HC588_8 := Aside0.mk hl588_8
   clear hi588_8 hl588_8
   have HR588_11 := Aside0.mk hi588_11
   have HC588_11 := Aside0.mk hl588_11
   clear hi588_11 hl588_11
   have HR588_12 := Aside0.mk hi588_12
   have HC588_12 := Aside0.mk hl588_12
   clear hi588_12 hl588_12
   replace p588 := eq_true p588
   replace q588 := eq_true q588
   have p589 : 0 ≤ (a1_0 : Int) := of_decide_eq_true q76t
   have q589 : a1_0 < (l0.length : Int) := of_decide_eq_true q76t
   obtain ⟨ad589, A589_8, c589_8, A589_11, c589_11, A589_12, c589_12, e589, hx589_0, hx589_1, hx589_2, hx589_3, hx589_4, hx589_5, hx589_6, hx589_7, hx589_8, hx589_9, hx589_10, hx589_11, hx589_12, hl589_8, hi589_8, hl589_11, hi589_11, hl589_12, hi589_12⟩ := at_T48 HR0.out a1_0 p589 q589
   have hw589_12 := hx589_12
   have hw589_11 := hx589_11
   have hw589_10 := hx589_10
   have hw589_9 := hx589_9
   have hw589_8 := hx589_8
   have hw589_7 := hx589_7
   have hw589_6 := hx589_6
   have hw589_5 := hx589_5
   have hw589_4 := hx589_4
   have hw589_3 := hx589_3
   have hw589_2 := hx589_2
   have hw589_1 := hx589_1
   have hw589_0 := hx589_0
   obtain rfl : ad588 = ad589 := (by injection e589)
   replace hx589_0 := hbt HB hx589_0
   replace hx589_1 := hbt HB hx589_1
   replace hx589_2 := hbt HB hx589_2
   replace hx589_3 := hbt HB hx589_3
   replace hx589_4 := hbt HB hx589_4
   replace hx589_5 := hbt HB hx589_5
   replace hx589_6 := hbt HB hx589_6
   replace hx589_7 := hbt HB hx589_7
   replace hx589_8 := hbt HB hx589_8
   replace hx589_9 := hbt HB hx589_9
   replace hx589_10 := hbt HB hx589_10
   replace hx589_11 := hbt HB hx589_11
   replace hx589_12 := hbt HB hx589_12
   have HR589_8 := Aside0.mk hi589_8
   have HC589_8 := Aside0.mk hl589_8
   clear hi589_8 hl589_8
   have HR589_11 := Aside0.mk hi589_11
   have HC589_11 := Aside0.mk hl589_11
   clear hi589_11 hl589_11
   have HR589_12 := Aside0.mk hi589_12
   have HC589_12 := Aside0.mk hl589_12
   clear hi589_12 hl589_12
   replace p589 := eq_true p589
   replace q589 := eq_true q589
   have ea_ := Option.some.inj (hx588_8.symm.trans hx589_8)
   injection ea_ with ea_ en_ ec_
   subst ea_
   subst ec_
   clear en_
   have ea_ := Option.some.inj (hx588_11.symm.trans hx589_11)
   injection ea_ with ea_ en_ ec_
   subst ea_
   subst ec_
   clear en_
   have ea_ := Option.some.inj (hx588_12.symm.trans hx589_12)
   injection ea_ with ea_ en_ ec_
   subst ea_
   subst ec_
   clear en_
   refine start_ (n := 25) (S := fun w' => w'.cell? ⟨gb586, 0, none⟩ = some (.int .i64 a1_0) ∧ w'.cell? ⟨gb586, 1, none⟩ = some (.int .i64 a1_1) ∧ w'.cell? (ad588.add ((a1_0).toNat * 13)) = some (.int .i64 ((rd_T48 l0 a1_0).f0)) ∧ w'.cell? ⟨(ad588.add ((a1_0).toNat * 13)).block, (ad588.add ((a1_0).toNat * 13)).off + 1, none⟩ = some (.int .i64 ((rd_T48 l0 a1_0).f1)) ∧ w'.cell? ⟨(ad588.add ((a1_0).toNat * 13)).block, (ad588.add ((a1_0).toNat * 13)).off + 2, none⟩ = some (.int .i64 ((rd_T48 l0 a1_0).f2)) ∧ w'.cell? ⟨(ad588.add ((a1_0).toNat * 13)).block, (ad588.add ((a1_0).toNat * 13)).off + 3, none⟩ = some (.int .i64 ((rd_T48 l0 a1_0).f3)) ∧ w'.cell? ⟨(ad588.add ((a1_0).toNat * 13)).block, (ad588.add ((a1_0).toNat * 13)).off + 4, none⟩ = some (.int .i64 ((rd_T48 l0 a1_0).f4)) ∧ w'.cell? ⟨(ad588.add ((a1_0).toNat * 13)).block, (ad588.add ((a1_0).toNat * 13)).off + 5, none⟩ = some (.int .i64 ((rd_T48 l0 a1_0).f5)) ∧ w'.cell? ⟨(ad588.add ((a1_0).toNat * 13)).block, (ad588.add ((a1_0).toNat * 13)).off + 6, none⟩ = some (.int .i64 ((rd_T48 l0 a1_0).f6)) ∧ w'.cell? ⟨(ad588.add ((a1_0).toNat * 13)).block, (ad588.add ((a1_0).toNat * 13)).off + 7, none⟩ = some (.int .i64 ((rd_T48 l0 a1_0).f7)) ∧ w'.cell? ⟨(ad588.add ((a1_0).toNat * 13)).block, (ad588.add ((a1_0).toNat * 13)).off + 8, none⟩ = some (.slice A588_8 ((rd_T48 l0 a1_0).f8).length c588_8) ∧ w'.cell? ⟨(ad588.add ((a1_0).toNat * 13)).block, (ad588.add ((a1_0).toNat * 13)).off + 9, none⟩ = some (.int .i64 ((rd_T48 l0 a1_0).f9)) ∧ w'.cell? ⟨(ad588.add ((a1_0).toNat * 13)).block, (ad588.add ((a1_0).toNat * 13)).off + 10, none⟩ = some (.int .i64 ((rd_T48 l0 a1_0).f10)) ∧ w'.cell? ⟨(ad588.add ((a1_0).toNat * 13)).block, (ad588.add ((a1_0).toNat * 13)).off + 11, none⟩ = some (.slice A588_11 ((rd_T48 l0 a1_0).f11).length c588_11) ∧ w'.cell? ⟨(ad588.add ((a1_0).toNat * 13)).block, (ad588.add ((a1_0).toNat * 13)).off + 12, none⟩ = some (.slice A588_12 ((rd_T48 l0 a1_0).f12).length c588_12) ∧ w'.cell? (ad588.add ((a1_0).toNat * 13)) = some (.int .i64 ((rd_T48 l0 a1_0).f0)) ∧ w'.cell? ⟨(ad588.add ((a1_0).toNat * 13)).block, (ad588.add ((a1_0).toNat * 13)).off + 1, none⟩ = some (.int .i64 ((rd_T48 l0 a1_0).f1)) ∧ w'.cell? ⟨(ad588.add ((a1_0).toNat * 13)).block, (ad588.add ((a1_0).toNat * 13)).off + 2, none⟩ = some (.int .i64 ((rd_T48 l0 a1_0).f2)) ∧ w'.cell? ⟨(ad588.add ((a1_0).toNat * 13)).block, (ad588.add ((a1_0).toNat * 13)).off + 3, none⟩ = some (.int .i64 ((rd_T48 l0 a1_0).f3)) ∧ w'.cell? ⟨(ad588.add ((a1_0).toNat * 13)).block, (ad588.add ((a1_0).toNat * 13)).off + 4, none⟩ = some (.int .i64 ((rd_T48 l0 a1_0).f4)) ∧ w'.cell? ⟨(ad588.add ((a1_0).toNat * 13)).block, (ad588.add ((a1_0).toNat * 13)).off + 5, none⟩ = some (.int .i64 ((rd_T48 l0 a1_0).f5)) ∧ w'.cell? ⟨(ad588.add ((a1_0).toNat * 13)).block, (ad588.add ((a1_0).toNat * 13)).off + 6, none⟩ = some (.int .i64 ((rd_T48 l0 a1_0).f6)) ∧ w'.cell? ⟨(ad588.add ((a1_0).toNat * 13)).block, (ad588.add ((a1_0).toNat * 13)).off + 7, none⟩ = some (.int .i64 ((rd_T48 l0 a1_0).f7)) ∧ w'.cell? ⟨(ad588.add ((a1_0).toNat * 13)).block, (ad588.add ((a1_0).toNat * 13)).off + 8, none⟩ = some (.slice A588_8 ((rd_T48 l0 a1_0).f8).length c588_8) ∧ w'.cell? ⟨(ad588.add ((a1_0).toNat * 13)).block, (ad588.add ((a1_0).toNat * 13)).off + 9, none⟩ = some (.int .i64 ((rd_T48 l0 a1_0).f9)) ∧ w'.cell? ⟨(ad588.add ((a1_0).toNat * 13)).block, (ad588.add ((a1_0).toNat * 13)).off + 10, none⟩ = some (.int .i64 ((rd_T48 l0 a1_0).f10)) ∧ w'.cell? ⟨(ad588.add ((a1_0).toNat * 13)).block, (ad588.add ((a1_0).toNat * 13)).off + 11, none⟩ = some (.slice A588_11 ((rd_T48 l0 a1_0).f11).length c588_11) ∧ w'.cell? ⟨(ad588.add ((a1_0).toNat * 13)).block, (ad588.add ((a1_0).toNat * 13)).off + 12, none⟩ = some (.slice A588_12 ((rd_T48 l0 a1_0).f12).length c588_12)) (ds := []) (bm 25 0) (by kernel_rfl) rfl (by kernel_rfl) ⟨(blk_cell BK586.out 0).trans rfl, (blk_cell BK586.out 1).trans rfl, (hbt HB hw588_0), (hbt HB hw588_1), (hbt HB hw588_2), (hbt HB hw588_3), (hbt HB hw588_4), (hbt HB hw588_5), (hbt HB hw588_6), (hbt HB hw588_7), (hbt HB hw588_8), (hbt HB hw588_9), (hbt HB hw588_10), (hbt HB hw588_11), (hbt HB hw588_12), (hbt HB hw589_0), (hbt HB hw589_1), (hbt HB hw589_2), (hbt HB hw589_3), (hbt HB hw589_4), (hbt HB hw589_5), (hbt HB hw589_6), (hbt HB hw589_7), (hbt HB hw589_8), (hbt HB hw589_9), (hbt HB hw589_10), (hbt HB hw589_11), (hbt HB hw589_12)⟩ (fun hHeld => ?_); refine with_tabW impl_PlaceOf.tab1 impl_PlaceOf.bits1 (fun HT_ HW_ => ?_)
   generalize w4.drew = w10 at BK586 HB HR588_11 HR588_12 HR588_8 HR589_11 HR589_12 HR589_8 hx588_0 hx588_1 hx588_10 hx588_11 hx588_12 hx588_2 hx588_3 hx588_4 hx588_5 hx588_6 hx588_7 hx588_8 hx588_9 hx589_0 hx589_1 hx589_10 hx589_11 hx589_12 hx589_2 hx589_3 hx589_4 hx589_5 hx589_6 hx589_7 hx589_8 hx589_9 hHeld ⊢
   refine pu_ 0 (some 5) (bm 25 1) (any_of HT_.out (by kernel_rfl)) ?_
   refine pu_ 1 (some 6) (bm 25 3) (any_of HT_.out (by kernel_rfl)) ?_
   refine tk_ 2 (some 7) (bm 25 7) (take_ofW HT_.out HW_.out (by kernel_rfl)) hHeld ?_
   refine one_ (i := 3) (N := some 8) (bm 25 15) rfl rfl (one_of HT_.out (by kernel_rfl)) q85t (fun K hK => ?_)
   refine goes_ Try.func29 (by kernel_rfl) rfl #[.slice _ l0.length c0, .int .i64 a1_0] (by rfl) rfl rfl q51t ?_
   with_reducible refine (impl_isSlot.calls _ _ l0 a1_0 true _ ?side1 ?side2 A5.out).mono ?_
   (case side1 => exact sC (Kd.C_below HR0.out HB.out))
   (case side2 => exact HC0.out)
   rintro e w' ⟨rfl, ⟨nd, rfl⟩⟩
   refine ⟨_, rfl, ?_⟩
   refine hK.out _ _ (by first | exact ⟨(blk_cell BK586.out 0).trans rfl, (blk_cell BK586.out 1).trans rfl, (hbt HB hw588_0), (hbt HB hw588_1), (hbt HB hw588_2), (hbt HB hw588_3), (hbt HB hw588_4), (hbt HB hw588_5), (hbt HB hw588_6), (hbt HB hw588_7), (hbt HB hw588_8), (hbt HB hw588_9), (hbt HB hw588_10), (hbt HB hw588_11), (hbt HB hw588_12), (hbt HB hw589_0), (hbt HB hw589_1), (hbt HB hw589_2), (hbt HB hw589_3), (hbt HB hw589_4), (hbt HB hw589_5), (hbt HB hw589_6), (hbt HB hw589_7), (hbt HB hw589_8), (hbt HB hw589_9), (hbt HB hw589_10), (hbt HB hw589_11), (hbt HB hw589_12)⟩ | exact hHeld) (fun hHeld => ?_)
   clear hK K
   refine norm_ (a' := ?_) ?_ ?_
   rotate_left
   ·show Act.put _ (some 8) _ = _
    simp only [Act.put, List.setIfInBounds_toArray, List.set_cons_zero, List.set_cons_succ, i64_w, i32_w]
    rfl
   refine pu_ 4 (some 9) (bm 25 31) (any_of HT_.out (by kernel_rfl)) ?_
   refine pu_ 5 (some 10) (bm 25 63) (any_of HT_.out (by kernel_rfl)) ?_
   refine pu_ 6 (some 11) (bm 25 127) (any_of HT_.out (by kernel_rfl)) ?_
   refine pu_ 7 (some 12) (bm 25 255) (any_of HT_.out (by kernel_rfl)) ?_
   refine tk_ 8 (some 13) (bm 25 511) (take_ofW HT_.out HW_.out (by kernel_rfl)) hHeld ?_
   refine pu_ 9 (some 14) (bm 25 1023) (any_of HT_.out (by kernel_rfl)) ?_
   refine pu_ 10 (some 15) (bm 25 2047) (any_of HT_.out (by kernel_rfl)) ?_
   refine tk_ 11 (some 16) (bm 25 4095) (take_ofW HT_.out HW_.out (by kernel_rfl)) hHeld ?_
   refine pu_ 12 (some 17) (bm 25 8191) (any_of HT_.out (by kernel_rfl)) ?_
   refine pu_ 13 (some 18) (bm 25 16383) (any_of HT_.out (by kernel_rfl)) ?_
   refine pu_ 14 (some 19) (bm 25 32767) (any_of HT_.out (by kernel_rfl)) ?_
   refine pu_ 15 (some 20) (bm 25 65535) (any_of HT_.out (by kernel_rfl)) ?_
   refine pu_ 16 (some 21) (bm 25 131071) (any_of HT_.out (by kernel_rfl)) ?_
   refine pu_ 21 (some 26) (bm 25 2228223) (any_of HT_.out (by kernel_rfl)) ?_
   refine tk_ 17 (some 22) (bm 25 2359295) (take_ofW HT_.out HW_.out (by kernel_rfl)) hHeld ?_
   refine pu_ 18 (some 23) (bm 25 2621439) (any_of HT_.out (by kernel_rfl)) ?_
   refine pu_ 19 (some 24) (bm 25 3145727) (any_of HT_.out (by kernel_rfl)) ?_
   refine tk_ 20 (some 25) (bm 25 4194303) (take_ofW HT_.out HW_.out (by kernel_rfl)) hHeld ?_
   refine tk_ 22 (some 27) (bm 25 8388607) (take_ofW HT_.out HW_.out (by kernel_rfl)) hHeld ?_
   refine pu_ 23 (some 28) (bm 25 16777215) (any_of HT_.out (by kernel_rfl)) ?_
   refine pu_ 24 (some 29) (bm 25 33554431) (any_of HT_.out (by kernel_rfl)) ?_
   refine done_ (done_of HT_.out (by kernel_rfl)) ?_
   try go_wp2
   go_meet
   case rel => exact ⟨_, ((((rd_T48 l0 a1_0).f1) != a1_1)), q81t, H', ⟨q82t⟩, ⟨qbk BK586⟩, ⟨q33t⟩⟩
  rw [if_neg c9] at H
  have c9b0 : (((rd_T48 l0 a1_0).f0) == 1) = false := beq_eq_false_iff_ne.mpr c9
  have c9b1 : (((rd_T48 l0 a1_0).f0) != 1) = true := bne_iff_ne.mpr c9
  have H' := Aside0.mk H
  clear H
  try go_wp2
  replace BK586 := Aside0.mk (blk_drew BK586.out)
  replace HB := Aside0.mk (below_drew1 HB.out)
  have p588 : 0 ≤ (a1_0 : Int) := of_decide_eq_true q76t
  have q588 : a1_0 < (l0.length : Int) := of_decide_eq_true q76t
  obtain ⟨ad588, A588_8, c588_8, A588_11, c588_11, A588_12, c588_12, e588, hx588_0, hx588_1, hx588_2, hx588_3, hx588_4, hx588_5, hx588_6, hx588_7, hx588_8, hx588_9, hx588_10, hx588_11, hx588_12, hl588_8, hi588_8, hl588_11, hi588_11, hl588_12, hi588_12⟩ := at_T48 HR0.out a1_0 p588 q588
  have hw588_12 := hx588_12
  have hw588_11 := hx588_11
  have hw588_10 := hx588_10
  have hw588_9 := hx588_9
  have hw588_8 := hx588_8
  have hw588_7 := hx588_7
  have hw588_6 := hx588_6
  have hw588_5 := hx588_5
  have hw588_4 := hx588_4
  have hw588_3 := hx588_3
  have hw588_2 := hx588_2
  have hw588_1 := hx588_1
  have hw588_0 := hx588_0
  cases e588
  replace hx588_0 := hbt HB hx588_0
  replace hx588_1 := hbt HB hx588_1
  replace hx588_2 := hbt HB hx588_2
  replace hx588_3 := hbt HB hx588_3
  replace hx588_4 := hbt HB hx588_4
  replace hx588_5 := hbt HB hx588_5
  replace hx588_6 := hbt HB hx588_6
  replace hx588_7 := hbt HB hx588_7
  replace hx588_8 := hbt HB hx588_8
  replace hx588_9 := hbt HB hx588_9
  replace hx588_10 := hbt HB hx588_10
  replace hx588_11 := hbt HB hx588_11
  replace hx588_12 := hbt HB hx588_12
  have HR588_8 := Aside0.mk hi588_8
  have HC588_8 := Aside0.mk hl588_8
  clear hi588_8 hl588_8
  have HR588_11 := Aside0.mk hi588_11
  have HC588_11 := Aside0.mk hl588_11
  clear hi588_11 hl588_11
  have HR588_12 := Aside0.mk hi588_12
  have HC588_12 := Aside0.mk hl588_12
  clear hi588_12 hl588_12
  replace p588 := eq_true p588
  replace q588 := eq_true q588
  refine start_ (n := 25) (S := fun w' => w'.cell? ⟨gb586, 0, none⟩ = some (.int .i64 a1_0) ∧ w'.cell? ⟨gb586, 1, none⟩ = some (.int .i64 a1_1) ∧ w'.cell? (ad588.add ((a1_0).toNat * 13)) = some (.int .i64 ((rd_T48 l0 a1_0).f0)) ∧ w'.cell? ⟨(ad588.add ((a1_0).toNat * 13)).block, (ad588.add ((a1_0).toNat * 13)).off + 1, none⟩ = some (.int .i64 ((rd_T48 l0 a1_0).f1)) ∧ w'.cell? ⟨(ad588.add ((a1_0).toNat * 13)).block, (ad588.add ((a1_0).toNat * 13)).off + 2, none⟩ = some (.int .i64 ((rd_T48 l0 a1_0).f2)) ∧ w'.cell? ⟨(ad588.add ((a1_0).toNat * 13)).block, (ad588.add ((a1_0).toNat * 13)).off + 3, none⟩ = some (.int .i64 ((rd_T48 l0 a1_0).f3)) ∧ w'.cell? ⟨(ad588.add ((a1_0).toNat * 13)).block, (ad588.add ((a1_0).toNat * 13)).off + 4, none⟩ = some (.int .i64 ((rd_T48 l0 a1_0).f4)) ∧ w'.cell? ⟨(ad588.add ((a1_0).toNat * 13)).block, (ad588.add ((a1_0).toNat * 13)).off + 5, none⟩ = some (.int .i64 ((rd_T48 l0 a1_0).f5)) ∧ w'.cell? ⟨(ad588.add ((a1_0).toNat * 13)).block, (ad588.add ((a1_0).toNat * 13)).off + 6, none⟩ = some (.int .i64 ((rd_T48 l0 a1_0).f6)) ∧ w'.cell? ⟨(ad588.add ((a1_0).toNat * 13)).block, (ad588.add ((a1_0).toNat * 13)).off + 7, none⟩ = some (.int .i64 ((rd_T48 l0 a1_0).f7)) ∧ w'.cell? ⟨(ad588.add ((a1_0).toNat * 13)).block, (ad588.add ((a1_0).toNat * 13)).off + 8, none⟩ = some (.slice A588_8 ((rd_T48 l0 a1_0).f8).length c588_8) ∧ w'.cell? ⟨(ad588.add ((a1_0).toNat * 13)).block, (ad588.add ((a1_0).toNat * 13)).off + 9, none⟩ = some (.int .i64 ((rd_T48 l0 a1_0).f9)) ∧ w'.cell? ⟨(ad588.add ((a1_0).toNat * 13)).block, (ad588.add ((a1_0).toNat * 13)).off + 10, none⟩ = some (.int .i64 ((rd_T48 l0 a1_0).f10)) ∧ w'.cell? ⟨(ad588.add ((a1_0).toNat * 13)).block, (ad588.add ((a1_0).toNat * 13)).off + 11, none⟩ = some (.slice A588_11 ((rd_T48 l0 a1_0).f11).length c588_11) ∧ w'.cell? ⟨(ad588.add ((a1_0).toNat * 13)).block, (ad588.add ((a1_0).toNat * 13)).off + 12, none⟩ = some (.slice A588_12 ((rd_T48 l0 a1_0).f12).length c588_12)) (ds := []) (bm 25 0) (by kernel_rfl) rfl (by kernel_rfl) ⟨(blk_cell BK586.out 0).trans rfl, (blk_cell BK586.out 1).trans rfl, (hbt HB hw588_0), (hbt HB hw588_1), (hbt HB hw588_2), (hbt HB hw588_3), (hbt HB hw588_4), (hbt HB hw588_5), (hbt HB hw588_6), (hbt HB hw588_7), (hbt HB hw588_8), (hbt HB hw588_9), (hbt HB hw588_10), (hbt HB hw588_11), (hbt HB hw588_12)⟩ (fun hHeld => ?_); refine with_tabW impl_PlaceOf.tab1 impl_PlaceOf.bits1 (fun HT_ HW_ => ?_)
  generalize w4.drew = w11 at BK586 HB HR588_11 HR588_12 HR588_8 hx588_0 hx588_1 hx588_10 hx588_11 hx588_12 hx588_2 hx588_3 hx588_4 hx588_5 hx588_6 hx588_7 hx588_8 hx588_9 hHeld ⊢
  refine pu_ 0 (some 5) (bm 25 1) (any_of HT_.out (by kernel_rfl)) ?_
  refine pu_ 1 (some 6) (bm 25 3) (any_of HT_.out (by kernel_rfl)) ?_
  refine tk_ 2 (some 7) (bm 25 7) (take_ofW HT_.out HW_.out (by kernel_rfl)) hHeld ?_
  refine one_ (i := 3) (N := some 8) (bm 25 15) rfl rfl (one_of HT_.out (by kernel_rfl)) q85t (fun K hK => ?_)
  refine goes_ Try.func29 (by kernel_rfl) rfl #[.slice _ l0.length c0, .int .i64 a1_0] (by rfl) rfl rfl q51t ?_
  with_reducible refine (impl_isSlot.calls _ _ l0 a1_0 true _ ?side1 ?side2 A5.out).mono ?_
  (case side1 => exact sC (Kd.C_below HR0.out HB.out))
  (case side2 => exact HC0.out)
  rintro e w' ⟨rfl, ⟨nd, rfl⟩⟩
  refine ⟨_, rfl, ?_⟩
  refine hK.out _ _ (by first | exact ⟨(blk_cell BK586.out 0).trans rfl, (blk_cell BK586.out 1).trans rfl, (hbt HB hw588_0), (hbt HB hw588_1), (hbt HB hw588_2), (hbt HB hw588_3), (hbt HB hw588_4), (hbt HB hw588_5), (hbt HB hw588_6), (hbt HB hw588_7), (hbt HB hw588_8), (hbt HB hw588_9), (hbt HB hw588_10), (hbt HB hw588_11), (hbt HB hw588_12)⟩ | exact hHeld) (fun hHeld => ?_)
  clear hK K
  refine norm_ (a' := ?_) ?_ ?_
  rotate_left
  ·show Act.put _ (some 8) _ = _
   simp only [Act.put, List.setIfInBounds_toArray, List.set_cons_zero, List.set_cons_succ, i64_w, i32_w]
   rfl
  refine pu_ 4 (some 9) (bm 25 31) (any_of HT_.out (by kernel_rfl)) ?_
  refine pu_ 5 (some 10) (bm 25 63) (any_of HT_.out (by kernel_rfl)) ?_
  refine pu_ 6 (some 11) (bm 25 127) (any_of HT_.out (by kernel_rfl)) ?_
  refine pu_ 7 (some 12) (bm 25 255) (any_of HT_.out (by kernel_rfl)) ?_
  refine tk_ 8 (some 13) (bm 25 511) (take_ofW HT_.out HW_.out (by kernel_rfl)) hHeld ?_
  refine pu_ 9 (some 14) (bm 25 1023) (any_of HT_.out (by kernel_rfl)) ?_
  refine pu_ 10 (some 15) (bm 25 2047) (any_of HT_.out (by kernel_rfl)) ?_
  refine tk_ 11 (some 16) (bm 25 4095) (take_ofW HT_.out HW_.out (by kernel_rfl)) hHeld ?_
  refine pu_ 12 (some 17) (bm 25 8191) (any_of HT_.out (by kernel_rfl)) ?_
  refine pu_ 13 (some 18) (bm 25 16383) (any_of HT_.out (by kernel_rfl)) ?_
  refine pu_ 14 (some 19) (bm 25 32767) (any_of HT_.out (by kernel_rfl)) ?_
  refine pn_ 15 (some 20) (bm 25 65535) (any_of HT_.out (by kernel_rfl)) ?_
  refine pn_ 16 (some 21) (bm 25 131071) (any_of HT_.out (by kernel_rfl)) ?_
  refine pn_ 17 (some 22) (bm 25 262143) (any_of HT_.out (by kernel_rfl)) ?_
  refine pn_ 18 (some 23) (bm 25 524287) (any_of HT_.out (by kernel_rfl)) ?_
  refine pn_ 19 (some 24) (bm 25 1048575) (any_of HT_.out (by kernel_rfl)) ?_
  refine pn_ 20 (some 25) (bm 25 2097151) (any_of HT_.out (by kernel_rfl)) ?_
  refine pn_ 21 (some 26) (bm 25 4194303) (any_of HT_.out (by kernel_rfl)) ?_
  refine pn_ 22 (some 27) (bm 25 8388607) (any_of HT_.out (by kernel_rfl)) ?_
  refine pn_ 23 (some 28) (bm 25 16777215) (any_of HT_.out (by kernel_rfl)) ?_
  refine pu_ 24 (some 29) (bm 25 33554431) (any_of HT_.out (by kernel_rfl)) ?_
  refine done_ (done_of HT_.out (by kernel_rfl)) ?_
  try go_wp2
  go_meet
  case rel => exact ⟨_, (true), q81t, H', ⟨q82t⟩, ⟨qbk BK586⟩, ⟨q33t⟩⟩
 case rest =>
  clear HC3
  try clear c2
  try clear p2
  try clear c5
  try clear p5
  try clear q5
  try clear hx5
  try clear c6
  try clear c7
  try clear c8
  try clear c9
  try clear c9b0
  try clear c9b1
  try clear hx588_0
  try clear hx588_1
  try clear hx588_10
  try clear hx588_11
  try clear hx588_12
  try clear hx588_2
  try clear hx588_3
  try clear hx588_4
  try clear hx588_5
  try clear hx588_6
  try clear hx588_7
  try clear hx588_8
  try clear hx588_9
  try clear p588
  try clear q588
  obtain ⟨kq, x29_2, rfl, HA, HJ2, BK586, HB⟩ := hcut
  cases kq with
  | zero => exact absurd HA.out (by simp [impl_PlaceOf.j0])
  | succ kj2 =>
   have H := HA.out
   clear HA
   simp only [impl_PlaceOf.j0] at H
   by_cases c13 : x29_2 = true
   ·subst c13
    rw [if_pos rfl] at H
    obtain rfl := Option.some.inj H
    go_wp2
    go_ret
    exact ⟨q73t, q33t⟩
   replace c13 := Bool.eq_false_iff.mpr c13
   subst c13
   rw [if_neg (show ¬ (false = true) by decide)] at H
   obtain rfl := Option.some.inj H
   obtain ⟨hcz14_0, hcz14_1⟩ := qc2 BK586.out
   obtain ⟨hfz14_0, hfz14_1⟩ := qf2 BK586.out
   go_wp2
   go_ret
   exact ⟨q73t, q33t⟩

end Go.Proofs.Ytofpmdgndegalab.QFnTables
