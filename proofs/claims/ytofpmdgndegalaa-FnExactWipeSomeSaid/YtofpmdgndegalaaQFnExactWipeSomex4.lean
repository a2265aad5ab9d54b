/- What the functions that the law FnExactWipeSome reaches compute, as plain functions, and that the code computes just that (by a program of this session's; the library's functions by hand). No condition. -/
import Derived.Test.YtofpmdgndegalaaQFnExactWipeSomex0
import Derived.Test.YtofpmdgndegalaaQFnExactWipeSomex3
namespace Go.Proofs.Ytofpmdgndegalaa.QFnExactWipeSome
open Go.RowKit Go.Proofs.YtofpmdgndegalaaW.PrintWords Go.Proofs.YtofpmdgndegalaaW.PrintLast Go.Proofs.YtofpmdgndegalaaW.PrintMore
attribute [local go_sem] max2_int min2_int max_two min_two max_three min_three max_four min_four   -- for this text's walks alone
set_option linter.unusedVariables false
set_option linter.unusedSimpArgs false

/-! ### spec_PoolOk: function 15 -/
mutual
def spec_PoolOk.j0 : Nat → Bool → Int → Int → Int → Int → Int → Int → List Int → List Int → List Int → Option (Bool)
 | 0, _, _, _, _, _, _, _, _, _, _ => none
 | k + 1, x32, x136000, x136001, x136002, x136003, x136004, x136005, x137000, x137001, x137002 => if x32 = true then (some false) else (spec_PoolOk.l0 k 0 x136000 x136001 x136002 x136003 x136004 x136005 x137000 x137001 x137002)
def spec_PoolOk.l0 : Nat → Int → Int → Int → Int → Int → Int → Int → List Int → List Int → List Int → Option (Bool)
 | 0, _, _, _, _, _, _, _, _, _, _ => none
 | k + 1, x5, x136000, x136001, x136002, x136003, x136004, x136005, x137000, x137001, x137002 => if x5 < x136000 then (if 0 ≤ x5 then (if x5 < (x137001.length : Int) then ((spec_l1In.f (rd x137001 x5) 0 2).bind fun t140 => (if t140 = true then (if (rd x137001 x5) = 1 then (if x5 < (x137002.length : Int) then ((spec_l1In.f (rd x137002 x5) 0 (wrap64 (x136002 - 1))).bind fun t143 => (if t143 = true then (spec_PoolOk.j2 k x5 false x136000 x136001 x136002 x136003 x136004 x136005 x137000 x137001 x137002) else (spec_PoolOk.j2 k x5 true x136000 x136001 x136002 x136003 x136004 x136005 x137000 x137001 x137002))) else (none)) else (if x5 < (x137002.length : Int) then (spec_PoolOk.j2 k x5 ((rd x137002 x5) != (-1)) x136000 x136001 x136002 x136003 x136004 x136005 x137000 x137001 x137002) else (none))) else (some false))) else (none)) else (none)) else (some true)
def spec_PoolOk.j2 : Nat → Int → Bool → Int → Int → Int → Int → Int → Int → List Int → List Int → List Int → Option (Bool)
 | 0, _, _, _, _, _, _, _, _, _, _, _ => none
 | k + 1, x5, x79, x136000, x136001, x136002, x136003, x136004, x136005, x137000, x137001, x137002 => if x79 = true then (some false) else (if 0 ≤ x5 then (if x5 < (x137001.length : Int) then (if (rd x137001 x5) = 0 then (if 0 ≤ (wrap64 (x5 * x136001)) then (if (wrap64 (x5 * x136001)) ≤ (wrap64 ((wrap64 (x5 + 1)) * x136001)) then (if (wrap64 ((wrap64 (x5 + 1)) * x136001)) ≤ (x137000.length : Int) then ((spec_IsZero.f k ((x137000.take ((wrap64 ((wrap64 (x5 + 1)) * x136001)) : Int).toNat).drop ((wrap64 (x5 * x136001)) : Int).toNat)).bind fun t149 => (if t149 = true then (spec_PoolOk.l0 k (wrap64 (x5 + 1)) x136000 x136001 x136002 x136003 x136004 x136005 x137000 x137001 x137002) else (some false))) else (none)) else (none)) else (none)) else (spec_PoolOk.l0 k (wrap64 (x5 + 1)) x136000 x136001 x136002 x136003 x136004 x136005 x137000 x137001 x137002)) else (none)) else (none))
end
def spec_PoolOk.f (k : Nat) (a0_0 : Int) (a0_1 : Int) (a0_2 : Int) (a0_3 : Int) (a0_4 : Int) (a0_5 : Int) (l1_0 : List Int) (l1_1 : List Int) (l1_2 : List Int) : Option (Bool) := (spec_ConfOk.f a0_0 a0_1 a0_2 a0_3 a0_4 a0_5).bind fun t137 => (if t137 = true then ((spec_BytesOf.f a0_0 a0_1 a0_2 a0_3 a0_4 a0_5).bind fun t138 => (if (l1_0.length : Int) = t138 then (if (l1_1.length : Int) = a0_0 then (spec_PoolOk.j0 k ((l1_2.length : Int) != a0_0) a0_0 a0_1 a0_2 a0_3 a0_4 a0_5 l1_0 l1_1 l1_2) else (spec_PoolOk.j0 k true a0_0 a0_1 a0_2 a0_3 a0_4 a0_5 l1_0 l1_1 l1_2)) else (spec_PoolOk.j0 k true a0_0 a0_1 a0_2 a0_3 a0_4 a0_5 l1_0 l1_1 l1_2))) else (spec_PoolOk.j0 k true a0_0 a0_1 a0_2 a0_3 a0_4 a0_5 l1_0 l1_1 l1_2))
theorem spec_PoolOk.mono_l : ∀ k, (∀ y0 y1 y2 y3 y4 y5 y6 y7 y8 y9, LeO (spec_PoolOk.j0 k y0 y1 y2 y3 y4 y5 y6 y7 y8 y9) (spec_PoolOk.j0 (k + 1) y0 y1 y2 y3 y4 y5 y6 y7 y8 y9)) ∧ (∀ y0 y1 y2 y3 y4 y5 y6 y7 y8 y9, LeO (spec_PoolOk.l0 k y0 y1 y2 y3 y4 y5 y6 y7 y8 y9) (spec_PoolOk.l0 (k + 1) y0 y1 y2 y3 y4 y5 y6 y7 y8 y9)) ∧ (∀ y0 y1 y2 y3 y4 y5 y6 y7 y8 y9 y10, LeO (spec_PoolOk.j2 k y0 y1 y2 y3 y4 y5 y6 y7 y8 y9 y10) (spec_PoolOk.j2 (k + 1) y0 y1 y2 y3 y4 y5 y6 y7 y8 y9 y10))
 | 0 => ⟨fun _ _ _ _ _ _ _ _ _ _ r h => by simp [spec_PoolOk.j0] at h, fun _ _ _ _ _ _ _ _ _ _ r h => by simp [spec_PoolOk.l0] at h, fun _ _ _ _ _ _ _ _ _ _ _ r h => by simp [spec_PoolOk.j2] at h⟩
 | k + 1 => by
  obtain ⟨ih0, ih1, ih2⟩ := spec_PoolOk.mono_l k
  refine ⟨?_, ?_, ?_⟩
  ·intro y0 y1 y2 y3 y4 y5 y6 y7 y8 y9
   unfold spec_PoolOk.j0
   repeat' first
   | (with_reducible exact ih0 _ _ _ _ _ _ _ _ _ _)
   | (with_reducible exact ih1 _ _ _ _ _ _ _ _ _ _)
   | (with_reducible exact ih2 _ _ _ _ _ _ _ _ _ _ _)
   | (with_reducible exact spec_IsZero.mono _ _)
   | (with_reducible exact LeO.refl _)
   | (with_reducible exact LeO.none _)
   | (with_reducible refine LeO.ite ?_ ?_)
   | (with_reducible refine LeO.bind ?_ (fun _ => ?_))
   | exact ih0 _ _ _ _ _ _ _ _ _ _
   | exact ih1 _ _ _ _ _ _ _ _ _ _
   | exact ih2 _ _ _ _ _ _ _ _ _ _ _
   | exact spec_IsZero.mono _ _
   | exact LeO.none _
   | refine LeO.ite ?_ ?_
   | refine LeO.bind ?_ (fun _ => ?_)
  ·intro y0 y1 y2 y3 y4 y5 y6 y7 y8 y9
   unfold spec_PoolOk.l0
   repeat' first
   | (with_reducible exact ih0 _ _ _ _ _ _ _ _ _ _)
   | (with_reducible exact ih1 _ _ _ _ _ _ _ _ _ _)
   | (with_reducible exact ih2 _ _ _ _ _ _ _ _ _ _ _)
   | (with_reducible exact spec_IsZero.mono _ _)
   | (with_reducible exact LeO.refl _)
   | (with_reducible exact LeO.none _)
   | (with_reducible refine LeO.ite ?_ ?_)
   | (with_reducible refine LeO.bind ?_ (fun _ => ?_))
   | exact ih0 _ _ _ _ _ _ _ _ _ _
   | exact ih1 _ _ _ _ _ _ _ _ _ _
   | exact ih2 _ _ _ _ _ _ _ _ _ _ _
   | exact spec_IsZero.mono _ _
   | exact LeO.none _
   | refine LeO.ite ?_ ?_
   | refine LeO.bind ?_ (fun _ => ?_)
  ·intro y0 y1 y2 y3 y4 y5 y6 y7 y8 y9 y10
   unfold spec_PoolOk.j2
   repeat' first
   | (with_reducible exact ih0 _ _ _ _ _ _ _ _ _ _)
   | (with_reducible exact ih1 _ _ _ _ _ _ _ _ _ _)
   | (with_reducible exact ih2 _ _ _ _ _ _ _ _ _ _ _)
   | (with_reducible exact spec_IsZero.mono _ _)
   | (with_reducible exact LeO.refl _)
   | (with_reducible exact LeO.none _)
   | (with_reducible refine LeO.ite ?_ ?_)
   | (with_reducible refine LeO.bind ?_ (fun _ => ?_))
   | exact ih0 _ _ _ _ _ _ _ _ _ _
   | exact ih1 _ _ _ _ _ _ _ _ _ _
   | exact ih2 _ _ _ _ _ _ _ _ _ _ _
   | exact spec_IsZero.mono _ _
   | exact LeO.none _
   | refine LeO.ite ?_ ?_
   | refine LeO.bind ?_ (fun _ => ?_)
theorem spec_PoolOk.mono : ∀ a0 a1 a2 a3 a4 a5 a6 a7 a8 k, LeO (spec_PoolOk.f k a0 a1 a2 a3 a4 a5 a6 a7 a8) (spec_PoolOk.f (k + 1) a0 a1 a2 a3 a4 a5 a6 a7 a8) := by
 intro a0 a1 a2 a3 a4 a5 a6 a7 a8 k
 obtain ⟨ih0, ih1, ih2⟩ := spec_PoolOk.mono_l k
 unfold spec_PoolOk.f
 repeat' first
   | (with_reducible exact ih0 _ _ _ _ _ _ _ _ _ _)
   | (with_reducible exact ih1 _ _ _ _ _ _ _ _ _ _)
   | (with_reducible exact ih2 _ _ _ _ _ _ _ _ _ _ _)
   | (with_reducible exact spec_IsZero.mono _ _)
   | (with_reducible exact LeO.refl _)
   | (with_reducible exact LeO.none _)
   | (with_reducible refine LeO.ite ?_ ?_)
   | (with_reducible refine LeO.bind ?_ (fun _ => ?_))
   | exact ih0 _ _ _ _ _ _ _ _ _ _
   | exact ih1 _ _ _ _ _ _ _ _ _ _
   | exact ih2 _ _ _ _ _ _ _ _ _ _ _
   | exact spec_IsZero.mono _ _
   | exact LeO.none _
   | refine LeO.ite ?_ ?_
   | refine LeO.bind ?_ (fun _ => ?_)
def spec_PoolOk.T1 : Bool × List (List Nat × List Nat) := (true, [([], []), ([0], [0]), ([1], [1]), ([2, 1], [2]), ([3], [3]), ([4, 3], [3, 4]), ([5, 3], [3, 5]), ([3], [3]), ([7, 3, 3], [3, 7]), ([6, 8, 3], [3, 6, 8]), ([3, 9], [3, 9]), ([10, 8], [10]), ([11], [11]), ([12, 11], [11, 12]), ([13, 11], [11, 13]), ([11], [11]), ([15, 11], [11, 15]), ([14, 16, 11], [11, 14, 16]), ([11, 17], [11, 17]), ([18, 11], [18]), ([19], [19]), ([20, 19], [19, 20]), ([21, 19], [19, 21]), ([19], [19]), ([23, 19], [19, 23]), ([22, 24, 19], [19, 22, 24]), ([19, 25], [19, 25])])
def spec_PoolOk.B1 : List Nat := [0, 1, 3, 7, 15, 31, 63, 15, 143, 511, 1023, 2047, 4095, 8191, 16383, 4095, 36863, 131071, 262143, 524287, 1048575, 2097151, 4194303, 1048575, 9437183, 33554431, 67108863]
theorem spec_PoolOk.tab1 : rtab .any (opsOf Try.f15 1) = spec_PoolOk.T1 := by kernel_rfl
theorem spec_PoolOk.bits1 : waitsOk spec_PoolOk.T1.2 spec_PoolOk.B1 = true := by kernel_rfl
def spec_PoolOk.T8 : Bool × List (List Nat × List Nat) := (true, [([], []), ([0], [0]), ([], []), ([1, 2], [1, 2]), ([3], [3]), ([4], [4]), ([5], [5]), ([6], [6]), ([7, 6], [6, 7]), ([6], [6]), ([8, 9, 6], [6, 8, 9]), ([10, 6], [6, 10]), ([6], [6]), ([12, 6], [6, 12]), ([13, 6], [6, 13]), ([11, 14, 6, 6], [6, 11, 14]), ([15, 6], [6, 15]), ([6, 16], [6, 16]), ([17, 15], [17]), ([18], [18]), ([19, 18], [18, 19]), ([18], [18]), ([20, 21, 18], [18, 20, 21]), ([22, 18], [18, 22]), ([23, 18], [18, 23]), ([24, 18, 18], [18, 24]), ([25], [25]), ([26, 25], [25, 26]), ([25], [25]), ([27, 28, 25], [25, 27, 28]), ([29, 25], [25, 29]), ([30, 25], [25, 30]), ([25, 31, 18], [18, 25, 31]), ([18, 32], [18, 32])])
def spec_PoolOk.B8 : List Nat := [0, 1, 0, 7, 15, 31, 63, 127, 255, 127, 1023, 2047, 127, 4223, 12415, 32767, 65535, 131071, 262143, 524287, 1048575, 524287, 4194303, 8388607, 16777215, 33554431, 67108863, 134217727, 67108863, 536870911, 1073741823, 2147483647, 4294967295, 8589934591]
theorem spec_PoolOk.tab8 : rtab .any (opsOf Try.f15 8) = spec_PoolOk.T8 := by kernel_rfl
theorem spec_PoolOk.bits8 : waitsOk spec_PoolOk.T8.2 spec_PoolOk.B8 = true := by kernel_rfl
set_option maxHeartbeats 8000000 in
set_option maxRecDepth 100000 in
theorem spec_PoolOk.calls (k : Nat) (a0_0 : Int) (a0_1 : Int) (a0_2 : Int) (a0_3 : Int) (a0_4 : Int) (a0_5 : Int) (A1_0 : Option Addr) (c1_0 : Nat) (l1_0 : List Int) (A1_1 : Option Addr) (c1_1 : Nat) (l1_1 : List Int) (A1_2 : Option Addr) (c1_2 : Nat) (l1_2 : List Int) (r : Bool) (w : World) (hr1_0 : Kd.C (Kd.int .u8) w A1_0 l1_0.length l1_0) (hc1_0 : l1_0.length ≤ c1_0) (hr1_1 : Kd.C (Kd.int .i64) w A1_1 l1_1.length l1_1) (hc1_1 : l1_1.length ≤ c1_1) (hr1_2 : Kd.C (Kd.int .i64) w A1_2 l1_2.length l1_2) (hc1_2 : l1_2.length ≤ c1_2) (h : spec_PoolOk.f k a0_0 a0_1 a0_2 a0_3 a0_4 a0_5 l1_0 l1_1 l1_2 = some r) :
  Calls Try.prog 15 #[.agg #[.int .i64 a0_0, .int .i64 a0_1, .int .i64 a0_2, .int .i64 a0_3, .int .i64 a0_4, .int .i64 a0_5], .agg #[.slice A1_0 l1_0.length c1_0, .slice A1_1 l1_1.length c1_1, .slice A1_2 l1_2.length c1_2]] w fun e w' => e = .returned (.bool r) ∧ Below w.heap.size w w' := by
 have hu32 := Try.underlying32
 have hu29 := Try.underlying29
 have HR1_0 := Aside0.mk hr1_0
 have HC1_0 := Aside0.mk hc1_0
 clear hr1_0 hc1_0
 have HR1_1 := Aside0.mk hr1_1
 have HC1_1 := Aside0.mk hc1_1
 clear hr1_1 hc1_1
 have HR1_2 := Aside0.mk hr1_2
 have HC1_2 := Aside0.mk hc1_2
 clear hr1_2 hc1_2
 have HB := Aside0.mk (Below.refl w.heap.size w)
 have H : ((spec_ConfOk.f a0_0 a0_1 a0_2 a0_3 a0_4 a0_5).bind fun t137 => (if t137 = true then ((spec_BytesOf.f a0_0 a0_1 a0_2 a0_3 a0_4 a0_5).bind fun t138 => (if (l1_0.length : Int) = t138 then (if (l1_1.length : Int) = a0_0 then (spec_PoolOk.j0 k ((l1_2.length : Int) != a0_0) a0_0 a0_1 a0_2 a0_3 a0_4 a0_5 l1_0 l1_1 l1_2) else (spec_PoolOk.j0 k true a0_0 a0_1 a0_2 a0_3 a0_4 a0_5 l1_0 l1_1 l1_2)) else (spec_PoolOk.j0 k true a0_0 a0_1 a0_2 a0_3 a0_4 a0_5 l1_0 l1_1 l1_2))) else (spec_PoolOk.j0 k true a0_0 a0_1 a0_2 a0_3 a0_4 a0_5 l1_0 l1_1 l1_2))) = some r := h
 clear h
 have HC3 := Aside0.mk H
 clear H
 go_enter Try.func15, Try.ntmps15
 go_upto_region 1 with (first | ((with_reducible refine gate_dst (N := 2) rfl ?_); (try (refine gate_guard (by rfl) ?_; dsimp only)); refine box_ev 2 #[.int .i64 a0_0, .int .i64 a0_1, .int .i64 a0_2, .int .i64 a0_3, .int .i64 a0_4, .int .i64 a0_5] 32 ?_; intro gb135 hg w4 hbox hb; have BK135 := Aside0.mk (hbox); have GW135 := Aside0.mk ((q76t : w.heap.size ≤ gb135)); have GE135 := Aside0.mk ((q76t : w.heap.size ≤ gb135)); replace HB := Aside0.mk (below_step q102t hb); clear hb hbox hg) | ((with_reducible refine gate_dst (N := 3) rfl ?_); (try (refine gate_guard (by rfl) ?_; dsimp only)); refine box_ev 3 #[.slice A1_0 l1_0.length c1_0, .slice A1_1 l1_1.length c1_1, .slice A1_2 l1_2.length c1_2] 29 ?_; intro gb136 hg w5 hbox hb; have BK136 := Aside0.mk (hbox); have GW136 := Aside0.mk ((by rw [hg]; exact (below_size q79t) : w.heap.size ≤ gb136)); have GE136 := Aside0.mk ((by rw [hg]; exact (below_size q79t) : w.heap.size ≤ gb136)); replace HB := Aside0.mk (below_step q79t hb); have NB135_136 := Aside0.mk ((by rw [hg]; exact Nat.ne_of_lt (blk_lt (qbk BK135)) : gb135 ≠ gb136)); have NB136_135 := Aside0.mk ((by rw [hg]; exact Nat.ne_of_gt (blk_lt (qbk BK135)) : gb136 ≠ gb135)); replace BK135 := blb BK135 hb; clear hb hbox hg))
 (try simp only [Act.put, List.setIfInBounds_toArray, List.set_cons_zero, List.set_cons_succ])
 go_cut [32] (fun v32 wc => ∃ (kq : Nat) (x32_2 : Bool), v32 = .bool x32_2 ∧ Aside0 (spec_PoolOk.j0 kq x32_2 a0_0 a0_1 a0_2 a0_3 a0_4 a0_5 l1_0 l1_1 l1_2 = some r) ∧ Aside0 (kq ≤ k) ∧ Aside0 (wc.heap[gb135]? = some (.cells #[.int .i64 a0_0, .int .i64 a0_1, .int .i64 a0_2, .int .i64 a0_3, .int .i64 a0_4, .int .i64 a0_5] 32 (0, 0))) ∧ Aside0 (wc.heap[gb136]? = some (.cells #[(.slice A1_0 l1_0.length c1_0), (.slice A1_1 l1_1.length c1_1), (.slice A1_2 l1_2.length c1_2)] 29 (0, 0))) ∧ Aside0 (Below w.heap.size w wc))
 case first =>
  have H := HC3.out
  clear HC3
  replace H := Option.bind_eq_some_iff.mp H
  obtain ⟨t137, A60, H⟩ := H
  try dsimp only at H
  have A6 := Aside0.mk A60
  clear A60
  by_cases c7 : t137 = true
  rotate_left
  ·replace c7 := Bool.eq_false_iff.mpr c7
   subst c7
   rw [if_neg (show ¬ (false = true) by decide)] at H
   have H' := Aside0.mk H
   clear H
   try go_wp2
   (try (rw [drewN_self w5]; generalize hq_ : World.drewN w5 _ = w5; have hh_ := congrArg World.heap hq_; dsimp only [World.drewN] at hh_; have zb_ : Below w.heap.size w w5 := (by rw [← hq_]; exact pw_below_drewN HB.out _); have z_ := BK135.out; rw [hh_] at z_; clear BK135; have BK135 := Aside0.mk z_; clear z_; have z_ := BK136.out; rw [hh_] at z_; clear BK136; have BK136 := Aside0.mk z_; clear z_; clear HB; have HB := Aside0.mk zb_; clear zb_ hh_ hq_))
   replace BK135 := Aside0.mk (blk_drew BK135.out)
   replace BK136 := Aside0.mk (blk_drew BK136.out)
   replace HB := Aside0.mk (below_drew1 HB.out)
   refine start_ (n := 27) (S := fun w' => w'.cell? ⟨gb135, 0, none⟩ = some (.int .i64 a0_0) ∧ w'.cell? ⟨gb135, 1, none⟩ = some (.int .i64 a0_1) ∧ w'.cell? ⟨gb135, 2, none⟩ = some (.int .i64 a0_2) ∧ w'.cell? ⟨gb135, 3, none⟩ = some (.int .i64 a0_3) ∧ w'.cell? ⟨gb135, 4, none⟩ = some (.int .i64 a0_4) ∧ w'.cell? ⟨gb135, 5, none⟩ = some (.int .i64 a0_5)) (ds := []) (bm 27 0) (by kernel_rfl) rfl (by kernel_rfl) ⟨(blk_cell BK135.out 0).trans rfl, (blk_cell BK135.out 1).trans rfl, (blk_cell BK135.out 2).trans rfl, (blk_cell BK135.out 3).trans rfl, (blk_cell BK135.out 4).trans rfl, (blk_cell BK135.out 5).trans rfl⟩ (fun hHeld => ?_); refine with_tabW spec_PoolOk.tab1 spec_PoolOk.bits1 (fun HT_ HW_ => ?_)
   generalize w5.drew = w20 at BK135 BK136 HB hHeld ⊢
   refine take_ (i := 0) (N := some 6) (v := ?_) (a' := ?_) (bm 27 1) rfl rfl (take_ofW HT_.out HW_.out (by kernel_rfl)) (fun _ _ _ h => h) (Or.inl ⟨by rfl, ?_⟩) hHeld ?_ ?_
   rotate_left
   ·rintro w' ⟨s0, s1, s2, s3, s4, s5⟩
    go_simp
    with_reducible rfl
   rotate_left
   ·simp only [Act.put, List.setIfInBounds_toArray, List.set_cons_zero, List.set_cons_succ, i64_w, i32_w]
    rfl
   refine one_ (i := 1) (N := some 7) (bm 27 3) rfl rfl (one_of HT_.out (by kernel_rfl)) q144t (fun K hK => ?_)
   refine goes_ Try.func33 (by kernel_rfl) rfl #[.agg #[.int .i64 a0_0, .int .i64 a0_1, .int .i64 a0_2, .int .i64 a0_3, .int .i64 a0_4, .int .i64 a0_5]] (by rfl) rfl rfl q97t ?_
   with_reducible refine (spec_ConfOk.calls a0_0 a0_1 a0_2 a0_3 a0_4 a0_5 false _ A6.out).mono ?_
   rintro e w21 ⟨rfl, hb⟩
   refine ⟨_, rfl, ?_⟩
   replace BK135 := blb BK135 hb
   replace BK136 := blb BK136 hb
   replace HB := Aside0.mk (below_step q55t hb)
   (try clear hb)
   (try clear hb2)
   (try clear hk)
   (try clear hi)
   refine hK.out _ _ (by first | exact ⟨(blk_cell BK135.out 0).trans rfl, (blk_cell BK135.out 1).trans rfl, (blk_cell BK135.out 2).trans rfl, (blk_cell BK135.out 3).trans rfl, (blk_cell BK135.out 4).trans rfl, (blk_cell BK135.out 5).trans rfl⟩ | exact hHeld) (fun hHeld => ?_)
   clear hK K
   refine norm_ (a' := ?_) ?_ ?_
   rotate_left
   ·show Act.put _ (some 7) _ = _
    simp only [Act.put, List.setIfInBounds_toArray, List.set_cons_zero, List.set_cons_succ, i64_w, i32_w]
    rfl
   refine pu_ 2 (some 8) (bm 27 7) (any_of HT_.out (by kernel_rfl)) ?_
   refine pu_ 3 (some 9) (bm 27 15) (any_of HT_.out (by kernel_rfl)) ?_
   refine pn_ 4 (some 10) (bm 27 31) (any_of HT_.out (by kernel_rfl)) ?_
   refine pn_ 5 (some 11) (bm 27 63) (any_of HT_.out (by kernel_rfl)) ?_
   refine pn_ 6 (some 12) (bm 27 127) (any_of HT_.out (by kernel_rfl)) ?_
   refine pn_ 7 (some 13) (bm 27 255) (any_of HT_.out (by kernel_rfl)) ?_
   refine pn_ 8 (some 14) (bm 27 511) (any_of HT_.out (by kernel_rfl)) ?_
   refine pn_ 9 (some 15) (bm 27 1023) (any_of HT_.out (by kernel_rfl)) ?_
   refine pu_ 10 (some 16) (bm 27 2047) (any_of HT_.out (by kernel_rfl)) ?_
   refine pu_ 11 (some 17) (bm 27 4095) (any_of HT_.out (by kernel_rfl)) ?_
   refine pn_ 12 (some 18) (bm 27 8191) (any_of HT_.out (by kernel_rfl)) ?_
   refine pn_ 13 (some 19) (bm 27 16383) (any_of HT_.out (by kernel_rfl)) ?_
   refine pn_ 14 (some 20) (bm 27 32767) (any_of HT_.out (by kernel_rfl)) ?_
   refine pn_ 15 (some 21) (bm 27 65535) (any_of HT_.out (by kernel_rfl)) ?_
   refine pn_ 16 (some 22) (bm 27 131071) (any_of HT_.out (by kernel_rfl)) ?_
   refine pn_ 17 (some 23) (bm 27 262143) (any_of HT_.out (by kernel_rfl)) ?_
   refine pu_ 18 (some 24) (bm 27 524287) (any_of HT_.out (by kernel_rfl)) ?_
   refine pu_ 19 (some 25) (bm 27 1048575) (any_of HT_.out (by kernel_rfl)) ?_
   refine pn_ 20 (some 26) (bm 27 2097151) (any_of HT_.out (by kernel_rfl)) ?_
   refine pn_ 21 (some 27) (bm 27 4194303) (any_of HT_.out (by kernel_rfl)) ?_
   refine pn_ 22 (some 28) (bm 27 8388607) (any_of HT_.out (by kernel_rfl)) ?_
   refine pn_ 23 (some 29) (bm 27 16777215) (any_of HT_.out (by kernel_rfl)) ?_
   refine pn_ 24 (some 30) (bm 27 33554431) (any_of HT_.out (by kernel_rfl)) ?_
   refine pn_ 25 (some 31) (bm 27 67108863) (any_of HT_.out (by kernel_rfl)) ?_
   refine pu_ 26 (some 32) (bm 27 134217727) (any_of HT_.out (by kernel_rfl)) ?_
   refine done_ (done_of HT_.out (by kernel_rfl)) ?_
   try go_wp2
   go_meet
   case rel => exact ⟨_, (true), q142t, H', ⟨by first | omega | exact Nat.le_refl _⟩, ⟨qbk BK135⟩, ⟨qbk BK136⟩, ⟨by repeat (first | (with_reducible first | exact HB.out | apply below_alloc | apply pw_below_drewN | apply below_drew1 | refine below_set ?_ GE135.out | refine below_set ?_ GE136.out) | exact HB.out)⟩⟩
  subst c7
  rw [if_pos rfl] at H
  replace H := Option.bind_eq_some_iff.mp H
  obtain ⟨t138, A80, H⟩ := H
  try dsimp only at H
  have A8 := Aside0.mk A80
  clear A80
  by_cases c9 : (l1_0.length : Int) = t138
  ·rw [if_pos c9] at H
   have c9b0 : ((l1_0.length : Int) == t138) = true := beq_iff_eq.mpr c9
   have c9b1 : ((l1_0.length : Int) != t138) = false := bne_eq_false_iff_eq.mpr c9
   clear c9
   (first | rw [c9b0] | (simp only [i64_w, i32_w]; rw [c9b0]) | skip)
   by_cases c10 : (l1_1.length : Int) = a0_0
   ·rw [if_pos c10] at H
    have c10b0 : ((l1_1.length : Int) == a0_0) = true := beq_iff_eq.mpr c10
    have c10b1 : ((l1_1.length : Int) != a0_0) = false := bne_eq_false_iff_eq.mpr c10
    clear c10
    have H' := Aside0.mk H
    clear H
    try go_wp2
    (try (rw [drewN_self w5]; generalize hq_ : World.drewN w5 _ = w5; have hh_ := congrArg World.heap hq_; dsimp only [World.drewN] at hh_; have zb_ : Below w.heap.size w w5 := (by rw [← hq_]; exact pw_below_drewN HB.out _); have z_ := BK135.out; rw [hh_] at z_; clear BK135; have BK135 := Aside0.mk z_; clear z_; have z_ := BK136.out; rw [hh_] at z_; clear BK136; have BK136 := Aside0.mk z_; clear z_; clear HB; have HB := Aside0.mk zb_; clear zb_ hh_ hq_))
    replace BK135 := Aside0.mk (blk_drew BK135.out)
    replace BK136 := Aside0.mk (blk_drew BK136.out)
    replace HB := Aside0.mk (below_drew1 HB.out)
    refine start_ (n := 27) (S := fun w' => w'.cell? ⟨gb135, 0, none⟩ = some (.int .i64 a0_0) ∧ w'.cell? ⟨gb135, 1, none⟩ = some (.int .i64 a0_1) ∧ w'.cell? ⟨gb135, 2, none⟩ = some (.int .i64 a0_2) ∧ w'.cell? ⟨gb135, 3, none⟩ = some (.int .i64 a0_3) ∧ w'.cell? ⟨gb135, 4, none⟩ = some (.int .i64 a0_4) ∧ w'.cell? ⟨gb135, 5, none⟩ = some (.int .i64 a0_5) ∧ w'.cell? ⟨gb136, 0, none⟩ = some (.slice A1_0 l1_0.length c1_0) ∧ w'.cell? ⟨gb136, 1, none⟩ = some (.slice A1_1 l1_1.length c1_1) ∧ w'.cell? ⟨gb136, 2, none⟩ = some (.slice A1_2 l1_2.length c1_2)) (ds := []) (bm 27 0) (by kernel_rfl) rfl (by kernel_rfl) ⟨(blk_cell BK135.out 0).trans rfl, (blk_cell BK135.out 1).trans rfl, (blk_cell BK135.out 2).trans rfl, (blk_cell BK135.out 3).trans rfl, (blk_cell BK135.out 4).trans rfl, (blk_cell BK135.out 5).trans rfl, (blk_cell BK136.out 0).trans rfl, (blk_cell BK136.out 1).trans rfl, (blk_cell BK136.out 2).trans rfl⟩ (fun hHeld => ?_); refine with_tabW spec_PoolOk.tab1 spec_PoolOk.bits1 (fun HT_ HW_ => ?_)
    generalize w5.drew = w11 at BK135 BK136 HB hHeld ⊢
    refine take_ (i := 0) (N := some 6) (v := ?_) (a' := ?_) (bm 27 1) rfl rfl (take_ofW HT_.out HW_.out (by kernel_rfl)) (fun _ _ _ h => h) (Or.inl ⟨by rfl, ?_⟩) hHeld ?_ ?_
    rotate_left
    ·rintro w' ⟨s0, s1, s2, s3, s4, s5, s6, s7, s8⟩
     go_simp
     with_reducible rfl
    rotate_left
    ·simp only [Act.put, List.setIfInBounds_toArray, List.set_cons_zero, List.set_cons_succ, i64_w, i32_w]
     rfl
    refine one_ (i := 1) (N := some 7) (bm 27 3) rfl rfl (one_of HT_.out (by kernel_rfl)) q144t (fun K hK => ?_)
    refine goes_ Try.func33 (by kernel_rfl) rfl #[.agg #[.int .i64 a0_0, .int .i64 a0_1, .int .i64 a0_2, .int .i64 a0_3, .int .i64 a0_4, .int .i64 a0_5]] (by rfl) rfl rfl q97t ?_
    with_reducible refine (spec_ConfOk.calls a0_0 a0_1 a0_2 a0_3 a0_4 a0_5 true _ A6.out).mono ?_
    rintro e w12 ⟨rfl, hb⟩
    refine ⟨_, rfl, ?_⟩
    replace BK135 := blb BK135 hb
    replace BK136 := blb BK136 hb
    replace HB := Aside0.mk (below_step q55t hb)
    (try clear hb)
    (try clear hb2)
    (try clear hk)
    (try clear hi)
    refine hK.out _ _ q20t (fun hHeld => ?_)
    clear hK K
    refine norm_ (a' := ?_) ?_ ?_
    rotate_left
    ·show Act.put _ (some 7) _ = _
     simp only [Act.put, List.setIfInBounds_toArray, List.set_cons_zero, List.set_cons_succ, i64_w, i32_w]
     rfl
    refine pu_ 2 (some 8) (bm 27 7) (any_of HT_.out (by kernel_rfl)) ?_
    refine pu_ 3 (some 9) (bm 27 15) (any_of HT_.out (by kernel_rfl)) ?_
    refine pu_ 4 (some 10) (bm 27 31) (any_of HT_.out (by kernel_rfl)) ?_
    refine take_ (i := 5) (N := some 11) (v := ?_) (a' := ?_) (bm 27 63) rfl rfl (take_ofW HT_.out HW_.out (by kernel_rfl)) (fun _ _ _ h => h) (Or.inl ⟨by rfl, ?_⟩) hHeld ?_ ?_
    rotate_left
    ·rintro w' ⟨s0, s1, s2, s3, s4, s5, s6, s7, s8⟩
     go_simp
     with_reducible rfl
    rotate_left
    ·simp only [Act.put, List.setIfInBounds_toArray, List.set_cons_zero, List.set_cons_succ, i64_w, i32_w]
     rfl
    refine pu_ 6 (some 12) (bm 27 127) (any_of HT_.out (by kernel_rfl)) ?_
    refine take_ (i := 7) (N := some 13) (v := ?_) (a' := ?_) (bm 27 255) rfl rfl (take_ofW HT_.out HW_.out (by kernel_rfl)) (fun _ _ _ h => h) (Or.inl ⟨by rfl, ?_⟩) hHeld ?_ ?_
    rotate_left
    ·rintro w' ⟨s0, s1, s2, s3, s4, s5, s6, s7, s8⟩
     go_simp
     with_reducible rfl
    rotate_left
    ·simp only [Act.put, List.setIfInBounds_toArray, List.set_cons_zero, List.set_cons_succ, i64_w, i32_w]
     rfl
    refine one_ (i := 8) (N := some 14) (bm 27 511) rfl rfl (one_of HT_.out (by kernel_rfl)) q144t (fun K hK => ?_)
    refine goes_ Try.func34 (by kernel_rfl) rfl #[.agg #[.int .i64 a0_0, .int .i64 a0_1, .int .i64 a0_2, .int .i64 a0_3, .int .i64 a0_4, .int .i64 a0_5]] (by rfl) rfl rfl q97t ?_
    with_reducible refine (spec_BytesOf.calls a0_0 a0_1 a0_2 a0_3 a0_4 a0_5 t138 _ A8.out).mono ?_
    rintro e w13 ⟨rfl, hb⟩
    refine ⟨_, rfl, ?_⟩
    replace BK135 := blb BK135 hb
    replace BK136 := blb BK136 hb
    replace HB := Aside0.mk (below_step q55t hb)
    (try clear hb)
    (try clear hb2)
    (try clear hk)
    (try clear hi)
    refine hK.out _ _ q20t (fun hHeld => ?_)
    clear hK K
    refine norm_ (a' := ?_) ?_ ?_
    rotate_left
    ·show Act.put _ (some 14) _ = _
     simp only [Act.put, List.setIfInBounds_toArray, List.set_cons_zero, List.set_cons_succ, i64_w, i32_w]
     rfl
    refine pu_ 9 (some 15) (bm 27 1023) (any_of HT_.out (by kernel_rfl)) ?_
    refine pu_ 10 (some 16) (bm 27 2047) (any_of HT_.out (by kernel_rfl)) ?_
    refine pu_ 11 (some 17) (bm 27 4095) (any_of HT_.out (by kernel_rfl)) ?_
    refine pu_ 12 (some 18) (bm 27 8191) (any_of HT_.out (by kernel_rfl)) ?_
    refine pu_ 15 (some 21) (bm 27 40959) (any_of HT_.out (by kernel_rfl)) ?_
    refine take_ (i := 13) (N := some 19) (v := ?_) (a' := ?_) (bm 27 49151) rfl rfl (take_ofW HT_.out HW_.out (by kernel_rfl)) (fun _ _ _ h => h) (Or.inl ⟨by rfl, ?_⟩) hHeld ?_ ?_
    rotate_left
    ·rintro w' ⟨s0, s1, s2, s3, s4, s5, s6, s7, s8⟩
     go_simp
     with_reducible rfl
    rotate_left
    ·simp only [Act.put, List.setIfInBounds_toArray, List.set_cons_zero, List.set_cons_succ, i64_w, i32_w]
     rfl
    refine pu_ 14 (some 20) (bm 27 65535) (any_of HT_.out (by kernel_rfl)) ?_
    refine take_ (i := 16) (N := some 22) (v := ?_) (a' := ?_) (bm 27 131071) rfl rfl (take_ofW HT_.out HW_.out (by kernel_rfl)) (fun _ _ _ h => h) (Or.inl ⟨by rfl, ?_⟩) hHeld ?_ ?_
    rotate_left
    ·rintro w' ⟨s0, s1, s2, s3, s4, s5, s6, s7, s8⟩
     go_simp
     with_reducible rfl
    rotate_left
    ·simp only [Act.put, List.setIfInBounds_toArray, List.set_cons_zero, List.set_cons_succ, i64_w, i32_w]
     rfl
    refine pu_ 17 (some 23) (bm 27 262143) (any_of HT_.out (by kernel_rfl)) ?_
    refine pu_ 18 (some 24) (bm 27 524287) (any_of HT_.out (by kernel_rfl)) ?_
    refine pu_ 19 (some 25) (bm 27 1048575) (any_of HT_.out (by kernel_rfl)) ?_
    refine pu_ 20 (some 26) (bm 27 2097151) (any_of HT_.out (by kernel_rfl)) ?_
    refine pu_ 23 (some 29) (bm 27 10485759) (any_of HT_.out (by kernel_rfl)) ?_
    refine take_ (i := 21) (N := some 27) (v := ?_) (a' := ?_) (bm 27 12582911) rfl rfl (take_ofW HT_.out HW_.out (by kernel_rfl)) (fun _ _ _ h => h) (Or.inl ⟨by rfl, ?_⟩) hHeld ?_ ?_
    rotate_left
    ·rintro w' ⟨s0, s1, s2, s3, s4, s5, s6, s7, s8⟩
     go_simp
     with_reducible rfl
    rotate_left
    ·simp only [Act.put, List.setIfInBounds_toArray, List.set_cons_zero, List.set_cons_succ, i64_w, i32_w]
     rfl
    refine pu_ 22 (some 28) (bm 27 16777215) (any_of HT_.out (by kernel_rfl)) ?_
    refine take_ (i := 24) (N := some 30) (v := ?_) (a' := ?_) (bm 27 33554431) rfl rfl (take_ofW HT_.out HW_.out (by kernel_rfl)) (fun _ _ _ h => h) (Or.inl ⟨by rfl, ?_⟩) hHeld ?_ ?_
    rotate_left
    ·rintro w' ⟨s0, s1, s2, s3, s4, s5, s6, s7, s8⟩
     go_simp
     with_reducible rfl
    rotate_left
    ·simp only [Act.put, List.setIfInBounds_toArray, List.set_cons_zero, List.set_cons_succ, i64_w, i32_w]
     rfl
    refine pu_ 25 (some 31) (bm 27 67108863) (any_of HT_.out (by kernel_rfl)) ?_
    refine pu_ 26 (some 32) (bm 27 134217727) (any_of HT_.out (by kernel_rfl)) ?_
    refine done_ (done_of HT_.out (by kernel_rfl)) ?_
    try go_wp2
    go_meet
    case rel => exact ⟨_, (((l1_2.length : Int) != a0_0)), q142t, H', ⟨by first | omega | exact Nat.le_refl _⟩, ⟨qbk BK135⟩, ⟨qbk BK136⟩, ⟨by repeat (first | (with_reducible first | exact HB.out | apply below_alloc | apply pw_below_drewN | apply below_drew1 | refine below_set ?_ GE135.out | refine below_set ?_ GE136.out) | exact HB.out)⟩⟩
   rw [if_neg c10] at H
   have c10b0 : ((l1_1.length : Int) == a0_0) = false := beq_eq_false_iff_ne.mpr c10
   have c10b1 : ((l1_1.length : Int) != a0_0) = true := bne_iff_ne.mpr c10
   have H' := Aside0.mk H
   clear H
   try go_wp2
   (try (rw [drewN_self w5]; generalize hq_ : World.drewN w5 _ = w5; have hh_ := congrArg World.heap hq_; dsimp only [World.drewN] at hh_; have zb_ : Below w.heap.size w w5 := (by rw [← hq_]; exact pw_below_drewN HB.out _); have z_ := BK135.out; rw [hh_] at z_; clear BK135; have BK135 := Aside0.mk z_; clear z_; have z_ := BK136.out; rw [hh_] at z_; clear BK136; have BK136 := Aside0.mk z_; clear z_; clear HB; have HB := Aside0.mk zb_; clear zb_ hh_ hq_))
   replace BK135 := Aside0.mk (blk_drew BK135.out)
   replace BK136 := Aside0.mk (blk_drew BK136.out)
   replace HB := Aside0.mk (below_drew1 HB.out)
   refine start_ (n := 27) (S := fun w' => w'.cell? ⟨gb135, 0, none⟩ = some (.int .i64 a0_0) ∧ w'.cell? ⟨gb135, 1, none⟩ = some (.int .i64 a0_1) ∧ w'.cell? ⟨gb135, 2, none⟩ = some (.int .i64 a0_2) ∧ w'.cell? ⟨gb135, 3, none⟩ = some (.int .i64 a0_3) ∧ w'.cell? ⟨gb135, 4, none⟩ = some (.int .i64 a0_4) ∧ w'.cell? ⟨gb135, 5, none⟩ = some (.int .i64 a0_5) ∧ w'.cell? ⟨gb136, 0, none⟩ = some (.slice A1_0 l1_0.length c1_0) ∧ w'.cell? ⟨gb136, 1, none⟩ = some (.slice A1_1 l1_1.length c1_1) ∧ w'.cell? ⟨gb136, 2, none⟩ = some (.slice A1_2 l1_2.length c1_2)) (ds := []) (bm 27 0) (by kernel_rfl) rfl (by kernel_rfl) ⟨(blk_cell BK135.out 0).trans rfl, (blk_cell BK135.out 1).trans rfl, (blk_cell BK135.out 2).trans rfl, (blk_cell BK135.out 3).trans rfl, (blk_cell BK135.out 4).trans rfl, (blk_cell BK135.out 5).trans rfl, (blk_cell BK136.out 0).trans rfl, (blk_cell BK136.out 1).trans rfl, (blk_cell BK136.out 2).trans rfl⟩ (fun hHeld => ?_); refine with_tabW spec_PoolOk.tab1 spec_PoolOk.bits1 (fun HT_ HW_ => ?_)
   generalize w5.drew = w14 at BK135 BK136 HB hHeld ⊢
   refine take_ (i := 0) (N := some 6) (v := ?_) (a' := ?_) (bm 27 1) rfl rfl (take_ofW HT_.out HW_.out (by kernel_rfl)) (fun _ _ _ h => h) (Or.inl ⟨by rfl, ?_⟩) hHeld ?_ ?_
   rotate_left
   ·rintro w' ⟨s0, s1, s2, s3, s4, s5, s6, s7, s8⟩
    go_simp
    with_reducible rfl
   rotate_left
   ·simp only [Act.put, List.setIfInBounds_toArray, List.set_cons_zero, List.set_cons_succ, i64_w, i32_w]
    rfl
   refine one_ (i := 1) (N := some 7) (bm 27 3) rfl rfl (one_of HT_.out (by kernel_rfl)) q144t (fun K hK => ?_)
   refine goes_ Try.func33 (by kernel_rfl) rfl #[.agg #[.int .i64 a0_0, .int .i64 a0_1, .int .i64 a0_2, .int .i64 a0_3, .int .i64 a0_4, .int .i64 a0_5]] (by rfl) rfl rfl q97t ?_
   with_reducible refine (spec_ConfOk.calls a0_0 a0_1 a0_2 a0_3 a0_4 a0_5 true _ A6.out).mono ?_
   rintro e w15 ⟨rfl, hb⟩
   refine ⟨_, rfl, ?_⟩
   replace BK135 := blb BK135 hb
   replace BK136 := blb BK136 hb
   replace HB := Aside0.mk (below_step q55t hb)
   (try clear hb)
   (try clear hb2)
   (try clear hk)
   (try clear hi)
   refine hK.out _ _ q20t (fun hHeld => ?_)
   clear hK K
   refine norm_ (a' := ?_) ?_ ?_
   rotate_left
   ·show Act.put _ (some 7) _ = _
    simp only [Act.put, List.setIfInBounds_toArray, List.set_cons_zero, List.set_cons_succ, i64_w, i32_w]
    rfl
   refine pu_ 2 (some 8) (bm 27 7) (any_of HT_.out (by kernel_rfl)) ?_
   refine pu_ 3 (some 9) (bm 27 15) (any_of HT_.out (by kernel_rfl)) ?_
   refine pu_ 4 (some 10) (bm 27 31) (any_of HT_.out (by kernel_rfl)) ?_
   refine take_ (i := 5) (N := some 11) (v := ?_) (a' := ?_) (bm 27 63) rfl rfl (take_ofW HT_.out HW_.out (by kernel_rfl)) (fun _ _ _ h => h) (Or.inl ⟨by rfl, ?_⟩) hHeld ?_ ?_
   rotate_left
   ·rintro w' ⟨s0, s1, s2, s3, s4, s5, s6, s7, s8⟩
    go_simp
    with_reducible rfl
   rotate_left
   ·simp only [Act.put, List.setIfInBounds_toArray, List.set_cons_zero, List.set_cons_succ, i64_w, i32_w]
    rfl
   refine pu_ 6 (some 12) (bm 27 127) (any_of HT_.out (by kernel_rfl)) ?_
   refine take_ (i := 7) (N := some 13) (v := ?_) (a' := ?_) (bm 27 255) rfl rfl (take_ofW HT_.out HW_.out (by kernel_rfl)) (fun _ _ _ h => h) (Or.inl ⟨by rfl, ?_⟩) hHeld ?_ ?_
   rotate_left
   ·rintro w' ⟨s0, s1, s2, s3, s4, s5, s6, s7, s8⟩
    go_simp
    with_reducible rfl
   rotate_left
   ·simp only [Act.put, List.setIfInBounds_toArray, List.set_cons_zero, List.set_cons_succ, i64_w, i32_w]
    rfl
   refine one_ (i := 8) (N := some 14) (bm 27 511) rfl rfl (one_of HT_.out (by kernel_rfl)) q144t (fun K hK => ?_)
   refine goes_ Try.func34 (by kernel_rfl) rfl #[.agg #[.int .i64 a0_0, .int .i64 a0_1, .int .i64 a0_2, .int .i64 a0_3, .int .i64 a0_4, .int .i64 a0_5]] (by rfl) rfl rfl q97t ?_
   with_reducible refine (spec_BytesOf.calls a0_0 a0_1 a0_2 a0_3 a0_4 a0_5 t138 _ A8.out).mono ?_
   rintro e w16 ⟨rfl, hb⟩
   refine ⟨_, rfl, ?_⟩
   replace BK135 := blb BK135 hb
   replace BK136 := blb BK136 hb
   replace HB := Aside0.mk (below_step q55t hb)
   (try clear hb)
   (try clear hb2)
   (try clear hk)
   (try clear hi)
   refine hK.out _ _ q20t (fun hHeld => ?_)
   clear hK K
   refine norm_ (a' := ?_) ?_ ?_
   rotate_left
   ·show Act.put _ (some 14) _ = _
    simp only [Act.put, List.setIfInBounds_toArray, List.set_cons_zero, List.set_cons_succ, i64_w, i32_w]
    rfl
   refine pu_ 9 (some 15) (bm 27 1023) (any_of HT_.out (by kernel_rfl)) ?_
   refine pu_ 10 (some 16) (bm 27 2047) (any_of HT_.out (by kernel_rfl)) ?_
   refine pu_ 11 (some 17) (bm 27 4095) (any_of HT_.out (by kernel_rfl)) ?_
   refine pu_ 12 (some 18) (bm 27 8191) (any_of HT_.out (by kernel_rfl)) ?_
   refine pu_ 15 (some 21) (bm 27 40959) (any_of HT_.out (by kernel_rfl)) ?_
   refine take_ (i := 13) (N := some 19) (v := ?_) (a' := ?_) (bm 27 49151) rfl rfl (take_ofW HT_.out HW_.out (by kernel_rfl)) (fun _ _ _ h => h) (Or.inl ⟨by rfl, ?_⟩) hHeld ?_ ?_
   rotate_left
   ·rintro w' ⟨s0, s1, s2, s3, s4, s5, s6, s7, s8⟩
    go_simp
    with_reducible rfl
   rotate_left
   ·simp only [Act.put, List.setIfInBounds_toArray, List.set_cons_zero, List.set_cons_succ, i64_w, i32_w]
    rfl
   refine pu_ 14 (some 20) (bm 27 65535) (any_of HT_.out (by kernel_rfl)) ?_
   refine take_ (i := 16) (N := some 22) (v := ?_) (a' := ?_) (bm 27 131071) rfl rfl (take_ofW HT_.out HW_.out (by kernel_rfl)) (fun _ _ _ h => h) (Or.inl ⟨by rfl, ?_⟩) hHeld ?_ ?_
   rotate_left
   ·rintro w' ⟨s0, s1, s2, s3, s4, s5, s6, s7, s8⟩
    go_simp
    with_reducible rfl
   rotate_left
   ·simp only [Act.put, List.setIfInBounds_toArray, List.set_cons_zero, List.set_cons_succ, i64_w, i32_w]
    rfl
   refine pu_ 17 (some 23) (bm 27 262143) (any_of HT_.out (by kernel_rfl)) ?_
   refine pu_ 18 (some 24) (bm 27 524287) (any_of HT_.out (by kernel_rfl)) ?_
   refine pu_ 19 (some 25) (bm 27 1048575) (any_of HT_.out (by kernel_rfl)) ?_
   refine pn_ 20 (some 26) (bm 27 2097151) (any_of HT_.out (by kernel_rfl)) ?_
   refine pn_ 21 (some 27) (bm 27 4194303) (any_of HT_.out (by kernel_rfl)) ?_
   refine pn_ 22 (some 28) (bm 27 8388607) (any_of HT_.out (by kernel_rfl)) ?_
   refine pn_ 23 (some 29) (bm 27 16777215) (any_of HT_.out (by kernel_rfl)) ?_
   refine pn_ 24 (some 30) (bm 27 33554431) (any_of HT_.out (by kernel_rfl)) ?_
   refine pn_ 25 (some 31) (bm 27 67108863) (any_of HT_.out (by kernel_rfl)) ?_
   refine pu_ 26 (some 32) (bm 27 134217727) (any_of HT_.out (by kernel_rfl)) ?_
   refine done_ (done_of HT_.out (by kernel_rfl)) ?_
   try go_wp2
   go_meet
   case rel => exact ⟨_, (true), q142t, H', ⟨by first | omega | exact Nat.le_refl _⟩, ⟨qbk BK135⟩, ⟨qbk BK136⟩, ⟨by repeat (first | (with_reducible first | exact HB.out | apply below_alloc | apply pw_below_drewN | apply below_drew1 | refine below_set ?_ GE135.out | refine below_set ?_ GE136.out) | exact HB.out)⟩⟩
  rw [if_neg c9] at H
  have c9b0 : ((l1_0.length : Int) == t138) = false := beq_eq_false_iff_ne.mpr c9
  have c9b1 : ((l1_0.length : Int) != t138) = true := bne_iff_ne.mpr c9
  (first | rw [c9b0] | (simp only [i64_w, i32_w]; rw [c9b0]) | skip)
  have H' := Aside0.mk H
  clear H
  try go_wp2
  (try (rw [drewN_self w5]; generalize hq_ : World.drewN w5 _ = w5; have hh_ := congrArg World.heap hq_; dsimp only [World.drewN] at hh_; have zb_ : Below w.heap.size w w5 := (by rw [← hq_]; exact pw_below_drewN HB.out _); have z_ := BK135.out; rw [hh_] at z_; clear BK135; have BK135 := Aside0.mk z_; clear z_; have z_ := BK136.out; rw [hh_] at z_; clear BK136; have BK136 := Aside0.mk z_; clear z_; clear HB; have HB := Aside0.mk zb_; clear zb_ hh_ hq_))
  replace BK135 := Aside0.mk (blk_drew BK135.out)
  replace BK136 := Aside0.mk (blk_drew BK136.out)
  replace HB := Aside0.mk (below_drew1 HB.out)
  refine start_ (n := 27) (S := fun w' => w'.cell? ⟨gb135, 0, none⟩ = some (.int .i64 a0_0) ∧ w'.cell? ⟨gb135, 1, none⟩ = some (.int .i64 a0_1) ∧ w'.cell? ⟨gb135, 2, none⟩ = some (.int .i64 a0_2) ∧ w'.cell? ⟨gb135, 3, none⟩ = some (.int .i64 a0_3) ∧ w'.cell? ⟨gb135, 4, none⟩ = some (.int .i64 a0_4) ∧ w'.cell? ⟨gb135, 5, none⟩ = some (.int .i64 a0_5) ∧ w'.cell? ⟨gb136, 0, none⟩ = some (.slice A1_0 l1_0.length c1_0) ∧ w'.cell? ⟨gb136, 1, none⟩ = some (.slice A1_1 l1_1.length c1_1) ∧ w'.cell? ⟨gb136, 2, none⟩ = some (.slice A1_2 l1_2.length c1_2)) (ds := []) (bm 27 0) (by kernel_rfl) rfl (by kernel_rfl) ⟨(blk_cell BK135.out 0).trans rfl, (blk_cell BK135.out 1).trans rfl, (blk_cell BK135.out 2).trans rfl, (blk_cell BK135.out 3).trans rfl, (blk_cell BK135.out 4).trans rfl, (blk_cell BK135.out 5).trans rfl, (blk_cell BK136.out 0).trans rfl, (blk_cell BK136.out 1).trans rfl, (blk_cell BK136.out 2).trans rfl⟩ (fun hHeld => ?_); refine with_tabW spec_PoolOk.tab1 spec_PoolOk.bits1 (fun HT_ HW_ => ?_)
  generalize w5.drew = w17 at BK135 BK136 HB hHeld ⊢
  refine take_ (i := 0) (N := some 6) (v := ?_) (a' := ?_) (bm 27 1) rfl rfl (take_ofW HT_.out HW_.out (by kernel_rfl)) (fun _ _ _ h => h) (Or.inl ⟨by rfl, ?_⟩) hHeld ?_ ?_
  rotate_left
  ·rintro w' ⟨s0, s1, s2, s3, s4, s5, s6, s7, s8⟩
   go_simp
   with_reducible rfl
  rotate_left
  ·simp only [Act.put, List.setIfInBounds_toArray, List.set_cons_zero, List.set_cons_succ, i64_w, i32_w]
   rfl
  refine one_ (i := 1) (N := some 7) (bm 27 3) rfl rfl (one_of HT_.out (by kernel_rfl)) q144t (fun K hK => ?_)
  refine goes_ Try.func33 (by kernel_rfl) rfl #[.agg #[.int .i64 a0_0, .int .i64 a0_1, .int .i64 a0_2, .int .i64 a0_3, .int .i64 a0_4, .int .i64 a0_5]] (by rfl) rfl rfl q97t ?_
  with_reducible refine (spec_ConfOk.calls a0_0 a0_1 a0_2 a0_3 a0_4 a0_5 true _ A6.out).mono ?_
  rintro e w18 ⟨rfl, hb⟩
  refine ⟨_, rfl, ?_⟩
  replace BK135 := blb BK135 hb
  replace BK136 := blb BK136 hb
  replace HB := Aside0.mk (below_step q55t hb)
  (try clear hb)
  (try clear hb2)
  (try clear hk)
  (try clear hi)
  refine hK.out _ _ q20t (fun hHeld => ?_)
  clear hK K
  refine norm_ (a' := ?_) ?_ ?_
  rotate_left
  ·show Act.put _ (some 7) _ = _
   simp only [Act.put, List.setIfInBounds_toArray, List.set_cons_zero, List.set_cons_succ, i64_w, i32_w]
   rfl
  refine pu_ 2 (some 8) (bm 27 7) (any_of HT_.out (by kernel_rfl)) ?_
  refine pu_ 3 (some 9) (bm 27 15) (any_of HT_.out (by kernel_rfl)) ?_
  refine pu_ 4 (some 10) (bm 27 31) (any_of HT_.out (by kernel_rfl)) ?_
  refine take_ (i := 5) (N := some 11) (v := ?_) (a' := ?_) (bm 27 63) rfl rfl (take_ofW HT_.out HW_.out (by kernel_rfl)) (fun _ _ _ h => h) (Or.inl ⟨by rfl, ?_⟩) hHeld ?_ ?_
  rotate_left
  ·rintro w' ⟨s0, s1, s2, s3, s4, s5, s6, s7, s8⟩
   go_simp
   with_reducible rfl
  rotate_left
  ·simp only [Act.put, List.setIfInBounds_toArray, List.set_cons_zero, List.set_cons_succ, i64_w, i32_w]
   rfl
  refine pu_ 6 (some 12) (bm 27 127) (any_of HT_.out (by kernel_rfl)) ?_
  refine take_ (i := 7) (N := some 13) (v := ?_) (a' := ?_) (bm 27 255) rfl rfl (take_ofW HT_.out HW_.out (by kernel_rfl)) (fun _ _ _ h => h) (Or.inl ⟨by rfl, ?_⟩) hHeld ?_ ?_
  rotate_left
  ·rintro w' ⟨s0, s1, s2, s3, s4, s5, s6, s7, s8⟩
   go_simp
   with_reducible rfl
  rotate_left
  ·simp only [Act.put, List.setIfInBounds_toArray, List.set_cons_zero, List.set_cons_succ, i64_w, i32_w]
   rfl
  refine one_ (i := 8) (N := some 14) (bm 27 511) rfl rfl (one_of HT_.out (by kernel_rfl)) q144t (fun K hK => ?_)
  refine goes_ Try.func34 (by kernel_rfl) rfl #[.agg #[.int .i64 a0_0, .int .i64 a0_1, .int .i64 a0_2, .int .i64 a0_3, .int .i64 a0_4, .int .i64 a0_5]] (by rfl) rfl rfl q97t ?_
  with_reducible refine (spec_BytesOf.calls a0_0 a0_1 a0_2 a0_3 a0_4 a0_5 t138 _ A8.out).mono ?_
  rintro e w19 ⟨rfl, hb⟩
  refine ⟨_, rfl, ?_⟩
  replace BK135 := blb BK135 hb
  replace BK136 := blb BK136 hb
  replace HB := Aside0.mk (below_step q55t hb)
  (try clear hb)
  (try clear hb2)
  (try clear hk)
  (try clear hi)
  refine hK.out _ _ q20t (fun hHeld => ?_)
  clear hK K
  refine norm_ (a' := ?_) ?_ ?_
  rotate_left
  ·show Act.put _ (some 14) _ = _
   simp only [Act.put, List.setIfInBounds_toArray, List.set_cons_zero, List.set_cons_succ, i64_w, i32_w]
   rfl
  refine pu_ 9 (some 15) (bm 27 1023) (any_of HT_.out (by kernel_rfl)) ?_
  refine pu_ 10 (some 16) (bm 27 2047) (any_of HT_.out (by kernel_rfl)) ?_
  refine pu_ 11 (some 17) (bm 27 4095) (any_of HT_.out (by kernel_rfl)) ?_
  refine pn_ 12 (some 18) (bm 27 8191) (any_of HT_.out (by kernel_rfl)) ?_
  refine pn_ 13 (some 19) (bm 27 16383) (any_of HT_.out (by kernel_rfl)) ?_
  refine pn_ 14 (some 20) (bm 27 32767) (any_of HT_.out (by kernel_rfl)) ?_
  refine pn_ 15 (some 21) (bm 27 65535) (any_of HT_.out (by kernel_rfl)) ?_
  refine pn_ 16 (some 22) (bm 27 131071) (any_of HT_.out (by kernel_rfl)) ?_
  refine pn_ 17 (some 23) (bm 27 262143) (any_of HT_.out (by kernel_rfl)) ?_
  refine pu_ 18 (some 24) (bm 27 524287) (any_of HT_.out (by kernel_rfl)) ?_
  refine pu_ 19 (some 25) (bm 27 1048575) (any_of HT_.out (by kernel_rfl)) ?_
  refine pn_ 20 (some 26) (bm 27 2097151) (any_of HT_.out (by kernel_rfl)) ?_
  refine pn_ 21 (some 27) (bm 27 4194303) (any_of HT_.out (by kernel_rfl)) ?_
  refine pn_ 22 (some 28) (bm 27 8388607) (any_of HT_.out (by kernel_rfl)) ?_
  refine pn_ 23 (some 29) (bm 27 16777215) (any_of HT_.out (by kernel_rfl)) ?_
  refine pn_ 24 (some 30) (bm 27 33554431) (any_of HT_.out (by kernel_rfl)) ?_
  refine pn_ 25 (some 31) (bm 27 67108863) (any_of HT_.out (by kernel_rfl)) ?_
  refine pu_ 26 (some 32) (bm 27 134217727) (any_of HT_.out (by kernel_rfl)) ?_
  refine done_ (done_of HT_.out (by kernel_rfl)) ?_
  try go_wp2
  go_meet
  case rel => exact ⟨_, (true), q142t, H', ⟨by first | omega | exact Nat.le_refl _⟩, ⟨qbk BK135⟩, ⟨qbk BK136⟩, ⟨by repeat (first | (with_reducible first | exact HB.out | apply below_alloc | apply pw_below_drewN | apply below_drew1 | refine below_set ?_ GE135.out | refine below_set ?_ GE136.out) | exact HB.out)⟩⟩
 case rest =>
  clear HC3
  try clear c1
  try clear p2
  try clear c3
  try clear c7
  try clear c9
  try clear c9b0
  try clear c9b1
  obtain ⟨kq, x32_2, rfl, HA, HJ2, BK135, BK136, HB⟩ := hcut
  cases kq with
  | zero => exact absurd HA.out (by simp [spec_PoolOk.j0])
  | succ kj2 =>
   have H := HA.out
   clear HA
   simp only [spec_PoolOk.j0] at H
   by_cases c22 : x32_2 = true
   ·subst c22
    rw [if_pos rfl] at H
    obtain rfl := Option.some.inj H
    go_wp2
    go_ret
    exact ⟨by first | rfl | (simp [errW_none, errW_some] <;> rfl) | (simp [*, errW_none, errW_some] <;> rfl), by repeat (first | (with_reducible first | exact HB.out | apply below_alloc | apply pw_below_drewN | apply below_drew1 | refine below_set ?_ GE135.out | refine below_set ?_ GE136.out) | exact HB.out)⟩
   replace c22 := Bool.eq_false_iff.mpr c22
   subst c22
   rw [if_neg (show ¬ (false = true) by decide)] at H
   have H' := Aside0.mk H
   clear H
   go_wp2
   go_loopg [5] kj2 (fun kq v5 w' => ∃ (x5_2 : Int), v5 = .int .i64 x5_2 ∧ Aside0 (spec_PoolOk.l0 kq x5_2 a0_0 a0_1 a0_2 a0_3 a0_4 a0_5 l1_0 l1_1 l1_2 = some r) ∧ Aside0 (kq ≤ kj2) ∧ Aside0 (w'.heap[gb135]? = some (.cells #[.int .i64 a0_0, .int .i64 a0_1, .int .i64 a0_2, .int .i64 a0_3, .int .i64 a0_4, .int .i64 a0_5] 32 (0, 0))) ∧ Aside0 (w'.heap[gb136]? = some (.cells #[(.slice A1_0 l1_0.length c1_0), (.slice A1_1 l1_1.length c1_1), (.slice A1_2 l1_2.length c1_2)] 29 (0, 0))) ∧ Aside0 (Below w.heap.size w w'))
   case atStart => exact ⟨(0), q142t, H', ⟨Nat.le_refl _⟩, ⟨qbk BK135⟩, ⟨qbk BK136⟩, ⟨by repeat (first | (with_reducible first | exact HB.out | apply below_alloc | apply pw_below_drewN | apply below_drew1 | refine below_set ?_ GE135.out | refine below_set ?_ GE136.out) | exact HB.out)⟩⟩
   case round =>
    clear H'
    try clear c1
    try clear c2
    try clear p2
    try clear p2
    try clear c3
    try clear c7
    try clear c9
    try clear c9b0
    try clear c9b1
    try clear c22
    obtain ⟨x5_2, rfl, HA, HK2, BK135, BK136, HB⟩ := hrel
    cases gk with
    | zero => exact absurd HA.out (by simp [spec_PoolOk.l0])
    | succ k2 =>
     have H := HA.out
     clear HA
     simp only [spec_PoolOk.l0] at H
     by_cases c23 : x5_2 < a0_0
     rotate_left
     ·rw [if_neg c23] at H
      have c23b0 : decide (x5_2 < a0_0) = false := decide_eq_false c23
      clear c23
      obtain rfl := Option.some.inj H
      have hnb63 := NB135_136.out
      have hnc63 := NB136_135.out
      obtain ⟨hcz64_0, hcz64_1, hcz64_2, hcz64_3, hcz64_4, hcz64_5⟩ := qc6 BK135.out
      obtain ⟨hfz64_0, hfz64_1, hfz64_2, hfz64_3, hfz64_4, hfz64_5⟩ := qf6 BK135.out
      go_wp2
      go_ret
      exact ⟨by first | rfl | (simp [errW_none, errW_some] <;> rfl) | (simp [*, errW_none, errW_some] <;> rfl), by repeat (first | (with_reducible first | exact HB.out | apply below_alloc | apply pw_below_drewN | apply below_drew1 | refine below_set ?_ GE135.out | refine below_set ?_ GE136.out) | exact HB.out)⟩
     rw [if_pos c23] at H
     have c23b0 : decide (x5_2 < a0_0) = true := decide_eq_true c23
     clear c23
     by_cases c24 : 0 ≤ x5_2
     rotate_left
     ·rw [if_neg c24] at H
      exact absurd H q145t
     rw [if_pos c24] at H
     have c24b0 : decide (0 ≤ x5_2) = true := decide_eq_true c24
     clear c24
     by_cases c25 : x5_2 < (l1_1.length : Int)
     rotate_left
     ·rw [if_neg c25] at H
      exact absurd H q145t
     rw [if_pos c25] at H
     have c25b0 : decide (x5_2 < (l1_1.length : Int)) = true := decide_eq_true c25
     clear c25
     replace H := Option.bind_eq_some_iff.mp H
     obtain ⟨t140, A260, H⟩ := H
     try dsimp only at H
     have A26 := Aside0.mk A260
     clear A260
     by_cases c27 : t140 = true
     rotate_left
     ·replace c27 := Bool.eq_false_iff.mpr c27
      subst c27
      rw [if_neg (show ¬ (false = true) by decide)] at H
      obtain rfl := Option.some.inj H
      have hnb60 := NB135_136.out
      have hnc60 := NB136_135.out
      obtain ⟨hcz61_0, hcz61_1, hcz61_2, hcz61_3, hcz61_4, hcz61_5⟩ := qc6 BK135.out
      obtain ⟨hfz61_0, hfz61_1, hfz61_2, hfz61_3, hfz61_4, hfz61_5⟩ := qf6 BK135.out
      obtain ⟨hcz62_0, hcz62_1, hcz62_2⟩ := qc3 BK136.out
      obtain ⟨hfz62_0, hfz62_1, hfz62_2⟩ := qf3 BK136.out
      have p139 : 0 ≤ (x5_2 : Int) := of_decide_eq_true q133t
      have q139 : x5_2 < (l1_1.length : Int) := of_decide_eq_true q133t
      obtain ⟨ad139, e139, hx139_0⟩ := Kd.at_int HR1_1.out x5_2 p139 q139
      cases e139
      replace hx139_0 := hbt HB hx139_0
      replace p139 := eq_true p139
      replace q139 := eq_true q139
      go_wp2_with (first | ((with_reducible refine gate_callee (f := 16) rfl ?_); refine goesL_ (some 44) rfl rfl Try.func16 (by kernel_rfl) rfl #[.int .i64 (rd l1_1 x5_2), .int .i64 0, .int .i64 2] rfl q97t ?_; (with_reducible refine (spec_l1In.calls (rd l1_1 x5_2) 0 2 false _ A26.out).mono ?_); rintro e w' ⟨rfl, ⟨nd, rfl⟩⟩; refine ⟨_, rfl, ?_⟩))
      go_ret
      exact ⟨by first | rfl | (simp [errW_none, errW_some] <;> rfl) | (simp [*, errW_none, errW_some] <;> rfl), by repeat (first | (with_reducible first | exact HB.out | apply below_alloc | apply pw_below_drewN | apply below_drew1 | refine below_set ?_ GE135.out | refine below_set ?_ GE136.out) | exact HB.out)⟩
     subst c27
     rw [if_pos rfl] at H
     have HC28 := Aside0.mk H
     clear H
     have hnb29 := NB135_136.out
     have hnc29 := NB136_135.out
     obtain ⟨hcz30_0, hcz30_1, hcz30_2, hcz30_3, hcz30_4, hcz30_5⟩ := qc6 BK135.out
     obtain ⟨hfz30_0, hfz30_1, hfz30_2, hfz30_3, hfz30_4, hfz30_5⟩ := qf6 BK135.out
     obtain ⟨hcz31_0, hcz31_1, hcz31_2⟩ := qc3 BK136.out
     obtain ⟨hfz31_0, hfz31_1, hfz31_2⟩ := qf3 BK136.out
     have p139 : 0 ≤ (x5_2 : Int) := of_decide_eq_true q133t
     have q139 : x5_2 < (l1_1.length : Int) := of_decide_eq_true q133t
     obtain ⟨ad139, e139, hx139_0⟩ := Kd.at_int HR1_1.out x5_2 p139 q139
     cases e139
     replace hx139_0 := hbt HB hx139_0
     replace p139 := eq_true p139
     replace q139 := eq_true q139
     go_upto_region 8 with (first | ((with_reducible refine gate_callee (f := 16) rfl ?_); refine goesL_ (some 44) rfl rfl Try.func16 (by kernel_rfl) rfl #[.int .i64 (rd l1_1 x5_2), .int .i64 0, .int .i64 2] rfl q97t ?_; (with_reducible refine (spec_l1In.calls (rd l1_1 x5_2) 0 2 true _ A26.out).mono ?_); rintro e w' ⟨rfl, ⟨nd, rfl⟩⟩; refine ⟨_, rfl, ?_⟩))
     (try simp only [Act.put, List.setIfInBounds_toArray, List.set_cons_zero, List.set_cons_succ])
     go_cut [79] (fun v79 wc => ∃ (kq : Nat) (x79_27 : Bool), v79 = .bool x79_27 ∧ Aside0 (spec_PoolOk.j2 kq x5_2 x79_27 a0_0 a0_1 a0_2 a0_3 a0_4 a0_5 l1_0 l1_1 l1_2 = some r) ∧ Aside0 (kq ≤ k2) ∧ Aside0 (wc.heap[gb135]? = some (.cells #[.int .i64 a0_0, .int .i64 a0_1, .int .i64 a0_2, .int .i64 a0_3, .int .i64 a0_4, .int .i64 a0_5] 32 (0, 0))) ∧ Aside0 (wc.heap[gb136]? = some (.cells #[(.slice A1_0 l1_0.length c1_0), (.slice (some ad139) l1_1.length c1_1), (.slice A1_2 l1_2.length c1_2)] 29 (0, 0))) ∧ Aside0 (Below w.heap.size w wc))
     case first =>
      have H := HC28.out
      clear HC28
      by_cases c32 : (rd l1_1 x5_2) = 1
      ·rw [if_pos c32] at H
       have c32b0 : ((rd l1_1 x5_2) == 1) = true := beq_iff_eq.mpr c32
       have c32b1 : ((rd l1_1 x5_2) != 1) = false := bne_eq_false_iff_eq.mpr c32
       clear c32
       (first | rw [c32b0] | (simp only [i64_w, i32_w]; rw [c32b0]) | skip)
       by_cases c33 : x5_2 < (l1_2.length : Int)
       rotate_left
       ·rw [if_neg c33] at H
        exact absurd H q145t
       rw [if_pos c33] at H
       have c33b0 : decide (x5_2 < (l1_2.length : Int)) = true := decide_eq_true c33
       clear c33
       replace H := Option.bind_eq_some_iff.mp H
       obtain ⟨t143, A340, H⟩ := H
       try dsimp only at H
       have A34 := Aside0.mk A340
       clear A340
       by_cases c35 : t143 = true
       ·subst c35
        rw [if_pos rfl] at H
        have H' := Aside0.mk H
        clear H
        try go_wp2
        (try (rw [drewN_self wr]; generalize hq_ : World.drewN wr _ = wr; have hh_ := congrArg World.heap hq_; dsimp only [World.drewN] at hh_; have zb_ : Below w.heap.size w wr := (by rw [← hq_]; exact pw_below_drewN HB.out _); have z_ := BK135.out; rw [hh_] at z_; clear BK135; have BK135 := Aside0.mk z_; clear z_; have z_ := BK136.out; rw [hh_] at z_; clear BK136; have BK136 := Aside0.mk z_; clear z_; clear HB; have HB := Aside0.mk zb_; clear zb_ hh_ hq_))
        replace BK135 := Aside0.mk (blk_drew BK135.out)
        replace BK136 := Aside0.mk (blk_drew BK136.out)
        replace HB := Aside0.mk (below_drew1 HB.out)
        have p141 : 0 ≤ (x5_2 : Int) := of_decide_eq_true q133t
        have q141 : x5_2 < (l1_1.length : Int) := of_decide_eq_true q133t
        obtain ⟨ad141, e141, hx141_0⟩ := Kd.at_int HR1_1.out x5_2 p141 q141
        have hw141_0 := hx141_0
        obtain rfl : ad139 = ad141 := (by injection e141)
        replace hx141_0 := hbt HB hx141_0
        replace p141 := eq_true p141
        replace q141 := eq_true q141
        have p142 : 0 ≤ (x5_2 : Int) := of_decide_eq_true q133t
        have q142 : x5_2 < (l1_2.length : Int) := of_decide_eq_true q133t
        obtain ⟨ad142, e142, hx142_0⟩ := Kd.at_int HR1_2.out x5_2 p142 q142
        have hw142_0 := hx142_0
        cases e142
        replace hx142_0 := hbt HB hx142_0
        replace p142 := eq_true p142
        replace q142 := eq_true q142
        have p144 : 0 ≤ (x5_2 : Int) := of_decide_eq_true q133t
        have q144 : x5_2 < (l1_1.length : Int) := of_decide_eq_true q133t
        obtain ⟨ad144, e144, hx144_0⟩ := Kd.at_int HR1_1.out x5_2 p144 q144
        have hw144_0 := hx144_0
        obtain rfl : ad139 = ad144 := (by injection e144)
        replace hx144_0 := hbt HB hx144_0
        replace p144 := eq_true p144
        replace q144 := eq_true q144
        refine start_ (n := 34) (S := fun w' => w'.cell? ⟨gb136, 0, none⟩ = some (.slice A1_0 l1_0.length c1_0) ∧ w'.cell? ⟨gb136, 1, none⟩ = some (.slice (some ad139) l1_1.length c1_1) ∧ w'.cell? ⟨gb136, 2, none⟩ = some (.slice (some ad142) l1_2.length c1_2) ∧ w'.cell? ⟨gb135, 0, none⟩ = some (.int .i64 a0_0) ∧ w'.cell? ⟨gb135, 1, none⟩ = some (.int .i64 a0_1) ∧ w'.cell? ⟨gb135, 2, none⟩ = some (.int .i64 a0_2) ∧ w'.cell? ⟨gb135, 3, none⟩ = some (.int .i64 a0_3) ∧ w'.cell? ⟨gb135, 4, none⟩ = some (.int .i64 a0_4) ∧ w'.cell? ⟨gb135, 5, none⟩ = some (.int .i64 a0_5) ∧ w'.cell? (ad139.add (x5_2).toNat) = some (.int .i64 (rd l1_1 x5_2)) ∧ w'.cell? (ad142.add (x5_2).toNat) = some (.int .i64 (rd l1_2 x5_2)) ∧ w'.cell? (ad139.add (x5_2).toNat) = some (.int .i64 (rd l1_1 x5_2))) (ds := []) (bm 34 0) (by kernel_rfl) rfl (by kernel_rfl) ⟨(blk_cell BK136.out 0).trans rfl, (blk_cell BK136.out 1).trans rfl, (blk_cell BK136.out 2).trans rfl, (blk_cell BK135.out 0).trans rfl, (blk_cell BK135.out 1).trans rfl, (blk_cell BK135.out 2).trans rfl, (blk_cell BK135.out 3).trans rfl, (blk_cell BK135.out 4).trans rfl, (blk_cell BK135.out 5).trans rfl, (hbt HB hw141_0), (hbt HB hw142_0), (hbt HB hw144_0)⟩ (fun hHeld => ?_); refine with_tabW spec_PoolOk.tab8 spec_PoolOk.bits8 (fun HT_ HW_ => ?_)
        generalize wr.drew = w36 at BK135 BK136 HB hx141_0 hx142_0 hx144_0 hHeld ⊢
        refine pu_ 0 (some 46) (bm 34 1) (any_of HT_.out (by kernel_rfl)) ?_
        refine pu_ 2 (some 48) (bm 34 5) (any_of HT_.out (by kernel_rfl)) ?_
        refine take_ (i := 1) (N := some 47) (v := ?_) (a' := ?_) (bm 34 7) rfl rfl (take_ofW HT_.out HW_.out (by kernel_rfl)) (fun _ _ _ h => h) (Or.inl ⟨by rfl, ?_⟩) hHeld ?_ ?_
        rotate_left
        ·rintro w' ⟨s0, s1, s2, s3, s4, s5, s6, s7, s8, s9, s10, s11⟩
         go_simp
         with_reducible rfl
        rotate_left
        ·simp only [Act.put, List.setIfInBounds_toArray, List.set_cons_zero, List.set_cons_succ, i64_w, i32_w]
         rfl
        refine pu_ 3 (some 49) (bm 34 15) (any_of HT_.out (by kernel_rfl)) ?_
        refine take_ (i := 4) (N := some 50) (v := ?_) (a' := ?_) (bm 34 31) rfl rfl (take_ofW HT_.out HW_.out (by kernel_rfl)) (fun _ _ _ h => h) (Or.inl ⟨by rfl, ?_⟩) hHeld ?_ ?_
        rotate_left
        ·rintro w' ⟨s0, s1, s2, s3, s4, s5, s6, s7, s8, s9, s10, s11⟩
         go_simp
         with_reducible rfl
        rotate_left
        ·simp only [Act.put, List.setIfInBounds_toArray, List.set_cons_zero, List.set_cons_succ, i64_w, i32_w]
         rfl
        refine pu_ 5 (some 51) (bm 34 63) (any_of HT_.out (by kernel_rfl)) ?_
        refine pu_ 6 (some 52) (bm 34 127) (any_of HT_.out (by kernel_rfl)) ?_
        refine pu_ 7 (some 53) (bm 34 255) (any_of HT_.out (by kernel_rfl)) ?_
        refine pu_ 9 (some 55) (bm 34 767) (any_of HT_.out (by kernel_rfl)) ?_
        refine pu_ 12 (some 58) (bm 34 4863) (any_of HT_.out (by kernel_rfl)) ?_
        refine take_ (i := 8) (N := some 54) (v := ?_) (a' := ?_) (bm 34 5119) rfl rfl (take_ofW HT_.out HW_.out (by kernel_rfl)) (fun _ _ _ h => h) (Or.inl ⟨by rfl, ?_⟩) hHeld ?_ ?_
        rotate_left
        ·rintro w' ⟨s0, s1, s2, s3, s4, s5, s6, s7, s8, s9, s10, s11⟩
         go_simp
         with_reducible rfl
        rotate_left
        ·simp only [Act.put, List.setIfInBounds_toArray, List.set_cons_zero, List.set_cons_succ, i64_w, i32_w]
         rfl
        refine pu_ 10 (some 56) (bm 34 6143) (any_of HT_.out (by kernel_rfl)) ?_
        refine take_ (i := 11) (N := some 57) (v := ?_) (a' := ?_) (bm 34 8191) rfl rfl (take_ofW HT_.out HW_.out (by kernel_rfl)) (fun _ _ _ h => h) (Or.inl ⟨by rfl, ?_⟩) hHeld ?_ ?_
        rotate_left
        ·rintro w' ⟨s0, s1, s2, s3, s4, s5, s6, s7, s8, s9, s10, s11⟩
         go_simp
         with_reducible rfl
        rotate_left
        ·simp only [Act.put, List.setIfInBounds_toArray, List.set_cons_zero, List.set_cons_succ, i64_w, i32_w]
         rfl
        refine take_ (i := 13) (N := some 59) (v := ?_) (a' := ?_) (bm 34 16383) rfl rfl (take_ofW HT_.out HW_.out (by kernel_rfl)) (fun _ _ _ h => h) (Or.inl ⟨by rfl, ?_⟩) hHeld ?_ ?_
        rotate_left
        ·rintro w' ⟨s0, s1, s2, s3, s4, s5, s6, s7, s8, s9, s10, s11⟩
         go_simp
         with_reducible rfl
        rotate_left
        ·simp only [Act.put, List.setIfInBounds_toArray, List.set_cons_zero, List.set_cons_succ, i64_w, i32_w]
         rfl
        refine pu_ 14 (some 60) (bm 34 32767) (any_of HT_.out (by kernel_rfl)) ?_
        refine one_ (i := 15) (N := some 61) (bm 34 65535) rfl rfl (one_of HT_.out (by kernel_rfl)) q144t (fun K hK => ?_)
        refine goes_ Try.func16 (by kernel_rfl) rfl #[.int .i64 (rd l1_2 x5_2), .int .i64 0, .int .i64 (wrap64 (a0_2 - 1))] (by rfl) rfl rfl q97t ?_
        with_reducible refine (spec_l1In.calls (rd l1_2 x5_2) 0 (wrap64 (a0_2 - 1)) true _ A34.out).mono ?_
        rintro e w' ⟨rfl, ⟨nd, rfl⟩⟩
        refine ⟨_, rfl, ?_⟩
        refine hK.out _ _ (by first | exact ⟨(blk_cell BK136.out 0).trans rfl, (blk_cell BK136.out 1).trans rfl, (blk_cell BK136.out 2).trans rfl, (blk_cell BK135.out 0).trans rfl, (blk_cell BK135.out 1).trans rfl, (blk_cell BK135.out 2).trans rfl, (blk_cell BK135.out 3).trans rfl, (blk_cell BK135.out 4).trans rfl, (blk_cell BK135.out 5).trans rfl, (hbt HB hw141_0), (hbt HB hw142_0), (hbt HB hw144_0)⟩ | exact hHeld) (fun hHeld => ?_)
        clear hK K
        refine norm_ (a' := ?_) ?_ ?_
        rotate_left
        ·show Act.put _ (some 61) _ = _
         simp only [Act.put, List.setIfInBounds_toArray, List.set_cons_zero, List.set_cons_succ, i64_w, i32_w]
         rfl
        refine pu_ 16 (some 62) (bm 34 131071) (any_of HT_.out (by kernel_rfl)) ?_
        refine pu_ 17 (some 63) (bm 34 262143) (any_of HT_.out (by kernel_rfl)) ?_
        refine pu_ 18 (some 64) (bm 34 524287) (any_of HT_.out (by kernel_rfl)) ?_
        refine pu_ 19 (some 65) (bm 34 1048575) (any_of HT_.out (by kernel_rfl)) ?_
        refine pu_ 21 (some 67) (bm 34 3145727) (any_of HT_.out (by kernel_rfl)) ?_
        refine take_ (i := 20) (N := some 66) (v := ?_) (a' := ?_) (bm 34 4194303) rfl rfl (take_ofW HT_.out HW_.out (by kernel_rfl)) (fun _ _ _ h => h) (Or.inl ⟨by rfl, ?_⟩) hHeld ?_ ?_
        rotate_left
        ·rintro w' ⟨s0, s1, s2, s3, s4, s5, s6, s7, s8, s9, s10, s11⟩
         go_simp
         with_reducible rfl
        rotate_left
        ·simp only [Act.put, List.setIfInBounds_toArray, List.set_cons_zero, List.set_cons_succ, i64_w, i32_w]
         rfl
        refine pu_ 22 (some 68) (bm 34 8388607) (any_of HT_.out (by kernel_rfl)) ?_
        refine take_ (i := 23) (N := some 69) (v := ?_) (a' := ?_) (bm 34 16777215) rfl rfl (take_ofW HT_.out HW_.out (by kernel_rfl)) (fun _ _ _ h => h) (Or.inl ⟨by rfl, ?_⟩) hHeld ?_ ?_
        rotate_left
        ·rintro w' ⟨s0, s1, s2, s3, s4, s5, s6, s7, s8, s9, s10, s11⟩
         go_simp
         with_reducible rfl
        rotate_left
        ·simp only [Act.put, List.setIfInBounds_toArray, List.set_cons_zero, List.set_cons_succ, i64_w, i32_w]
         rfl
        refine pu_ 24 (some 70) (bm 34 33554431) (any_of HT_.out (by kernel_rfl)) ?_
        refine pu_ 25 (some 71) (bm 34 67108863) (any_of HT_.out (by kernel_rfl)) ?_
        refine pn_ 26 (some 72) (bm 34 134217727) (any_of HT_.out (by kernel_rfl)) ?_
        refine pn_ 27 (some 73) (bm 34 268435455) (any_of HT_.out (by kernel_rfl)) ?_
        refine pn_ 28 (some 74) (bm 34 536870911) (any_of HT_.out (by kernel_rfl)) ?_
        refine pn_ 29 (some 75) (bm 34 1073741823) (any_of HT_.out (by kernel_rfl)) ?_
        refine pn_ 30 (some 76) (bm 34 2147483647) (any_of HT_.out (by kernel_rfl)) ?_
        refine pn_ 31 (some 77) (bm 34 4294967295) (any_of HT_.out (by kernel_rfl)) ?_
        refine pu_ 32 (some 78) (bm 34 8589934591) (any_of HT_.out (by kernel_rfl)) ?_
        refine pu_ 33 (some 79) (bm 34 17179869183) (any_of HT_.out (by kernel_rfl)) ?_
        refine done_ (done_of HT_.out (by kernel_rfl)) ?_
        try go_wp2
        go_meet
        case rel => exact ⟨_, (false), q142t, H', ⟨by have := HJ2.out; have := HK2.out; first | omega | exact Nat.le_refl _⟩, ⟨qbk BK135⟩, ⟨qbk BK136⟩, ⟨by repeat (first | (with_reducible first | exact HB.out | apply below_alloc | apply pw_below_drewN | apply below_drew1 | refine below_set ?_ GE135.out | refine below_set ?_ GE136.out) | exact HB.out)⟩⟩
       replace c35 := Bool.eq_false_iff.mpr c35
       subst c35
       rw [if_neg (show ¬ (false = true) by decide)] at H
       have H' := Aside0.mk H
       clear H
       try go_wp2
       (try (rw [drewN_self wr]; generalize hq_ : World.drewN wr _ = wr; have hh_ := congrArg World.heap hq_; dsimp only [World.drewN] at hh_; have zb_ : Below w.heap.size w wr := (by rw [← hq_]; exact pw_below_drewN HB.out _); have z_ := BK135.out; rw [hh_] at z_; clear BK135; have BK135 := Aside0.mk z_; clear z_; have z_ := BK136.out; rw [hh_] at z_; clear BK136; have BK136 := Aside0.mk z_; clear z_; clear HB; have HB := Aside0.mk zb_; clear zb_ hh_ hq_))
       replace BK135 := Aside0.mk (blk_drew BK135.out)
       replace BK136 := Aside0.mk (blk_drew BK136.out)
       replace HB := Aside0.mk (below_drew1 HB.out)
       have p141 : 0 ≤ (x5_2 : Int) := of_decide_eq_true q133t
       have q141 : x5_2 < (l1_1.length : Int) := of_decide_eq_true q133t
       obtain ⟨ad141, e141, hx141_0⟩ := Kd.at_int HR1_1.out x5_2 p141 q141
       have hw141_0 := hx141_0
       obtain rfl : ad139 = ad141 := (by injection e141)
       replace hx141_0 := hbt HB hx141_0
       replace p141 := eq_true p141
       replace q141 := eq_true q141
       have p142 : 0 ≤ (x5_2 : Int) := of_decide_eq_true q133t
       have q142 : x5_2 < (l1_2.length : Int) := of_decide_eq_true q133t
       obtain ⟨ad142, e142, hx142_0⟩ := Kd.at_int HR1_2.out x5_2 p142 q142
       have hw142_0 := hx142_0
       cases e142
       replace hx142_0 := hbt HB hx142_0
       replace p142 := eq_true p142
       replace q142 := eq_true q142
       refine start_ (n := 34) (S := fun w' => w'.cell? ⟨gb136, 0, none⟩ = some (.slice A1_0 l1_0.length c1_0) ∧ w'.cell? ⟨gb136, 1, none⟩ = some (.slice (some ad139) l1_1.length c1_1) ∧ w'.cell? ⟨gb136, 2, none⟩ = some (.slice (some ad142) l1_2.length c1_2) ∧ w'.cell? ⟨gb135, 0, none⟩ = some (.int .i64 a0_0) ∧ w'.cell? ⟨gb135, 1, none⟩ = some (.int .i64 a0_1) ∧ w'.cell? ⟨gb135, 2, none⟩ = some (.int .i64 a0_2) ∧ w'.cell? ⟨gb135, 3, none⟩ = some (.int .i64 a0_3) ∧ w'.cell? ⟨gb135, 4, none⟩ = some (.int .i64 a0_4) ∧ w'.cell? ⟨gb135, 5, none⟩ = some (.int .i64 a0_5) ∧ w'.cell? (ad139.add (x5_2).toNat) = some (.int .i64 (rd l1_1 x5_2)) ∧ w'.cell? (ad142.add (x5_2).toNat) = some (.int .i64 (rd l1_2 x5_2))) (ds := []) (bm 34 0) (by kernel_rfl) rfl (by kernel_rfl) ⟨(blk_cell BK136.out 0).trans rfl, (blk_cell BK136.out 1).trans rfl, (blk_cell BK136.out 2).trans rfl, (blk_cell BK135.out 0).trans rfl, (blk_cell BK135.out 1).trans rfl, (blk_cell BK135.out 2).trans rfl, (blk_cell BK135.out 3).trans rfl, (blk_cell BK135.out 4).trans rfl, (blk_cell BK135.out 5).trans rfl, (hbt HB hw141_0), (hbt HB hw142_0)⟩ (fun hHeld => ?_); refine with_tabW spec_PoolOk.tab8 spec_PoolOk.bits8 (fun HT_ HW_ => ?_)
       generalize wr.drew = w37 at BK135 BK136 HB hx141_0 hx142_0 hHeld ⊢
       refine pu_ 0 (some 46) (bm 34 1) (any_of HT_.out (by kernel_rfl)) ?_
       refine pu_ 2 (some 48) (bm 34 5) (any_of HT_.out (by kernel_rfl)) ?_
       refine take_ (i := 1) (N := some 47) (v := ?_) (a' := ?_) (bm 34 7) rfl rfl (take_ofW HT_.out HW_.out (by kernel_rfl)) (fun _ _ _ h => h) (Or.inl ⟨by rfl, ?_⟩) hHeld ?_ ?_
       rotate_left
       ·rintro w' ⟨s0, s1, s2, s3, s4, s5, s6, s7, s8, s9, s10⟩
        go_simp
        with_reducible rfl
       rotate_left
       ·simp only [Act.put, List.setIfInBounds_toArray, List.set_cons_zero, List.set_cons_succ, i64_w, i32_w]
        rfl
       refine pu_ 3 (some 49) (bm 34 15) (any_of HT_.out (by kernel_rfl)) ?_
       refine take_ (i := 4) (N := some 50) (v := ?_) (a' := ?_) (bm 34 31) rfl rfl (take_ofW HT_.out HW_.out (by kernel_rfl)) (fun _ _ _ h => h) (Or.inl ⟨by rfl, ?_⟩) hHeld ?_ ?_
       rotate_left
       ·rintro w' ⟨s0, s1, s2, s3, s4, s5, s6, s7, s8, s9, s10⟩
        go_simp
        with_reducible rfl
       rotate_left
       ·simp only [Act.put, List.setIfInBounds_toArray, List.set_cons_zero, List.set_cons_succ, i64_w, i32_w]
        rfl
       refine pu_ 5 (some 51) (bm 34 63) (any_of HT_.out (by kernel_rfl)) ?_
       refine pu_ 6 (some 52) (bm 34 127) (any_of HT_.out (by kernel_rfl)) ?_
       refine pu_ 7 (some 53) (bm 34 255) (any_of HT_.out (by kernel_rfl)) ?_
       refine pu_ 9 (some 55) (bm 34 767) (any_of HT_.out (by kernel_rfl)) ?_
       refine pu_ 12 (some 58) (bm 34 4863) (any_of HT_.out (by kernel_rfl)) ?_
       refine take_ (i := 8) (N := some 54) (v := ?_) (a' := ?_) (bm 34 5119) rfl rfl (take_ofW HT_.out HW_.out (by kernel_rfl)) (fun _ _ _ h => h) (Or.inl ⟨by rfl, ?_⟩) hHeld ?_ ?_
       rotate_left
       ·rintro w' ⟨s0, s1, s2, s3, s4, s5, s6, s7, s8, s9, s10⟩
        go_simp
        with_reducible rfl
       rotate_left
       ·simp only [Act.put, List.setIfInBounds_toArray, List.set_cons_zero, List.set_cons_succ, i64_w, i32_w]
        rfl
       refine pu_ 10 (some 56) (bm 34 6143) (any_of HT_.out (by kernel_rfl)) ?_
       refine take_ (i := 11) (N := some 57) (v := ?_) (a' := ?_) (bm 34 8191) rfl rfl (take_ofW HT_.out HW_.out (by kernel_rfl)) (fun _ _ _ h => h) (Or.inl ⟨by rfl, ?_⟩) hHeld ?_ ?_
       rotate_left
       ·rintro w' ⟨s0, s1, s2, s3, s4, s5, s6, s7, s8, s9, s10⟩
        go_simp
        with_reducible rfl
       rotate_left
       ·simp only [Act.put, List.setIfInBounds_toArray, List.set_cons_zero, List.set_cons_succ, i64_w, i32_w]
        rfl
       refine take_ (i := 13) (N := some 59) (v := ?_) (a' := ?_) (bm 34 16383) rfl rfl (take_ofW HT_.out HW_.out (by kernel_rfl)) (fun _ _ _ h => h) (Or.inl ⟨by rfl, ?_⟩) hHeld ?_ ?_
       rotate_left
       ·rintro w' ⟨s0, s1, s2, s3, s4, s5, s6, s7, s8, s9, s10⟩
        go_simp
        with_reducible rfl
       rotate_left
       ·simp only [Act.put, List.setIfInBounds_toArray, List.set_cons_zero, List.set_cons_succ, i64_w, i32_w]
        rfl
       refine pu_ 14 (some 60) (bm 34 32767) (any_of HT_.out (by kernel_rfl)) ?_
       refine one_ (i := 15) (N := some 61) (bm 34 65535) rfl rfl (one_of HT_.out (by kernel_rfl)) q144t (fun K hK => ?_)
       refine goes_ Try.func16 (by kernel_rfl) rfl #[.int .i64 (rd l1_2 x5_2), .int .i64 0, .int .i64 (wrap64 (a0_2 - 1))] (by rfl) rfl rfl q97t ?_
       with_reducible refine (spec_l1In.calls (rd l1_2 x5_2) 0 (wrap64 (a0_2 - 1)) false _ A34.out).mono ?_
       rintro e w' ⟨rfl, ⟨nd, rfl⟩⟩
       refine ⟨_, rfl, ?_⟩
       refine hK.out _ _ (by first | exact ⟨(blk_cell BK136.out 0).trans rfl, (blk_cell BK136.out 1).trans rfl, (blk_cell BK136.out 2).trans rfl, (blk_cell BK135.out 0).trans rfl, (blk_cell BK135.out 1).trans rfl, (blk_cell BK135.out 2).trans rfl, (blk_cell BK135.out 3).trans rfl, (blk_cell BK135.out 4).trans rfl, (blk_cell BK135.out 5).trans rfl, (hbt HB hw141_0), (hbt HB hw142_0)⟩ | exact hHeld) (fun hHeld => ?_)
       clear hK K
       refine norm_ (a' := ?_) ?_ ?_
       rotate_left
       ·show Act.put _ (some 61) _ = _
        simp only [Act.put, List.setIfInBounds_toArray, List.set_cons_zero, List.set_cons_succ, i64_w, i32_w]
        rfl
       refine pu_ 16 (some 62) (bm 34 131071) (any_of HT_.out (by kernel_rfl)) ?_
       refine pu_ 17 (some 63) (bm 34 262143) (any_of HT_.out (by kernel_rfl)) ?_
       refine pu_ 18 (some 64) (bm 34 524287) (any_of HT_.out (by kernel_rfl)) ?_
       refine pn_ 19 (some 65) (bm 34 1048575) (any_of HT_.out (by kernel_rfl)) ?_
       refine pn_ 20 (some 66) (bm 34 2097151) (any_of HT_.out (by kernel_rfl)) ?_
       refine pn_ 21 (some 67) (bm 34 4194303) (any_of HT_.out (by kernel_rfl)) ?_
       refine pn_ 22 (some 68) (bm 34 8388607) (any_of HT_.out (by kernel_rfl)) ?_
       refine pn_ 23 (some 69) (bm 34 16777215) (any_of HT_.out (by kernel_rfl)) ?_
       refine pn_ 24 (some 70) (bm 34 33554431) (any_of HT_.out (by kernel_rfl)) ?_
       refine pn_ 25 (some 71) (bm 34 67108863) (any_of HT_.out (by kernel_rfl)) ?_
       refine pn_ 26 (some 72) (bm 34 134217727) (any_of HT_.out (by kernel_rfl)) ?_
       refine pn_ 27 (some 73) (bm 34 268435455) (any_of HT_.out (by kernel_rfl)) ?_
       refine pn_ 28 (some 74) (bm 34 536870911) (any_of HT_.out (by kernel_rfl)) ?_
       refine pn_ 29 (some 75) (bm 34 1073741823) (any_of HT_.out (by kernel_rfl)) ?_
       refine pn_ 30 (some 76) (bm 34 2147483647) (any_of HT_.out (by kernel_rfl)) ?_
       refine pn_ 31 (some 77) (bm 34 4294967295) (any_of HT_.out (by kernel_rfl)) ?_
       refine pn_ 32 (some 78) (bm 34 8589934591) (any_of HT_.out (by kernel_rfl)) ?_
       refine pu_ 33 (some 79) (bm 34 17179869183) (any_of HT_.out (by kernel_rfl)) ?_
       refine done_ (done_of HT_.out (by kernel_rfl)) ?_
       try go_wp2
       go_meet
       case rel => exact ⟨_, (true), q142t, H', ⟨by have := HJ2.out; have := HK2.out; first | omega | exact Nat.le_refl _⟩, ⟨qbk BK135⟩, ⟨qbk BK136⟩, ⟨by repeat (first | (with_reducible first | exact HB.out | apply below_alloc | apply pw_below_drewN | apply below_drew1 | refine below_set ?_ GE135.out | refine below_set ?_ GE136.out) | exact HB.out)⟩⟩
      rw [if_neg c32] at H
      have c32b0 : ((rd l1_1 x5_2) == 1) = false := beq_eq_false_iff_ne.mpr c32
      have c32b1 : ((rd l1_1 x5_2) != 1) = true := bne_iff_ne.mpr c32
      (first | rw [c32b0] | (simp only [i64_w, i32_w]; rw [c32b0]) | skip)
      by_cases c38 : x5_2 < (l1_2.length : Int)
      rotate_left
      ·rw [if_neg c38] at H
       exact absurd H q145t
      rw [if_pos c38] at H
      have c38b0 : decide (x5_2 < (l1_2.length : Int)) = true := decide_eq_true c38
      clear c38
      have H' := Aside0.mk H
      clear H
      try go_wp2
      (try (rw [drewN_self wr]; generalize hq_ : World.drewN wr _ = wr; have hh_ := congrArg World.heap hq_; dsimp only [World.drewN] at hh_; have zb_ : Below w.heap.size w wr := (by rw [← hq_]; exact pw_below_drewN HB.out _); have z_ := BK135.out; rw [hh_] at z_; clear BK135; have BK135 := Aside0.mk z_; clear z_; have z_ := BK136.out; rw [hh_] at z_; clear BK136; have BK136 := Aside0.mk z_; clear z_; clear HB; have HB := Aside0.mk zb_; clear zb_ hh_ hq_))
      replace BK135 := Aside0.mk (blk_drew BK135.out)
      replace BK136 := Aside0.mk (blk_drew BK136.out)
      replace HB := Aside0.mk (below_drew1 HB.out)
      have p141 : 0 ≤ (x5_2 : Int) := of_decide_eq_true q133t
      have q141 : x5_2 < (l1_1.length : Int) := of_decide_eq_true q133t
      obtain ⟨ad141, e141, hx141_0⟩ := Kd.at_int HR1_1.out x5_2 p141 q141
      have hw141_0 := hx141_0
      obtain rfl : ad139 = ad141 := (by injection e141)
      replace hx141_0 := hbt HB hx141_0
      replace p141 := eq_true p141
      replace q141 := eq_true q141
      have p145 : 0 ≤ (x5_2 : Int) := of_decide_eq_true q133t
      have q145 : x5_2 < (l1_1.length : Int) := of_decide_eq_true q133t
      obtain ⟨ad145, e145, hx145_0⟩ := Kd.at_int HR1_1.out x5_2 p145 q145
      have hw145_0 := hx145_0
      obtain rfl : ad139 = ad145 := (by injection e145)
      replace hx145_0 := hbt HB hx145_0
      replace p145 := eq_true p145
      replace q145 := eq_true q145
      have p146 : 0 ≤ (x5_2 : Int) := of_decide_eq_true q133t
      have q146 : x5_2 < (l1_2.length : Int) := of_decide_eq_true q133t
      obtain ⟨ad146, e146, hx146_0⟩ := Kd.at_int HR1_2.out x5_2 p146 q146
      have hw146_0 := hx146_0
      cases e146
      replace hx146_0 := hbt HB hx146_0
      replace p146 := eq_true p146
      replace q146 := eq_true q146
      refine start_ (n := 34) (S := fun w' => w'.cell? ⟨gb136, 0, none⟩ = some (.slice A1_0 l1_0.length c1_0) ∧ w'.cell? ⟨gb136, 1, none⟩ = some (.slice (some ad139) l1_1.length c1_1) ∧ w'.cell? ⟨gb136, 2, none⟩ = some (.slice (some ad146) l1_2.length c1_2) ∧ w'.cell? (ad139.add (x5_2).toNat) = some (.int .i64 (rd l1_1 x5_2)) ∧ w'.cell? (ad139.add (x5_2).toNat) = some (.int .i64 (rd l1_1 x5_2)) ∧ w'.cell? (ad146.add (x5_2).toNat) = some (.int .i64 (rd l1_2 x5_2))) (ds := []) (bm 34 0) (by kernel_rfl) rfl (by kernel_rfl) ⟨(blk_cell BK136.out 0).trans rfl, (blk_cell BK136.out 1).trans rfl, (blk_cell BK136.out 2).trans rfl, (hbt HB hw141_0), (hbt HB hw145_0), (hbt HB hw146_0)⟩ (fun hHeld => ?_); refine with_tabW spec_PoolOk.tab8 spec_PoolOk.bits8 (fun HT_ HW_ => ?_)
      generalize wr.drew = w39 at BK135 BK136 HB hx141_0 hx145_0 hx146_0 hHeld ⊢
      refine pu_ 0 (some 46) (bm 34 1) (any_of HT_.out (by kernel_rfl)) ?_
      refine pu_ 2 (some 48) (bm 34 5) (any_of HT_.out (by kernel_rfl)) ?_
      refine take_ (i := 1) (N := some 47) (v := ?_) (a' := ?_) (bm 34 7) rfl rfl (take_ofW HT_.out HW_.out (by kernel_rfl)) (fun _ _ _ h => h) (Or.inl ⟨by rfl, ?_⟩) hHeld ?_ ?_
      rotate_left
      ·rintro w' ⟨s0, s1, s2, s3, s4, s5⟩
       go_simp
       with_reducible rfl
      rotate_left
      ·simp only [Act.put, List.setIfInBounds_toArray, List.set_cons_zero, List.set_cons_succ, i64_w, i32_w]
       rfl
      refine pu_ 3 (some 49) (bm 34 15) (any_of HT_.out (by kernel_rfl)) ?_
      refine take_ (i := 4) (N := some 50) (v := ?_) (a' := ?_) (bm 34 31) rfl rfl (take_ofW HT_.out HW_.out (by kernel_rfl)) (fun _ _ _ h => h) (Or.inl ⟨by rfl, ?_⟩) hHeld ?_ ?_
      rotate_left
      ·rintro w' ⟨s0, s1, s2, s3, s4, s5⟩
       go_simp
       with_reducible rfl
      rotate_left
      ·simp only [Act.put, List.setIfInBounds_toArray, List.set_cons_zero, List.set_cons_succ, i64_w, i32_w]
       rfl
      refine pu_ 5 (some 51) (bm 34 63) (any_of HT_.out (by kernel_rfl)) ?_
      refine pu_ 6 (some 52) (bm 34 127) (any_of HT_.out (by kernel_rfl)) ?_
      refine pn_ 7 (some 53) (bm 34 255) (any_of HT_.out (by kernel_rfl)) ?_
      refine pn_ 8 (some 54) (bm 34 511) (any_of HT_.out (by kernel_rfl)) ?_
      refine pn_ 9 (some 55) (bm 34 1023) (any_of HT_.out (by kernel_rfl)) ?_
      refine pn_ 10 (some 56) (bm 34 2047) (any_of HT_.out (by kernel_rfl)) ?_
      refine pn_ 11 (some 57) (bm 34 4095) (any_of HT_.out (by kernel_rfl)) ?_
      refine pn_ 12 (some 58) (bm 34 8191) (any_of HT_.out (by kernel_rfl)) ?_
      refine pn_ 13 (some 59) (bm 34 16383) (any_of HT_.out (by kernel_rfl)) ?_
      refine pn_ 14 (some 60) (bm 34 32767) (any_of HT_.out (by kernel_rfl)) ?_
      refine pn_ 15 (some 61) (bm 34 65535) (any_of HT_.out (by kernel_rfl)) ?_
      refine pn_ 16 (some 62) (bm 34 131071) (any_of HT_.out (by kernel_rfl)) ?_
      refine pu_ 17 (some 63) (bm 34 262143) (any_of HT_.out (by kernel_rfl)) ?_
      refine pu_ 18 (some 64) (bm 34 524287) (any_of HT_.out (by kernel_rfl)) ?_
      refine pu_ 19 (some 65) (bm 34 1048575) (any_of HT_.out (by kernel_rfl)) ?_
      refine pu_ 21 (some 67) (bm 34 3145727) (any_of HT_.out (by kernel_rfl)) ?_
      refine take_ (i := 20) (N := some 66) (v := ?_) (a' := ?_) (bm 34 4194303) rfl rfl (take_ofW HT_.out HW_.out (by kernel_rfl)) (fun _ _ _ h => h) (Or.inl ⟨by rfl, ?_⟩) hHeld ?_ ?_
      rotate_left
      ·rintro w' ⟨s0, s1, s2, s3, s4, s5⟩
       go_simp
       with_reducible rfl
      rotate_left
      ·simp only [Act.put, List.setIfInBounds_toArray, List.set_cons_zero, List.set_cons_succ, i64_w, i32_w]
       rfl
      refine pu_ 22 (some 68) (bm 34 8388607) (any_of HT_.out (by kernel_rfl)) ?_
      refine take_ (i := 23) (N := some 69) (v := ?_) (a' := ?_) (bm 34 16777215) rfl rfl (take_ofW HT_.out HW_.out (by kernel_rfl)) (fun _ _ _ h => h) (Or.inl ⟨by rfl, ?_⟩) hHeld ?_ ?_
      rotate_left
      ·rintro w' ⟨s0, s1, s2, s3, s4, s5⟩
       go_simp
       with_reducible rfl
      rotate_left
      ·simp only [Act.put, List.setIfInBounds_toArray, List.set_cons_zero, List.set_cons_succ, i64_w, i32_w]
       rfl
      refine pu_ 24 (some 70) (bm 34 33554431) (any_of HT_.out (by kernel_rfl)) ?_
      refine pu_ 25 (some 71) (bm 34 67108863) (any_of HT_.out (by kernel_rfl)) ?_
      refine pu_ 26 (some 72) (bm 34 134217727) (any_of HT_.out (by kernel_rfl)) ?_
      refine pu_ 28 (some 74) (bm 34 402653183) (any_of HT_.out (by kernel_rfl)) ?_
      refine take_ (i := 27) (N := some 73) (v := ?_) (a' := ?_) (bm 34 536870911) rfl rfl (take_ofW HT_.out HW_.out (by kernel_rfl)) (fun _ _ _ h => h) (Or.inl ⟨by rfl, ?_⟩) hHeld ?_ ?_
      rotate_left
      ·rintro w' ⟨s0, s1, s2, s3, s4, s5⟩
       go_simp
       with_reducible rfl
      rotate_left
      ·simp only [Act.put, List.setIfInBounds_toArray, List.set_cons_zero, List.set_cons_succ, i64_w, i32_w]
       rfl
      refine pu_ 29 (some 75) (bm 34 1073741823) (any_of HT_.out (by kernel_rfl)) ?_
      refine take_ (i := 30) (N := some 76) (v := ?_) (a' := ?_) (bm 34 2147483647) rfl rfl (take_ofW HT_.out HW_.out (by kernel_rfl)) (fun _ _ _ h => h) (Or.inl ⟨by rfl, ?_⟩) hHeld ?_ ?_
      rotate_left
      ·rintro w' ⟨s0, s1, s2, s3, s4, s5⟩
       go_simp
       with_reducible rfl
      rotate_left
      ·simp only [Act.put, List.setIfInBounds_toArray, List.set_cons_zero, List.set_cons_succ, i64_w, i32_w]
       rfl
      refine pu_ 31 (some 77) (bm 34 4294967295) (any_of HT_.out (by kernel_rfl)) ?_
      refine pu_ 32 (some 78) (bm 34 8589934591) (any_of HT_.out (by kernel_rfl)) ?_
      refine pu_ 33 (some 79) (bm 34 17179869183) (any_of HT_.out (by kernel_rfl)) ?_
      refine done_ (done_of HT_.out (by kernel_rfl)) ?_
      try go_wp2
      go_meet
      case rel => exact ⟨_, (((rd l1_2 x5_2) != (-1))), q142t, H', ⟨by have := HJ2.out; have := HK2.out; first | omega | exact Nat.le_refl _⟩, ⟨qbk BK135⟩, ⟨qbk BK136⟩, ⟨by repeat (first | (with_reducible first | exact HB.out | apply below_alloc | apply pw_below_drewN | apply below_drew1 | refine below_set ?_ GE135.out | refine below_set ?_ GE136.out) | exact HB.out)⟩⟩
     case rest =>
      clear HC28
      try clear c1
      try clear p1
      try clear q1
      try clear hx1
      try clear p2
      try clear c3
      try clear p6
      try clear p14
      try clear q14
      try clear hx14
      try clear c16
      try clear c32
      try clear c32b0
      try clear c32b1
      try clear c33
      try clear c35
      try clear c38
      try clear c38b0
      try clear hx141_0
      try clear hx142_0
      try clear hx145_0
      try clear hx146_0
      try clear p141
      try clear p142
      try clear p145
      try clear p146
      try clear q141
      try clear q142
      try clear q145
      try clear q146
      obtain ⟨kq, x79_27, rfl, HA, HJ27, BK135, BK136, HB⟩ := hcut
      cases kq with
      | zero => exact absurd HA.out (by simp [spec_PoolOk.j2])
      | succ kj27 =>
       have H := HA.out
       clear HA
       simp only [spec_PoolOk.j2] at H
       by_cases c40 : x79_27 = true
       ·subst c40
        rw [if_pos rfl] at H
        obtain rfl := Option.some.inj H
        go_wp2
        go_ret
        exact ⟨by first | rfl | (simp [errW_none, errW_some] <;> rfl) | (simp [*, errW_none, errW_some] <;> rfl), by repeat (first | (with_reducible first | exact HB.out | apply below_alloc | apply pw_below_drewN | apply below_drew1 | refine below_set ?_ GE135.out | refine below_set ?_ GE136.out) | exact HB.out)⟩
       replace c40 := Bool.eq_false_iff.mpr c40
       subst c40
       rw [if_neg (show ¬ (false = true) by decide)] at H
       by_cases c41 : 0 ≤ x5_2
       rotate_left
       ·rw [if_neg c41] at H
        exact absurd H q145t
       rw [if_pos c41] at H
       have c41b0 : decide (0 ≤ x5_2) = true := decide_eq_true c41
       clear c41
       by_cases c42 : x5_2 < (l1_1.length : Int)
       rotate_left
       ·rw [if_neg c42] at H
        exact absurd H q145t
       rw [if_pos c42] at H
       have c42b0 : decide (x5_2 < (l1_1.length : Int)) = true := decide_eq_true c42
       clear c42
       by_cases c43 : (rd l1_1 x5_2) = 0
       rotate_left
       ·rw [if_neg c43] at H
        have c43b0 : ((rd l1_1 x5_2) == 0) = false := beq_eq_false_iff_ne.mpr c43
        have c43b1 : ((rd l1_1 x5_2) != 0) = true := bne_iff_ne.mpr c43
        have H' := Aside0.mk H
        clear H
        have hnb58 := NB136_135.out
        have hnc58 := NB135_136.out
        obtain ⟨hcz59_0, hcz59_1, hcz59_2⟩ := qc3 BK136.out
        obtain ⟨hfz59_0, hfz59_1, hfz59_2⟩ := qf3 BK136.out
        have p147 : 0 ≤ (x5_2 : Int) := of_decide_eq_true q133t
        have q147 : x5_2 < (l1_1.length : Int) := of_decide_eq_true q133t
        obtain ⟨ad147, e147, hx147_0⟩ := Kd.at_int HR1_1.out x5_2 p147 q147
        obtain rfl : ad139 = ad147 := (by injection e147)
        replace hx147_0 := hbt HB hx147_0
        replace p147 := eq_true p147
        replace q147 := eq_true q147
        go_wp2
        go_roundg kj27
        case measure => have := HJ2.out; have := HK2.out; have := HJ27.out; omega
        case rel => exact ⟨(wrap64 (x5_2 + 1)), q142t, H', ⟨by have := HJ2.out; have := HK2.out; have := HJ27.out; omega⟩, ⟨qbk BK135⟩, ⟨qbk BK136⟩, ⟨by repeat (first | (with_reducible first | exact HB.out | apply below_alloc | apply pw_below_drewN | apply below_drew1 | refine below_set ?_ GE135.out | refine below_set ?_ GE136.out) | exact HB.out)⟩⟩
       rw [if_pos c43] at H
       have c43b0 : ((rd l1_1 x5_2) == 0) = true := beq_iff_eq.mpr c43
       have c43b1 : ((rd l1_1 x5_2) != 0) = false := bne_eq_false_iff_eq.mpr c43
       clear c43
       obtain ⟨ji44, hji44⟩ : ∃ j_ : Int, (wrap64 (x5_2 * a0_1)) = j_ := ⟨_, rfl⟩
       replace H : (if 0 ≤ (ji44) then (if (ji44) ≤ (wrap64 ((wrap64 (x5_2 + 1)) * a0_1)) then (if (wrap64 ((wrap64 (x5_2 + 1)) * a0_1)) ≤ (l1_0.length : Int) then ((spec_IsZero.f kj27 ((l1_0.take ((wrap64 ((wrap64 (x5_2 + 1)) * a0_1)) : Int).toNat).drop ((ji44) : Int).toNat)).bind fun t149 => (if t149 = true then (spec_PoolOk.l0 kj27 (wrap64 (x5_2 + 1)) a0_0 a0_1 a0_2 a0_3 a0_4 a0_5 l1_0 l1_1 l1_2) else (some false))) else (none)) else (none)) else (none)) = some r := by first | (rw [hji44] at H; exact H) | (simp only [hji44] at H ⊢; exact H)
       have hji44w : (IntKind.i64.wrap (x5_2 * a0_1)) = ji44 := (i64_w _).trans hji44
       by_cases c45 : 0 ≤ (ji44)
       rotate_left
       ·rw [if_neg c45] at H
        exact absurd H q145t
       rw [if_pos c45] at H
       have c45b0 := eq_true c45
       have c45b1 : decide (0 ≤ (ji44)) = true := decide_eq_true c45
       clear c45
       by_cases c46 : (ji44) ≤ (wrap64 ((wrap64 (x5_2 + 1)) * a0_1))
       rotate_left
       ·rw [if_neg c46] at H
        exact absurd H q145t
       rw [if_pos c46] at H
       have c46b0 := eq_true c46
       have c46b1 : decide ((ji44) ≤ (wrap64 ((wrap64 (x5_2 + 1)) * a0_1))) = true := decide_eq_true c46
       by_cases c47 : (wrap64 ((wrap64 (x5_2 + 1)) * a0_1)) ≤ (l1_0.length : Int)
       rotate_left
       ·rw [if_neg c47] at H
        exact absurd H q145t
       rw [if_pos c47] at H
       have c47b0 := eq_true c47
       have c47b1 : decide ((wrap64 ((wrap64 (x5_2 + 1)) * a0_1)) ≤ (l1_0.length : Int)) = true := decide_eq_true c47
       replace H := Option.bind_eq_some_iff.mp H
       obtain ⟨t149, A480, H⟩ := H
       try dsimp only at H
       have A48 := Aside0.mk A480
       clear A480
       by_cases c49 : t149 = true
       ·subst c49
        rw [if_pos rfl] at H
        have H' := Aside0.mk H
        clear H
        have hnb50 := NB136_135.out
        have hnc50 := NB135_136.out
        obtain ⟨hcz51_0, hcz51_1, hcz51_2⟩ := qc3 BK136.out
        obtain ⟨hfz51_0, hfz51_1, hfz51_2⟩ := qf3 BK136.out
        have p147 : 0 ≤ (x5_2 : Int) := of_decide_eq_true q133t
        have q147 : x5_2 < (l1_1.length : Int) := of_decide_eq_true q133t
        obtain ⟨ad147, e147, hx147_0⟩ := Kd.at_int HR1_1.out x5_2 p147 q147
        obtain rfl : ad139 = ad147 := (by injection e147)
        replace hx147_0 := hbt HB hx147_0
        replace p147 := eq_true p147
        replace q147 := eq_true q147
        obtain ⟨hcz52_0, hcz52_1, hcz52_2, hcz52_3, hcz52_4, hcz52_5⟩ := qc6 BK135.out
        obtain ⟨hfz52_0, hfz52_1, hfz52_2, hfz52_3, hfz52_4, hfz52_5⟩ := qf6 BK135.out
        obtain ⟨i053, hi053, _, hsz53, _⟩ := info_parts info5
        obtain ⟨A53, hcut53, hA53, hC53⟩ := print_mid_of (P := Try.prog) (Value.int .u8) 0 24 5 .i64 .i64 Try.underlying24 hi053 hsz53 A1_0 c1_0 l1_0 (ji44) (wrap64 ((wrap64 (x5_2 + 1)) * a0_1)) (of_decide_eq_true q133t) q132t (of_decide_eq_true q133t) HC1_0.out
        have HR148 := Aside0.mk (Kd.C_of_reads (h1 := fun _ => rfl) (hA53 _ (Kd.reads_of_C HR1_0.out)))
        have HC148 := Aside0.mk hC53
        clear hA53 hC53 hi053 hsz53
        go_wp2_with (first | (go_at_call 19; (try rw [show ((wrap64 ((wrap64 (x5_2 + 1)) * a0_1)).toNat - (ji44).toNat) = ((l1_0.take ((wrap64 ((wrap64 (x5_2 + 1)) * a0_1)) : Int).toNat).drop ((ji44) : Int).toNat).length from (by rw [List.length_drop, List.length_take]; have h_ : ((wrap64 ((wrap64 (x5_2 + 1)) * a0_1)) : Int) ≤ (l1_0.length : Int) := of_decide_eq_true q133t; omega)]); (with_reducible refine (spec_IsZero.calls kj27 _ _ ((l1_0.take ((wrap64 ((wrap64 (x5_2 + 1)) * a0_1)) : Int).toNat).drop ((ji44) : Int).toNat) true _ ?side1 ?side2 A48.out).mono ?_); (case side1 => repeat (first | exact (Kd.C_below HR148.out HB.out) | (with_reducible refine Kd.C_alloc ?_ _) | (with_reducible refine Kd.C_drewN ?_ _) | (with_reducible refine Kd.C_drew ?_))); (case side2 => exact HC148.out); rintro e w' ⟨rfl, ⟨nd, rfl⟩⟩))
        go_roundg kj27
        case measure => have := HJ2.out; have := HK2.out; have := HJ27.out; omega
        case rel => exact ⟨(wrap64 (x5_2 + 1)), q142t, H', ⟨by have := HJ2.out; have := HK2.out; have := HJ27.out; omega⟩, ⟨qbk BK135⟩, ⟨qbk BK136⟩, ⟨by repeat (first | (with_reducible first | exact HB.out | apply below_alloc | apply pw_below_drewN | apply below_drew1 | refine below_set ?_ GE135.out | refine below_set ?_ GE136.out) | exact HB.out)⟩⟩
       replace c49 := Bool.eq_false_iff.mpr c49
       subst c49
       rw [if_neg (show ¬ (false = true) by decide)] at H
       obtain rfl := Option.some.inj H
       have hnb54 := NB136_135.out
       have hnc54 := NB135_136.out
       obtain ⟨hcz55_0, hcz55_1, hcz55_2⟩ := qc3 BK136.out
       obtain ⟨hfz55_0, hfz55_1, hfz55_2⟩ := qf3 BK136.out
       have p147 : 0 ≤ (x5_2 : Int) := of_decide_eq_true q133t
       have q147 : x5_2 < (l1_1.length : Int) := of_decide_eq_true q133t
       obtain ⟨ad147, e147, hx147_0⟩ := Kd.at_int HR1_1.out x5_2 p147 q147
       obtain rfl : ad139 = ad147 := (by injection e147)
       replace hx147_0 := hbt HB hx147_0
       replace p147 := eq_true p147
       replace q147 := eq_true q147
       obtain ⟨hcz56_0, hcz56_1, hcz56_2, hcz56_3, hcz56_4, hcz56_5⟩ := qc6 BK135.out
       obtain ⟨hfz56_0, hfz56_1, hfz56_2, hfz56_3, hfz56_4, hfz56_5⟩ := qf6 BK135.out
       obtain ⟨i057, hi057, _, hsz57, _⟩ := info_parts info5
       obtain ⟨A57, hcut57, hA57, hC57⟩ := print_mid_of (P := Try.prog) (Value.int .u8) 0 24 5 .i64 .i64 Try.underlying24 hi057 hsz57 A1_0 c1_0 l1_0 (ji44) (wrap64 ((wrap64 (x5_2 + 1)) * a0_1)) (of_decide_eq_true q133t) q132t (of_decide_eq_true q133t) HC1_0.out
       have HR148 := Aside0.mk (Kd.C_of_reads (h1 := fun _ => rfl) (hA57 _ (Kd.reads_of_C HR1_0.out)))
       have HC148 := Aside0.mk hC57
       clear hA57 hC57 hi057 hsz57
       go_wp2_with (first | (go_at_call 19; (try rw [show ((wrap64 ((wrap64 (x5_2 + 1)) * a0_1)).toNat - (ji44).toNat) = ((l1_0.take ((wrap64 ((wrap64 (x5_2 + 1)) * a0_1)) : Int).toNat).drop ((ji44) : Int).toNat).length from (by rw [List.length_drop, List.length_take]; have h_ : ((wrap64 ((wrap64 (x5_2 + 1)) * a0_1)) : Int) ≤ (l1_0.length : Int) := of_decide_eq_true q133t; omega)]); (with_reducible refine (spec_IsZero.calls kj27 _ _ ((l1_0.take ((wrap64 ((wrap64 (x5_2 + 1)) * a0_1)) : Int).toNat).drop ((ji44) : Int).toNat) false _ ?side1 ?side2 A48.out).mono ?_); (case side1 => repeat (first | exact (Kd.C_below HR148.out HB.out) | (with_reducible refine Kd.C_alloc ?_ _) | (with_reducible refine Kd.C_drewN ?_ _) | (with_reducible refine Kd.C_drew ?_))); (case side2 => exact HC148.out); rintro e w' ⟨rfl, ⟨nd, rfl⟩⟩))
       go_ret
       exact ⟨by first | rfl | (simp [errW_none, errW_some] <;> rfl) | (simp only [← hji44]; first | rfl | (simp [errW_none, errW_some] <;> rfl)) | (simp [*, errW_none, errW_some] <;> rfl), by repeat (first | (with_reducible first | exact HB.out | apply below_alloc | apply pw_below_drewN | apply below_drew1 | refine below_set ?_ GE135.out | refine below_set ?_ GE136.out) | exact HB.out)⟩

end Go.Proofs.Ytofpmdgndegalaa.QFnExactWipeSome
