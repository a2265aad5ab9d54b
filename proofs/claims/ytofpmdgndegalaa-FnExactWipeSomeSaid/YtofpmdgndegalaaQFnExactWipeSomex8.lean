/- What the functions that the law FnExactWipeSome reaches compute, as plain functions, and that the code computes just that (by a program of this session's; the library's functions by hand). No condition. -/
import Derived.Test.YtofpmdgndegalaaQFnExactWipeSomex0
import Derived.Test.YtofpmdgndegalaaQFnExactWipeSomex6
import Derived.Test.YtofpmdgndegalaaQFnExactWipeSomex7
namespace Go.Proofs.Ytofpmdgndegalaa.QFnExactWipeSome
open Go.RowKit Go.Proofs.YtofpmdgndegalaaW.PrintWords Go.Proofs.YtofpmdgndegalaaW.PrintLast Go.Proofs.YtofpmdgndegalaaW.PrintMore
attribute [local go_sem] max2_int min2_int max_two min_two max_three min_three max_four min_four   -- for this text's walks alone
set_option linter.unusedVariables false
set_option linter.unusedSimpArgs false

/-! ### impl_PoolOk: function 23 -/
mutual
def impl_PoolOk.j0 : Nat → Bool → Int → Int → Int → Int → Int → Int → List Int → List Int → List Int → Option (Bool)
 | 0, _, _, _, _, _, _, _, _, _, _ => none
 | k + 1, x33, x243000, x243001, x243002, x243003, x243004, x243005, x244000, x244001, x244002 => if x33 = true then (some false) else (impl_PoolOk.l0 k x244001 (x244001.length : Int) 0 x243000 x243001 x243002 x243003 x243004 x243005 x244000 x244001 x244002)
def impl_PoolOk.l0 : Nat → List Int → Int → Int → Int → Int → Int → Int → Int → Int → List Int → List Int → List Int → Option (Bool)
 | 0, _, _, _, _, _, _, _, _, _, _, _, _ => none
 | k + 1, x35, x36, x37, x243000, x243001, x243002, x243003, x243004, x243005, x244000, x244001, x244002 => if x37 < x36 then (if 0 ≤ x37 then (if x37 < (x35.length : Int) then ((impl_within.f (rd x35 x37) 0 2).bind fun t247 => (if t247 = true then (if (rd x35 x37) = 1 then (if x37 < (x244002.length : Int) then ((impl_within.f (rd x244002 x37) 0 (wrap64 (x243002 - 1))).bind fun t249 => (if t249 = true then (impl_PoolOk.j2 k x37 (rd x35 x37) x35 x36 x37 false x243000 x243001 x243002 x243003 x243004 x243005 x244000 x244001 x244002) else (impl_PoolOk.j2 k x37 (rd x35 x37) x35 x36 x37 true x243000 x243001 x243002 x243003 x243004 x243005 x244000 x244001 x244002))) else (none)) else (if x37 < (x244002.length : Int) then (impl_PoolOk.j2 k x37 (rd x35 x37) x35 x36 x37 ((rd x244002 x37) != (-1)) x243000 x243001 x243002 x243003 x243004 x243005 x244000 x244001 x244002) else (none))) else (some false))) else (none)) else (none)) else (some true)
def impl_PoolOk.j2 : Nat → Int → Int → List Int → Int → Int → Bool → Int → Int → Int → Int → Int → Int → List Int → List Int → List Int → Option (Bool)
 | 0, _, _, _, _, _, _, _, _, _, _, _, _, _, _, _ => none
 | k + 1, x5, x6, x35, x36, x37, x46, x243000, x243001, x243002, x243003, x243004, x243005, x244000, x244001, x244002 => if x46 = true then (some false) else (if x6 = 0 then (if 0 ≤ (wrap64 (x5 * x243001)) then (if (wrap64 (x5 * x243001)) ≤ (wrap64 ((wrap64 (x5 + 1)) * x243001)) then (if (wrap64 ((wrap64 (x5 + 1)) * x243001)) ≤ (x244000.length : Int) then ((impl_IsZero.f k ((x244000.take ((wrap64 ((wrap64 (x5 + 1)) * x243001)) : Int).toNat).drop ((wrap64 (x5 * x243001)) : Int).toNat)).bind fun t252 => (if t252 = true then (impl_PoolOk.l0 k x35 x36 (wrap64 (x37 + 1)) x243000 x243001 x243002 x243003 x243004 x243005 x244000 x244001 x244002) else (some false))) else (none)) else (none)) else (none)) else (impl_PoolOk.l0 k x35 x36 (wrap64 (x37 + 1)) x243000 x243001 x243002 x243003 x243004 x243005 x244000 x244001 x244002))
end
def impl_PoolOk.f (k : Nat) (a0_0 : Int) (a0_1 : Int) (a0_2 : Int) (a0_3 : Int) (a0_4 : Int) (a0_5 : Int) (l1_0 : List Int) (l1_1 : List Int) (l1_2 : List Int) : Option (Bool) := (impl_ConfOk.f a0_0 a0_1 a0_2 a0_3 a0_4 a0_5).bind fun t244 => (if t244 = true then ((impl_BytesOf.f a0_0 a0_1 a0_2 a0_3 a0_4 a0_5).bind fun t245 => (if (l1_0.length : Int) = t245 then (if (l1_1.length : Int) = a0_0 then (impl_PoolOk.j0 k ((l1_2.length : Int) != a0_0) a0_0 a0_1 a0_2 a0_3 a0_4 a0_5 l1_0 l1_1 l1_2) else (impl_PoolOk.j0 k true a0_0 a0_1 a0_2 a0_3 a0_4 a0_5 l1_0 l1_1 l1_2)) else (impl_PoolOk.j0 k true a0_0 a0_1 a0_2 a0_3 a0_4 a0_5 l1_0 l1_1 l1_2))) else (impl_PoolOk.j0 k true a0_0 a0_1 a0_2 a0_3 a0_4 a0_5 l1_0 l1_1 l1_2))
theorem impl_PoolOk.mono_l : ∀ k, (∀ y0 y1 y2 y3 y4 y5 y6 y7 y8 y9, LeO (impl_PoolOk.j0 k y0 y1 y2 y3 y4 y5 y6 y7 y8 y9) (impl_PoolOk.j0 (k + 1) y0 y1 y2 y3 y4 y5 y6 y7 y8 y9)) ∧ (∀ y0 y1 y2 y3 y4 y5 y6 y7 y8 y9 y10 y11, LeO (impl_PoolOk.l0 k y0 y1 y2 y3 y4 y5 y6 y7 y8 y9 y10 y11) (impl_PoolOk.l0 (k + 1) y0 y1 y2 y3 y4 y5 y6 y7 y8 y9 y10 y11)) ∧ (∀ y0 y1 y2 y3 y4 y5 y6 y7 y8 y9 y10 y11 y12 y13 y14, LeO (impl_PoolOk.j2 k y0 y1 y2 y3 y4 y5 y6 y7 y8 y9 y10 y11 y12 y13 y14) (impl_PoolOk.j2 (k + 1) y0 y1 y2 y3 y4 y5 y6 y7 y8 y9 y10 y11 y12 y13 y14))
 | 0 => ⟨fun _ _ _ _ _ _ _ _ _ _ r h => by simp [impl_PoolOk.j0] at h, fun _ _ _ _ _ _ _ _ _ _ _ _ r h => by simp [impl_PoolOk.l0] at h, fun _ _ _ _ _ _ _ _ _ _ _ _ _ _ _ r h => by simp [impl_PoolOk.j2] at h⟩
 | k + 1 => by
  obtain ⟨ih0, ih1, ih2⟩ := impl_PoolOk.mono_l k
  refine ⟨?_, ?_, ?_⟩
  ·intro y0 y1 y2 y3 y4 y5 y6 y7 y8 y9
   unfold impl_PoolOk.j0
   repeat' first
   | (with_reducible exact ih0 _ _ _ _ _ _ _ _ _ _)
   | (with_reducible exact ih1 _ _ _ _ _ _ _ _ _ _ _ _)
   | (with_reducible exact ih2 _ _ _ _ _ _ _ _ _ _ _ _ _ _ _)
   | (with_reducible exact impl_IsZero.mono _ _)
   | (with_reducible exact LeO.refl _)
   | (with_reducible exact LeO.none _)
   | (with_reducible refine LeO.ite ?_ ?_)
   | (with_reducible refine LeO.bind ?_ (fun _ => ?_))
   | exact ih0 _ _ _ _ _ _ _ _ _ _
   | exact ih1 _ _ _ _ _ _ _ _ _ _ _ _
   | exact ih2 _ _ _ _ _ _ _ _ _ _ _ _ _ _ _
   | exact impl_IsZero.mono _ _
   | exact LeO.none _
   | refine LeO.ite ?_ ?_
   | refine LeO.bind ?_ (fun _ => ?_)
  ·intro y0 y1 y2 y3 y4 y5 y6 y7 y8 y9 y10 y11
   unfold impl_PoolOk.l0
   repeat' first
   | (with_reducible exact ih0 _ _ _ _ _ _ _ _ _ _)
   | (with_reducible exact ih1 _ _ _ _ _ _ _ _ _ _ _ _)
   | (with_reducible exact ih2 _ _ _ _ _ _ _ _ _ _ _ _ _ _ _)
   | (with_reducible exact impl_IsZero.mono _ _)
   | (with_reducible exact LeO.refl _)
   | (with_reducible exact LeO.none _)
   | (with_reducible refine LeO.ite ?_ ?_)
   | (with_reducible refine LeO.bind ?_ (fun _ => ?_))
   | exact ih0 _ _ _ _ _ _ _ _ _ _
   | exact ih1 _ _ _ _ _ _ _ _ _ _ _ _
   | exact ih2 _ _ _ _ _ _ _ _ _ _ _ _ _ _ _
   | exact impl_IsZero.mono _ _
   | exact LeO.none _
   | refine LeO.ite ?_ ?_
   | refine LeO.bind ?_ (fun _ => ?_)
  ·intro y0 y1 y2 y3 y4 y5 y6 y7 y8 y9 y10 y11 y12 y13 y14
   unfold impl_PoolOk.j2
   repeat' first
   | (with_reducible exact ih0 _ _ _ _ _ _ _ _ _ _)
   | (with_reducible exact ih1 _ _ _ _ _ _ _ _ _ _ _ _)
   | (with_reducible exact ih2 _ _ _ _ _ _ _ _ _ _ _ _ _ _ _)
   | (with_reducible exact impl_IsZero.mono _ _)
   | (with_reducible exact LeO.refl _)
   | (with_reducible exact LeO.none _)
   | (with_reducible refine LeO.ite ?_ ?_)
   | (with_reducible refine LeO.bind ?_ (fun _ => ?_))
   | exact ih0 _ _ _ _ _ _ _ _ _ _
   | exact ih1 _ _ _ _ _ _ _ _ _ _ _ _
   | exact ih2 _ _ _ _ _ _ _ _ _ _ _ _ _ _ _
   | exact impl_IsZero.mono _ _
   | exact LeO.none _
   | refine LeO.ite ?_ ?_
   | refine LeO.bind ?_ (fun _ => ?_)
theorem impl_PoolOk.mono : ∀ a0 a1 a2 a3 a4 a5 a6 a7 a8 k, LeO (impl_PoolOk.f k a0 a1 a2 a3 a4 a5 a6 a7 a8) (impl_PoolOk.f (k + 1) a0 a1 a2 a3 a4 a5 a6 a7 a8) := by
 intro a0 a1 a2 a3 a4 a5 a6 a7 a8 k
 obtain ⟨ih0, ih1, ih2⟩ := impl_PoolOk.mono_l k
 unfold impl_PoolOk.f
 repeat' first
   | (with_reducible exact ih0 _ _ _ _ _ _ _ _ _ _)
   | (with_reducible exact ih1 _ _ _ _ _ _ _ _ _ _ _ _)
   | (with_reducible exact ih2 _ _ _ _ _ _ _ _ _ _ _ _ _ _ _)
   | (with_reducible exact impl_IsZero.mono _ _)
   | (with_reducible exact LeO.refl _)
   | (with_reducible exact LeO.none _)
   | (with_reducible refine LeO.ite ?_ ?_)
   | (with_reducible refine LeO.bind ?_ (fun _ => ?_))
   | exact ih0 _ _ _ _ _ _ _ _ _ _
   | exact ih1 _ _ _ _ _ _ _ _ _ _ _ _
   | exact ih2 _ _ _ _ _ _ _ _ _ _ _ _ _ _ _
   | exact impl_IsZero.mono _ _
   | exact LeO.none _
   | refine LeO.ite ?_ ?_
   | refine LeO.bind ?_ (fun _ => ?_)
def impl_PoolOk.T1 : Bool × List (List Nat × List Nat) := (true, [([], []), ([0], [0]), ([1], [1]), ([2, 1], [2]), ([3], [3]), ([4, 3], [3, 4]), ([5, 3], [3, 5]), ([3], [3]), ([7, 3, 3], [3, 7]), ([6, 8, 3], [3, 6, 8]), ([3, 9], [3, 9]), ([10, 8], [10]), ([11], [11]), ([12, 11], [11, 12]), ([13, 11], [11, 13]), ([11], [11]), ([15, 11], [11, 15]), ([14, 16, 11], [11, 14, 16]), ([11, 17], [11, 17]), ([18, 11], [18]), ([19], [19]), ([20, 19], [19, 20]), ([21, 19], [19, 21]), ([19], [19]), ([23, 19], [19, 23]), ([22, 24, 19], [19, 22, 24]), ([19, 25], [19, 25])])
def impl_PoolOk.B1 : List Nat := [0, 1, 3, 7, 15, 31, 63, 15, 143, 511, 1023, 2047, 4095, 8191, 16383, 4095, 36863, 131071, 262143, 524287, 1048575, 2097151, 4194303, 1048575, 9437183, 33554431, 67108863]
theorem impl_PoolOk.tab1 : rtab .any (opsOf Try.f23 1) = impl_PoolOk.T1 := by kernel_rfl
theorem impl_PoolOk.bits1 : waitsOk impl_PoolOk.T1.2 impl_PoolOk.B1 = true := by kernel_rfl
def impl_PoolOk.T8 : Bool × List (List Nat × List Nat) := (true, [([], []), ([0], [0]), ([1], [1]), ([2], [2]), ([3, 2], [2, 3]), ([2], [2]), ([4, 5, 2], [2, 4, 5]), ([6, 2], [2, 6]), ([2], [2]), ([8, 2], [2, 8]), ([9, 2], [2, 9]), ([7, 10, 2, 2], [2, 7, 10]), ([11, 2], [2, 11]), ([2, 12], [2, 12]), ([13, 11], [13]), ([14], [14]), ([15, 14], [14, 15]), ([16, 14, 14], [14, 16]), ([17], [17]), ([18, 17], [17, 18]), ([17], [17]), ([19, 20, 17], [17, 19, 20]), ([21, 17], [17, 21]), ([22, 17], [17, 22]), ([17, 23, 14], [14, 17, 23]), ([14, 24], [14, 24]), ([25, 17], [25])])
def impl_PoolOk.B8 : List Nat := [0, 1, 3, 7, 15, 7, 63, 127, 7, 263, 775, 2047, 4095, 8191, 16383, 32767, 65535, 131071, 262143, 524287, 262143, 2097151, 4194303, 8388607, 16777215, 33554431, 67108863]
theorem impl_PoolOk.tab8 : rtab .any (opsOf Try.f23 8) = impl_PoolOk.T8 := by kernel_rfl
theorem impl_PoolOk.bits8 : waitsOk impl_PoolOk.T8.2 impl_PoolOk.B8 = true := by kernel_rfl
set_option maxHeartbeats 8000000 in
set_option maxRecDepth 100000 in
theorem impl_PoolOk.calls (k : Nat) (a0_0 : Int) (a0_1 : Int) (a0_2 : Int) (a0_3 : Int) (a0_4 : Int) (a0_5 : Int) (A1_0 : Option Addr) (c1_0 : Nat) (l1_0 : List Int) (A1_1 : Option Addr) (c1_1 : Nat) (l1_1 : List Int) (A1_2 : Option Addr) (c1_2 : Nat) (l1_2 : List Int) (r : Bool) (w : World) (hr1_0 : Kd.C (Kd.int .u8) w A1_0 l1_0.length l1_0) (hc1_0 : l1_0.length ≤ c1_0) (hr1_1 : Kd.C (Kd.int .i64) w A1_1 l1_1.length l1_1) (hc1_1 : l1_1.length ≤ c1_1) (hr1_2 : Kd.C (Kd.int .i64) w A1_2 l1_2.length l1_2) (hc1_2 : l1_2.length ≤ c1_2) (h : impl_PoolOk.f k a0_0 a0_1 a0_2 a0_3 a0_4 a0_5 l1_0 l1_1 l1_2 = some r) :
  Calls Try.prog 23 #[.agg #[.int .i64 a0_0, .int .i64 a0_1, .int .i64 a0_2, .int .i64 a0_3, .int .i64 a0_4, .int .i64 a0_5], .agg #[.slice A1_0 l1_0.length c1_0, .slice A1_1 l1_1.length c1_1, .slice A1_2 l1_2.length c1_2]] w fun e w' => e = .returned (.bool r) ∧ Below w.heap.size w w' := by
 have hu32 := Try.underlying32
 have hu29 := Try.underlying29
 have HR1_0 := Aside0.mk hr1_0
 have HC1_0 := Aside0.mk hc1_0
 clear hr1_0 hc1_0
 have HR1_1 := Aside0.mk hr1_1
 have HC1_1 := Aside0.mk hc1_1
 clear hr1_1 hc1_1
 have HR1_2 := Aside0.mk hr1_2
 have HC1_2 := Aside0.mk hc1_2
 clear hr1_2 hc1_2
 have HB := Aside0.mk (Below.refl w.heap.size w)
 have H : ((impl_ConfOk.f a0_0 a0_1 a0_2 a0_3 a0_4 a0_5).bind fun t244 => (if t244 = true then ((impl_BytesOf.f a0_0 a0_1 a0_2 a0_3 a0_4 a0_5).bind fun t245 => (if (l1_0.length : Int) = t245 then (if (l1_1.length : Int) = a0_0 then (impl_PoolOk.j0 k ((l1_2.length : Int) != a0_0) a0_0 a0_1 a0_2 a0_3 a0_4 a0_5 l1_0 l1_1 l1_2) else (impl_PoolOk.j0 k true a0_0 a0_1 a0_2 a0_3 a0_4 a0_5 l1_0 l1_1 l1_2)) else (impl_PoolOk.j0 k true a0_0 a0_1 a0_2 a0_3 a0_4 a0_5 l1_0 l1_1 l1_2))) else (impl_PoolOk.j0 k true a0_0 a0_1 a0_2 a0_3 a0_4 a0_5 l1_0 l1_1 l1_2))) = some r := h
 clear h
 have HC3 := Aside0.mk H
 clear H
 go_enter Try.func23, Try.ntmps23
 go_upto_region 1 with (first | ((with_reducible refine gate_dst (N := 2) rfl ?_); (try (refine gate_guard (by rfl) ?_; dsimp only)); refine box_ev 2 #[.int .i64 a0_0, .int .i64 a0_1, .int .i64 a0_2, .int .i64 a0_3, .int .i64 a0_4, .int .i64 a0_5] 32 ?_; intro gb242 hg w4 hbox hb; have BK242 := Aside0.mk (hbox); have GW242 := Aside0.mk ((q76t : w.heap.size ≤ gb242)); have GE242 := Aside0.mk ((q76t : w.heap.size ≤ gb242)); replace HB := Aside0.mk (below_step q102t hb); clear hb hbox hg) | ((with_reducible refine gate_dst (N := 3) rfl ?_); (try (refine gate_guard (by rfl) ?_; dsimp only)); refine box_ev 3 #[.slice A1_0 l1_0.length c1_0, .slice A1_1 l1_1.length c1_1, .slice A1_2 l1_2.length c1_2] 29 ?_; intro gb243 hg w5 hbox hb; have BK243 := Aside0.mk (hbox); have GW243 := Aside0.mk ((by rw [hg]; exact (below_size q84t) : w.heap.size ≤ gb243)); have GE243 := Aside0.mk ((by rw [hg]; exact (below_size q84t) : w.heap.size ≤ gb243)); replace HB := Aside0.mk (below_step q84t hb); have NB242_243 := Aside0.mk ((by rw [hg]; exact Nat.ne_of_lt (blk_lt (qbk BK242)) : gb242 ≠ gb243)); have NB243_242 := Aside0.mk ((by rw [hg]; exact Nat.ne_of_gt (blk_lt (qbk BK242)) : gb243 ≠ gb242)); replace BK242 := blb BK242 hb; clear hb hbox hg))
 (try simp only [Act.put, List.setIfInBounds_toArray, List.set_cons_zero, List.set_cons_succ])
 go_cut [33] (fun v33 wc => ∃ (kq : Nat) (x33_2 : Bool), v33 = .bool x33_2 ∧ Aside0 (impl_PoolOk.j0 kq x33_2 a0_0 a0_1 a0_2 a0_3 a0_4 a0_5 l1_0 l1_1 l1_2 = some r) ∧ Aside0 (kq ≤ k) ∧ Aside0 (wc.heap[gb242]? = some (.cells #[.int .i64 a0_0, .int .i64 a0_1, .int .i64 a0_2, .int .i64 a0_3, .int .i64 a0_4, .int .i64 a0_5] 32 (0, 0))) ∧ Aside0 (wc.heap[gb243]? = some (.cells #[(.slice A1_0 l1_0.length c1_0), (.slice A1_1 l1_1.length c1_1), (.slice A1_2 l1_2.length c1_2)] 29 (0, 0))) ∧ Aside0 (Below w.heap.size w wc))
 case first =>
  have H := HC3.out
  clear HC3
  replace H := Option.bind_eq_some_iff.mp H
  obtain ⟨t244, A60, H⟩ := H
  try dsimp only at H
  have A6 := Aside0.mk A60
  clear A60
  by_cases c7 : t244 = true
  rotate_left
  ·replace c7 := Bool.eq_false_iff.mpr c7
   subst c7
   rw [if_neg (show ¬ (false = true) by decide)] at H
   have H' := Aside0.mk H
   clear H
   try go_wp2
   (try (rw [drewN_self w5]; generalize hq_ : World.drewN w5 _ = w5; have hh_ := congrArg World.heap hq_; dsimp only [World.drewN] at hh_; have zb_ : Below w.heap.size w w5 := (by rw [← hq_]; exact pw_below_drewN HB.out _); have z_ := BK242.out; rw [hh_] at z_; clear BK242; have BK242 := Aside0.mk z_; clear z_; have z_ := BK243.out; rw [hh_] at z_; clear BK243; have BK243 := Aside0.mk z_; clear z_; clear HB; have HB := Aside0.mk zb_; clear zb_ hh_ hq_))
   replace BK242 := Aside0.mk (blk_drew BK242.out)
   replace BK243 := Aside0.mk (blk_drew BK243.out)
   replace HB := Aside0.mk (below_drew1 HB.out)
   refine start_ (n := 27) (S := fun w' => w'.cell? ⟨gb242, 0, none⟩ = some (.int .i64 a0_0) ∧ w'.cell? ⟨gb242, 1, none⟩ = some (.int .i64 a0_1) ∧ w'.cell? ⟨gb242, 2, none⟩ = some (.int .i64 a0_2) ∧ w'.cell? ⟨gb242, 3, none⟩ = some (.int .i64 a0_3) ∧ w'.cell? ⟨gb242, 4, none⟩ = some (.int .i64 a0_4) ∧ w'.cell? ⟨gb242, 5, none⟩ = some (.int .i64 a0_5)) (ds := []) (bm 27 0) (by kernel_rfl) rfl (by kernel_rfl) ⟨(blk_cell BK242.out 0).trans rfl, (blk_cell BK242.out 1).trans rfl, (blk_cell BK242.out 2).trans rfl, (blk_cell BK242.out 3).trans rfl, (blk_cell BK242.out 4).trans rfl, (blk_cell BK242.out 5).trans rfl⟩ (fun hHeld => ?_); refine with_tabW impl_PoolOk.tab1 impl_PoolOk.bits1 (fun HT_ HW_ => ?_)
   generalize w5.drew = w20 at BK242 BK243 HB hHeld ⊢
   refine take_ (i := 0) (N := some 7) (v := ?_) (a' := ?_) (bm 27 1) rfl rfl (take_ofW HT_.out HW_.out (by kernel_rfl)) (fun _ _ _ h => h) (Or.inl ⟨by rfl, ?_⟩) hHeld ?_ ?_
   rotate_left
   ·rintro w' ⟨s0, s1, s2, s3, s4, s5⟩
    go_simp
    with_reducible rfl
   rotate_left
   ·simp only [Act.put, List.setIfInBounds_toArray, List.set_cons_zero, List.set_cons_succ, i64_w, i32_w]
    rfl
   refine one_ (i := 1) (N := some 8) (bm 27 3) rfl rfl (one_of HT_.out (by kernel_rfl)) q144t (fun K hK => ?_)
   refine goes_ Try.func37 (by kernel_rfl) rfl #[.agg #[.int .i64 a0_0, .int .i64 a0_1, .int .i64 a0_2, .int .i64 a0_3, .int .i64 a0_4, .int .i64 a0_5]] (by rfl) rfl rfl q97t ?_
   with_reducible refine (impl_ConfOk.calls a0_0 a0_1 a0_2 a0_3 a0_4 a0_5 false _ A6.out).mono ?_
   rintro e w21 ⟨rfl, hb⟩
   refine ⟨_, rfl, ?_⟩
   replace BK242 := blb BK242 hb
   replace BK243 := blb BK243 hb
   replace HB := Aside0.mk (below_step q60t hb)
   (try clear hb)
   (try clear hb2)
   (try clear hk)
   (try clear hi)
   refine hK.out _ _ (by first | exact ⟨(blk_cell BK242.out 0).trans rfl, (blk_cell BK242.out 1).trans rfl, (blk_cell BK242.out 2).trans rfl, (blk_cell BK242.out 3).trans rfl, (blk_cell BK242.out 4).trans rfl, (blk_cell BK242.out 5).trans rfl⟩ | exact hHeld) (fun hHeld => ?_)
   clear hK K
   refine norm_ (a' := ?_) ?_ ?_
   rotate_left
   ·show Act.put _ (some 8) _ = _
    simp only [Act.put, List.setIfInBounds_toArray, List.set_cons_zero, List.set_cons_succ, i64_w, i32_w]
    rfl
   refine pu_ 2 (some 9) (bm 27 7) (any_of HT_.out (by kernel_rfl)) ?_
   refine pu_ 3 (some 10) (bm 27 15) (any_of HT_.out (by kernel_rfl)) ?_
   refine pn_ 4 (some 11) (bm 27 31) (any_of HT_.out (by kernel_rfl)) ?_
   refine pn_ 5 (some 12) (bm 27 63) (any_of HT_.out (by kernel_rfl)) ?_
   refine pn_ 6 (some 13) (bm 27 127) (any_of HT_.out (by kernel_rfl)) ?_
   refine pn_ 7 (some 14) (bm 27 255) (any_of HT_.out (by kernel_rfl)) ?_
   refine pn_ 8 (some 15) (bm 27 511) (any_of HT_.out (by kernel_rfl)) ?_
   refine pn_ 9 (some 16) (bm 27 1023) (any_of HT_.out (by kernel_rfl)) ?_
   refine pu_ 10 (some 17) (bm 27 2047) (any_of HT_.out (by kernel_rfl)) ?_
   refine pu_ 11 (some 18) (bm 27 4095) (any_of HT_.out (by kernel_rfl)) ?_
   refine pn_ 12 (some 19) (bm 27 8191) (any_of HT_.out (by kernel_rfl)) ?_
   refine pn_ 13 (some 20) (bm 27 16383) (any_of HT_.out (by kernel_rfl)) ?_
   refine pn_ 14 (some 21) (bm 27 32767) (any_of HT_.out (by kernel_rfl)) ?_
   refine pn_ 15 (some 22) (bm 27 65535) (any_of HT_.out (by kernel_rfl)) ?_
   refine pn_ 16 (some 23) (bm 27 131071) (any_of HT_.out (by kernel_rfl)) ?_
   refine pn_ 17 (some 24) (bm 27 262143) (any_of HT_.out (by kernel_rfl)) ?_
   refine pu_ 18 (some 25) (bm 27 524287) (any_of HT_.out (by kernel_rfl)) ?_
   refine pu_ 19 (some 26) (bm 27 1048575) (any_of HT_.out (by kernel_rfl)) ?_
   refine pn_ 20 (some 27) (bm 27 2097151) (any_of HT_.out (by kernel_rfl)) ?_
   refine pn_ 21 (some 28) (bm 27 4194303) (any_of HT_.out (by kernel_rfl)) ?_
   refine pn_ 22 (some 29) (bm 27 8388607) (any_of HT_.out (by kernel_rfl)) ?_
   refine pn_ 23 (some 30) (bm 27 16777215) (any_of HT_.out (by kernel_rfl)) ?_
   refine pn_ 24 (some 31) (bm 27 33554431) (any_of HT_.out (by kernel_rfl)) ?_
   refine pn_ 25 (some 32) (bm 27 67108863) (any_of HT_.out (by kernel_rfl)) ?_
   refine pu_ 26 (some 33) (bm 27 134217727) (any_of HT_.out (by kernel_rfl)) ?_
   refine done_ (done_of HT_.out (by kernel_rfl)) ?_
   try go_wp2
   go_meet
   case rel => exact ⟨_, (true), q142t, H', ⟨by first | omega | exact Nat.le_refl _⟩, ⟨qbk BK242⟩, ⟨qbk BK243⟩, ⟨by repeat (first | (with_reducible first | exact HB.out | apply below_alloc | apply pw_below_drewN | apply below_drew1 | refine below_set ?_ GE242.out | refine below_set ?_ GE243.out) | exact HB.out)⟩⟩
  subst c7
  rw [if_pos rfl] at H
  replace H := Option.bind_eq_some_iff.mp H
  obtain ⟨t245, A80, H⟩ := H
  try dsimp only at H
  have A8 := Aside0.mk A80
  clear A80
  by_cases c9 : (l1_0.length : Int) = t245
  ·rw [if_pos c9] at H
   have c9b0 : ((l1_0.length : Int) == t245) = true := beq_iff_eq.mpr c9
   have c9b1 : ((l1_0.length : Int) != t245) = false := bne_eq_false_iff_eq.mpr c9
   clear c9
   (first | rw [c9b0] | (simp only [i64_w, i32_w]; rw [c9b0]) | skip)
   by_cases c10 : (l1_1.length : Int) = a0_0
   ·rw [if_pos c10] at H
    have c10b0 : ((l1_1.length : Int) == a0_0) = true := beq_iff_eq.mpr c10
    have c10b1 : ((l1_1.length : Int) != a0_0) = false := bne_eq_false_iff_eq.mpr c10
    clear c10
    have H' := Aside0.mk H
    clear H
    try go_wp2
    (try (rw [drewN_self w5]; generalize hq_ : World.drewN w5 _ = w5; have hh_ := congrArg World.heap hq_; dsimp only [World.drewN] at hh_; have zb_ : Below w.heap.size w w5 := (by rw [← hq_]; exact pw_below_drewN HB.out _); have z_ := BK242.out; rw [hh_] at z_; clear BK242; have BK242 := Aside0.mk z_; clear z_; have z_ := BK243.out; rw [hh_] at z_; clear BK243; have BK243 := Aside0.mk z_; clear z_; clear HB; have HB := Aside0.mk zb_; clear zb_ hh_ hq_))
    replace BK242 := Aside0.mk (blk_drew BK242.out)
    replace BK243 := Aside0.mk (blk_drew BK243.out)
    replace HB := Aside0.mk (below_drew1 HB.out)
    refine start_ (n := 27) (S := fun w' => w'.cell? ⟨gb242, 0, none⟩ = some (.int .i64 a0_0) ∧ w'.cell? ⟨gb242, 1, none⟩ = some (.int .i64 a0_1) ∧ w'.cell? ⟨gb242, 2, none⟩ = some (.int .i64 a0_2) ∧ w'.cell? ⟨gb242, 3, none⟩ = some (.int .i64 a0_3) ∧ w'.cell? ⟨gb242, 4, none⟩ = some (.int .i64 a0_4) ∧ w'.cell? ⟨gb242, 5, none⟩ = some (.int .i64 a0_5) ∧ w'.cell? ⟨gb243, 0, none⟩ = some (.slice A1_0 l1_0.length c1_0) ∧ w'.cell? ⟨gb243, 1, none⟩ = some (.slice A1_1 l1_1.length c1_1) ∧ w'.cell? ⟨gb243, 2, none⟩ = some (.slice A1_2 l1_2.length c1_2)) (ds := []) (bm 27 0) (by kernel_rfl) rfl (by kernel_rfl) ⟨(blk_cell BK242.out 0).trans rfl, (blk_cell BK242.out 1).trans rfl, (blk_cell BK242.out 2).trans rfl, (blk_cell BK242.out 3).trans rfl, (blk_cell BK242.out 4).trans rfl, (blk_cell BK242.out 5).trans rfl, (blk_cell BK243.out 0).trans rfl, (blk_cell BK243.out 1).trans rfl, (blk_cell BK243.out 2).trans rfl⟩ (fun hHeld => ?_); refine with_tabW impl_PoolOk.tab1 impl_PoolOk.bits1 (fun HT_ HW_ => ?_)
    generalize w5.drew = w11 at BK242 BK243 HB hHeld ⊢
    refine take_ (i := 0) (N := some 7) (v := ?_) (a' := ?_) (bm 27 1) rfl rfl (take_ofW HT_.out HW_.out (by kernel_rfl)) (fun _ _ _ h => h) (Or.inl ⟨by rfl, ?_⟩) hHeld ?_ ?_
    rotate_left
    ·rintro w' ⟨s0, s1, s2, s3, s4, s5, s6, s7, s8⟩
     go_simp
     with_reducible rfl
    rotate_left
    ·simp only [Act.put, List.setIfInBounds_toArray, List.set_cons_zero, List.set_cons_succ, i64_w, i32_w]
     rfl
    refine one_ (i := 1) (N := some 8) (bm 27 3) rfl rfl (one_of HT_.out (by kernel_rfl)) q144t (fun K hK => ?_)
    refine goes_ Try.func37 (by kernel_rfl) rfl #[.agg #[.int .i64 a0_0, .int .i64 a0_1, .int .i64 a0_2, .int .i64 a0_3, .int .i64 a0_4, .int .i64 a0_5]] (by rfl) rfl rfl q97t ?_
    with_reducible refine (impl_ConfOk.calls a0_0 a0_1 a0_2 a0_3 a0_4 a0_5 true _ A6.out).mono ?_
    rintro e w12 ⟨rfl, hb⟩
    refine ⟨_, rfl, ?_⟩
    replace BK242 := blb BK242 hb
    replace BK243 := blb BK243 hb
    replace HB := Aside0.mk (below_step q60t hb)
    (try clear hb)
    (try clear hb2)
    (try clear hk)
    (try clear hi)
    refine hK.out _ _ q21t (fun hHeld => ?_)
    clear hK K
    refine norm_ (a' := ?_) ?_ ?_
    rotate_left
    ·show Act.put _ (some 8) _ = _
     simp only [Act.put, List.setIfInBounds_toArray, List.set_cons_zero, List.set_cons_succ, i64_w, i32_w]
     rfl
    refine pu_ 2 (some 9) (bm 27 7) (any_of HT_.out (by kernel_rfl)) ?_
    refine pu_ 3 (some 10) (bm 27 15) (any_of HT_.out (by kernel_rfl)) ?_
    refine pu_ 4 (some 11) (bm 27 31) (any_of HT_.out (by kernel_rfl)) ?_
    refine take_ (i := 5) (N := some 12) (v := ?_) (a' := ?_) (bm 27 63) rfl rfl (take_ofW HT_.out HW_.out (by kernel_rfl)) (fun _ _ _ h => h) (Or.inl ⟨by rfl, ?_⟩) hHeld ?_ ?_
    rotate_left
    ·rintro w' ⟨s0, s1, s2, s3, s4, s5, s6, s7, s8⟩
     go_simp
     with_reducible rfl
    rotate_left
    ·simp only [Act.put, List.setIfInBounds_toArray, List.set_cons_zero, List.set_cons_succ, i64_w, i32_w]
     rfl
    refine pu_ 6 (some 13) (bm 27 127) (any_of HT_.out (by kernel_rfl)) ?_
    refine take_ (i := 7) (N := some 14) (v := ?_) (a' := ?_) (bm 27 255) rfl rfl (take_ofW HT_.out HW_.out (by kernel_rfl)) (fun _ _ _ h => h) (Or.inl ⟨by rfl, ?_⟩) hHeld ?_ ?_
    rotate_left
    ·rintro w' ⟨s0, s1, s2, s3, s4, s5, s6, s7, s8⟩
     go_simp
     with_reducible rfl
    rotate_left
    ·simp only [Act.put, List.setIfInBounds_toArray, List.set_cons_zero, List.set_cons_succ, i64_w, i32_w]
     rfl
    refine one_ (i := 8) (N := some 15) (bm 27 511) rfl rfl (one_of HT_.out (by kernel_rfl)) q144t (fun K hK => ?_)
    refine goes_ Try.func38 (by kernel_rfl) rfl #[.agg #[.int .i64 a0_0, .int .i64 a0_1, .int .i64 a0_2, .int .i64 a0_3, .int .i64 a0_4, .int .i64 a0_5]] (by rfl) rfl rfl q97t ?_
    with_reducible refine (impl_BytesOf.calls a0_0 a0_1 a0_2 a0_3 a0_4 a0_5 t245 _ A8.out).mono ?_
    rintro e w13 ⟨rfl, hb⟩
    refine ⟨_, rfl, ?_⟩
    replace BK242 := blb BK242 hb
    replace BK243 := blb BK243 hb
    replace HB := Aside0.mk (below_step q60t hb)
    (try clear hb)
    (try clear hb2)
    (try clear hk)
    (try clear hi)
    refine hK.out _ _ q21t (fun hHeld => ?_)
    clear hK K
    refine norm_ (a' := ?_) ?_ ?_
    rotate_left
    ·show Act.put _ (some 15) _ = _
     simp only [Act.put, List.setIfInBounds_toArray, List.set_cons_zero, List.set_cons_succ, i64_w, i32_w]
     rfl
    refine pu_ 9 (some 16) (bm 27 1023) (any_of HT_.out (by kernel_rfl)) ?_
    refine pu_ 10 (some 17) (bm 27 2047) (any_of HT_.out (by kernel_rfl)) ?_
    refine pu_ 11 (some 18) (bm 27 4095) (any_of HT_.out (by kernel_rfl)) ?_
    refine pu_ 12 (some 19) (bm 27 8191) (any_of HT_.out (by kernel_rfl)) ?_
    refine pu_ 15 (some 22) (bm 27 40959) (any_of HT_.out (by kernel_rfl)) ?_
    refine take_ (i := 13) (N := some 20) (v := ?_) (a' := ?_) (bm 27 49151) rfl rfl (take_ofW HT_.out HW_.out (by kernel_rfl)) (fun _ _ _ h => h) (Or.inl ⟨by rfl, ?_⟩) hHeld ?_ ?_
    rotate_left
    ·rintro w' ⟨s0, s1, s2, s3, s4, s5, s6, s7, s8⟩
     go_simp
     with_reducible rfl
    rotate_left
    ·simp only [Act.put, List.setIfInBounds_toArray, List.set_cons_zero, List.set_cons_succ, i64_w, i32_w]
     rfl
    refine pu_ 14 (some 21) (bm 27 65535) (any_of HT_.out (by kernel_rfl)) ?_
    refine take_ (i := 16) (N := some 23) (v := ?_) (a' := ?_) (bm 27 131071) rfl rfl (take_ofW HT_.out HW_.out (by kernel_rfl)) (fun _ _ _ h => h) (Or.inl ⟨by rfl, ?_⟩) hHeld ?_ ?_
    rotate_left
    ·rintro w' ⟨s0, s1, s2, s3, s4, s5, s6, s7, s8⟩
     go_simp
     with_reducible rfl
    rotate_left
    ·simp only [Act.put, List.setIfInBounds_toArray, List.set_cons_zero, List.set_cons_succ, i64_w, i32_w]
     rfl
    refine pu_ 17 (some 24) (bm 27 262143) (any_of HT_.out (by kernel_rfl)) ?_
    refine pu_ 18 (some 25) (bm 27 524287) (any_of HT_.out (by kernel_rfl)) ?_
    refine pu_ 19 (some 26) (bm 27 1048575) (any_of HT_.out (by kernel_rfl)) ?_
    refine pu_ 20 (some 27) (bm 27 2097151) (any_of HT_.out (by kernel_rfl)) ?_
    refine pu_ 23 (some 30) (bm 27 10485759) (any_of HT_.out (by kernel_rfl)) ?_
    refine take_ (i := 21) (N := some 28) (v := ?_) (a' := ?_) (bm 27 12582911) rfl rfl (take_ofW HT_.out HW_.out (by kernel_rfl)) (fun _ _ _ h => h) (Or.inl ⟨by rfl, ?_⟩) hHeld ?_ ?_
    rotate_left
    ·rintro w' ⟨s0, s1, s2, s3, s4, s5, s6, s7, s8⟩
     go_simp
     with_reducible rfl
    rotate_left
    ·simp only [Act.put, List.setIfInBounds_toArray, List.set_cons_zero, List.set_cons_succ, i64_w, i32_w]
     rfl
    refine pu_ 22 (some 29) (bm 27 16777215) (any_of HT_.out (by kernel_rfl)) ?_
    refine take_ (i := 24) (N := some 31) (v := ?_) (a' := ?_) (bm 27 33554431) rfl rfl (take_ofW HT_.out HW_.out (by kernel_rfl)) (fun _ _ _ h => h) (Or.inl ⟨by rfl, ?_⟩) hHeld ?_ ?_
    rotate_left
    ·rintro w' ⟨s0, s1, s2, s3, s4, s5, s6, s7, s8⟩
     go_simp
     with_reducible rfl
    rotate_left
    ·simp only [Act.put, List.setIfInBounds_toArray, List.set_cons_zero, List.set_cons_succ, i64_w, i32_w]
     rfl
    refine pu_ 25 (some 32) (bm 27 67108863) (any_of HT_.out (by kernel_rfl)) ?_
    refine pu_ 26 (some 33) (bm 27 134217727) (any_of HT_.out (by kernel_rfl)) ?_
    refine done_ (done_of HT_.out (by kernel_rfl)) ?_
    try go_wp2
    go_meet
    case rel => exact ⟨_, (((l1_2.length : Int) != a0_0)), q142t, H', ⟨by first | omega | exact Nat.le_refl _⟩, ⟨qbk BK242⟩, ⟨qbk BK243⟩, ⟨by repeat (first | (with_reducible first | exact HB.out | apply below_alloc | apply pw_below_drewN | apply below_drew1 | refine below_set ?_ GE242.out | refine below_set ?_ GE243.out) | exact HB.out)⟩⟩
   rw [if_neg c10] at H
   have c10b0 : ((l1_1.length : Int) == a0_0) = false := beq_eq_false_iff_ne.mpr c10
   have c10b1 : ((l1_1.length : Int) != a0_0) = true := bne_iff_ne.mpr c10
   have H' := Aside0.mk H
   clear H
   try go_wp2
   (try (rw [drewN_self w5]; generalize hq_ : World.drewN w5 _ = w5; have hh_ := congrArg World.heap hq_; dsimp only [World.drewN] at hh_; have zb_ : Below w.heap.size w w5 := (by rw [← hq_]; exact pw_below_drewN HB.out _); have z_ := BK242.out; rw [hh_] at z_; clear BK242; have BK242 := Aside0.mk z_; clear z_; have z_ := BK243.out; rw [hh_] at z_; clear BK243; have BK243 := Aside0.mk z_; clear z_; clear HB; have HB := Aside0.mk zb_; clear zb_ hh_ hq_))
   replace BK242 := Aside0.mk (blk_drew BK242.out)
   replace BK243 := Aside0.mk (blk_drew BK243.out)
   replace HB := Aside0.mk (below_drew1 HB.out)
   refine start_ (n := 27) (S := fun w' => w'.cell? ⟨gb242, 0, none⟩ = some (.int .i64 a0_0) ∧ w'.cell? ⟨gb242, 1, none⟩ = some (.int .i64 a0_1) ∧ w'.cell? ⟨gb242, 2, none⟩ = some (.int .i64 a0_2) ∧ w'.cell? ⟨gb242, 3, none⟩ = some (.int .i64 a0_3) ∧ w'.cell? ⟨gb242, 4, none⟩ = some (.int .i64 a0_4) ∧ w'.cell? ⟨gb242, 5, none⟩ = some (.int .i64 a0_5) ∧ w'.cell? ⟨gb243, 0, none⟩ = some (.slice A1_0 l1_0.length c1_0) ∧ w'.cell? ⟨gb243, 1, none⟩ = some (.slice A1_1 l1_1.length c1_1) ∧ w'.cell? ⟨gb243, 2, none⟩ = some (.slice A1_2 l1_2.length c1_2)) (ds := []) (bm 27 0) (by kernel_rfl) rfl (by kernel_rfl) ⟨(blk_cell BK242.out 0).trans rfl, (blk_cell BK242.out 1).trans rfl, (blk_cell BK242.out 2).trans rfl, (blk_cell BK242.out 3).trans rfl, (blk_cell BK242.out 4).trans rfl, (blk_cell BK242.out 5).trans rfl, (blk_cell BK243.out 0).trans rfl, (blk_cell BK243.out 1).trans rfl, (blk_cell BK243.out 2).trans rfl⟩ (fun hHeld => ?_); refine with_tabW impl_PoolOk.tab1 impl_PoolOk.bits1 (fun HT_ HW_ => ?_)
   generalize w5.drew = w14 at BK242 BK243 HB hHeld ⊢
   refine take_ (i := 0) (N := some 7) (v := ?_) (a' := ?_) (bm 27 1) rfl rfl (take_ofW HT_.out HW_.out (by kernel_rfl)) (fun _ _ _ h => h) (Or.inl ⟨by rfl, ?_⟩) hHeld ?_ ?_
   rotate_left
   ·rintro w' ⟨s0, s1, s2, s3, s4, s5, s6, s7, s8⟩
    go_simp
    with_reducible rfl
   rotate_left
   ·simp only [Act.put, List.setIfInBounds_toArray, List.set_cons_zero, List.set_cons_succ, i64_w, i32_w]
    rfl
   refine one_ (i := 1) (N := some 8) (bm 27 3) rfl rfl (one_of HT_.out (by kernel_rfl)) q144t (fun K hK => ?_)
   refine goes_ Try.func37 (by kernel_rfl) rfl #[.agg #[.int .i64 a0_0, .int .i64 a0_1, .int .i64 a0_2, .int .i64 a0_3, .int .i64 a0_4, .int .i64 a0_5]] (by rfl) rfl rfl q97t ?_
   with_reducible refine (impl_ConfOk.calls a0_0 a0_1 a0_2 a0_3 a0_4 a0_5 true _ A6.out).mono ?_
   rintro e w15 ⟨rfl, hb⟩
   refine ⟨_, rfl, ?_⟩
   replace BK242 := blb BK242 hb
   replace BK243 := blb BK243 hb
   replace HB := Aside0.mk (below_step q60t hb)
   (try clear hb)
   (try clear hb2)
   (try clear hk)
   (try clear hi)
   refine hK.out _ _ q21t (fun hHeld => ?_)
   clear hK K
   refine norm_ (a' := ?_) ?_ ?_
   rotate_left
   ·show Act.put _ (some 8) _ = _
    simp only [Act.put, List.setIfInBounds_toArray, List.set_cons_zero, List.set_cons_succ, i64_w, i32_w]
    rfl
   refine pu_ 2 (some 9) (bm 27 7) (any_of HT_.out (by kernel_rfl)) ?_
   refine pu_ 3 (some 10) (bm 27 15) (any_of HT_.out (by kernel_rfl)) ?_
   refine pu_ 4 (some 11) (bm 27 31) (any_of HT_.out (by kernel_rfl)) ?_
   refine take_ (i := 5) (N := some 12) (v := ?_) (a' := ?_) (bm 27 63) rfl rfl (take_ofW HT_.out HW_.out (by kernel_rfl)) (fun _ _ _ h => h) (Or.inl ⟨by rfl, ?_⟩) hHeld ?_ ?_
   rotate_left
   ·rintro w' ⟨s0, s1, s2, s3, s4, s5, s6, s7, s8⟩
    go_simp
    with_reducible rfl
   rotate_left
   ·simp only [Act.put, List.setIfInBounds_toArray, List.set_cons_zero, List.set_cons_succ, i64_w, i32_w]
    rfl
   refine pu_ 6 (some 13) (bm 27 127) (any_of HT_.out (by kernel_rfl)) ?_
   refine take_ (i := 7) (N := some 14) (v := ?_) (a' := ?_) (bm 27 255) rfl rfl (take_ofW HT_.out HW_.out (by kernel_rfl)) (fun _ _ _ h => h) (Or.inl ⟨by rfl, ?_⟩) hHeld ?_ ?_
   rotate_left
   ·rintro w' ⟨s0, s1, s2, s3, s4, s5, s6, s7, s8⟩
    go_simp
    with_reducible rfl
   rotate_left
   ·simp only [Act.put, List.setIfInBounds_toArray, List.set_cons_zero, List.set_cons_succ, i64_w, i32_w]
    rfl
   refine one_ (i := 8) (N := some 15) (bm 27 511) rfl rfl (one_of HT_.out (by kernel_rfl)) q144t (fun K hK => ?_)
   refine goes_ Try.func38 (by kernel_rfl) rfl #[.agg #[.int .i64 a0_0, .int .i64 a0_1, .int .i64 a0_2, .int .i64 a0_3, .int .i64 a0_4, .int .i64 a0_5]] (by rfl) rfl rfl q97t ?_
   with_reducible refine (impl_BytesOf.calls a0_0 a0_1 a0_2 a0_3 a0_4 a0_5 t245 _ A8.out).mono ?_
   rintro e w16 ⟨rfl, hb⟩
   refine ⟨_, rfl, ?_⟩
   replace BK242 := blb BK242 hb
   replace BK243 := blb BK243 hb
   replace HB := Aside0.mk (below_step q60t hb)
   (try clear hb)
   (try clear hb2)
   (try clear hk)
   (try clear hi)
   refine hK.out _ _ q21t (fun hHeld => ?_)
   clear hK K
   refine norm_ (a' := ?_) ?_ ?_
   rotate_left
   ·show Act.put _ (some 15) _ = _
    simp only [Act.put, List.setIfInBounds_toArray, List.set_cons_zero, List.set_cons_succ, i64_w, i32_w]
    rfl
   refine pu_ 9 (some 16) (bm 27 1023) (any_of HT_.out (by kernel_rfl)) ?_
   refine pu_ 10 (some 17) (bm 27 2047) (any_of HT_.out (by kernel_rfl)) ?_
   refine pu_ 11 (some 18) (bm 27 4095) (any_of HT_.out (by kernel_rfl)) ?_
   refine pu_ 12 (some 19) (bm 27 8191) (any_of HT_.out (by kernel_rfl)) ?_
   refine pu_ 15 (some 22) (bm 27 40959) (any_of HT_.out (by kernel_rfl)) ?_
   refine take_ (i := 13) (N := some 20) (v := ?_) (a' := ?_) (bm 27 49151) rfl rfl (take_ofW HT_.out HW_.out (by kernel_rfl)) (fun _ _ _ h => h) (Or.inl ⟨by rfl, ?_⟩) hHeld ?_ ?_
   rotate_left
   ·rintro w' ⟨s0, s1, s2, s3, s4, s5, s6, s7, s8⟩
    go_simp
    with_reducible rfl
   rotate_left
   ·simp only [Act.put, List.setIfInBounds_toArray, List.set_cons_zero, List.set_cons_succ, i64_w, i32_w]
    rfl
   refine pu_ 14 (some 21) (bm 27 65535) (any_of HT_.out (by kernel_rfl)) ?_
   refine take_ (i := 16) (N := some 23) (v := ?_) (a' := ?_) (bm 27 131071) rfl rfl (take_ofW HT_.out HW_.out (by kernel_rfl)) (fun _ _ _ h => h) (Or.inl ⟨by rfl, ?_⟩) hHeld ?_ ?_
   rotate_left
   ·rintro w' ⟨s0, s1, s2, s3, s4, s5, s6, s7, s8⟩
    go_simp
    with_reducible rfl
   rotate_left
   ·simp only [Act.put, List.setIfInBounds_toArray, List.set_cons_zero, List.set_cons_succ, i64_w, i32_w]
    rfl
   refine pu_ 17 (some 24) (bm 27 262143) (any_of HT_.out (by kernel_rfl)) ?_
   refine pu_ 18 (some 25) (bm 27 524287) (any_of HT_.out (by kernel_rfl)) ?_
   refine pu_ 19 (some 26) (bm 27 1048575) (any_of HT_.out (by kernel_rfl)) ?_
   refine pn_ 20 (some 27) (bm 27 2097151) (any_of HT_.out (by kernel_rfl)) ?_
   refine pn_ 21 (some 28) (bm 27 4194303) (any_of HT_.out (by kernel_rfl)) ?_
   refine pn_ 22 (some 29) (bm 27 8388607) (any_of HT_.out (by kernel_rfl)) ?_
   refine pn_ 23 (some 30) (bm 27 16777215) (any_of HT_.out (by kernel_rfl)) ?_
   refine pn_ 24 (some 31) (bm 27 33554431) (any_of HT_.out (by kernel_rfl)) ?_
   refine pn_ 25 (some 32) (bm 27 67108863) (any_of HT_.out (by kernel_rfl)) ?_
   refine pu_ 26 (some 33) (bm 27 134217727) (any_of HT_.out (by kernel_rfl)) ?_
   refine done_ (done_of HT_.out (by kernel_rfl)) ?_
   try go_wp2
   go_meet
   case rel => exact ⟨_, (true), q142t, H', ⟨by first | omega | exact Nat.le_refl _⟩, ⟨qbk BK242⟩, ⟨qbk BK243⟩, ⟨by repeat (first | (with_reducible first | exact HB.out | apply below_alloc | apply pw_below_drewN | apply below_drew1 | refine below_set ?_ GE242.out | refine below_set ?_ GE243.out) | exact HB.out)⟩⟩
  rw [if_neg c9] at H
  have c9b0 : ((l1_0.length : Int) == t245) = false := beq_eq_false_iff_ne.mpr c9
  have c9b1 : ((l1_0.length : Int) != t245) = true := bne_iff_ne.mpr c9
  (first | rw [c9b0] | (simp only [i64_w, i32_w]; rw [c9b0]) | skip)
  have H' := Aside0.mk H
  clear H
  try go_wp2
  (try (rw [drewN_self w5]; generalize hq_ : World.drewN w5 _ = w5; have hh_ := congrArg World.heap hq_; dsimp only [World.drewN] at hh_; have zb_ : Below w.heap.size w w5 := (by rw [← hq_]; exact pw_below_drewN HB.out _); have z_ := BK242.out; rw [hh_] at z_; clear BK242; have BK242 := Aside0.mk z_; clear z_; have z_ := BK243.out; rw [hh_] at z_; clear BK243; have BK243 := Aside0.mk z_; clear z_; clear HB; have HB := Aside0.mk zb_; clear zb_ hh_ hq_))
  replace BK242 := Aside0.mk (blk_drew BK242.out)
  replace BK243 := Aside0.mk (blk_drew BK243.out)
  replace HB := Aside0.mk (below_drew1 HB.out)
  refine start_ (n := 27) (S := fun w' => w'.cell? ⟨gb242, 0, none⟩ = some (.int .i64 a0_0) ∧ w'.cell? ⟨gb242, 1, none⟩ = some (.int .i64 a0_1) ∧ w'.cell? ⟨gb242, 2, none⟩ = some (.int .i64 a0_2) ∧ w'.cell? ⟨gb242, 3, none⟩ = some (.int .i64 a0_3) ∧ w'.cell? ⟨gb242, 4, none⟩ = some (.int .i64 a0_4) ∧ w'.cell? ⟨gb242, 5, none⟩ = some (.int .i64 a0_5) ∧ w'.cell? ⟨gb243, 0, none⟩ = some (.slice A1_0 l1_0.length c1_0) ∧ w'.cell? ⟨gb243, 1, none⟩ = some (.slice A1_1 l1_1.length c1_1) ∧ w'.cell? ⟨gb243, 2, none⟩ = some (.slice A1_2 l1_2.length c1_2)) (ds := []) (bm 27 0) (by kernel_rfl) rfl (by kernel_rfl) ⟨(blk_cell BK242.out 0).trans rfl, (blk_cell BK242.out 1).trans rfl, (blk_cell BK242.out 2).trans rfl, (blk_cell BK242.out 3).trans rfl, (blk_cell BK242.out 4).trans rfl, (blk_cell BK242.out 5).trans rfl, (blk_cell BK243.out 0).trans rfl, (blk_cell BK243.out 1).trans rfl, (blk_cell BK243.out 2).trans rfl⟩ (fun hHeld => ?_); refine with_tabW impl_PoolOk.tab1 impl_PoolOk.bits1 (fun HT_ HW_ => ?_)
  generalize w5.drew = w17 at BK242 BK243 HB hHeld ⊢
  refine take_ (i := 0) (N := some 7) (v := ?_) (a' := ?_) (bm 27 1) rfl rfl (take_ofW HT_.out HW_.out (by kernel_rfl)) (fun _ _ _ h => h) (Or.inl ⟨by rfl, ?_⟩) hHeld ?_ ?_
  rotate_left
  ·rintro w' ⟨s0, s1, s2, s3, s4, s5, s6, s7, s8⟩
   go_simp
   with_reducible rfl
  rotate_left
  ·simp only [Act.put, List.setIfInBounds_toArray, List.set_cons_zero, List.set_cons_succ, i64_w, i32_w]
   rfl
  refine one_ (i := 1) (N := some 8) (bm 27 3) rfl rfl (one_of HT_.out (by kernel_rfl)) q144t (fun K hK => ?_)
  refine goes_ Try.func37 (by kernel_rfl) rfl #[.agg #[.int .i64 a0_0, .int .i64 a0_1, .int .i64 a0_2, .int .i64 a0_3, .int .i64 a0_4, .int .i64 a0_5]] (by rfl) rfl rfl q97t ?_
  with_reducible refine (impl_ConfOk.calls a0_0 a0_1 a0_2 a0_3 a0_4 a0_5 true _ A6.out).mono ?_
  rintro e w18 ⟨rfl, hb⟩
  refine ⟨_, rfl, ?_⟩
  replace BK242 := blb BK242 hb
  replace BK243 := blb BK243 hb
  replace HB := Aside0.mk (below_step q60t hb)
  (try clear hb)
  (try clear hb2)
  (try clear hk)
  (try clear hi)
  refine hK.out _ _ q21t (fun hHeld => ?_)
  clear hK K
  refine norm_ (a' := ?_) ?_ ?_
  rotate_left
  ·show Act.put _ (some 8) _ = _
   simp only [Act.put, List.setIfInBounds_toArray, List.set_cons_zero, List.set_cons_succ, i64_w, i32_w]
   rfl
  refine pu_ 2 (some 9) (bm 27 7) (any_of HT_.out (by kernel_rfl)) ?_
  refine pu_ 3 (some 10) (bm 27 15) (any_of HT_.out (by kernel_rfl)) ?_
  refine pu_ 4 (some 11) (bm 27 31) (any_of HT_.out (by kernel_rfl)) ?_
  refine take_ (i := 5) (N := some 12) (v := ?_) (a' := ?_) (bm 27 63) rfl rfl (take_ofW HT_.out HW_.out (by kernel_rfl)) (fun _ _ _ h => h) (Or.inl ⟨by rfl, ?_⟩) hHeld ?_ ?_
  rotate_left
  ·rintro w' ⟨s0, s1, s2, s3, s4, s5, s6, s7, s8⟩
   go_simp
   with_reducible rfl
  rotate_left
  ·simp only [Act.put, List.setIfInBounds_toArray, List.set_cons_zero, List.set_cons_succ, i64_w, i32_w]
   rfl
  refine pu_ 6 (some 13) (bm 27 127) (any_of HT_.out (by kernel_rfl)) ?_
  refine take_ (i := 7) (N := some 14) (v := ?_) (a' := ?_) (bm 27 255) rfl rfl (take_ofW HT_.out HW_.out (by kernel_rfl)) (fun _ _ _ h => h) (Or.inl ⟨by rfl, ?_⟩) hHeld ?_ ?_
  rotate_left
  ·rintro w' ⟨s0, s1, s2, s3, s4, s5, s6, s7, s8⟩
   go_simp
   with_reducible rfl
  rotate_left
  ·simp only [Act.put, List.setIfInBounds_toArray, List.set_cons_zero, List.set_cons_succ, i64_w, i32_w]
   rfl
  refine one_ (i := 8) (N := some 15) (bm 27 511) rfl rfl (one_of HT_.out (by kernel_rfl)) q144t (fun K hK => ?_)
  refine goes_ Try.func38 (by kernel_rfl) rfl #[.agg #[.int .i64 a0_0, .int .i64 a0_1, .int .i64 a0_2, .int .i64 a0_3, .int .i64 a0_4, .int .i64 a0_5]] (by rfl) rfl rfl q97t ?_
  with_reducible refine (impl_BytesOf.calls a0_0 a0_1 a0_2 a0_3 a0_4 a0_5 t245 _ A8.out).mono ?_
  rintro e w19 ⟨rfl, hb⟩
  refine ⟨_, rfl, ?_⟩
  replace BK242 := blb BK242 hb
  replace BK243 := blb BK243 hb
  replace HB := Aside0.mk (below_step q60t hb)
  (try clear hb)
  (try clear hb2)
  (try clear hk)
  (try clear hi)
  refine hK.out _ _ q21t (fun hHeld => ?_)
  clear hK K
  refine norm_ (a' := ?_) ?_ ?_
  rotate_left
  ·show Act.put _ (some 15) _ = _
   simp only [Act.put, List.setIfInBounds_toArray, List.set_cons_zero, List.set_cons_succ, i64_w, i32_w]
   rfl
  refine pu_ 9 (some 16) (bm 27 1023) (any_of HT_.out (by kernel_rfl)) ?_
  refine pu_ 10 (some 17) (bm 27 2047) (any_of HT_.out (by kernel_rfl)) ?_
  refine pu_ 11 (some 18) (bm 27 4095) (any_of HT_.out (by kernel_rfl)) ?_
  refine pn_ 12 (some 19) (bm 27 8191) (any_of HT_.out (by kernel_rfl)) ?_
  refine pn_ 13 (some 20) (bm 27 16383) (any_of HT_.out (by kernel_rfl)) ?_
  refine pn_ 14 (some 21) (bm 27 32767) (any_of HT_.out (by kernel_rfl)) ?_
  refine pn_ 15 (some 22) (bm 27 65535) (any_of HT_.out (by kernel_rfl)) ?_
  refine pn_ 16 (some 23) (bm 27 131071) (any_of HT_.out (by kernel_rfl)) ?_
  refine pn_ 17 (some 24) (bm 27 262143) (any_of HT_.out (by kernel_rfl)) ?_
  refine pu_ 18 (some 25) (bm 27 524287) (any_of HT_.out (by kernel_rfl)) ?_
  refine pu_ 19 (some 26) (bm 27 1048575) (any_of HT_.out (by kernel_rfl)) ?_
  refine pn_ 20 (some 27) (bm 27 2097151) (any_of HT_.out (by kernel_rfl)) ?_
  refine pn_ 21 (some 28) (bm 27 4194303) (any_of HT_.out (by kernel_rfl)) ?_
  refine pn_ 22 (some 29) (bm 27 8388607) (any_of HT_.out (by kernel_rfl)) ?_
  refine pn_ 23 (some 30) (bm 27 16777215) (any_of HT_.out (by kernel_rfl)) ?_
  refine pn_ 24 (some 31) (bm 27 33554431) (any_of HT_.out (by kernel_rfl)) ?_
  refine pn_ 25 (some 32) (bm 27 67108863) (any_of HT_.out (by kernel_rfl)) ?_
  refine pu_ 26 (some 33) (bm 27 134217727) (any_of HT_.out (by kernel_rfl)) ?_
  refine done_ (done_of HT_.out (by kernel_rfl)) ?_
  try go_wp2
  go_meet
  case rel => exact ⟨_, (true), q142t, H', ⟨by first | omega | exact Nat.le_refl _⟩, ⟨qbk BK242⟩, ⟨qbk BK243⟩, ⟨by repeat (first | (with_reducible first | exact HB.out | apply below_alloc | apply pw_below_drewN | apply below_drew1 | refine below_set ?_ GE242.out | refine below_set ?_ GE243.out) | exact HB.out)⟩⟩
 case rest =>
  clear HC3
  try clear c1
  try clear p2
  try clear c3
  try clear c7
  try clear c9
  try clear c9b0
  try clear c9b1
  obtain ⟨kq, x33_2, rfl, HA, HJ2, BK242, BK243, HB⟩ := hcut
  cases kq with
  | zero => exact absurd HA.out (by simp [impl_PoolOk.j0])
  | succ kj2 =>
   have H := HA.out
   clear HA
   simp only [impl_PoolOk.j0] at H
   by_cases c22 : x33_2 = true
   ·subst c22
    rw [if_pos rfl] at H
    obtain rfl := Option.some.inj H
    go_wp2_with (go_at_call 26; (with_reducible refine (impl_Pool_chunk.calls (by assumption) q143t q143t).mono ?_); rintro e w' ⟨rfl, rfl⟩)
    go_ret
    exact ⟨by first | rfl | (simp [errW_none, errW_some] <;> rfl) | (simp [*, errW_none, errW_some] <;> rfl), by repeat (first | (with_reducible first | exact HB.out | apply below_alloc | apply pw_below_drewN | apply below_drew1 | refine below_set ?_ GE242.out | refine below_set ?_ GE243.out) | exact HB.out)⟩
   replace c22 := Bool.eq_false_iff.mpr c22
   subst c22
   rw [if_neg (show ¬ (false = true) by decide)] at H
   have H' := Aside0.mk H
   clear H
   have hnb23 := NB243_242.out
   have hnc23 := NB242_243.out
   obtain ⟨hcz24_0, hcz24_1, hcz24_2⟩ := qc3 BK243.out
   obtain ⟨hfz24_0, hfz24_1, hfz24_2⟩ := qf3 BK243.out
   go_wp2_with (go_at_call 26; (with_reducible refine (impl_Pool_chunk.calls (by assumption) q143t q143t).mono ?_); rintro e w' ⟨rfl, rfl⟩)
   go_loopg [37] kj2 (fun kq v37 w' => ∃ (x37_2 : Int), v37 = .int .i64 x37_2 ∧ Aside0 (impl_PoolOk.l0 kq l1_1 (l1_1.length : Int) x37_2 a0_0 a0_1 a0_2 a0_3 a0_4 a0_5 l1_0 l1_1 l1_2 = some r) ∧ Aside0 (kq ≤ kj2) ∧ Aside0 (w'.heap[gb242]? = some (.cells #[.int .i64 a0_0, .int .i64 a0_1, .int .i64 a0_2, .int .i64 a0_3, .int .i64 a0_4, .int .i64 a0_5] 32 (0, 0))) ∧ Aside0 (w'.heap[gb243]? = some (.cells #[(.slice A1_0 l1_0.length c1_0), (.slice A1_1 l1_1.length c1_1), (.slice A1_2 l1_2.length c1_2)] 29 (0, 0))) ∧ Aside0 (Below w.heap.size w w'))
   case atStart => exact ⟨(0), q142t, H', ⟨Nat.le_refl _⟩, ⟨qbk BK242⟩, ⟨qbk BK243⟩, ⟨by repeat (first | (with_reducible first | exact HB.out | apply below_alloc | apply pw_below_drewN | apply below_drew1 | refine below_set ?_ GE242.out | refine below_set ?_ GE243.out) | exact HB.out)⟩⟩
   case round =>
    clear H'
    try clear c1
    try clear c2
    try clear p2
    try clear p2
    try clear c3
    try clear c7
    try clear c9
    try clear c9b0
    try clear c9b1
    try clear c22
    try clear c23
    try clear hcz24_0 hcz24_1 hcz24_2
    try clear hfz24_0 hfz24_1 hfz24_2
    obtain ⟨x37_2, rfl, HA, HK2, BK242, BK243, HB⟩ := hrel
    cases gk with
    | zero => exact absurd HA.out (by simp [impl_PoolOk.l0])
    | succ k2 =>
     have H := HA.out
     clear HA
     simp only [impl_PoolOk.l0] at H
     by_cases c25 : x37_2 < (l1_1.length : Int)
     rotate_left
     ·rw [if_neg c25] at H
      have c25b0 : decide (x37_2 < (l1_1.length : Int)) = false := decide_eq_false c25
      clear c25
      obtain rfl := Option.some.inj H
      go_wp2_with (go_at_call 26; (with_reducible refine (impl_Pool_chunk.calls (by assumption) q143t q143t).mono ?_); rintro e w' ⟨rfl, rfl⟩)
      go_ret
      exact ⟨by first | rfl | (simp [errW_none, errW_some] <;> rfl) | (simp [*, errW_none, errW_some] <;> rfl), by repeat (first | (with_reducible first | exact HB.out | apply below_alloc | apply pw_below_drewN | apply below_drew1 | refine below_set ?_ GE242.out | refine below_set ?_ GE243.out) | exact HB.out)⟩
     rw [if_pos c25] at H
     have c25b0 : decide (x37_2 < (l1_1.length : Int)) = true := decide_eq_true c25
     clear c25
     by_cases c26 : 0 ≤ x37_2
     rotate_left
     ·rw [if_neg c26] at H
      exact absurd H q145t
     rw [if_pos c26] at H
     have c26b0 : decide (0 ≤ x37_2) = true := decide_eq_true c26
     clear c26
     by_cases c27 : x37_2 < (l1_1.length : Int)
     rotate_left
     ·rw [if_neg c27] at H
      exact absurd H q145t
     rw [if_pos c27] at H
     have c27b0 : decide (x37_2 < (l1_1.length : Int)) = true := decide_eq_true c27
     clear c27
     replace H := Option.bind_eq_some_iff.mp H
     obtain ⟨t247, A280, H⟩ := H
     try dsimp only at H
     have A28 := Aside0.mk A280
     clear A280
     by_cases c29 : t247 = true
     rotate_left
     ·replace c29 := Bool.eq_false_iff.mpr c29
      subst c29
      rw [if_neg (show ¬ (false = true) by decide)] at H
      obtain rfl := Option.some.inj H
      have p246 : 0 ≤ (x37_2 : Int) := of_decide_eq_true q133t
      have q246 : x37_2 < (l1_1.length : Int) := of_decide_eq_true q133t
      obtain ⟨ad246, e246, hx246_0⟩ := Kd.at_int HR1_1.out x37_2 p246 q246
      cases e246
      replace hx246_0 := hbt HB hx246_0
      replace p246 := eq_true p246
      replace q246 := eq_true q246
      go_wp2_with (first | (go_at_call 26; (with_reducible refine (impl_Pool_chunk.calls (by assumption) q143t q143t).mono ?_); rintro e w' ⟨rfl, rfl⟩) | ((with_reducible refine gate_callee (f := 24) rfl ?_); refine goesL_ (some 44) rfl rfl Try.func24 (by kernel_rfl) rfl #[.int .i64 (rd l1_1 x37_2), .int .i64 0, .int .i64 2] rfl q97t ?_; (with_reducible refine (impl_within.calls (rd l1_1 x37_2) 0 2 false _ A28.out).mono ?_); rintro e w' ⟨rfl, ⟨nd, rfl⟩⟩; refine ⟨_, rfl, ?_⟩))
      go_ret
      exact ⟨by first | rfl | (simp [errW_none, errW_some] <;> rfl) | (simp [*, errW_none, errW_some] <;> rfl), by repeat (first | (with_reducible first | exact HB.out | apply below_alloc | apply pw_below_drewN | apply below_drew1 | refine below_set ?_ GE242.out | refine below_set ?_ GE243.out) | exact HB.out)⟩
     subst c29
     rw [if_pos rfl] at H
     have HC30 := Aside0.mk H
     clear H
     have p246 : 0 ≤ (x37_2 : Int) := of_decide_eq_true q133t
     have q246 : x37_2 < (l1_1.length : Int) := of_decide_eq_true q133t
     obtain ⟨ad246, e246, hx246_0⟩ := Kd.at_int HR1_1.out x37_2 p246 q246
     cases e246
     replace hx246_0 := hbt HB hx246_0
     replace p246 := eq_true p246
     replace q246 := eq_true q246
     go_upto_region 8 with (first | ((with_reducible refine gate_callee (f := 24) rfl ?_); refine goesL_ (some 44) rfl rfl Try.func24 (by kernel_rfl) rfl #[.int .i64 (rd l1_1 x37_2), .int .i64 0, .int .i64 2] rfl q97t ?_; (with_reducible refine (impl_within.calls (rd l1_1 x37_2) 0 2 true _ A28.out).mono ?_); rintro e w' ⟨rfl, ⟨nd, rfl⟩⟩; refine ⟨_, rfl, ?_⟩))
     (try simp only [Act.put, List.setIfInBounds_toArray, List.set_cons_zero, List.set_cons_succ])
     go_cut [46] (fun v46 wc => ∃ (kq : Nat) (x46_29 : Bool), v46 = .bool x46_29 ∧ Aside0 (impl_PoolOk.j2 kq x37_2 (rd l1_1 x37_2) l1_1 (l1_1.length : Int) x37_2 x46_29 a0_0 a0_1 a0_2 a0_3 a0_4 a0_5 l1_0 l1_1 l1_2 = some r) ∧ Aside0 (kq ≤ k2) ∧ Aside0 (wc.heap[gb242]? = some (.cells #[.int .i64 a0_0, .int .i64 a0_1, .int .i64 a0_2, .int .i64 a0_3, .int .i64 a0_4, .int .i64 a0_5] 32 (0, 0))) ∧ Aside0 (wc.heap[gb243]? = some (.cells #[(.slice A1_0 l1_0.length c1_0), (.slice (some ad246) l1_1.length c1_1), (.slice A1_2 l1_2.length c1_2)] 29 (0, 0))) ∧ Aside0 (Below w.heap.size w wc))
     case first =>
      have H := HC30.out
      clear HC30
      by_cases c31 : (rd l1_1 x37_2) = 1
      ·rw [if_pos c31] at H
       have c31b0 : ((rd l1_1 x37_2) == 1) = true := beq_iff_eq.mpr c31
       have c31b1 : ((rd l1_1 x37_2) != 1) = false := bne_eq_false_iff_eq.mpr c31
       clear c31
       (first | rw [c31b0] | (simp only [i64_w, i32_w]; rw [c31b0]) | skip)
       by_cases c32 : x37_2 < (l1_2.length : Int)
       rotate_left
       ·rw [if_neg c32] at H
        exact absurd H q145t
       rw [if_pos c32] at H
       have c32b0 : decide (x37_2 < (l1_2.length : Int)) = true := decide_eq_true c32
       clear c32
       replace H := Option.bind_eq_some_iff.mp H
       obtain ⟨t249, A330, H⟩ := H
       try dsimp only at H
       have A33 := Aside0.mk A330
       clear A330
       by_cases c34 : t249 = true
       ·subst c34
        rw [if_pos rfl] at H
        have H' := Aside0.mk H
        clear H
        try go_wp2
        (try (rw [drewN_self wr]; generalize hq_ : World.drewN wr _ = wr; have hh_ := congrArg World.heap hq_; dsimp only [World.drewN] at hh_; have zb_ : Below w.heap.size w wr := (by rw [← hq_]; exact pw_below_drewN HB.out _); have z_ := BK242.out; rw [hh_] at z_; clear BK242; have BK242 := Aside0.mk z_; clear z_; have z_ := BK243.out; rw [hh_] at z_; clear BK243; have BK243 := Aside0.mk z_; clear z_; clear HB; have HB := Aside0.mk zb_; clear zb_ hh_ hq_))
        replace BK242 := Aside0.mk (blk_drew BK242.out)
        replace BK243 := Aside0.mk (blk_drew BK243.out)
        replace HB := Aside0.mk (below_drew1 HB.out)
        have p248 : 0 ≤ (x37_2 : Int) := of_decide_eq_true q133t
        have q248 : x37_2 < (l1_2.length : Int) := of_decide_eq_true q133t
        obtain ⟨ad248, e248, hx248_0⟩ := Kd.at_int HR1_2.out x37_2 p248 q248
        have hw248_0 := hx248_0
        cases e248
        replace hx248_0 := hbt HB hx248_0
        replace p248 := eq_true p248
        replace q248 := eq_true q248
        refine start_ (n := 27) (S := fun w' => w'.cell? ⟨gb243, 0, none⟩ = some (.slice A1_0 l1_0.length c1_0) ∧ w'.cell? ⟨gb243, 1, none⟩ = some (.slice (some ad246) l1_1.length c1_1) ∧ w'.cell? ⟨gb243, 2, none⟩ = some (.slice (some ad248) l1_2.length c1_2) ∧ w'.cell? ⟨gb242, 0, none⟩ = some (.int .i64 a0_0) ∧ w'.cell? ⟨gb242, 1, none⟩ = some (.int .i64 a0_1) ∧ w'.cell? ⟨gb242, 2, none⟩ = some (.int .i64 a0_2) ∧ w'.cell? ⟨gb242, 3, none⟩ = some (.int .i64 a0_3) ∧ w'.cell? ⟨gb242, 4, none⟩ = some (.int .i64 a0_4) ∧ w'.cell? ⟨gb242, 5, none⟩ = some (.int .i64 a0_5) ∧ w'.cell? (ad248.add (x37_2).toNat) = some (.int .i64 (rd l1_2 x37_2))) (ds := []) (bm 27 0) (by kernel_rfl) rfl (by kernel_rfl) ⟨(blk_cell BK243.out 0).trans rfl, (blk_cell BK243.out 1).trans rfl, (blk_cell BK243.out 2).trans rfl, (blk_cell BK242.out 0).trans rfl, (blk_cell BK242.out 1).trans rfl, (blk_cell BK242.out 2).trans rfl, (blk_cell BK242.out 3).trans rfl, (blk_cell BK242.out 4).trans rfl, (blk_cell BK242.out 5).trans rfl, (hbt HB hw248_0)⟩ (fun hHeld => ?_); refine with_tabW impl_PoolOk.tab8 impl_PoolOk.bits8 (fun HT_ HW_ => ?_)
        generalize wr.drew = w35 at BK242 BK243 HB hx248_0 hHeld ⊢
        refine pu_ 0 (some 47) (bm 27 1) (any_of HT_.out (by kernel_rfl)) ?_
        refine pu_ 1 (some 48) (bm 27 3) (any_of HT_.out (by kernel_rfl)) ?_
        refine pu_ 2 (some 49) (bm 27 7) (any_of HT_.out (by kernel_rfl)) ?_
        refine pu_ 3 (some 50) (bm 27 15) (any_of HT_.out (by kernel_rfl)) ?_
        refine pu_ 5 (some 52) (bm 27 47) (any_of HT_.out (by kernel_rfl)) ?_
        refine pu_ 8 (some 55) (bm 27 303) (any_of HT_.out (by kernel_rfl)) ?_
        refine take_ (i := 4) (N := some 51) (v := ?_) (a' := ?_) (bm 27 319) rfl rfl (take_ofW HT_.out HW_.out (by kernel_rfl)) (fun _ _ _ h => h) (Or.inl ⟨by rfl, ?_⟩) hHeld ?_ ?_
        rotate_left
        ·rintro w' ⟨s0, s1, s2, s3, s4, s5, s6, s7, s8, s9⟩
         go_simp
         with_reducible rfl
        rotate_left
        ·simp only [Act.put, List.setIfInBounds_toArray, List.set_cons_zero, List.set_cons_succ, i64_w, i32_w]
         rfl
        refine pu_ 6 (some 53) (bm 27 383) (any_of HT_.out (by kernel_rfl)) ?_
        refine take_ (i := 7) (N := some 54) (v := ?_) (a' := ?_) (bm 27 511) rfl rfl (take_ofW HT_.out HW_.out (by kernel_rfl)) (fun _ _ _ h => h) (Or.inl ⟨by rfl, ?_⟩) hHeld ?_ ?_
        rotate_left
        ·rintro w' ⟨s0, s1, s2, s3, s4, s5, s6, s7, s8, s9⟩
         go_simp
         with_reducible rfl
        rotate_left
        ·simp only [Act.put, List.setIfInBounds_toArray, List.set_cons_zero, List.set_cons_succ, i64_w, i32_w]
         rfl
        refine take_ (i := 9) (N := some 56) (v := ?_) (a' := ?_) (bm 27 1023) rfl rfl (take_ofW HT_.out HW_.out (by kernel_rfl)) (fun _ _ _ h => h) (Or.inl ⟨by rfl, ?_⟩) hHeld ?_ ?_
        rotate_left
        ·rintro w' ⟨s0, s1, s2, s3, s4, s5, s6, s7, s8, s9⟩
         go_simp
         with_reducible rfl
        rotate_left
        ·simp only [Act.put, List.setIfInBounds_toArray, List.set_cons_zero, List.set_cons_succ, i64_w, i32_w]
         rfl
        refine pu_ 10 (some 57) (bm 27 2047) (any_of HT_.out (by kernel_rfl)) ?_
        refine one_ (i := 11) (N := some 58) (bm 27 4095) rfl rfl (one_of HT_.out (by kernel_rfl)) q144t (fun K hK => ?_)
        refine goes_ Try.func24 (by kernel_rfl) rfl #[.int .i64 (rd l1_2 x37_2), .int .i64 0, .int .i64 (wrap64 (a0_2 - 1))] (by rfl) rfl rfl q97t ?_
        with_reducible refine (impl_within.calls (rd l1_2 x37_2) 0 (wrap64 (a0_2 - 1)) true _ A33.out).mono ?_
        rintro e w' ⟨rfl, ⟨nd, rfl⟩⟩
        refine ⟨_, rfl, ?_⟩
        refine hK.out _ _ (by first | exact ⟨(blk_cell BK243.out 0).trans rfl, (blk_cell BK243.out 1).trans rfl, (blk_cell BK243.out 2).trans rfl, (blk_cell BK242.out 0).trans rfl, (blk_cell BK242.out 1).trans rfl, (blk_cell BK242.out 2).trans rfl, (blk_cell BK242.out 3).trans rfl, (blk_cell BK242.out 4).trans rfl, (blk_cell BK242.out 5).trans rfl, (hbt HB hw248_0)⟩ | exact hHeld) (fun hHeld => ?_)
        clear hK K
        refine norm_ (a' := ?_) ?_ ?_
        rotate_left
        ·show Act.put _ (some 58) _ = _
         simp only [Act.put, List.setIfInBounds_toArray, List.set_cons_zero, List.set_cons_succ, i64_w, i32_w]
         rfl
        refine pu_ 12 (some 59) (bm 27 8191) (any_of HT_.out (by kernel_rfl)) ?_
        refine pu_ 13 (some 60) (bm 27 16383) (any_of HT_.out (by kernel_rfl)) ?_
        refine pu_ 14 (some 61) (bm 27 32767) (any_of HT_.out (by kernel_rfl)) ?_
        refine pu_ 15 (some 62) (bm 27 65535) (any_of HT_.out (by kernel_rfl)) ?_
        refine pu_ 16 (some 63) (bm 27 131071) (any_of HT_.out (by kernel_rfl)) ?_
        refine pu_ 17 (some 64) (bm 27 262143) (any_of HT_.out (by kernel_rfl)) ?_
        refine pn_ 18 (some 65) (bm 27 524287) (any_of HT_.out (by kernel_rfl)) ?_
        refine pn_ 19 (some 66) (bm 27 1048575) (any_of HT_.out (by kernel_rfl)) ?_
        refine pn_ 20 (some 67) (bm 27 2097151) (any_of HT_.out (by kernel_rfl)) ?_
        refine pn_ 21 (some 68) (bm 27 4194303) (any_of HT_.out (by kernel_rfl)) ?_
        refine pn_ 22 (some 69) (bm 27 8388607) (any_of HT_.out (by kernel_rfl)) ?_
        refine pn_ 23 (some 70) (bm 27 16777215) (any_of HT_.out (by kernel_rfl)) ?_
        refine pu_ 24 (some 71) (bm 27 33554431) (any_of HT_.out (by kernel_rfl)) ?_
        refine pu_ 25 (some 72) (bm 27 67108863) (any_of HT_.out (by kernel_rfl)) ?_
        refine pu_ 26 (some 46) (bm 27 134217727) (any_of HT_.out (by kernel_rfl)) ?_
        refine done_ (done_of HT_.out (by kernel_rfl)) ?_
        try go_wp2
        go_meet
        case rel => exact ⟨_, (false), q142t, H', ⟨by have := HJ2.out; have := HK2.out; first | omega | exact Nat.le_refl _⟩, ⟨qbk BK242⟩, ⟨qbk BK243⟩, ⟨by repeat (first | (with_reducible first | exact HB.out | apply below_alloc | apply pw_below_drewN | apply below_drew1 | refine below_set ?_ GE242.out | refine below_set ?_ GE243.out) | exact HB.out)⟩⟩
       replace c34 := Bool.eq_false_iff.mpr c34
       subst c34
       rw [if_neg (show ¬ (false = true) by decide)] at H
       have H' := Aside0.mk H
       clear H
       try go_wp2
       (try (rw [drewN_self wr]; generalize hq_ : World.drewN wr _ = wr; have hh_ := congrArg World.heap hq_; dsimp only [World.drewN] at hh_; have zb_ : Below w.heap.size w wr := (by rw [← hq_]; exact pw_below_drewN HB.out _); have z_ := BK242.out; rw [hh_] at z_; clear BK242; have BK242 := Aside0.mk z_; clear z_; have z_ := BK243.out; rw [hh_] at z_; clear BK243; have BK243 := Aside0.mk z_; clear z_; clear HB; have HB := Aside0.mk zb_; clear zb_ hh_ hq_))
       replace BK242 := Aside0.mk (blk_drew BK242.out)
       replace BK243 := Aside0.mk (blk_drew BK243.out)
       replace HB := Aside0.mk (below_drew1 HB.out)
       have p248 : 0 ≤ (x37_2 : Int) := of_decide_eq_true q133t
       have q248 : x37_2 < (l1_2.length : Int) := of_decide_eq_true q133t
       obtain ⟨ad248, e248, hx248_0⟩ := Kd.at_int HR1_2.out x37_2 p248 q248
       have hw248_0 := hx248_0
       cases e248
       replace hx248_0 := hbt HB hx248_0
       replace p248 := eq_true p248
       replace q248 := eq_true q248
       refine start_ (n := 27) (S := fun w' => w'.cell? ⟨gb243, 0, none⟩ = some (.slice A1_0 l1_0.length c1_0) ∧ w'.cell? ⟨gb243, 1, none⟩ = some (.slice (some ad246) l1_1.length c1_1) ∧ w'.cell? ⟨gb243, 2, none⟩ = some (.slice (some ad248) l1_2.length c1_2) ∧ w'.cell? ⟨gb242, 0, none⟩ = some (.int .i64 a0_0) ∧ w'.cell? ⟨gb242, 1, none⟩ = some (.int .i64 a0_1) ∧ w'.cell? ⟨gb242, 2, none⟩ = some (.int .i64 a0_2) ∧ w'.cell? ⟨gb242, 3, none⟩ = some (.int .i64 a0_3) ∧ w'.cell? ⟨gb242, 4, none⟩ = some (.int .i64 a0_4) ∧ w'.cell? ⟨gb242, 5, none⟩ = some (.int .i64 a0_5) ∧ w'.cell? (ad248.add (x37_2).toNat) = some (.int .i64 (rd l1_2 x37_2))) (ds := []) (bm 27 0) (by kernel_rfl) rfl (by kernel_rfl) ⟨(blk_cell BK243.out 0).trans rfl, (blk_cell BK243.out 1).trans rfl, (blk_cell BK243.out 2).trans rfl, (blk_cell BK242.out 0).trans rfl, (blk_cell BK242.out 1).trans rfl, (blk_cell BK242.out 2).trans rfl, (blk_cell BK242.out 3).trans rfl, (blk_cell BK242.out 4).trans rfl, (blk_cell BK242.out 5).trans rfl, (hbt HB hw248_0)⟩ (fun hHeld => ?_); refine with_tabW impl_PoolOk.tab8 impl_PoolOk.bits8 (fun HT_ HW_ => ?_)
       generalize wr.drew = w36 at BK242 BK243 HB hx248_0 hHeld ⊢
       refine pu_ 0 (some 47) (bm 27 1) (any_of HT_.out (by kernel_rfl)) ?_
       refine pu_ 1 (some 48) (bm 27 3) (any_of HT_.out (by kernel_rfl)) ?_
       refine pu_ 2 (some 49) (bm 27 7) (any_of HT_.out (by kernel_rfl)) ?_
       refine pu_ 3 (some 50) (bm 27 15) (any_of HT_.out (by kernel_rfl)) ?_
       refine pu_ 5 (some 52) (bm 27 47) (any_of HT_.out (by kernel_rfl)) ?_
       refine pu_ 8 (some 55) (bm 27 303) (any_of HT_.out (by kernel_rfl)) ?_
       refine take_ (i := 4) (N := some 51) (v := ?_) (a' := ?_) (bm 27 319) rfl rfl (take_ofW HT_.out HW_.out (by kernel_rfl)) (fun _ _ _ h => h) (Or.inl ⟨by rfl, ?_⟩) hHeld ?_ ?_
       rotate_left
       ·rintro w' ⟨s0, s1, s2, s3, s4, s5, s6, s7, s8, s9⟩
        go_simp
        with_reducible rfl
       rotate_left
       ·simp only [Act.put, List.setIfInBounds_toArray, List.set_cons_zero, List.set_cons_succ, i64_w, i32_w]
        rfl
       refine pu_ 6 (some 53) (bm 27 383) (any_of HT_.out (by kernel_rfl)) ?_
       refine take_ (i := 7) (N := some 54) (v := ?_) (a' := ?_) (bm 27 511) rfl rfl (take_ofW HT_.out HW_.out (by kernel_rfl)) (fun _ _ _ h => h) (Or.inl ⟨by rfl, ?_⟩) hHeld ?_ ?_
       rotate_left
       ·rintro w' ⟨s0, s1, s2, s3, s4, s5, s6, s7, s8, s9⟩
        go_simp
        with_reducible rfl
       rotate_left
       ·simp only [Act.put, List.setIfInBounds_toArray, List.set_cons_zero, List.set_cons_succ, i64_w, i32_w]
        rfl
       refine take_ (i := 9) (N := some 56) (v := ?_) (a' := ?_) (bm 27 1023) rfl rfl (take_ofW HT_.out HW_.out (by kernel_rfl)) (fun _ _ _ h => h) (Or.inl ⟨by rfl, ?_⟩) hHeld ?_ ?_
       rotate_left
       ·rintro w' ⟨s0, s1, s2, s3, s4, s5, s6, s7, s8, s9⟩
        go_simp
        with_reducible rfl
       rotate_left
       ·simp only [Act.put, List.setIfInBounds_toArray, List.set_cons_zero, List.set_cons_succ, i64_w, i32_w]
        rfl
       refine pu_ 10 (some 57) (bm 27 2047) (any_of HT_.out (by kernel_rfl)) ?_
       refine one_ (i := 11) (N := some 58) (bm 27 4095) rfl rfl (one_of HT_.out (by kernel_rfl)) q144t (fun K hK => ?_)
       refine goes_ Try.func24 (by kernel_rfl) rfl #[.int .i64 (rd l1_2 x37_2), .int .i64 0, .int .i64 (wrap64 (a0_2 - 1))] (by rfl) rfl rfl q97t ?_
       with_reducible refine (impl_within.calls (rd l1_2 x37_2) 0 (wrap64 (a0_2 - 1)) false _ A33.out).mono ?_
       rintro e w' ⟨rfl, ⟨nd, rfl⟩⟩
       refine ⟨_, rfl, ?_⟩
       refine hK.out _ _ (by first | exact ⟨(blk_cell BK243.out 0).trans rfl, (blk_cell BK243.out 1).trans rfl, (blk_cell BK243.out 2).trans rfl, (blk_cell BK242.out 0).trans rfl, (blk_cell BK242.out 1).trans rfl, (blk_cell BK242.out 2).trans rfl, (blk_cell BK242.out 3).trans rfl, (blk_cell BK242.out 4).trans rfl, (blk_cell BK242.out 5).trans rfl, (hbt HB hw248_0)⟩ | exact hHeld) (fun hHeld => ?_)
       clear hK K
       refine norm_ (a' := ?_) ?_ ?_
       rotate_left
       ·show Act.put _ (some 58) _ = _
        simp only [Act.put, List.setIfInBounds_toArray, List.set_cons_zero, List.set_cons_succ, i64_w, i32_w]
        rfl
       refine pu_ 12 (some 59) (bm 27 8191) (any_of HT_.out (by kernel_rfl)) ?_
       refine pu_ 13 (some 60) (bm 27 16383) (any_of HT_.out (by kernel_rfl)) ?_
       refine pu_ 14 (some 61) (bm 27 32767) (any_of HT_.out (by kernel_rfl)) ?_
       refine pn_ 15 (some 62) (bm 27 65535) (any_of HT_.out (by kernel_rfl)) ?_
       refine pn_ 16 (some 63) (bm 27 131071) (any_of HT_.out (by kernel_rfl)) ?_
       refine pn_ 17 (some 64) (bm 27 262143) (any_of HT_.out (by kernel_rfl)) ?_
       refine pn_ 18 (some 65) (bm 27 524287) (any_of HT_.out (by kernel_rfl)) ?_
       refine pn_ 19 (some 66) (bm 27 1048575) (any_of HT_.out (by kernel_rfl)) ?_
       refine pn_ 20 (some 67) (bm 27 2097151) (any_of HT_.out (by kernel_rfl)) ?_
       refine pn_ 21 (some 68) (bm 27 4194303) (any_of HT_.out (by kernel_rfl)) ?_
       refine pn_ 22 (some 69) (bm 27 8388607) (any_of HT_.out (by kernel_rfl)) ?_
       refine pn_ 23 (some 70) (bm 27 16777215) (any_of HT_.out (by kernel_rfl)) ?_
       refine pn_ 24 (some 71) (bm 27 33554431) (any_of HT_.out (by kernel_rfl)) ?_
       refine pu_ 25 (some 72) (bm 27 67108863) (any_of HT_.out (by kernel_rfl)) ?_
       refine pu_ 26 (some 46) (bm 27 134217727) (any_of HT_.out (by kernel_rfl)) ?_
       refine done_ (done_of HT_.out (by kernel_rfl)) ?_
       try go_wp2
       go_meet
       case rel => exact ⟨_, (true), q142t, H', ⟨by have := HJ2.out; have := HK2.out; first | omega | exact Nat.le_refl _⟩, ⟨qbk BK242⟩, ⟨qbk BK243⟩, ⟨by repeat (first | (with_reducible first | exact HB.out | apply below_alloc | apply pw_below_drewN | apply below_drew1 | refine below_set ?_ GE242.out | refine below_set ?_ GE243.out) | exact HB.out)⟩⟩
      rw [if_neg c31] at H
      have c31b0 : ((rd l1_1 x37_2) == 1) = false := beq_eq_false_iff_ne.mpr c31
      have c31b1 : ((rd l1_1 x37_2) != 1) = true := bne_iff_ne.mpr c31
      (first | rw [c31b0] | (simp only [i64_w, i32_w]; rw [c31b0]) | skip)
      by_cases c37 : x37_2 < (l1_2.length : Int)
      rotate_left
      ·rw [if_neg c37] at H
       exact absurd H q145t
      rw [if_pos c37] at H
      have c37b0 : decide (x37_2 < (l1_2.length : Int)) = true := decide_eq_true c37
      clear c37
      have H' := Aside0.mk H
      clear H
      try go_wp2
      (try (rw [drewN_self wr]; generalize hq_ : World.drewN wr _ = wr; have hh_ := congrArg World.heap hq_; dsimp only [World.drewN] at hh_; have zb_ : Below w.heap.size w wr := (by rw [← hq_]; exact pw_below_drewN HB.out _); have z_ := BK242.out; rw [hh_] at z_; clear BK242; have BK242 := Aside0.mk z_; clear z_; have z_ := BK243.out; rw [hh_] at z_; clear BK243; have BK243 := Aside0.mk z_; clear z_; clear HB; have HB := Aside0.mk zb_; clear zb_ hh_ hq_))
      replace BK242 := Aside0.mk (blk_drew BK242.out)
      replace BK243 := Aside0.mk (blk_drew BK243.out)
      replace HB := Aside0.mk (below_drew1 HB.out)
      have p250 : 0 ≤ (x37_2 : Int) := of_decide_eq_true q133t
      have q250 : x37_2 < (l1_2.length : Int) := of_decide_eq_true q133t
      obtain ⟨ad250, e250, hx250_0⟩ := Kd.at_int HR1_2.out x37_2 p250 q250
      have hw250_0 := hx250_0
      cases e250
      replace hx250_0 := hbt HB hx250_0
      replace p250 := eq_true p250
      replace q250 := eq_true q250
      refine start_ (n := 27) (S := fun w' => w'.cell? ⟨gb243, 0, none⟩ = some (.slice A1_0 l1_0.length c1_0) ∧ w'.cell? ⟨gb243, 1, none⟩ = some (.slice (some ad246) l1_1.length c1_1) ∧ w'.cell? ⟨gb243, 2, none⟩ = some (.slice (some ad250) l1_2.length c1_2) ∧ w'.cell? (ad250.add (x37_2).toNat) = some (.int .i64 (rd l1_2 x37_2))) (ds := []) (bm 27 0) (by kernel_rfl) rfl (by kernel_rfl) ⟨(blk_cell BK243.out 0).trans rfl, (blk_cell BK243.out 1).trans rfl, (blk_cell BK243.out 2).trans rfl, (hbt HB hw250_0)⟩ (fun hHeld => ?_); refine with_tabW impl_PoolOk.tab8 impl_PoolOk.bits8 (fun HT_ HW_ => ?_)
      generalize wr.drew = w38 at BK242 BK243 HB hx250_0 hHeld ⊢
      refine pu_ 0 (some 47) (bm 27 1) (any_of HT_.out (by kernel_rfl)) ?_
      refine pu_ 1 (some 48) (bm 27 3) (any_of HT_.out (by kernel_rfl)) ?_
      refine pu_ 2 (some 49) (bm 27 7) (any_of HT_.out (by kernel_rfl)) ?_
      refine pn_ 3 (some 50) (bm 27 15) (any_of HT_.out (by kernel_rfl)) ?_
      refine pn_ 4 (some 51) (bm 27 31) (any_of HT_.out (by kernel_rfl)) ?_
      refine pn_ 5 (some 52) (bm 27 63) (any_of HT_.out (by kernel_rfl)) ?_
      refine pn_ 6 (some 53) (bm 27 127) (any_of HT_.out (by kernel_rfl)) ?_
      refine pn_ 7 (some 54) (bm 27 255) (any_of HT_.out (by kernel_rfl)) ?_
      refine pn_ 8 (some 55) (bm 27 511) (any_of HT_.out (by kernel_rfl)) ?_
      refine pn_ 9 (some 56) (bm 27 1023) (any_of HT_.out (by kernel_rfl)) ?_
      refine pn_ 10 (some 57) (bm 27 2047) (any_of HT_.out (by kernel_rfl)) ?_
      refine pn_ 11 (some 58) (bm 27 4095) (any_of HT_.out (by kernel_rfl)) ?_
      refine pn_ 12 (some 59) (bm 27 8191) (any_of HT_.out (by kernel_rfl)) ?_
      refine pu_ 13 (some 60) (bm 27 16383) (any_of HT_.out (by kernel_rfl)) ?_
      refine pu_ 14 (some 61) (bm 27 32767) (any_of HT_.out (by kernel_rfl)) ?_
      refine pu_ 15 (some 62) (bm 27 65535) (any_of HT_.out (by kernel_rfl)) ?_
      refine pu_ 16 (some 63) (bm 27 131071) (any_of HT_.out (by kernel_rfl)) ?_
      refine pu_ 17 (some 64) (bm 27 262143) (any_of HT_.out (by kernel_rfl)) ?_
      refine pu_ 18 (some 65) (bm 27 524287) (any_of HT_.out (by kernel_rfl)) ?_
      refine pu_ 20 (some 67) (bm 27 1572863) (any_of HT_.out (by kernel_rfl)) ?_
      refine take_ (i := 19) (N := some 66) (v := ?_) (a' := ?_) (bm 27 2097151) rfl rfl (take_ofW HT_.out HW_.out (by kernel_rfl)) (fun _ _ _ h => h) (Or.inl ⟨by rfl, ?_⟩) hHeld ?_ ?_
      rotate_left
      ·rintro w' ⟨s0, s1, s2, s3⟩
       go_simp
       with_reducible rfl
      rotate_left
      ·simp only [Act.put, List.setIfInBounds_toArray, List.set_cons_zero, List.set_cons_succ, i64_w, i32_w]
       rfl
      refine pu_ 21 (some 68) (bm 27 4194303) (any_of HT_.out (by kernel_rfl)) ?_
      refine take_ (i := 22) (N := some 69) (v := ?_) (a' := ?_) (bm 27 8388607) rfl rfl (take_ofW HT_.out HW_.out (by kernel_rfl)) (fun _ _ _ h => h) (Or.inl ⟨by rfl, ?_⟩) hHeld ?_ ?_
      rotate_left
      ·rintro w' ⟨s0, s1, s2, s3⟩
       go_simp
       with_reducible rfl
      rotate_left
      ·simp only [Act.put, List.setIfInBounds_toArray, List.set_cons_zero, List.set_cons_succ, i64_w, i32_w]
       rfl
      refine pu_ 23 (some 70) (bm 27 16777215) (any_of HT_.out (by kernel_rfl)) ?_
      refine pu_ 24 (some 71) (bm 27 33554431) (any_of HT_.out (by kernel_rfl)) ?_
      refine pu_ 25 (some 72) (bm 27 67108863) (any_of HT_.out (by kernel_rfl)) ?_
      refine pu_ 26 (some 46) (bm 27 134217727) (any_of HT_.out (by kernel_rfl)) ?_
      refine done_ (done_of HT_.out (by kernel_rfl)) ?_
      try go_wp2
      go_meet
      case rel => exact ⟨_, (((rd l1_2 x37_2) != (-1))), q142t, H', ⟨by have := HJ2.out; have := HK2.out; first | omega | exact Nat.le_refl _⟩, ⟨qbk BK242⟩, ⟨qbk BK243⟩, ⟨by repeat (first | (with_reducible first | exact HB.out | apply below_alloc | apply pw_below_drewN | apply below_drew1 | refine below_set ?_ GE242.out | refine below_set ?_ GE243.out) | exact HB.out)⟩⟩
     case rest =>
      clear HC30
      try clear c1
      try clear c2
      try clear p2
      try clear q2
      try clear hx2
      try clear c3
      try clear p6
      try clear c24
      try clear p24
      try clear q24
      try clear hx24
      try clear p25
      try clear q25
      try clear hx25
      try clear c31
      try clear c31b0
      try clear c31b1
      try clear c32
      try clear c34
      try clear c37
      try clear c37b0
      try clear hx248_0
      try clear hx250_0
      try clear p248
      try clear p250
      try clear q248
      try clear q250
      obtain ⟨kq, x46_29, rfl, HA, HJ29, BK242, BK243, HB⟩ := hcut
      cases kq with
      | zero => exact absurd HA.out (by simp [impl_PoolOk.j2])
      | succ kj29 =>
       have H := HA.out
       clear HA
       simp only [impl_PoolOk.j2] at H
       by_cases c39 : x46_29 = true
       ·subst c39
        rw [if_pos rfl] at H
        obtain rfl := Option.some.inj H
        go_wp2_with (go_at_call 26; (with_reducible refine (impl_Pool_chunk.calls (by assumption) q143t q143t).mono ?_); rintro e w' ⟨rfl, rfl⟩)
        go_ret
        exact ⟨by first | rfl | (simp [errW_none, errW_some] <;> rfl) | (simp [*, errW_none, errW_some] <;> rfl), by repeat (first | (with_reducible first | exact HB.out | apply below_alloc | apply pw_below_drewN | apply below_drew1 | refine below_set ?_ GE242.out | refine below_set ?_ GE243.out) | exact HB.out)⟩
       replace c39 := Bool.eq_false_iff.mpr c39
       subst c39
       rw [if_neg (show ¬ (false = true) by decide)] at H
       by_cases c40 : (rd l1_1 x37_2) = 0
       rotate_left
       ·rw [if_neg c40] at H
        have c40b0 : ((rd l1_1 x37_2) == 0) = false := beq_eq_false_iff_ne.mpr c40
        have c40b1 : ((rd l1_1 x37_2) != 0) = true := bne_iff_ne.mpr c40
        have H' := Aside0.mk H
        clear H
        go_wp2_with (go_at_call 26; (with_reducible refine (impl_Pool_chunk.calls (by assumption) q143t q143t).mono ?_); rintro e w' ⟨rfl, rfl⟩)
        go_roundg kj29
        case measure => have := HJ2.out; have := HK2.out; have := HJ29.out; omega
        case rel => exact ⟨(wrap64 (x37_2 + 1)), q142t, H', ⟨by have := HJ2.out; have := HK2.out; have := HJ29.out; omega⟩, ⟨qbk BK242⟩, ⟨qbk BK243⟩, ⟨by repeat (first | (with_reducible first | exact HB.out | apply below_alloc | apply pw_below_drewN | apply below_drew1 | refine below_set ?_ GE242.out | refine below_set ?_ GE243.out) | exact HB.out)⟩⟩
       rw [if_pos c40] at H
       have c40b0 : ((rd l1_1 x37_2) == 0) = true := beq_iff_eq.mpr c40
       have c40b1 : ((rd l1_1 x37_2) != 0) = false := bne_eq_false_iff_eq.mpr c40
       clear c40
       obtain ⟨ji41, hji41⟩ : ∃ j_ : Int, (wrap64 (x37_2 * a0_1)) = j_ := ⟨_, rfl⟩
       replace H : (if 0 ≤ (ji41) then (if (ji41) ≤ (wrap64 ((wrap64 (x37_2 + 1)) * a0_1)) then (if (wrap64 ((wrap64 (x37_2 + 1)) * a0_1)) ≤ (l1_0.length : Int) then ((impl_IsZero.f kj29 ((l1_0.take ((wrap64 ((wrap64 (x37_2 + 1)) * a0_1)) : Int).toNat).drop ((ji41) : Int).toNat)).bind fun t252 => (if t252 = true then (impl_PoolOk.l0 kj29 l1_1 (l1_1.length : Int) (wrap64 (x37_2 + 1)) a0_0 a0_1 a0_2 a0_3 a0_4 a0_5 l1_0 l1_1 l1_2) else (some false))) else (none)) else (none)) else (none)) = some r := by first | (rw [hji41] at H; exact H) | (simp only [hji41] at H ⊢; exact H)
       have hji41w : (IntKind.i64.wrap (x37_2 * a0_1)) = ji41 := (i64_w _).trans hji41
       by_cases c42 : 0 ≤ (ji41)
       rotate_left
       ·rw [if_neg c42] at H
        exact absurd H q145t
       rw [if_pos c42] at H
       have c42b0 := eq_true c42
       have c42b1 : decide (0 ≤ (ji41)) = true := decide_eq_true c42
       clear c42
       by_cases c43 : (ji41) ≤ (wrap64 ((wrap64 (x37_2 + 1)) * a0_1))
       rotate_left
       ·rw [if_neg c43] at H
        exact absurd H q145t
       rw [if_pos c43] at H
       have c43b0 := eq_true c43
       have c43b1 : decide ((ji41) ≤ (wrap64 ((wrap64 (x37_2 + 1)) * a0_1))) = true := decide_eq_true c43
       by_cases c44 : (wrap64 ((wrap64 (x37_2 + 1)) * a0_1)) ≤ (l1_0.length : Int)
       rotate_left
       ·rw [if_neg c44] at H
        exact absurd H q145t
       rw [if_pos c44] at H
       have c44b0 := eq_true c44
       have c44b1 : decide ((wrap64 ((wrap64 (x37_2 + 1)) * a0_1)) ≤ (l1_0.length : Int)) = true := decide_eq_true c44
       replace H := Option.bind_eq_some_iff.mp H
       obtain ⟨t252, A450, H⟩ := H
       try dsimp only at H
       have A45 := Aside0.mk A450
       clear A450
       by_cases c46 : t252 = true
       ·subst c46
        rw [if_pos rfl] at H
        have H' := Aside0.mk H
        clear H
        have hnb47 := NB243_242.out
        have hnc47 := NB242_243.out
        obtain ⟨hcz48_0, hcz48_1, hcz48_2⟩ := qc3 BK243.out
        obtain ⟨hfz48_0, hfz48_1, hfz48_2⟩ := qf3 BK243.out
        obtain ⟨hcz49_0, hcz49_1, hcz49_2, hcz49_3, hcz49_4, hcz49_5⟩ := qc6 BK242.out
        obtain ⟨hfz49_0, hfz49_1, hfz49_2, hfz49_3, hfz49_4, hfz49_5⟩ := qf6 BK242.out
        obtain ⟨i050, hi050, _, hsz50, _⟩ := info_parts info5
        obtain ⟨A50, hcut50, hA50, hC50⟩ := print_mid_of (P := Try.prog) (Value.int .u8) 0 24 5 .i64 .i64 Try.underlying24 hi050 hsz50 A1_0 c1_0 l1_0 (ji41) (wrap64 ((wrap64 (x37_2 + 1)) * a0_1)) (of_decide_eq_true q133t) q132t (of_decide_eq_true q133t) HC1_0.out
        have HR251 := Aside0.mk (Kd.C_of_reads (h1 := fun _ => rfl) (hA50 _ (Kd.reads_of_C HR1_0.out)))
        have HC251 := Aside0.mk hC50
        clear hA50 hC50 hi050 hsz50
        go_wp2_with (first | (go_at_call 26; (with_reducible refine (impl_Pool_chunk.calls (by assumption) q143t q143t).mono ?_); rintro e w' ⟨rfl, rfl⟩) | (go_at_call 25; (try rw [show ((wrap64 ((wrap64 (x37_2 + 1)) * a0_1)).toNat - (ji41).toNat) = ((l1_0.take ((wrap64 ((wrap64 (x37_2 + 1)) * a0_1)) : Int).toNat).drop ((ji41) : Int).toNat).length from (by rw [List.length_drop, List.length_take]; have h_ : ((wrap64 ((wrap64 (x37_2 + 1)) * a0_1)) : Int) ≤ (l1_0.length : Int) := of_decide_eq_true q133t; omega)]); (with_reducible refine (impl_IsZero.calls kj29 _ _ ((l1_0.take ((wrap64 ((wrap64 (x37_2 + 1)) * a0_1)) : Int).toNat).drop ((ji41) : Int).toNat) true _ ?side1 ?side2 A45.out).mono ?_); (case side1 => repeat (first | exact (Kd.C_below HR251.out HB.out) | (with_reducible refine Kd.C_alloc ?_ _) | (with_reducible refine Kd.C_drewN ?_ _) | (with_reducible refine Kd.C_drew ?_))); (case side2 => exact HC251.out); rintro e w' ⟨rfl, ⟨nd, rfl⟩⟩))
        go_roundg kj29
        case measure => have := HJ2.out; have := HK2.out; have := HJ29.out; omega
        case rel => exact ⟨(wrap64 (x37_2 + 1)), q142t, H', ⟨by have := HJ2.out; have := HK2.out; have := HJ29.out; omega⟩, ⟨qbk BK242⟩, ⟨qbk BK243⟩, ⟨by repeat (first | (with_reducible first | exact HB.out | apply below_alloc | apply pw_below_drewN | apply below_drew1 | refine below_set ?_ GE242.out | refine below_set ?_ GE243.out) | exact HB.out)⟩⟩
       replace c46 := Bool.eq_false_iff.mpr c46
       subst c46
       rw [if_neg (show ¬ (false = true) by decide)] at H
       obtain rfl := Option.some.inj H
       have hnb51 := NB243_242.out
       have hnc51 := NB242_243.out
       obtain ⟨hcz52_0, hcz52_1, hcz52_2⟩ := qc3 BK243.out
       obtain ⟨hfz52_0, hfz52_1, hfz52_2⟩ := qf3 BK243.out
       obtain ⟨hcz53_0, hcz53_1, hcz53_2, hcz53_3, hcz53_4, hcz53_5⟩ := qc6 BK242.out
       obtain ⟨hfz53_0, hfz53_1, hfz53_2, hfz53_3, hfz53_4, hfz53_5⟩ := qf6 BK242.out
       obtain ⟨i054, hi054, _, hsz54, _⟩ := info_parts info5
       obtain ⟨A54, hcut54, hA54, hC54⟩ := print_mid_of (P := Try.prog) (Value.int .u8) 0 24 5 .i64 .i64 Try.underlying24 hi054 hsz54 A1_0 c1_0 l1_0 (ji41) (wrap64 ((wrap64 (x37_2 + 1)) * a0_1)) (of_decide_eq_true q133t) q132t (of_decide_eq_true q133t) HC1_0.out
       have HR251 := Aside0.mk (Kd.C_of_reads (h1 := fun _ => rfl) (hA54 _ (Kd.reads_of_C HR1_0.out)))
       have HC251 := Aside0.mk hC54
       clear hA54 hC54 hi054 hsz54
       go_wp2_with (first | (go_at_call 26; (with_reducible refine (impl_Pool_chunk.calls (by assumption) q143t q143t).mono ?_); rintro e w' ⟨rfl, rfl⟩) | (go_at_call 25; (try rw [show ((wrap64 ((wrap64 (x37_2 + 1)) * a0_1)).toNat - (ji41).toNat) = ((l1_0.take ((wrap64 ((wrap64 (x37_2 + 1)) * a0_1)) : Int).toNat).drop ((ji41) : Int).toNat).length from (by rw [List.length_drop, List.length_take]; have h_ : ((wrap64 ((wrap64 (x37_2 + 1)) * a0_1)) : Int) ≤ (l1_0.length : Int) := of_decide_eq_true q133t; omega)]); (with_reducible refine (impl_IsZero.calls kj29 _ _ ((l1_0.take ((wrap64 ((wrap64 (x37_2 + 1)) * a0_1)) : Int).toNat).drop ((ji41) : Int).toNat) false _ ?side1 ?side2 A45.out).mono ?_); (case side1 => repeat (first | exact (Kd.C_below HR251.out HB.out) | (with_reducible refine Kd.C_alloc ?_ _) | (with_reducible refine Kd.C_drewN ?_ _) | (with_reducible refine Kd.C_drew ?_))); (case side2 => exact HC251.out); rintro e w' ⟨rfl, ⟨nd, rfl⟩⟩))
       go_ret
       exact ⟨by first | rfl | (simp [errW_none, errW_some] <;> rfl) | (simp only [← hji41]; first | rfl | (simp [errW_none, errW_some] <;> rfl)) | (simp [*, errW_none, errW_some] <;> rfl), by repeat (first | (with_reducible first | exact HB.out | apply below_alloc | apply pw_below_drewN | apply below_drew1 | refine below_set ?_ GE242.out | refine below_set ?_ GE243.out) | exact HB.out)⟩

end Go.Proofs.Ytofpmdgndegalaa.QFnExactWipeSome
