/- What the functions that the law FnExactWipeSome reaches compute, as plain functions, and that the code computes just that (by a program of this session's; the library's functions by hand). No condition. -/
import Derived.Test.YtofpmdgndegalaaQFnExactWipeSomex0
import Derived.Test.YtofpmdgndegalaaQFnExactWipeSomex1
import Derived.Test.YtofpmdgndegalaaQFnExactWipeSomex5
import Derived.Test.YtofpmdgndegalaaQFnExactWipeSomex6
import Derived.Test.YtofpmdgndegalaaQFnExactWipeSomex9
import Derived.Test.YtofpmdgndegalaaQFnExactWipeSomex10
import Derived.Test.YtofpmdgndegalaaQFnExactWipeSomex11
namespace Go.Proofs.Ytofpmdgndegalaa.QFnExactWipeSome
open Go.RowKit Go.Proofs.YtofpmdgndegalaaW.PrintWords Go.Proofs.YtofpmdgndegalaaW.PrintLast Go.Proofs.YtofpmdgndegalaaW.PrintMore
attribute [local go_sem] max2_int min2_int max_two min_two max_three min_three max_four min_four   -- for this text's walks alone
set_option linter.unusedVariables false
set_option linter.unusedSimpArgs false

/-! ### laws_FnExactWipeSome: function 3 -/
def laws_FnExactWipeSome.f (k : Nat) (a0_0 : Int) (a0_1 : Int) (a0_2 : Int) (a0_3 : Int) (a0_4 : Int) (a0_5 : Int) (l1_0 : List Int) (l1_1 : List Int) (l1_2 : List Int) (a2 : Int) (a3 : Int) : Option (Bool) := (laws_szPool.f l1_0 l1_1 l1_2 1048576).bind fun t301 => (if t301 < 0 then (some true) else ((laws_toConf.f a0_0 a0_1 a0_2 a0_3 a0_4 a0_5).bind fun bt302 => ((laws_toPool.f k l1_0 l1_1 l1_2).bind fun bt308 => ((spec_WipeSome.f k bt302.1 bt302.2.1 bt302.2.2.1 bt302.2.2.2.1 bt302.2.2.2.2.1 bt302.2.2.2.2.2 bt308.1 bt308.2.1 bt308.2.2 a2 a3).bind fun bt317 => ((laws_toPool.f k l1_0 l1_1 l1_2).bind fun bt328 => ((laws_toConf.f a0_0 a0_1 a0_2 a0_3 a0_4 a0_5).bind fun bt338 => ((impl_WipeSome.f k bt338.1 bt338.2.1 bt338.2.2.1 bt338.2.2.2.1 bt338.2.2.2.2.1 bt338.2.2.2.2.2 bt328.1 bt328.2.1 bt328.2.2 a2 a3).bind fun bt344 => ((laws_eqPool.f k bt344.1 bt344.2.1 bt344.2.2.1 bt317.1 bt317.2.1 bt317.2.2.1).bind fun t355 => (if t355 = true then (if (bt344.2.2.2 != bt317.2.2.2) = true then (none) else ((laws_toPool.f k l1_0 l1_1 l1_2).bind fun bt356 => ((laws_eqPool.f k bt328.1 bt328.2.1 bt328.2.2 bt356.1 bt356.2.1 bt356.2.2).bind fun t365 => (if t365 = true then ((laws_markPool.f k bt328.1 bt328.2.1 bt328.2.2 1).bind fun bt366 => (if bt366.1 < 0 then (none) else ((laws_eqPool.f k bt344.1 bt344.2.1 bt344.2.2.1 bt317.1 bt317.2.1 bt317.2.2.1).bind fun t370 => (if t370 = true then ((laws_markPool.f k bt344.1 bt344.2.1 bt344.2.2.1 1).bind fun bt371 => ((laws_heldPool.f k bt371.2.1 bt371.2.2.1 bt371.2.2.2 1).bind fun t375 => (if t375 < 0 then (none) else (if t375 = bt371.1 then ((laws_toConf.f a0_0 a0_1 a0_2 a0_3 a0_4 a0_5).bind fun bt376 => ((laws_toPool.f k l1_0 l1_1 l1_2).bind fun bt382 => ((impl_WipeSome.f k bt376.1 bt376.2.1 bt376.2.2.1 bt376.2.2.2.1 bt376.2.2.2.2.1 bt376.2.2.2.2.2 bt382.1 bt382.2.1 bt382.2.2 a2 a3).bind fun bt391 => ((laws_eqPool.f k bt391.1 bt391.2.1 bt391.2.2.1 bt317.1 bt317.2.1 bt317.2.2.1).bind fun t402 => (if t402 = true then (if (bt391.2.2.2 != bt317.2.2.2) = true then (none) else ((laws_heldPool.f k bt371.2.1 bt371.2.2.1 bt371.2.2.2 1).bind fun t403 => (if t403 < 0 then (none) else (if t403 = bt371.1 then (some true) else (none))))) else (none)))))) else (none))))) else (none))))) else (none))))) else (none))))))))))
theorem laws_FnExactWipeSome.mono : ∀ a0 a1 a2 a3 a4 a5 a6 a7 a8 a9 a10 k, LeO (laws_FnExactWipeSome.f k a0 a1 a2 a3 a4 a5 a6 a7 a8 a9 a10) (laws_FnExactWipeSome.f (k + 1) a0 a1 a2 a3 a4 a5 a6 a7 a8 a9 a10) := by
 intro a0 a1 a2 a3 a4 a5 a6 a7 a8 a9 a10 k
 unfold laws_FnExactWipeSome.f
 repeat' first
   | (with_reducible exact impl_WipeSome.mono _ _ _ _ _ _ _ _ _ _ _ _)
   | (with_reducible exact laws_eqPool.mono _ _ _ _ _ _ _)
   | (with_reducible exact laws_heldPool.mono _ _ _ _ _)
   | (with_reducible exact laws_markPool.mono _ _ _ _ _)
   | (with_reducible exact laws_toPool.mono _ _ _ _)
   | (with_reducible exact spec_WipeSome.mono _ _ _ _ _ _ _ _ _ _ _ _)
   | (with_reducible exact LeO.refl _)
   | (with_reducible exact LeO.none _)
   | (with_reducible refine LeO.ite ?_ ?_)
   | (with_reducible refine LeO.bind ?_ (fun _ => ?_))
   | exact impl_WipeSome.mono _ _ _ _ _ _ _ _ _ _ _ _
   | exact laws_eqPool.mono _ _ _ _ _ _ _
   | exact laws_heldPool.mono _ _ _ _ _
   | exact laws_markPool.mono _ _ _ _ _
   | exact laws_toPool.mono _ _ _ _
   | exact spec_WipeSome.mono _ _ _ _ _ _ _ _ _ _ _ _
   | exact LeO.none _
   | refine LeO.ite ?_ ?_
   | refine LeO.bind ?_ (fun _ => ?_)
def laws_FnExactWipeSome.T5 : Bool × List (List Nat × List Nat) := (true, [([], []), ([0], [0]), ([], []), ([2, 1], [2]), ([], []), ([], []), ([1, 3, 4, 5, 3], [1, 3, 4, 5]), ([6], [6]), ([7], [7]), ([7], [7]), ([], []), ([10, 8, 6, 0, 1, 2, 3, 4, 5, 6, 7, 8, 10], [8, 10]), ([9, 11, 0, 1, 2, 3, 4, 5, 6, 7, 8, 9, 10, 11], [9])])
def laws_FnExactWipeSome.B5 : List Nat := [0, 1, 0, 7, 0, 0, 63, 127, 255, 255, 0, 1535, 4095]
theorem laws_FnExactWipeSome.tab5 : rtab .any (opsOf Try.f3 5) = laws_FnExactWipeSome.T5 := by kernel_rfl
theorem laws_FnExactWipeSome.bits5 : waitsOk laws_FnExactWipeSome.T5.2 laws_FnExactWipeSome.B5 = true := by kernel_rfl
def laws_FnExactWipeSome.T7 : Bool × List (List Nat × List Nat) := (true, [([], []), ([0], [0]), ([], []), ([], []), ([], []), ([1, 2, 3, 4, 1], [1, 2, 3, 4]), ([5], [5]), ([6], [6]), ([6], [6]), ([], []), ([9, 7, 5, 0, 1, 2, 3, 4, 5, 6, 7, 9], [7, 9]), ([8, 10, 0, 1, 2, 3, 4, 5, 6, 7, 8, 9, 10], [8])])
def laws_FnExactWipeSome.B7 : List Nat := [0, 1, 0, 0, 0, 31, 63, 127, 127, 0, 767, 2047]
theorem laws_FnExactWipeSome.tab7 : rtab .any (opsOf Try.f3 7) = laws_FnExactWipeSome.T7 := by kernel_rfl
theorem laws_FnExactWipeSome.bits7 : waitsOk laws_FnExactWipeSome.T7.2 laws_FnExactWipeSome.B7 = true := by kernel_rfl
def laws_FnExactWipeSome.T24 : Bool × List (List Nat × List Nat) := (true, [([], []), ([0], [0]), ([], []), ([2, 1], [2]), ([], []), ([], []), ([1, 3, 4, 5, 3], [1, 3, 4, 5]), ([6], [6]), ([7], [7]), ([7], [7]), ([], []), ([10, 8, 6, 0, 1, 2, 3, 4, 5, 6, 7, 8, 10], [8, 10]), ([9, 11, 0, 1, 2, 3, 4, 5, 6, 7, 8, 9, 10, 11], [9])])
def laws_FnExactWipeSome.B24 : List Nat := [0, 1, 0, 7, 0, 0, 63, 127, 255, 255, 0, 1535, 4095]
theorem laws_FnExactWipeSome.tab24 : rtab .any (opsOf Try.f3 24) = laws_FnExactWipeSome.T24 := by kernel_rfl
theorem laws_FnExactWipeSome.bits24 : waitsOk laws_FnExactWipeSome.T24.2 laws_FnExactWipeSome.B24 = true := by kernel_rfl
set_option maxHeartbeats 8000000 in
set_option maxRecDepth 100000 in
theorem laws_FnExactWipeSome.calls (k : Nat) (a0_0 : Int) (a0_1 : Int) (a0_2 : Int) (a0_3 : Int) (a0_4 : Int) (a0_5 : Int) (A1_0 : Option Addr) (c1_0 : Nat) (l1_0 : List Int) (A1_1 : Option Addr) (c1_1 : Nat) (l1_1 : List Int) (A1_2 : Option Addr) (c1_2 : Nat) (l1_2 : List Int) (a2 : Int) (a3 : Int) (r : Bool) (w : World) (hr1_0 : Kd.C (Kd.int .u8) w A1_0 l1_0.length l1_0) (hc1_0 : l1_0.length ≤ c1_0) (hr1_1 : Kd.C (Kd.int .i64) w A1_1 l1_1.length l1_1) (hc1_1 : l1_1.length ≤ c1_1) (hr1_2 : Kd.C (Kd.int .i64) w A1_2 l1_2.length l1_2) (hc1_2 : l1_2.length ≤ c1_2) (h : laws_FnExactWipeSome.f k a0_0 a0_1 a0_2 a0_3 a0_4 a0_5 l1_0 l1_1 l1_2 a2 a3 = some r) :
  Calls Try.prog 3 #[.agg #[.int .i64 a0_0, .int .i64 a0_1, .int .i64 a0_2, .int .i64 a0_3, .int .i64 a0_4, .int .i64 a0_5], .agg #[.slice A1_0 l1_0.length c1_0, .slice A1_1 l1_1.length c1_1, .slice A1_2 l1_2.length c1_2], .int .i64 a2, .int .i64 a3] w fun e w' => e = .returned (.bool r) ∧ Below w.heap.size w w' := by
 have hu23 := Try.underlying23
 have hu27 := Try.underlying27
 have hu29 := Try.underlying29
 have HR1_0 := Aside0.mk hr1_0
 have HC1_0 := Aside0.mk hc1_0
 clear hr1_0 hc1_0
 have HR1_1 := Aside0.mk hr1_1
 have HC1_1 := Aside0.mk hc1_1
 clear hr1_1 hc1_1
 have HR1_2 := Aside0.mk hr1_2
 have HC1_2 := Aside0.mk hc1_2
 clear hr1_2 hc1_2
 have HB := Aside0.mk (Below.refl w.heap.size w)
 have H : ((laws_szPool.f l1_0 l1_1 l1_2 1048576).bind fun t301 => (if t301 < 0 then (some true) else ((laws_toConf.f a0_0 a0_1 a0_2 a0_3 a0_4 a0_5).bind fun bt302 => ((laws_toPool.f k l1_0 l1_1 l1_2).bind fun bt308 => ((spec_WipeSome.f k bt302.1 bt302.2.1 bt302.2.2.1 bt302.2.2.2.1 bt302.2.2.2.2.1 bt302.2.2.2.2.2 bt308.1 bt308.2.1 bt308.2.2 a2 a3).bind fun bt317 => ((laws_toPool.f k l1_0 l1_1 l1_2).bind fun bt328 => ((laws_toConf.f a0_0 a0_1 a0_2 a0_3 a0_4 a0_5).bind fun bt338 => ((impl_WipeSome.f k bt338.1 bt338.2.1 bt338.2.2.1 bt338.2.2.2.1 bt338.2.2.2.2.1 bt338.2.2.2.2.2 bt328.1 bt328.2.1 bt328.2.2 a2 a3).bind fun bt344 => ((laws_eqPool.f k bt344.1 bt344.2.1 bt344.2.2.1 bt317.1 bt317.2.1 bt317.2.2.1).bind fun t355 => (if t355 = true then (if (bt344.2.2.2 != bt317.2.2.2) = true then (none) else ((laws_toPool.f k l1_0 l1_1 l1_2).bind fun bt356 => ((laws_eqPool.f k bt328.1 bt328.2.1 bt328.2.2 bt356.1 bt356.2.1 bt356.2.2).bind fun t365 => (if t365 = true then ((laws_markPool.f k bt328.1 bt328.2.1 bt328.2.2 1).bind fun bt366 => (if bt366.1 < 0 then (none) else ((laws_eqPool.f k bt344.1 bt344.2.1 bt344.2.2.1 bt317.1 bt317.2.1 bt317.2.2.1).bind fun t370 => (if t370 = true then ((laws_markPool.f k bt344.1 bt344.2.1 bt344.2.2.1 1).bind fun bt371 => ((laws_heldPool.f k bt371.2.1 bt371.2.2.1 bt371.2.2.2 1).bind fun t375 => (if t375 < 0 then (none) else (if t375 = bt371.1 then ((laws_toConf.f a0_0 a0_1 a0_2 a0_3 a0_4 a0_5).bind fun bt376 => ((laws_toPool.f k l1_0 l1_1 l1_2).bind fun bt382 => ((impl_WipeSome.f k bt376.1 bt376.2.1 bt376.2.2.1 bt376.2.2.2.1 bt376.2.2.2.2.1 bt376.2.2.2.2.2 bt382.1 bt382.2.1 bt382.2.2 a2 a3).bind fun bt391 => ((laws_eqPool.f k bt391.1 bt391.2.1 bt391.2.2.1 bt317.1 bt317.2.1 bt317.2.2.1).bind fun t402 => (if t402 = true then (if (bt391.2.2.2 != bt317.2.2.2) = true then (none) else ((laws_heldPool.f k bt371.2.1 bt371.2.2.1 bt371.2.2.2 1).bind fun t403 => (if t403 < 0 then (none) else (if t403 = bt371.1 then (some true) else (none))))) else (none)))))) else (none))))) else (none))))) else (none))))) else (none))))))))))) = some r := h
 clear h
 replace H := Option.bind_eq_some_iff.mp H
 obtain ⟨t301, A50, H⟩ := H
 try dsimp only at H
 have A5 := Aside0.mk A50
 clear A50
 by_cases c6 : t301 < 0
 ·rw [if_pos c6] at H
  have c6b0 : decide (t301 < 0) = true := decide_eq_true c6
  clear c6
  obtain rfl := Option.some.inj H
  go_enter Try.func3, Try.ntmps3
  go_wp2_with (first | ((with_reducible refine gate_dst (N := 4) rfl ?_); refine box_ev 4 #[.int .i64 a0_0, .int .i64 a0_1, .int .i64 a0_2, .int .i64 a0_3, .int .i64 a0_4, .int .i64 a0_5] 23 ?_; intro gb299 hg w7 hbox hb; have BK299 := Aside0.mk (hbox); have GW299 := Aside0.mk ((q76t : w.heap.size ≤ gb299)); have GE299 := Aside0.mk ((q76t : w.heap.size ≤ gb299)); replace HB := Aside0.mk (below_step q102t hb); clear hb hbox hg) | ((with_reducible refine gate_dst (N := 5) rfl ?_); refine box_ev 5 #[.slice A1_0 l1_0.length c1_0, .slice A1_1 l1_1.length c1_1, .slice A1_2 l1_2.length c1_2] 27 ?_; intro gb300 hg w8 hbox hb; have BK300 := Aside0.mk (hbox); have GW300 := Aside0.mk ((q53t : w.heap.size ≤ gb300)); have GE300 := Aside0.mk ((q53t : w.heap.size ≤ gb300)); replace HB := Aside0.mk (below_step q88t hb); have NB299_300 := Aside0.mk ((q134t : gb299 ≠ gb300)); have NB300_299 := Aside0.mk ((q135t : gb300 ≠ gb299)); replace BK299 := blb BK299 hb; clear hb hbox hg; have hnb9 := NB300_299.out; have hnc9 := NB299_300.out; obtain ⟨hcz10_0, hcz10_1, hcz10_2⟩ := qc3 BK300.out; obtain ⟨hfz10_0, hfz10_1, hfz10_2⟩ := qf3 BK300.out) | ((with_reducible refine gate_callee (f := 4) rfl ?_); refine goesL_ (some 22) rfl rfl Try.func4 (by kernel_rfl) rfl #[.agg #[.slice A1_0 l1_0.length c1_0, .slice A1_1 l1_1.length c1_1, .slice A1_2 l1_2.length c1_2], .int .i64 1048576] rfl q97t ?_; (with_reducible refine (laws_szPool.calls _ _ l1_0 _ _ l1_1 _ _ l1_2 1048576 t301 _ ?side1 ?side2 ?side3 ?side4 ?side5 ?side6 A5.out).mono ?_); (case side1 => repeat (first | exact (Kd.C_below HR1_0.out HB.out) | (with_reducible refine Kd.C_alloc ?_ _) | (with_reducible refine Kd.C_drewN ?_ _) | (with_reducible refine Kd.C_drew ?_))); (case side2 => exact HC1_0.out); (case side3 => repeat (first | exact (Kd.C_below HR1_1.out HB.out) | (with_reducible refine Kd.C_alloc ?_ _) | (with_reducible refine Kd.C_drewN ?_ _) | (with_reducible refine Kd.C_drew ?_))); (case side4 => exact HC1_1.out); (case side5 => repeat (first | exact (Kd.C_below HR1_2.out HB.out) | (with_reducible refine Kd.C_alloc ?_ _) | (with_reducible refine Kd.C_drewN ?_ _) | (with_reducible refine Kd.C_drew ?_))); (case side6 => exact HC1_2.out); rintro e w11 ⟨rfl, hb⟩; refine ⟨_, rfl, ?_⟩; replace BK299 := blb BK299 hb; replace BK300 := blb BK300 hb; replace HB := Aside0.mk (below_step q63t hb); (try clear hb); (try clear hb2); (try clear hk); (try clear hi)))
  go_ret
  exact ⟨by first | rfl | (simp [errW_none, errW_some] <;> rfl) | (simp [*, errW_none, errW_some] <;> rfl), by repeat (first | (with_reducible first | exact HB.out | apply below_alloc | apply pw_below_drewN | apply below_drew1 | refine below_set ?_ GE299.out | refine below_set ?_ GE300.out) | exact HB.out)⟩
 rw [if_neg c6] at H
 have c6b0 : decide (t301 < 0) = false := decide_eq_false c6
 clear c6
 replace H := Option.bind_eq_some_iff.mp H
 obtain ⟨⟨t302, t303, t304, t305, t306, t307⟩, A120, H⟩ := H
 try dsimp only at H
 have A12 := Aside0.mk A120
 clear A120
 replace H := Option.bind_eq_some_iff.mp H
 obtain ⟨⟨t308, t311, t314⟩, A130, H⟩ := H
 try dsimp only at H
 have A13 := Aside0.mk A130
 clear A130
 replace H := Option.bind_eq_some_iff.mp H
 obtain ⟨⟨t317, t320, t323, t326⟩, A140, H⟩ := H
 try dsimp only at H
 have A14 := Aside0.mk A140
 clear A140
 replace H := Option.bind_eq_some_iff.mp H
 obtain ⟨⟨t328, t331, t334⟩, A150, H⟩ := H
 try dsimp only at H
 have A15 := Aside0.mk A150
 clear A150
 replace H := Option.bind_eq_some_iff.mp H
 obtain ⟨⟨t338, t339, t340, t341, t342, t343⟩, A160, H⟩ := H
 try dsimp only at H
 have A16 := Aside0.mk A160
 clear A160
 replace H := Option.bind_eq_some_iff.mp H
 obtain ⟨⟨t344, t347, t350, t353⟩, A170, H⟩ := H
 try dsimp only at H
 have A17 := Aside0.mk A170
 clear A170
 replace H := Option.bind_eq_some_iff.mp H
 obtain ⟨t355, A180, H⟩ := H
 try dsimp only at H
 have A18 := Aside0.mk A180
 clear A180
 by_cases c19 : t355 = true
 rotate_left
 ·replace c19 := Bool.eq_false_iff.mpr c19
  subst c19
  rw [if_neg (show ¬ (false = true) by decide)] at H
  exact absurd H q145t
 subst c19
 rw [if_pos rfl] at H
 by_cases c20 : (t353 != t326) = true
 ·rw [if_pos c20] at H
  exact absurd H q145t
 rw [if_neg c20] at H
 have c20b0 : (t353 != t326) = false := by simpa using c20
 (try (have c20b1 : decide (t353 = t326) = true := by simpa using c20))
 (try (have c20b2 : (t353 == t326) = true := by simpa using c20))
 clear c20
 replace H := Option.bind_eq_some_iff.mp H
 obtain ⟨⟨t356, t359, t362⟩, A210, H⟩ := H
 try dsimp only at H
 have A21 := Aside0.mk A210
 clear A210
 replace H := Option.bind_eq_some_iff.mp H
 obtain ⟨t365, A220, H⟩ := H
 try dsimp only at H
 have A22 := Aside0.mk A220
 clear A220
 by_cases c23 : t365 = true
 rotate_left
 ·replace c23 := Bool.eq_false_iff.mpr c23
  subst c23
  rw [if_neg (show ¬ (false = true) by decide)] at H
  exact absurd H q145t
 subst c23
 rw [if_pos rfl] at H
 replace H := Option.bind_eq_some_iff.mp H
 obtain ⟨⟨t366, t367, t368, t369⟩, A240, H⟩ := H
 try dsimp only at H
 have A24 := Aside0.mk A240
 clear A240
 by_cases c25 : t366 < 0
 ·rw [if_pos c25] at H
  exact absurd H q145t
 rw [if_neg c25] at H
 have c25b0 : decide (t366 < 0) = false := decide_eq_false c25
 clear c25
 replace H := Option.bind_eq_some_iff.mp H
 obtain ⟨t370, A260, H⟩ := H
 try dsimp only at H
 have A26 := Aside0.mk A260
 clear A260
 by_cases c27 : t370 = true
 rotate_left
 ·replace c27 := Bool.eq_false_iff.mpr c27
  subst c27
  rw [if_neg (show ¬ (false = true) by decide)] at H
  exact absurd H q145t
 subst c27
 rw [if_pos rfl] at H
 replace H := Option.bind_eq_some_iff.mp H
 obtain ⟨⟨t371, t372, t373, t374⟩, A280, H⟩ := H
 try dsimp only at H
 have A28 := Aside0.mk A280
 clear A280
 replace H := Option.bind_eq_some_iff.mp H
 obtain ⟨t375, A290, H⟩ := H
 try dsimp only at H
 have A29 := Aside0.mk A290
 clear A290
 by_cases c30 : t375 < 0
 ·rw [if_pos c30] at H
  exact absurd H q145t
 rw [if_neg c30] at H
 have c30b0 : decide (t375 < 0) = false := decide_eq_false c30
 clear c30
 by_cases c31 : t375 = t371
 rotate_left
 ·rw [if_neg c31] at H
  exact absurd H q145t
 rw [if_pos c31] at H
 have c31b0 : (t375 == t371) = true := beq_iff_eq.mpr c31
 have c31b1 : (t375 != t371) = false := bne_eq_false_iff_eq.mpr c31
 clear c31
 replace H := Option.bind_eq_some_iff.mp H
 obtain ⟨⟨t376, t377, t378, t379, t380, t381⟩, A320, H⟩ := H
 try dsimp only at H
 have A32 := Aside0.mk A320
 clear A320
 replace H := Option.bind_eq_some_iff.mp H
 obtain ⟨⟨t382, t385, t388⟩, A330, H⟩ := H
 try dsimp only at H
 have A33 := Aside0.mk A330
 clear A330
 replace H := Option.bind_eq_some_iff.mp H
 obtain ⟨⟨t391, t394, t397, t400⟩, A340, H⟩ := H
 try dsimp only at H
 have A34 := Aside0.mk A340
 clear A340
 replace H := Option.bind_eq_some_iff.mp H
 obtain ⟨t402, A350, H⟩ := H
 try dsimp only at H
 have A35 := Aside0.mk A350
 clear A350
 by_cases c36 : t402 = true
 rotate_left
 ·replace c36 := Bool.eq_false_iff.mpr c36
  subst c36
  rw [if_neg (show ¬ (false = true) by decide)] at H
  exact absurd H q145t
 subst c36
 rw [if_pos rfl] at H
 by_cases c37 : (t400 != t326) = true
 ·rw [if_pos c37] at H
  exact absurd H q145t
 rw [if_neg c37] at H
 have c37b0 : (t400 != t326) = false := by simpa using c37
 (try (have c37b1 : decide (t400 = t326) = true := by simpa using c37))
 (try (have c37b2 : (t400 == t326) = true := by simpa using c37))
 clear c37
 replace H := Option.bind_eq_some_iff.mp H
 obtain ⟨t403, A380, H⟩ := H
 try dsimp only at H
 have A38 := Aside0.mk A380
 clear A380
 by_cases c39 : t403 < 0
 ·rw [if_pos c39] at H
  exact absurd H q145t
 rw [if_neg c39] at H
 have c39b0 : decide (t403 < 0) = false := decide_eq_false c39
 clear c39
 by_cases c40 : t403 = t371
 rotate_left
 ·rw [if_neg c40] at H
  exact absurd H q145t
 rw [if_pos c40] at H
 have c40b0 : (t403 == t371) = true := beq_iff_eq.mpr c40
 have c40b1 : (t403 != t371) = false := bne_eq_false_iff_eq.mpr c40
 clear c40
 obtain rfl := Option.some.inj H
 go_enter Try.func3, Try.ntmps3
 try go_wp2_with (first | ((with_reducible refine gate_dst (N := 4) rfl ?_); refine box_ev 4 #[.int .i64 a0_0, .int .i64 a0_1, .int .i64 a0_2, .int .i64 a0_3, .int .i64 a0_4, .int .i64 a0_5] 23 ?_; intro gb299 hg w41 hbox hb; have BK299 := Aside0.mk (hbox); have GW299 := Aside0.mk ((q76t : w.heap.size ≤ gb299)); have GE299 := Aside0.mk ((q76t : w.heap.size ≤ gb299)); replace HB := Aside0.mk (below_step q102t hb); clear hb hbox hg) | ((with_reducible refine gate_dst (N := 5) rfl ?_); refine box_ev 5 #[.slice A1_0 l1_0.length c1_0, .slice A1_1 l1_1.length c1_1, .slice A1_2 l1_2.length c1_2] 27 ?_; intro gb300 hg w42 hbox hb; have BK300 := Aside0.mk (hbox); have GW300 := Aside0.mk ((q53t : w.heap.size ≤ gb300)); have GE300 := Aside0.mk ((q53t : w.heap.size ≤ gb300)); replace HB := Aside0.mk (below_step q88t hb); have NB299_300 := Aside0.mk ((q134t : gb299 ≠ gb300)); have NB300_299 := Aside0.mk ((q135t : gb300 ≠ gb299)); replace BK299 := blb BK299 hb; clear hb hbox hg; have hnb43 := NB300_299.out; have hnc43 := NB299_300.out; obtain ⟨hcz44_0, hcz44_1, hcz44_2⟩ := qc3 BK300.out; obtain ⟨hfz44_0, hfz44_1, hfz44_2⟩ := qf3 BK300.out) | ((with_reducible refine gate_callee (f := 4) rfl ?_); refine goesL_ (some 22) rfl rfl Try.func4 (by kernel_rfl) rfl #[.agg #[.slice A1_0 l1_0.length c1_0, .slice A1_1 l1_1.length c1_1, .slice A1_2 l1_2.length c1_2], .int .i64 1048576] rfl q97t ?_; (with_reducible refine (laws_szPool.calls _ _ l1_0 _ _ l1_1 _ _ l1_2 1048576 t301 _ ?side1 ?side2 ?side3 ?side4 ?side5 ?side6 A5.out).mono ?_); (case side1 => repeat (first | exact (Kd.C_below HR1_0.out HB.out) | (with_reducible refine Kd.C_alloc ?_ _) | (with_reducible refine Kd.C_drewN ?_ _) | (with_reducible refine Kd.C_drew ?_))); (case side2 => exact HC1_0.out); (case side3 => repeat (first | exact (Kd.C_below HR1_1.out HB.out) | (with_reducible refine Kd.C_alloc ?_ _) | (with_reducible refine Kd.C_drewN ?_ _) | (with_reducible refine Kd.C_drew ?_))); (case side4 => exact HC1_1.out); (case side5 => repeat (first | exact (Kd.C_below HR1_2.out HB.out) | (with_reducible refine Kd.C_alloc ?_ _) | (with_reducible refine Kd.C_drewN ?_ _) | (with_reducible refine Kd.C_drew ?_))); (case side6 => exact HC1_2.out); rintro e w45 ⟨rfl, hb⟩; refine ⟨_, rfl, ?_⟩; replace BK299 := blb BK299 hb; replace BK300 := blb BK300 hb; replace HB := Aside0.mk (below_step q63t hb); (try clear hb); (try clear hb2); (try clear hk); (try clear hi)))
 (try (rw [drewN_self w45]; generalize hq_ : World.drewN w45 _ = w45; have hh_ := congrArg World.heap hq_; dsimp only [World.drewN] at hh_; have zb_ : Below w.heap.size w w45 := (by rw [← hq_]; exact pw_below_drewN HB.out _); have z_ := BK299.out; rw [hh_] at z_; clear BK299; have BK299 := Aside0.mk z_; clear z_; have z_ := BK300.out; rw [hh_] at z_; clear BK300; have BK300 := Aside0.mk z_; clear z_; clear HB; have HB := Aside0.mk zb_; clear zb_ hh_ hq_))
 replace BK299 := Aside0.mk (blk_drew BK299.out)
 replace BK300 := Aside0.mk (blk_drew BK300.out)
 replace HB := Aside0.mk (below_drew1 HB.out)
 refine start_ (n := 13) (S := fun w' => w'.cell? ⟨gb299, 0, none⟩ = some (.int .i64 a0_0) ∧ w'.cell? ⟨gb299, 1, none⟩ = some (.int .i64 a0_1) ∧ w'.cell? ⟨gb299, 2, none⟩ = some (.int .i64 a0_2) ∧ w'.cell? ⟨gb299, 3, none⟩ = some (.int .i64 a0_3) ∧ w'.cell? ⟨gb299, 4, none⟩ = some (.int .i64 a0_4) ∧ w'.cell? ⟨gb299, 5, none⟩ = some (.int .i64 a0_5) ∧ w'.cell? ⟨gb300, 0, none⟩ = some (.slice A1_0 l1_0.length c1_0) ∧ w'.cell? ⟨gb300, 1, none⟩ = some (.slice A1_1 l1_1.length c1_1) ∧ w'.cell? ⟨gb300, 2, none⟩ = some (.slice A1_2 l1_2.length c1_2)) (ds := []) (bm 13 0) (by kernel_rfl) rfl (by kernel_rfl) ⟨(blk_cell BK299.out 0).trans rfl, (blk_cell BK299.out 1).trans rfl, (blk_cell BK299.out 2).trans rfl, (blk_cell BK299.out 3).trans rfl, (blk_cell BK299.out 4).trans rfl, (blk_cell BK299.out 5).trans rfl, (blk_cell BK300.out 0).trans rfl, (blk_cell BK300.out 1).trans rfl, (blk_cell BK300.out 2).trans rfl⟩ (fun hHeld => ?_); refine with_tabW laws_FnExactWipeSome.tab5 laws_FnExactWipeSome.bits5 (fun HT_ HW_ => ?_)
 generalize w45.drew = w46 at BK299 BK300 HB hHeld ⊢
 refine pu_ 4 (some 30) (bm 13 16) (any_of HT_.out (by kernel_rfl)) ?_
 refine pu_ 5 (some 31) (bm 13 48) (any_of HT_.out (by kernel_rfl)) ?_
 refine take_ (i := 0) (N := some 26) (v := ?_) (a' := ?_) (bm 13 49) rfl rfl (take_ofW HT_.out HW_.out (by kernel_rfl)) (fun _ _ _ h => h) (Or.inl ⟨by rfl, ?_⟩) hHeld ?_ ?_
 rotate_left
 ·rintro w' ⟨s0, s1, s2, s3, s4, s5, s6, s7, s8⟩
  go_simp
  with_reducible rfl
 rotate_left
 ·simp only [Act.put, List.setIfInBounds_toArray, List.set_cons_zero, List.set_cons_succ, i64_w, i32_w]
  rfl
 refine take_ (i := 2) (N := some 28) (v := ?_) (a' := ?_) (bm 13 53) rfl rfl (take_ofW HT_.out HW_.out (by kernel_rfl)) (fun _ _ _ h => h) (Or.inl ⟨by rfl, ?_⟩) hHeld ?_ ?_
 rotate_left
 ·rintro w' ⟨s0, s1, s2, s3, s4, s5, s6, s7, s8⟩
  go_simp
  with_reducible rfl
 rotate_left
 ·simp only [Act.put, List.setIfInBounds_toArray, List.set_cons_zero, List.set_cons_succ, i64_w, i32_w]
  rfl
 refine join_ (σ := Value × Value × Value × Value × Value × Value × Nat) 2 #[true, true, true, true, true, true, true, true, true, true, true, false, false] (fun s_ => [(27, .agg #[.int .i64 t302, .int .i64 t303, .int .i64 t304, .int .i64 t305, .int .i64 t306, .int .i64 t307]), (29, .agg #[s_.1, s_.2.1, s_.2.2.1]), (32, .tuple #[.agg #[s_.2.2.2.1, s_.2.2.2.2.1, s_.2.2.2.2.2.1], .bool t326]), (10, .pointer (some ⟨s_.2.2.2.2.2.2, 0, none⟩)), (25, .tuple #[.agg #[s_.2.2.2.1, s_.2.2.2.2.1, s_.2.2.2.2.2.1], .bool t326]), (33, .agg #[s_.2.2.2.1, s_.2.2.2.2.1, s_.2.2.2.2.2.1]), (34, .bool t326)]) (fun s_ w' => (w'.cell? ⟨gb299, 0, none⟩ = some (.int .i64 a0_0) ∧ w'.cell? ⟨gb299, 1, none⟩ = some (.int .i64 a0_1) ∧ w'.cell? ⟨gb299, 2, none⟩ = some (.int .i64 a0_2) ∧ w'.cell? ⟨gb299, 3, none⟩ = some (.int .i64 a0_3) ∧ w'.cell? ⟨gb299, 4, none⟩ = some (.int .i64 a0_4) ∧ w'.cell? ⟨gb299, 5, none⟩ = some (.int .i64 a0_5) ∧ w'.cell? ⟨gb300, 0, none⟩ = some (.slice A1_0 l1_0.length c1_0) ∧ w'.cell? ⟨gb300, 1, none⟩ = some (.slice A1_1 l1_1.length c1_1) ∧ w'.cell? ⟨gb300, 2, none⟩ = some (.slice A1_2 l1_2.length c1_2)) ∧ (Kd.R (Kd.int .u8) 5 w' w.heap.size (fun k_ => some k_ ≠ (s_.2.2.2.1 : Value).ownBlock) s_.1 t308) ∧ (Kd.R (Kd.int .i64) 3 w' w.heap.size (fun k_ => some k_ ≠ (s_.2.2.1 : Value).ownBlock ∧ some k_ ≠ (s_.2.2.2.2.1 : Value).ownBlock ∧ some k_ ≠ (s_.2.2.2.2.2.1 : Value).ownBlock) s_.2.1 t311) ∧ (Kd.R (Kd.int .i64) 3 w' w.heap.size (fun k_ => some k_ ≠ (s_.2.1 : Value).ownBlock ∧ some k_ ≠ (s_.2.2.2.2.1 : Value).ownBlock ∧ some k_ ≠ (s_.2.2.2.2.2.1 : Value).ownBlock) s_.2.2.1 t314) ∧ (Kd.R (Kd.int .u8) 5 w' w.heap.size (fun k_ => some k_ ≠ (s_.1 : Value).ownBlock) s_.2.2.2.1 t317) ∧ (Kd.R (Kd.int .i64) 3 w' w.heap.size (fun k_ => some k_ ≠ (s_.2.1 : Value).ownBlock ∧ some k_ ≠ (s_.2.2.1 : Value).ownBlock ∧ some k_ ≠ (s_.2.2.2.2.2.1 : Value).ownBlock) s_.2.2.2.2.1 t320) ∧ (Kd.R (Kd.int .i64) 3 w' w.heap.size (fun k_ => some k_ ≠ (s_.2.1 : Value).ownBlock ∧ some k_ ≠ (s_.2.2.1 : Value).ownBlock ∧ some k_ ≠ (s_.2.2.2.2.1 : Value).ownBlock) s_.2.2.2.2.2.1 t323) ∧ (w'.heap[gb299]? = some (.cells #[.int .i64 a0_0, .int .i64 a0_1, .int .i64 a0_2, .int .i64 a0_3, .int .i64 a0_4, .int .i64 a0_5] 23 (0, 0))) ∧ (w'.heap[gb300]? = some (.cells #[.slice A1_0 l1_0.length c1_0, .slice A1_1 l1_1.length c1_1, .slice A1_2 l1_2.length c1_2] 27 (0, 0))) ∧ (w'.heap[s_.2.2.2.2.2.2]? = some (.cells #[.slice none 0 0, .slice none 0 0, .slice none 0 0] 29 (0, 0))) ∧ (w.heap.size ≤ s_.2.2.2.2.2.2) ∧ (w.heap.size ≤ s_.2.2.2.2.2.2) ∧ (gb299 ≠ s_.2.2.2.2.2.2) ∧ (s_.2.2.2.2.2.2 ≠ gb299) ∧ (gb300 ≠ s_.2.2.2.2.2.2) ∧ (s_.2.2.2.2.2.2 ≠ gb300) ∧ (Below w.heap.size w w')) ?_ ?_
 rotate_left
 ·intro hCont
  refine two_ (i := 1) (j := 10) (Ni := some 27) (Nj := some 10) #[true, true, true, false, true, true, false, false, false, false, false, false, false] #[true, false, true, false, true, true, false, false, false, false, true, false, false] rfl rfl rfl rfl (two_of HT_.out (by kernel_rfl)) q144t q144t (fun K hK => ?_) (fun K hK => ?_)
  ·skip
   refine goes_ Try.func6 (by kernel_rfl) rfl #[.agg #[.int .i64 a0_0, .int .i64 a0_1, .int .i64 a0_2, .int .i64 a0_3, .int .i64 a0_4, .int .i64 a0_5]] (by rfl) rfl rfl q97t ?_
   with_reducible refine (laws_toConf.calls a0_0 a0_1 a0_2 a0_3 a0_4 a0_5 t302 t303 t304 t305 t306 t307 _ A12.out).mono ?_
   rintro e w47 ⟨rfl, hb⟩
   refine ⟨_, rfl, ?_⟩
   replace BK299 := blb BK299 hb
   replace BK300 := blb BK300 hb
   replace HB := Aside0.mk (below_step q63t hb)
   (try clear hb)
   (try clear hb2)
   (try clear hk)
   (try clear hi)
   refine hK.out _ _ q22t (fun hHeld => ?_)
   clear hK K
   refine norm_ (a' := ?_) ?_ ?_
   rotate_left
   ·show Act.put _ (some 27) _ = _
    simp only [Act.put, List.setIfInBounds_toArray, List.set_cons_zero, List.set_cons_succ, i64_w, i32_w]
    rfl
   refine two_ (i := 3) (j := 10) (Ni := some 29) (Nj := some 10) #[true, true, true, true, true, true, false, false, false, false, false, false, false] #[true, true, true, false, true, true, false, false, false, false, true, false, false] rfl rfl rfl rfl (two_of HT_.out (by kernel_rfl)) q144t q144t (fun K hK => ?_) (fun K hK => ?_)
   ·skip
    refine goes_ Try.func7 (by kernel_rfl) rfl #[.agg #[.slice A1_0 l1_0.length c1_0, .slice A1_1 l1_1.length c1_1, .slice A1_2 l1_2.length c1_2]] (by rfl) rfl rfl q97t ?_
    with_reducible refine (laws_toPool.calls k _ _ l1_0 _ _ l1_1 _ _ l1_2 t308 t311 t314 _ ?side1 ?side2 ?side3 ?side4 ?side5 ?side6 A13.out).mono ?_
    (case side1 => repeat (first | exact (Kd.C_below HR1_0.out HB.out) | (with_reducible refine Kd.C_alloc ?_ _) | (with_reducible refine Kd.C_drewN ?_ _) | (with_reducible refine Kd.C_drew ?_)))
    (case side2 => exact HC1_0.out)
    (case side3 => repeat (first | exact (Kd.C_below HR1_1.out HB.out) | (with_reducible refine Kd.C_alloc ?_ _) | (with_reducible refine Kd.C_drewN ?_ _) | (with_reducible refine Kd.C_drew ?_)))
    (case side4 => exact HC1_1.out)
    (case side5 => repeat (first | exact (Kd.C_below HR1_2.out HB.out) | (with_reducible refine Kd.C_alloc ?_ _) | (with_reducible refine Kd.C_drewN ?_ _) | (with_reducible refine Kd.C_drew ?_)))
    (case side6 => exact HC1_2.out)
    rintro e w48 ⟨v309, v312, v315, rfl, ho0, ho1, ho2, hb⟩
    refine ⟨_, rfl, ?_⟩
    have HO310 := Aside0.mk (Kd.R_lower ho0 (below_size q63t))
    have HO313 := Aside0.mk (Kd.R_lower ho1 (below_size q63t))
    have HO316 := Aside0.mk (Kd.R_lower ho2 (below_size q63t))
    replace BK299 := blb BK299 hb
    replace BK300 := blb BK300 hb
    replace HB := Aside0.mk (below_step q63t hb)
    (try clear hb)
    (try clear hb2)
    (try clear hk)
    (try clear hi)
    (try clear ho0)
    (try clear ho1)
    (try clear ho2)
    obtain ⟨Ao49, co49, eo49⟩ := Kd.R_slice HO310.out
    (first | subst eo49 | (injection eo49 with f1_ f2_ f3_; have f4_ := f1_.symm; have f5_ := f3_.symm; clear f1_ f2_ f3_; subst f4_; subst f5_))
    obtain ⟨Ao50, co50, eo50⟩ := Kd.R_slice HO313.out
    (first | subst eo50 | (injection eo50 with f1_ f2_ f3_; have f4_ := f1_.symm; have f5_ := f3_.symm; clear f1_ f2_ f3_; subst f4_; subst f5_))
    obtain ⟨Ao51, co51, eo51⟩ := Kd.R_slice HO316.out
    (first | subst eo51 | (injection eo51 with f1_ f2_ f3_; have f4_ := f1_.symm; have f5_ := f3_.symm; clear f1_ f2_ f3_; subst f4_; subst f5_))
    refine hK.out _ _ q22t (fun hHeld => ?_)
    clear hK K
    refine norm_ (a' := ?_) ?_ ?_
    rotate_left
    ·show Act.put _ (some 29) _ = _
     simp only [Act.put, List.setIfInBounds_toArray, List.set_cons_zero, List.set_cons_succ, i64_w, i32_w]
     rfl
    refine two_ (i := 6) (j := 10) (Ni := some 32) (Nj := some 10) #[true, true, true, true, true, true, true, false, false, false, false, false, false] #[true, true, true, true, true, true, false, false, false, false, true, false, false] rfl rfl rfl rfl (two_of HT_.out (by kernel_rfl)) q144t q144t (fun K hK => ?_) (fun K hK => ?_)
    ·skip
     refine goes_ Try.func5 (by kernel_rfl) rfl #[.agg #[.int .i64 t302, .int .i64 t303, .int .i64 t304, .int .i64 t305, .int .i64 t306, .int .i64 t307], .agg #[.slice Ao49 t308.length co49, .slice Ao50 t311.length co50, .slice Ao51 t314.length co51], .int .i64 a2, .int .i64 a3] (by rfl) rfl rfl q97t ?_
     with_reducible refine (spec_WipeSome.calls k t302 t303 t304 t305 t306 t307 _ _ t308 _ _ t311 _ _ t314 a2 a3 t317 t320 t323 t326 _ ?side1 ?side2 ?side3 ?side4 ?side5 ?side6 A14.out).mono ?_
     (case side1 => repeat (first | exact (Kd.R_reads' HO310.out).2.2 | (with_reducible refine Kd.C_alloc ?_ _) | (with_reducible refine Kd.C_drewN ?_ _) | (with_reducible refine Kd.C_drew ?_)))
     (case side2 => exact (Kd.R_reads' HO310.out).2.1)
     (case side3 => repeat (first | exact (Kd.R_reads' HO313.out).2.2 | (with_reducible refine Kd.C_alloc ?_ _) | (with_reducible refine Kd.C_drewN ?_ _) | (with_reducible refine Kd.C_drew ?_)))
     (case side4 => exact (Kd.R_reads' HO313.out).2.1)
     (case side5 => repeat (first | exact (Kd.R_reads' HO316.out).2.2 | (with_reducible refine Kd.C_alloc ?_ _) | (with_reducible refine Kd.C_drewN ?_ _) | (with_reducible refine Kd.C_drew ?_)))
     (case side6 => exact (Kd.R_reads' HO316.out).2.1)
     rintro e w52 ⟨v318, v321, v324, rfl, ho0, ho1, ho2, hb⟩
     refine ⟨_, rfl, ?_⟩
     have HO319 := Aside0.mk (Kd.R_lower (Kd.R_new' ho0 (Kd.R_lt q113t)) (below_size q63t))
     replace HO310 := Aside0.mk (Kd.R_elder' q113t (Kd.R_base ho0) hb)
     have HO322 := Aside0.mk (Kd.R_lower (Kd.R_new' (Kd.R_new' ho1 (Kd.R_lt q114t)) (Kd.R_lt q115t)) (below_size q63t))
     have HO325 := Aside0.mk (Kd.R_lower (Kd.R_new' (Kd.R_new' ho2 (Kd.R_lt q114t)) (Kd.R_lt q115t)) (below_size q63t))
     replace HO313 := Aside0.mk (Kd.R_mono (Kd.R_told (Kd.R_told (Kd.R_old q114t hb) (Kd.R_base ho1)) (Kd.R_base ho2)) (fun _ h_ => h_.1))
     replace HO316 := Aside0.mk (Kd.R_mono (Kd.R_told (Kd.R_told (Kd.R_old q115t hb) (Kd.R_base ho1)) (Kd.R_base ho2)) (fun _ h_ => h_.1))
     replace BK299 := blb BK299 hb
     replace BK300 := blb BK300 hb
     replace HB := Aside0.mk (below_step q63t hb)
     (try clear hb)
     (try clear hb2)
     (try clear hk)
     (try clear hi)
     (try clear ho0)
     (try clear ho1)
     (try clear ho2)
     refine hK.out _ _ q22t (fun hHeld => ?_)
     clear hK K
     refine norm_ (a' := ?_) ?_ ?_
     rotate_left
     ·show Act.put _ (some 32) _ = _
      simp only [Act.put, List.setIfInBounds_toArray, List.set_cons_zero, List.set_cons_succ, i64_w, i32_w]
      rfl
     refine pu_ 7 (some 25) (bm 13 255) (any_of HT_.out (by kernel_rfl)) ?_
     refine pu_ 8 (some 33) (bm 13 511) (any_of HT_.out (by kernel_rfl)) ?_
     refine pu_ 9 (some 34) (bm 13 1023) (any_of HT_.out (by kernel_rfl)) ?_
     refine one_ (i := 10) (N := some 10) (bm 13 2047) rfl rfl (one_of HT_.out (by kernel_rfl)) q144t (fun K hK => ?_)
     refine box_step ?hg (N := 10) ?hd (cs := #[.slice none 0 0, .slice none 0 0, .slice none 0 0]) (t := 29) ?hr ?_; (case hd => rfl); (case hg => rfl); (case hr => first | (go_simp; done) | (go_simp; rfl))
     intro gb327 hg w53 hbox hb
     replace HO310 := Aside0.mk (Kd.R_below q113t hb)
     replace HO313 := Aside0.mk (Kd.R_below q114t hb)
     replace HO316 := Aside0.mk (Kd.R_below q115t hb)
     replace HO319 := Aside0.mk (Kd.R_below q116t hb)
     replace HO322 := Aside0.mk (Kd.R_below q117t hb)
     replace HO325 := Aside0.mk (Kd.R_below q118t hb)
     have BK327 := Aside0.mk (hbox)
     have GW327 := Aside0.mk ((q31t : w.heap.size ≤ gb327))
     have GE327 := Aside0.mk ((q31t : w.heap.size ≤ gb327))
     replace HB := Aside0.mk (below_step q63t hb)
     have NB299_327 := Aside0.mk ((q134t : gb299 ≠ gb327))
     have NB327_299 := Aside0.mk ((q135t : gb327 ≠ gb299))
     replace BK299 := blb BK299 hb
     have NB300_327 := Aside0.mk ((q136t : gb300 ≠ gb327))
     have NB327_300 := Aside0.mk ((q137t : gb327 ≠ gb300))
     replace BK300 := blb BK300 hb
     clear hb hbox hg
     refine hK.out _ _ q22t (fun hHeld => ?_)
     clear hK K
     refine norm_ (a' := ?_) ?_ ?_
     rotate_left
     ·show Act.put _ (some 10) _ = _
      simp only [Act.put, List.setIfInBounds_toArray, List.set_cons_zero, List.set_cons_succ, i64_w, i32_w]
      rfl
     exact norm_ q131t (hCont (.slice Ao49 t308.length co49, .slice Ao50 t311.length co50, .slice Ao51 t314.length co51, v318, v321, v324, gb327) _ ⟨hHeld, q100t, q90t, q91t, q101t, q92t, q93t, (qbk BK299), (qbk BK300), (qbk BK327), GW327.out, GE327.out, NB299_327.out, NB327_299.out, NB300_327.out, NB327_300.out, q35t⟩)
    skip
    refine box_step ?hg (N := 10) ?hd (cs := #[.slice none 0 0, .slice none 0 0, .slice none 0 0]) (t := 29) ?hr ?_; (case hd => rfl); (case hg => rfl); (case hr => first | (go_simp; done) | (go_simp; rfl))
    intro gb327 hg w49 hbox hb
    replace HO310 := Aside0.mk (Kd.R_below q113t hb)
    replace HO313 := Aside0.mk (Kd.R_below q114t hb)
    replace HO316 := Aside0.mk (Kd.R_below q115t hb)
    have BK327 := Aside0.mk (hbox)
    have GW327 := Aside0.mk ((q31t : w.heap.size ≤ gb327))
    have GE327 := Aside0.mk ((q31t : w.heap.size ≤ gb327))
    replace HB := Aside0.mk (below_step q63t hb)
    have NB299_327 := Aside0.mk ((q134t : gb299 ≠ gb327))
    have NB327_299 := Aside0.mk ((q135t : gb327 ≠ gb299))
    replace BK299 := blb BK299 hb
    have NB300_327 := Aside0.mk ((q136t : gb300 ≠ gb327))
    have NB327_300 := Aside0.mk ((q137t : gb327 ≠ gb300))
    replace BK300 := blb BK300 hb
    clear hb hbox hg
    obtain ⟨Ao50, co50, eo50⟩ := Kd.R_slice HO310.out
    (first | subst eo50 | (injection eo50 with f1_ f2_ f3_; have f4_ := f1_.symm; have f5_ := f3_.symm; clear f1_ f2_ f3_; subst f4_; subst f5_))
    obtain ⟨Ao51, co51, eo51⟩ := Kd.R_slice HO313.out
    (first | subst eo51 | (injection eo51 with f1_ f2_ f3_; have f4_ := f1_.symm; have f5_ := f3_.symm; clear f1_ f2_ f3_; subst f4_; subst f5_))
    obtain ⟨Ao52, co52, eo52⟩ := Kd.R_slice HO316.out
    (first | subst eo52 | (injection eo52 with f1_ f2_ f3_; have f4_ := f1_.symm; have f5_ := f3_.symm; clear f1_ f2_ f3_; subst f4_; subst f5_))
    refine hK.out _ _ q22t (fun hHeld => ?_)
    clear hK K
    refine norm_ (a' := ?_) ?_ ?_
    rotate_left
    ·show Act.put _ (some 10) _ = _
     simp only [Act.put, List.setIfInBounds_toArray, List.set_cons_zero, List.set_cons_succ, i64_w, i32_w]
     rfl
    refine one_ (i := 6) (N := some 32) (bm 13 1151) rfl rfl (one_of HT_.out (by kernel_rfl)) q144t (fun K hK => ?_)
    refine goes_ Try.func5 (by kernel_rfl) rfl #[.agg #[.int .i64 t302, .int .i64 t303, .int .i64 t304, .int .i64 t305, .int .i64 t306, .int .i64 t307], .agg #[.slice Ao50 t308.length co50, .slice Ao51 t311.length co51, .slice Ao52 t314.length co52], .int .i64 a2, .int .i64 a3] (by rfl) rfl rfl q97t ?_
    with_reducible refine (spec_WipeSome.calls k t302 t303 t304 t305 t306 t307 _ _ t308 _ _ t311 _ _ t314 a2 a3 t317 t320 t323 t326 _ ?side1 ?side2 ?side3 ?side4 ?side5 ?side6 A14.out).mono ?_
    (case side1 => repeat (first | exact (Kd.R_reads' HO310.out).2.2 | (with_reducible refine Kd.C_alloc ?_ _) | (with_reducible refine Kd.C_drewN ?_ _) | (with_reducible refine Kd.C_drew ?_)))
    (case side2 => exact (Kd.R_reads' HO310.out).2.1)
    (case side3 => repeat (first | exact (Kd.R_reads' HO313.out).2.2 | (with_reducible refine Kd.C_alloc ?_ _) | (with_reducible refine Kd.C_drewN ?_ _) | (with_reducible refine Kd.C_drew ?_)))
    (case side4 => exact (Kd.R_reads' HO313.out).2.1)
    (case side5 => repeat (first | exact (Kd.R_reads' HO316.out).2.2 | (with_reducible refine Kd.C_alloc ?_ _) | (with_reducible refine Kd.C_drewN ?_ _) | (with_reducible refine Kd.C_drew ?_)))
    (case side6 => exact (Kd.R_reads' HO316.out).2.1)
    rintro e w53 ⟨v318, v321, v324, rfl, ho0, ho1, ho2, hb⟩
    refine ⟨_, rfl, ?_⟩
    have HO319 := Aside0.mk (Kd.R_lower (Kd.R_new' ho0 (Kd.R_lt q113t)) (below_size q35t))
    replace HO310 := Aside0.mk (Kd.R_elder' q113t (Kd.R_base ho0) hb)
    have HO322 := Aside0.mk (Kd.R_lower (Kd.R_new' (Kd.R_new' ho1 (Kd.R_lt q114t)) (Kd.R_lt q115t)) (below_size q35t))
    have HO325 := Aside0.mk (Kd.R_lower (Kd.R_new' (Kd.R_new' ho2 (Kd.R_lt q114t)) (Kd.R_lt q115t)) (below_size q35t))
    replace HO313 := Aside0.mk (Kd.R_mono (Kd.R_told (Kd.R_told (Kd.R_old q114t hb) (Kd.R_base ho1)) (Kd.R_base ho2)) (fun _ h_ => h_.1))
    replace HO316 := Aside0.mk (Kd.R_mono (Kd.R_told (Kd.R_told (Kd.R_old q115t hb) (Kd.R_base ho1)) (Kd.R_base ho2)) (fun _ h_ => h_.1))
    replace BK299 := blb BK299 hb
    replace BK300 := blb BK300 hb
    replace BK327 := blb BK327 hb
    replace HB := Aside0.mk (below_step q35t hb)
    (try clear hb)
    (try clear hb2)
    (try clear hk)
    (try clear hi)
    (try clear ho0)
    (try clear ho1)
    (try clear ho2)
    refine hK.out _ _ q22t (fun hHeld => ?_)
    clear hK K
    refine norm_ (a' := ?_) ?_ ?_
    rotate_left
    ·show Act.put _ (some 32) _ = _
     simp only [Act.put, List.setIfInBounds_toArray, List.set_cons_zero, List.set_cons_succ, i64_w, i32_w]
     rfl
    refine pu_ 7 (some 25) (bm 13 1279) (any_of HT_.out (by kernel_rfl)) ?_
    refine pu_ 8 (some 33) (bm 13 1535) (any_of HT_.out (by kernel_rfl)) ?_
    refine pu_ 9 (some 34) (bm 13 2047) (any_of HT_.out (by kernel_rfl)) ?_
    exact norm_ q131t (hCont (.slice Ao50 t308.length co50, .slice Ao51 t311.length co51, .slice Ao52 t314.length co52, v318, v321, v324, gb327) _ ⟨hHeld, q100t, q90t, q91t, q101t, q92t, q93t, (qbk BK299), (qbk BK300), (qbk BK327), GW327.out, GE327.out, NB299_327.out, NB327_299.out, NB300_327.out, NB327_300.out, q35t⟩)
   skip
   refine box_step ?hg (N := 10) ?hd (cs := #[.slice none 0 0, .slice none 0 0, .slice none 0 0]) (t := 29) ?hr ?_; (case hd => rfl); (case hg => rfl); (case hr => first | (go_simp; done) | (go_simp; rfl))
   intro gb327 hg w48 hbox hb
   have BK327 := Aside0.mk (hbox)
   have GW327 := Aside0.mk ((q31t : w.heap.size ≤ gb327))
   have GE327 := Aside0.mk ((q31t : w.heap.size ≤ gb327))
   replace HB := Aside0.mk (below_step q63t hb)
   have NB299_327 := Aside0.mk ((q134t : gb299 ≠ gb327))
   have NB327_299 := Aside0.mk ((q135t : gb327 ≠ gb299))
   replace BK299 := blb BK299 hb
   have NB300_327 := Aside0.mk ((q136t : gb300 ≠ gb327))
   have NB327_300 := Aside0.mk ((q137t : gb327 ≠ gb300))
   replace BK300 := blb BK300 hb
   clear hb hbox hg
   refine hK.out _ _ q22t (fun hHeld => ?_)
   clear hK K
   refine norm_ (a' := ?_) ?_ ?_
   rotate_left
   ·show Act.put _ (some 10) _ = _
    simp only [Act.put, List.setIfInBounds_toArray, List.set_cons_zero, List.set_cons_succ, i64_w, i32_w]
    rfl
   refine one_ (i := 3) (N := some 29) (bm 13 1087) rfl rfl (one_of HT_.out (by kernel_rfl)) q144t (fun K hK => ?_)
   refine goes_ Try.func7 (by kernel_rfl) rfl #[.agg #[.slice A1_0 l1_0.length c1_0, .slice A1_1 l1_1.length c1_1, .slice A1_2 l1_2.length c1_2]] (by rfl) rfl rfl q97t ?_
   with_reducible refine (laws_toPool.calls k _ _ l1_0 _ _ l1_1 _ _ l1_2 t308 t311 t314 _ ?side1 ?side2 ?side3 ?side4 ?side5 ?side6 A13.out).mono ?_
   (case side1 => repeat (first | exact (Kd.C_below HR1_0.out HB.out) | (with_reducible refine Kd.C_alloc ?_ _) | (with_reducible refine Kd.C_drewN ?_ _) | (with_reducible refine Kd.C_drew ?_)))
   (case side2 => exact HC1_0.out)
   (case side3 => repeat (first | exact (Kd.C_below HR1_1.out HB.out) | (with_reducible refine Kd.C_alloc ?_ _) | (with_reducible refine Kd.C_drewN ?_ _) | (with_reducible refine Kd.C_drew ?_)))
   (case side4 => exact HC1_1.out)
   (case side5 => repeat (first | exact (Kd.C_below HR1_2.out HB.out) | (with_reducible refine Kd.C_alloc ?_ _) | (with_reducible refine Kd.C_drewN ?_ _) | (with_reducible refine Kd.C_drew ?_)))
   (case side6 => exact HC1_2.out)
   rintro e w49 ⟨v309, v312, v315, rfl, ho0, ho1, ho2, hb⟩
   refine ⟨_, rfl, ?_⟩
   have HO310 := Aside0.mk (Kd.R_lower ho0 (below_size q35t))
   have HO313 := Aside0.mk (Kd.R_lower ho1 (below_size q35t))
   have HO316 := Aside0.mk (Kd.R_lower ho2 (below_size q35t))
   replace BK299 := blb BK299 hb
   replace BK300 := blb BK300 hb
   replace BK327 := blb BK327 hb
   replace HB := Aside0.mk (below_step q35t hb)
   (try clear hb)
   (try clear hb2)
   (try clear hk)
   (try clear hi)
   (try clear ho0)
   (try clear ho1)
   (try clear ho2)
   obtain ⟨Ao50, co50, eo50⟩ := Kd.R_slice HO310.out
   (first | subst eo50 | (injection eo50 with f1_ f2_ f3_; have f4_ := f1_.symm; have f5_ := f3_.symm; clear f1_ f2_ f3_; subst f4_; subst f5_))
   obtain ⟨Ao51, co51, eo51⟩ := Kd.R_slice HO313.out
   (first | subst eo51 | (injection eo51 with f1_ f2_ f3_; have f4_ := f1_.symm; have f5_ := f3_.symm; clear f1_ f2_ f3_; subst f4_; subst f5_))
   obtain ⟨Ao52, co52, eo52⟩ := Kd.R_slice HO316.out
   (first | subst eo52 | (injection eo52 with f1_ f2_ f3_; have f4_ := f1_.symm; have f5_ := f3_.symm; clear f1_ f2_ f3_; subst f4_; subst f5_))
   refine hK.out _ _ q22t (fun hHeld => ?_)
   clear hK K
   refine norm_ (a' := ?_) ?_ ?_
   rotate_left
   ·show Act.put _ (some 29) _ = _
    simp only [Act.put, List.setIfInBounds_toArray, List.set_cons_zero, List.set_cons_succ, i64_w, i32_w]
    rfl
   refine one_ (i := 6) (N := some 32) (bm 13 1151) rfl rfl (one_of HT_.out (by kernel_rfl)) q144t (fun K hK => ?_)
   refine goes_ Try.func5 (by kernel_rfl) rfl #[.agg #[.int .i64 t302, .int .i64 t303, .int .i64 t304, .int .i64 t305, .int .i64 t306, .int .i64 t307], .agg #[.slice Ao50 t308.length co50, .slice Ao51 t311.length co51, .slice Ao52 t314.length co52], .int .i64 a2, .int .i64 a3] (by rfl) rfl rfl q97t ?_
   with_reducible refine (spec_WipeSome.calls k t302 t303 t304 t305 t306 t307 _ _ t308 _ _ t311 _ _ t314 a2 a3 t317 t320 t323 t326 _ ?side1 ?side2 ?side3 ?side4 ?side5 ?side6 A14.out).mono ?_
   (case side1 => repeat (first | exact (Kd.R_reads' HO310.out).2.2 | (with_reducible refine Kd.C_alloc ?_ _) | (with_reducible refine Kd.C_drewN ?_ _) | (with_reducible refine Kd.C_drew ?_)))
   (case side2 => exact (Kd.R_reads' HO310.out).2.1)
   (case side3 => repeat (first | exact (Kd.R_reads' HO313.out).2.2 | (with_reducible refine Kd.C_alloc ?_ _) | (with_reducible refine Kd.C_drewN ?_ _) | (with_reducible refine Kd.C_drew ?_)))
   (case side4 => exact (Kd.R_reads' HO313.out).2.1)
   (case side5 => repeat (first | exact (Kd.R_reads' HO316.out).2.2 | (with_reducible refine Kd.C_alloc ?_ _) | (with_reducible refine Kd.C_drewN ?_ _) | (with_reducible refine Kd.C_drew ?_)))
   (case side6 => exact (Kd.R_reads' HO316.out).2.1)
   rintro e w53 ⟨v318, v321, v324, rfl, ho0, ho1, ho2, hb⟩
   refine ⟨_, rfl, ?_⟩
   have HO319 := Aside0.mk (Kd.R_lower (Kd.R_new' ho0 (Kd.R_lt q113t)) (below_size q35t))
   replace HO310 := Aside0.mk (Kd.R_elder' q113t (Kd.R_base ho0) hb)
   have HO322 := Aside0.mk (Kd.R_lower (Kd.R_new' (Kd.R_new' ho1 (Kd.R_lt q114t)) (Kd.R_lt q115t)) (below_size q35t))
   have HO325 := Aside0.mk (Kd.R_lower (Kd.R_new' (Kd.R_new' ho2 (Kd.R_lt q114t)) (Kd.R_lt q115t)) (below_size q35t))
   replace HO313 := Aside0.mk (Kd.R_mono (Kd.R_told (Kd.R_told (Kd.R_old q114t hb) (Kd.R_base ho1)) (Kd.R_base ho2)) (fun _ h_ => h_.1))
   replace HO316 := Aside0.mk (Kd.R_mono (Kd.R_told (Kd.R_told (Kd.R_old q115t hb) (Kd.R_base ho1)) (Kd.R_base ho2)) (fun _ h_ => h_.1))
   replace BK299 := blb BK299 hb
   replace BK300 := blb BK300 hb
   replace BK327 := blb BK327 hb
   replace HB := Aside0.mk (below_step q35t hb)
   (try clear hb)
   (try clear hb2)
   (try clear hk)
   (try clear hi)
   (try clear ho0)
   (try clear ho1)
   (try clear ho2)
   refine hK.out _ _ q22t (fun hHeld => ?_)
   clear hK K
   refine norm_ (a' := ?_) ?_ ?_
   rotate_left
   ·show Act.put _ (some 32) _ = _
    simp only [Act.put, List.setIfInBounds_toArray, List.set_cons_zero, List.set_cons_succ, i64_w, i32_w]
    rfl
   refine pu_ 7 (some 25) (bm 13 1279) (any_of HT_.out (by kernel_rfl)) ?_
   refine pu_ 8 (some 33) (bm 13 1535) (any_of HT_.out (by kernel_rfl)) ?_
   refine pu_ 9 (some 34) (bm 13 2047) (any_of HT_.out (by kernel_rfl)) ?_
   exact norm_ q131t (hCont (.slice Ao50 t308.length co50, .slice Ao51 t311.length co51, .slice Ao52 t314.length co52, v318, v321, v324, gb327) _ ⟨hHeld, q100t, q90t, q91t, q101t, q92t, q93t, (qbk BK299), (qbk BK300), (qbk BK327), GW327.out, GE327.out, NB299_327.out, NB327_299.out, NB300_327.out, NB327_300.out, q35t⟩)
  skip
  refine box_step ?hg (N := 10) ?hd (cs := #[.slice none 0 0, .slice none 0 0, .slice none 0 0]) (t := 29) ?hr ?_; (case hd => rfl); (case hg => rfl); (case hr => first | (go_simp; done) | (go_simp; rfl))
  intro gb327 hg w47 hbox hb
  have BK327 := Aside0.mk (hbox)
  have GW327 := Aside0.mk ((q31t : w.heap.size ≤ gb327))
  have GE327 := Aside0.mk ((q31t : w.heap.size ≤ gb327))
  replace HB := Aside0.mk (below_step q63t hb)
  have NB299_327 := Aside0.mk ((q134t : gb299 ≠ gb327))
  have NB327_299 := Aside0.mk ((q135t : gb327 ≠ gb299))
  replace BK299 := blb BK299 hb
  have NB300_327 := Aside0.mk ((q136t : gb300 ≠ gb327))
  have NB327_300 := Aside0.mk ((q137t : gb327 ≠ gb300))
  replace BK300 := blb BK300 hb
  clear hb hbox hg
  refine hK.out _ _ q22t (fun hHeld => ?_)
  clear hK K
  refine norm_ (a' := ?_) ?_ ?_
  rotate_left
  ·show Act.put _ (some 10) _ = _
   simp only [Act.put, List.setIfInBounds_toArray, List.set_cons_zero, List.set_cons_succ, i64_w, i32_w]
   rfl
  refine one_ (i := 1) (N := some 27) (bm 13 1079) rfl rfl (one_of HT_.out (by kernel_rfl)) q144t (fun K hK => ?_)
  refine goes_ Try.func6 (by kernel_rfl) rfl #[.agg #[.int .i64 a0_0, .int .i64 a0_1, .int .i64 a0_2, .int .i64 a0_3, .int .i64 a0_4, .int .i64 a0_5]] (by rfl) rfl rfl q97t ?_
  with_reducible refine (laws_toConf.calls a0_0 a0_1 a0_2 a0_3 a0_4 a0_5 t302 t303 t304 t305 t306 t307 _ A12.out).mono ?_
  rintro e w48 ⟨rfl, hb⟩
  refine ⟨_, rfl, ?_⟩
  replace BK299 := blb BK299 hb
  replace BK300 := blb BK300 hb
  replace BK327 := blb BK327 hb
  replace HB := Aside0.mk (below_step q35t hb)
  (try clear hb)
  (try clear hb2)
  (try clear hk)
  (try clear hi)
  refine hK.out _ _ q22t (fun hHeld => ?_)
  clear hK K
  refine norm_ (a' := ?_) ?_ ?_
  rotate_left
  ·show Act.put _ (some 27) _ = _
   simp only [Act.put, List.setIfInBounds_toArray, List.set_cons_zero, List.set_cons_succ, i64_w, i32_w]
   rfl
  refine one_ (i := 3) (N := some 29) (bm 13 1087) rfl rfl (one_of HT_.out (by kernel_rfl)) q144t (fun K hK => ?_)
  refine goes_ Try.func7 (by kernel_rfl) rfl #[.agg #[.slice A1_0 l1_0.length c1_0, .slice A1_1 l1_1.length c1_1, .slice A1_2 l1_2.length c1_2]] (by rfl) rfl rfl q97t ?_
  with_reducible refine (laws_toPool.calls k _ _ l1_0 _ _ l1_1 _ _ l1_2 t308 t311 t314 _ ?side1 ?side2 ?side3 ?side4 ?side5 ?side6 A13.out).mono ?_
  (case side1 => repeat (first | exact (Kd.C_below HR1_0.out HB.out) | (with_reducible refine Kd.C_alloc ?_ _) | (with_reducible refine Kd.C_drewN ?_ _) | (with_reducible refine Kd.C_drew ?_)))
  (case side2 => exact HC1_0.out)
  (case side3 => repeat (first | exact (Kd.C_below HR1_1.out HB.out) | (with_reducible refine Kd.C_alloc ?_ _) | (with_reducible refine Kd.C_drewN ?_ _) | (with_reducible refine Kd.C_drew ?_)))
  (case side4 => exact HC1_1.out)
  (case side5 => repeat (first | exact (Kd.C_below HR1_2.out HB.out) | (with_reducible refine Kd.C_alloc ?_ _) | (with_reducible refine Kd.C_drewN ?_ _) | (with_reducible refine Kd.C_drew ?_)))
  (case side6 => exact HC1_2.out)
  rintro e w49 ⟨v309, v312, v315, rfl, ho0, ho1, ho2, hb⟩
  refine ⟨_, rfl, ?_⟩
  have HO310 := Aside0.mk (Kd.R_lower ho0 (below_size q35t))
  have HO313 := Aside0.mk (Kd.R_lower ho1 (below_size q35t))
  have HO316 := Aside0.mk (Kd.R_lower ho2 (below_size q35t))
  replace BK299 := blb BK299 hb
  replace BK300 := blb BK300 hb
  replace BK327 := blb BK327 hb
  replace HB := Aside0.mk (below_step q35t hb)
  (try clear hb)
  (try clear hb2)
  (try clear hk)
  (try clear hi)
  (try clear ho0)
  (try clear ho1)
  (try clear ho2)
  obtain ⟨Ao50, co50, eo50⟩ := Kd.R_slice HO310.out
  (first | subst eo50 | (injection eo50 with f1_ f2_ f3_; have f4_ := f1_.symm; have f5_ := f3_.symm; clear f1_ f2_ f3_; subst f4_; subst f5_))
  obtain ⟨Ao51, co51, eo51⟩ := Kd.R_slice HO313.out
  (first | subst eo51 | (injection eo51 with f1_ f2_ f3_; have f4_ := f1_.symm; have f5_ := f3_.symm; clear f1_ f2_ f3_; subst f4_; subst f5_))
  obtain ⟨Ao52, co52, eo52⟩ := Kd.R_slice HO316.out
  (first | subst eo52 | (injection eo52 with f1_ f2_ f3_; have f4_ := f1_.symm; have f5_ := f3_.symm; clear f1_ f2_ f3_; subst f4_; subst f5_))
  refine hK.out _ _ q22t (fun hHeld => ?_)
  clear hK K
  refine norm_ (a' := ?_) ?_ ?_
  rotate_left
  ·show Act.put _ (some 29) _ = _
   simp only [Act.put, List.setIfInBounds_toArray, List.set_cons_zero, List.set_cons_succ, i64_w, i32_w]
   rfl
  refine one_ (i := 6) (N := some 32) (bm 13 1151) rfl rfl (one_of HT_.out (by kernel_rfl)) q144t (fun K hK => ?_)
  refine goes_ Try.func5 (by kernel_rfl) rfl #[.agg #[.int .i64 t302, .int .i64 t303, .int .i64 t304, .int .i64 t305, .int .i64 t306, .int .i64 t307], .agg #[.slice Ao50 t308.length co50, .slice Ao51 t311.length co51, .slice Ao52 t314.length co52], .int .i64 a2, .int .i64 a3] (by rfl) rfl rfl q97t ?_
  with_reducible refine (spec_WipeSome.calls k t302 t303 t304 t305 t306 t307 _ _ t308 _ _ t311 _ _ t314 a2 a3 t317 t320 t323 t326 _ ?side1 ?side2 ?side3 ?side4 ?side5 ?side6 A14.out).mono ?_
  (case side1 => repeat (first | exact (Kd.R_reads' HO310.out).2.2 | (with_reducible refine Kd.C_alloc ?_ _) | (with_reducible refine Kd.C_drewN ?_ _) | (with_reducible refine Kd.C_drew ?_)))
  (case side2 => exact (Kd.R_reads' HO310.out).2.1)
  (case side3 => repeat (first | exact (Kd.R_reads' HO313.out).2.2 | (with_reducible refine Kd.C_alloc ?_ _) | (with_reducible refine Kd.C_drewN ?_ _) | (with_reducible refine Kd.C_drew ?_)))
  (case side4 => exact (Kd.R_reads' HO313.out).2.1)
  (case side5 => repeat (first | exact (Kd.R_reads' HO316.out).2.2 | (with_reducible refine Kd.C_alloc ?_ _) | (with_reducible refine Kd.C_drewN ?_ _) | (with_reducible refine Kd.C_drew ?_)))
  (case side6 => exact (Kd.R_reads' HO316.out).2.1)
  rintro e w53 ⟨v318, v321, v324, rfl, ho0, ho1, ho2, hb⟩
  refine ⟨_, rfl, ?_⟩
  have HO319 := Aside0.mk (Kd.R_lower (Kd.R_new' ho0 (Kd.R_lt q113t)) (below_size q35t))
  replace HO310 := Aside0.mk (Kd.R_elder' q113t (Kd.R_base ho0) hb)
  have HO322 := Aside0.mk (Kd.R_lower (Kd.R_new' (Kd.R_new' ho1 (Kd.R_lt q114t)) (Kd.R_lt q115t)) (below_size q35t))
  have HO325 := Aside0.mk (Kd.R_lower (Kd.R_new' (Kd.R_new' ho2 (Kd.R_lt q114t)) (Kd.R_lt q115t)) (below_size q35t))
  replace HO313 := Aside0.mk (Kd.R_mono (Kd.R_told (Kd.R_told (Kd.R_old q114t hb) (Kd.R_base ho1)) (Kd.R_base ho2)) (fun _ h_ => h_.1))
  replace HO316 := Aside0.mk (Kd.R_mono (Kd.R_told (Kd.R_told (Kd.R_old q115t hb) (Kd.R_base ho1)) (Kd.R_base ho2)) (fun _ h_ => h_.1))
  replace BK299 := blb BK299 hb
  replace BK300 := blb BK300 hb
  replace BK327 := blb BK327 hb
  replace HB := Aside0.mk (below_step q35t hb)
  (try clear hb)
  (try clear hb2)
  (try clear hk)
  (try clear hi)
  (try clear ho0)
  (try clear ho1)
  (try clear ho2)
  refine hK.out _ _ q22t (fun hHeld => ?_)
  clear hK K
  refine norm_ (a' := ?_) ?_ ?_
  rotate_left
  ·show Act.put _ (some 32) _ = _
   simp only [Act.put, List.setIfInBounds_toArray, List.set_cons_zero, List.set_cons_succ, i64_w, i32_w]
   rfl
  refine pu_ 7 (some 25) (bm 13 1279) (any_of HT_.out (by kernel_rfl)) ?_
  refine pu_ 8 (some 33) (bm 13 1535) (any_of HT_.out (by kernel_rfl)) ?_
  refine pu_ 9 (some 34) (bm 13 2047) (any_of HT_.out (by kernel_rfl)) ?_
  exact norm_ q131t (hCont (.slice Ao50 t308.length co50, .slice Ao51 t311.length co51, .slice Ao52 t314.length co52, v318, v321, v324, gb327) _ ⟨hHeld, q100t, q90t, q91t, q101t, q92t, q93t, (qbk BK299), (qbk BK300), (qbk BK327), GW327.out, GE327.out, NB299_327.out, NB327_299.out, NB300_327.out, NB327_300.out, q35t⟩)
 rintro ⟨v309, v312, v315, v318, v321, v324, gb327⟩ w54 ⟨hS_, h0_, h1_, h2_, h3_, h4_, h5_, h6_, h7_, h8_, h9_, h10_, h11_, h12_, h13_, h14_, h15_⟩
 have n0_ : Aside0 (Kd.R (Kd.int .u8) 5 w54 w.heap.size (fun k_ => some k_ ≠ (v318 : Value).ownBlock) v309 t308) := ⟨h0_⟩
 have n1_ : Aside0 (Kd.R (Kd.int .i64) 3 w54 w.heap.size (fun k_ => some k_ ≠ (v315 : Value).ownBlock ∧ some k_ ≠ (v321 : Value).ownBlock ∧ some k_ ≠ (v324 : Value).ownBlock) v312 t311) := ⟨h1_⟩
 have n2_ : Aside0 (Kd.R (Kd.int .i64) 3 w54 w.heap.size (fun k_ => some k_ ≠ (v312 : Value).ownBlock ∧ some k_ ≠ (v321 : Value).ownBlock ∧ some k_ ≠ (v324 : Value).ownBlock) v315 t314) := ⟨h2_⟩
 have n3_ : Aside0 (Kd.R (Kd.int .u8) 5 w54 w.heap.size (fun k_ => some k_ ≠ (v309 : Value).ownBlock) v318 t317) := ⟨h3_⟩
 have n4_ : Aside0 (Kd.R (Kd.int .i64) 3 w54 w.heap.size (fun k_ => some k_ ≠ (v312 : Value).ownBlock ∧ some k_ ≠ (v315 : Value).ownBlock ∧ some k_ ≠ (v324 : Value).ownBlock) v321 t320) := ⟨h4_⟩
 have n5_ : Aside0 (Kd.R (Kd.int .i64) 3 w54 w.heap.size (fun k_ => some k_ ≠ (v312 : Value).ownBlock ∧ some k_ ≠ (v315 : Value).ownBlock ∧ some k_ ≠ (v321 : Value).ownBlock) v324 t323) := ⟨h5_⟩
 have n6_ : Aside0 (w54.heap[gb299]? = some (.cells #[.int .i64 a0_0, .int .i64 a0_1, .int .i64 a0_2, .int .i64 a0_3, .int .i64 a0_4, .int .i64 a0_5] 23 (0, 0))) := ⟨h6_⟩
 have n7_ : Aside0 (w54.heap[gb300]? = some (.cells #[.slice A1_0 l1_0.length c1_0, .slice A1_1 l1_1.length c1_1, .slice A1_2 l1_2.length c1_2] 27 (0, 0))) := ⟨h7_⟩
 have n8_ : Aside0 (w54.heap[gb327]? = some (.cells #[.slice none 0 0, .slice none 0 0, .slice none 0 0] 29 (0, 0))) := ⟨h8_⟩
 have n9_ : Aside0 (w.heap.size ≤ gb327) := ⟨h9_⟩
 have n10_ : Aside0 (w.heap.size ≤ gb327) := ⟨h10_⟩
 have n11_ : Aside0 (gb299 ≠ gb327) := ⟨h11_⟩
 have n12_ : Aside0 (gb327 ≠ gb299) := ⟨h12_⟩
 have n13_ : Aside0 (gb300 ≠ gb327) := ⟨h13_⟩
 have n14_ : Aside0 (gb327 ≠ gb300) := ⟨h14_⟩
 have n15_ : Aside0 (Below w.heap.size w w54) := ⟨h15_⟩
 clear BK299
 clear BK300
 clear HB
 clear h0_ h1_ h2_ h3_ h4_ h5_ h6_ h7_ h8_ h9_ h10_ h11_ h12_ h13_ h14_ h15_
 have HO310 := n0_
 have HO313 := n1_
 have HO316 := n2_
 have HO319 := n3_
 have HO322 := n4_
 have HO325 := n5_
 have BK299 := n6_
 have BK300 := n7_
 have BK327 := n8_
 have GW327 := n9_
 have GE327 := n10_
 have NB299_327 := n11_
 have NB327_299 := n12_
 have NB300_327 := n13_
 have NB327_300 := n14_
 have HB := n15_
 clear n0_ n1_ n2_ n3_ n4_ n5_ n6_ n7_ n8_ n9_ n10_ n11_ n12_ n13_ n14_ n15_
 have hHeld : w54.cell? ⟨gb299, 0, none⟩ = some (.int .i64 a0_0) ∧ w54.cell? ⟨gb299, 1, none⟩ = some (.int .i64 a0_1) ∧ w54.cell? ⟨gb299, 2, none⟩ = some (.int .i64 a0_2) ∧ w54.cell? ⟨gb299, 3, none⟩ = some (.int .i64 a0_3) ∧ w54.cell? ⟨gb299, 4, none⟩ = some (.int .i64 a0_4) ∧ w54.cell? ⟨gb299, 5, none⟩ = some (.int .i64 a0_5) ∧ w54.cell? ⟨gb300, 0, none⟩ = some (.slice A1_0 l1_0.length c1_0) ∧ w54.cell? ⟨gb300, 1, none⟩ = some (.slice A1_1 l1_1.length c1_1) ∧ w54.cell? ⟨gb300, 2, none⟩ = some (.slice A1_2 l1_2.length c1_2) := hS_
 obtain ⟨Ao55, co55, eo55⟩ := Kd.R_slice HO319.out
 (first | subst eo55 | (injection eo55 with f1_ f2_ f3_; have f4_ := f1_.symm; have f5_ := f3_.symm; clear f1_ f2_ f3_; subst f4_; subst f5_))
 obtain ⟨Ao57, co57, eo57⟩ := Kd.R_slice HO322.out
 (first | subst eo57 | (injection eo57 with f1_ f2_ f3_; have f4_ := f1_.symm; have f5_ := f3_.symm; clear f1_ f2_ f3_; subst f4_; subst f5_))
 obtain ⟨Ao59, co59, eo59⟩ := Kd.R_slice HO325.out
 (first | subst eo59 | (injection eo59 with f1_ f2_ f3_; have f4_ := f1_.symm; have f5_ := f3_.symm; clear f1_ f2_ f3_; subst f4_; subst f5_))
 refine norm_ (a' := ?_) ?_ ?_
 rotate_left
 ·simp only [putAll, Act.put, List.setIfInBounds_toArray, List.set_cons_zero, List.set_cons_succ]
  rfl
 refine one_ (i := 11) (N := none) (bm 13 4095) rfl rfl (one_of HT_.out (by kernel_rfl)) q144t (fun K hK => ?_)
 have hs56 : w54.cell? ⟨gb327, 0, none⟩ = some (.slice none 0 0) := (blk_cell BK327.out 0).trans rfl
 have hfs56 := blk_frozen BK327.out 0
 have hns56_0 := NB299_327.out
 have hns56_1 := NB300_327.out
 have hms56_0 := NB327_299.out
 have hms56_1 := NB327_300.out
 have hs58 : w54.cell? ⟨gb327, 1, none⟩ = some (.slice none 0 0) := (blk_cell BK327.out 1).trans rfl
 have hfs58 := blk_frozen BK327.out 1
 have hns58_0 := NB299_327.out
 have hns58_1 := NB300_327.out
 have hms58_0 := NB327_299.out
 have hms58_1 := NB327_300.out
 have hs60 : w54.cell? ⟨gb327, 2, none⟩ = some (.slice none 0 0) := (blk_cell BK327.out 2).trans rfl
 have hfs60 := blk_frozen BK327.out 2
 have hns60_0 := NB299_327.out
 have hns60_1 := NB300_327.out
 have hms60_0 := NB327_299.out
 have hms60_1 := NB327_300.out
 refine skip_ (w1 := ?_) (by rfl) rfl ?_ ?_
 rotate_left
 ·go_simp
  rfl
 refine hK.out _ _ (by first | exact ⟨((cell_far (p := ⟨gb327, _, none⟩) NB299_327.out _).trans (((cell_far (p := ⟨gb327, _, none⟩) NB299_327.out _).trans (((cell_far (p := ⟨gb327, _, none⟩) NB299_327.out _).trans (hHeld.1)))))), ((cell_far (p := ⟨gb327, _, none⟩) NB299_327.out _).trans (((cell_far (p := ⟨gb327, _, none⟩) NB299_327.out _).trans (((cell_far (p := ⟨gb327, _, none⟩) NB299_327.out _).trans (hHeld.2.1)))))), ((cell_far (p := ⟨gb327, _, none⟩) NB299_327.out _).trans (((cell_far (p := ⟨gb327, _, none⟩) NB299_327.out _).trans (((cell_far (p := ⟨gb327, _, none⟩) NB299_327.out _).trans (hHeld.2.2.1)))))), ((cell_far (p := ⟨gb327, _, none⟩) NB299_327.out _).trans (((cell_far (p := ⟨gb327, _, none⟩) NB299_327.out _).trans (((cell_far (p := ⟨gb327, _, none⟩) NB299_327.out _).trans (hHeld.2.2.2.1)))))), ((cell_far (p := ⟨gb327, _, none⟩) NB299_327.out _).trans (((cell_far (p := ⟨gb327, _, none⟩) NB299_327.out _).trans (((cell_far (p := ⟨gb327, _, none⟩) NB299_327.out _).trans (hHeld.2.2.2.2.1)))))), ((cell_far (p := ⟨gb327, _, none⟩) NB299_327.out _).trans (((cell_far (p := ⟨gb327, _, none⟩) NB299_327.out _).trans (((cell_far (p := ⟨gb327, _, none⟩) NB299_327.out _).trans (hHeld.2.2.2.2.2.1)))))), ((cell_far (p := ⟨gb327, _, none⟩) NB300_327.out _).trans (((cell_far (p := ⟨gb327, _, none⟩) NB300_327.out _).trans (((cell_far (p := ⟨gb327, _, none⟩) NB300_327.out _).trans (hHeld.2.2.2.2.2.2.1)))))), ((cell_far (p := ⟨gb327, _, none⟩) NB300_327.out _).trans (((cell_far (p := ⟨gb327, _, none⟩) NB300_327.out _).trans (((cell_far (p := ⟨gb327, _, none⟩) NB300_327.out _).trans (hHeld.2.2.2.2.2.2.2.1)))))), ((cell_far (p := ⟨gb327, _, none⟩) NB300_327.out _).trans (((cell_far (p := ⟨gb327, _, none⟩) NB300_327.out _).trans (((cell_far (p := ⟨gb327, _, none⟩) NB300_327.out _).trans (hHeld.2.2.2.2.2.2.2.2))))))⟩ | exact hHeld) (fun hHeld => ?_)
 clear hK K
 refine pu_ 12 (some 11) (bm 13 8191) (any_of HT_.out (by kernel_rfl)) ?_
 refine done_ (done_of HT_.out (by kernel_rfl)) ?_
 have hnb61 := NB300_327.out
 have hnc61 := NB327_300.out
 obtain ⟨hcz62_0, hcz62_1, hcz62_2⟩ := qc3 BK300.out
 obtain ⟨hfz62_0, hfz62_1, hfz62_2⟩ := qf3 BK300.out
 try go_wp2_with (first | ((with_reducible refine gate_callee (f := 7) rfl ?_); refine goesL_ (some 36) rfl rfl Try.func7 (by kernel_rfl) rfl #[.agg #[.slice A1_0 l1_0.length c1_0, .slice A1_1 l1_1.length c1_1, .slice A1_2 l1_2.length c1_2]] rfl q97t ?_; (with_reducible refine (laws_toPool.calls k _ _ l1_0 _ _ l1_1 _ _ l1_2 t328 t331 t334 _ ?side1 ?side2 ?side3 ?side4 ?side5 ?side6 A15.out).mono ?_); (case side1 => exact Kd.C_below HR1_0.out q35t); (case side2 => exact HC1_0.out); (case side3 => exact Kd.C_below HR1_1.out q35t); (case side4 => exact HC1_1.out); (case side5 => exact Kd.C_below HR1_2.out q35t); (case side6 => exact HC1_2.out); rintro e w63 ⟨v329, v332, v335, rfl, ho0, ho1, ho2, hb⟩; refine ⟨_, rfl, ?_⟩; have HO330 := Aside0.mk (Kd.R_lower (Kd.R_new' (Kd.R_new' ho0 (Kd.R_lt (by (with_reducible repeat (first | apply Kd.R_alloc | apply Kd.R_drewN | apply Kd.R_drew)); exact (Kd.R_mono (rkf (rkf (rkf (Kd.R_types HO310.out BK327.out q144t)))) (fun _ h_ => h_.1))))) (Kd.R_lt (by (with_reducible repeat (first | apply Kd.R_alloc | apply Kd.R_drewN | apply Kd.R_drew)); exact (Kd.R_mono (rkf (rkf (rkf (Kd.R_types HO319.out BK327.out q144t)))) (fun _ h_ => h_.1))))) (below_size q35t)); replace HO310 := Aside0.mk (Kd.R_elder' (by (with_reducible repeat (first | apply Kd.R_alloc | apply Kd.R_drewN | apply Kd.R_drew)); exact (Kd.R_mono (rkf (rkf (rkf (Kd.R_types HO310.out BK327.out q144t)))) (fun _ h_ => h_.1))) (Kd.R_base ho0) hb); replace HO319 := Aside0.mk (Kd.R_elder' (by (with_reducible repeat (first | apply Kd.R_alloc | apply Kd.R_drewN | apply Kd.R_drew)); exact (Kd.R_mono (rkf (rkf (rkf (Kd.R_types HO319.out BK327.out q144t)))) (fun _ h_ => h_.1))) (Kd.R_base ho0) hb); have HO333 := Aside0.mk (Kd.R_lower (Kd.R_new' (Kd.R_new' (Kd.R_new' (Kd.R_new' ho1 (Kd.R_lt q71t)) (Kd.R_lt q72t)) (Kd.R_lt q73t)) (Kd.R_lt q74t)) (below_size q35t)); have HO336 := Aside0.mk (Kd.R_lower (Kd.R_new' (Kd.R_new' (Kd.R_new' (Kd.R_new' ho2 (Kd.R_lt q71t)) (Kd.R_lt q72t)) (Kd.R_lt q73t)) (Kd.R_lt q74t)) (below_size q35t)); replace HO313 := Aside0.mk (Kd.R_mono (Kd.R_told (Kd.R_told (Kd.R_old q71t hb) (Kd.R_base ho1)) (Kd.R_base ho2)) (fun _ h_ => h_.1)); replace HO316 := Aside0.mk (Kd.R_mono (Kd.R_told (Kd.R_told (Kd.R_old q72t hb) (Kd.R_base ho1)) (Kd.R_base ho2)) (fun _ h_ => h_.1)); replace HO322 := Aside0.mk (Kd.R_mono (Kd.R_told (Kd.R_told (Kd.R_old q73t hb) (Kd.R_base ho1)) (Kd.R_base ho2)) (fun _ h_ => h_.1)); replace HO325 := Aside0.mk (Kd.R_mono (Kd.R_told (Kd.R_told (Kd.R_old q74t hb) (Kd.R_base ho1)) (Kd.R_base ho2)) (fun _ h_ => h_.1)); replace BK299 := Aside0.mk (blk_below (g := gb299) (o := .cells #[.int .i64 a0_0, .int .i64 a0_1, .int .i64 a0_2, .int .i64 a0_3, .int .i64 a0_4, .int .i64 a0_5] 23 (0, 0)) (by (with_reducible repeat (first | refine blk_drewN ?_ _ | refine blk_drew ?_ | refine blk_alloc ?_ _)); refine blk_far ?_ NB299_327.out _; (with_reducible repeat (first | refine blk_drewN ?_ _ | refine blk_drew ?_ | refine blk_alloc ?_ _)); refine blk_far ?_ NB299_327.out _; (with_reducible repeat (first | refine blk_drewN ?_ _ | refine blk_drew ?_ | refine blk_alloc ?_ _)); refine blk_far ?_ NB299_327.out _; (with_reducible repeat (first | refine blk_drewN ?_ _ | refine blk_drew ?_ | refine blk_alloc ?_ _)); exact BK299.out) hb); replace BK300 := Aside0.mk (blk_below (g := gb300) (o := .cells #[.slice A1_0 l1_0.length c1_0, .slice A1_1 l1_1.length c1_1, .slice A1_2 l1_2.length c1_2] 27 (0, 0)) (by (with_reducible repeat (first | refine blk_drewN ?_ _ | refine blk_drew ?_ | refine blk_alloc ?_ _)); refine blk_far ?_ NB300_327.out _; (with_reducible repeat (first | refine blk_drewN ?_ _ | refine blk_drew ?_ | refine blk_alloc ?_ _)); refine blk_far ?_ NB300_327.out _; (with_reducible repeat (first | refine blk_drewN ?_ _ | refine blk_drew ?_ | refine blk_alloc ?_ _)); refine blk_far ?_ NB300_327.out _; (with_reducible repeat (first | refine blk_drewN ?_ _ | refine blk_drew ?_ | refine blk_alloc ?_ _)); exact BK300.out) hb); replace BK327 := blp BK327 hb; replace HB := Aside0.mk (below_step q35t hb); (try clear hb); (try clear hb2); (try clear hk); (try clear hi); (try clear ho0); (try clear ho1); (try clear ho2)) | ((with_reducible refine gate_dst (N := 12) rfl ?_); refine box_ev 12 #[.slice none 0 0, .slice none 0 0, .slice none 0 0] 29 ?_; intro gb337 hg w64 hbox hb; replace HO310 := Aside0.mk (Kd.R_below q113t hb); replace HO313 := Aside0.mk (Kd.R_below q114t hb); replace HO316 := Aside0.mk (Kd.R_below q115t hb); replace HO319 := Aside0.mk (Kd.R_below q116t hb); replace HO322 := Aside0.mk (Kd.R_below q117t hb); replace HO325 := Aside0.mk (Kd.R_below q118t hb); replace HO330 := Aside0.mk (Kd.R_below q119t hb); replace HO333 := Aside0.mk (Kd.R_below q120t hb); replace HO336 := Aside0.mk (Kd.R_below q121t hb); have BK337 := Aside0.mk (hbox); have GW337 := Aside0.mk ((by rw [hg]; exact (below_size q35t) : w.heap.size ≤ gb337)); have GE337 := Aside0.mk ((by rw [hg]; exact (below_size q35t) : w.heap.size ≤ gb337)); replace HB := Aside0.mk (below_step q35t hb); have NB299_337 := Aside0.mk ((q134t : gb299 ≠ gb337)); have NB337_299 := Aside0.mk ((q135t : gb337 ≠ gb299)); replace BK299 := blb BK299 hb; have NB300_337 := Aside0.mk ((q136t : gb300 ≠ gb337)); have NB337_300 := Aside0.mk ((q137t : gb337 ≠ gb300)); replace BK300 := blb BK300 hb; have NB327_337 := Aside0.mk ((q138t : gb327 ≠ gb337)); have NB337_327 := Aside0.mk ((q139t : gb337 ≠ gb327)); replace BK327 := blb BK327 hb; clear hb hbox hg; obtain ⟨Ao65, co65, eo65⟩ := Kd.R_slice HO330.out; subst eo65; have hnb66 := NB337_299.out; have hnc66 := NB299_337.out; have hnb67 := NB337_300.out; have hnc67 := NB300_337.out; have hnb68 := NB337_327.out; have hnc68 := NB327_337.out; obtain ⟨hcz69_0, hcz69_1, hcz69_2⟩ := qc3 BK337.out; obtain ⟨hfz69_0, hfz69_1, hfz69_2⟩ := qf3 BK337.out; obtain ⟨Ao70, co70, eo70⟩ := Kd.R_slice HO333.out; subst eo70; obtain ⟨Ao71, co71, eo71⟩ := Kd.R_slice HO336.out; subst eo71))
 have n0_ : Aside0 (Kd.R (Kd.int .u8) 5 (((w64.setCell ⟨gb337, 0, none⟩ (.slice Ao65 t328.length co65)).setCell ⟨gb337, 1, none⟩ (.slice Ao70 t331.length co70)).setCell ⟨gb337, 2, none⟩ (.slice Ao71 t334.length co71)) w.heap.size (fun k_ => some k_ ≠ (.slice Ao55 t317.length co55 : Value).ownBlock ∧ some k_ ≠ (.slice Ao65 t328.length co65 : Value).ownBlock) v309 t308) := ⟨by (with_reducible repeat (first | apply Kd.R_alloc | apply Kd.R_drewN | apply Kd.R_drew)); exact Kd.R_mono (rkf (rkf (rkf (Kd.R_types HO310.out BK337.out q144t)))) (fun _ hk => ⟨hk.1.1, hk.1.2⟩)⟩
 have n1_ : Aside0 (Kd.R (Kd.int .i64) 3 (((w64.setCell ⟨gb337, 0, none⟩ (.slice Ao65 t328.length co65)).setCell ⟨gb337, 1, none⟩ (.slice Ao70 t331.length co70)).setCell ⟨gb337, 2, none⟩ (.slice Ao71 t334.length co71)) w.heap.size (fun k_ => some k_ ≠ (v315 : Value).ownBlock ∧ some k_ ≠ (.slice Ao57 t320.length co57 : Value).ownBlock ∧ some k_ ≠ (.slice Ao59 t323.length co59 : Value).ownBlock ∧ some k_ ≠ (.slice Ao70 t331.length co70 : Value).ownBlock ∧ some k_ ≠ (.slice Ao71 t334.length co71 : Value).ownBlock) v312 t311) := ⟨by (with_reducible repeat (first | apply Kd.R_alloc | apply Kd.R_drewN | apply Kd.R_drew)); exact Kd.R_mono (rkf (rkf (rkf (Kd.R_types HO313.out BK337.out q144t)))) (fun _ hk => ⟨hk.1.1.1.1, ⟨hk.1.1.1.2.1, ⟨hk.1.1.1.2.2, ⟨hk.1.1.2, hk.1.2⟩⟩⟩⟩)⟩
 have n2_ : Aside0 (Kd.R (Kd.int .i64) 3 (((w64.setCell ⟨gb337, 0, none⟩ (.slice Ao65 t328.length co65)).setCell ⟨gb337, 1, none⟩ (.slice Ao70 t331.length co70)).setCell ⟨gb337, 2, none⟩ (.slice Ao71 t334.length co71)) w.heap.size (fun k_ => some k_ ≠ (v312 : Value).ownBlock ∧ some k_ ≠ (.slice Ao57 t320.length co57 : Value).ownBlock ∧ some k_ ≠ (.slice Ao59 t323.length co59 : Value).ownBlock ∧ some k_ ≠ (.slice Ao70 t331.length co70 : Value).ownBlock ∧ some k_ ≠ (.slice Ao71 t334.length co71 : Value).ownBlock) v315 t314) := ⟨by (with_reducible repeat (first | apply Kd.R_alloc | apply Kd.R_drewN | apply Kd.R_drew)); exact Kd.R_mono (rkf (rkf (rkf (Kd.R_types HO316.out BK337.out q144t)))) (fun _ hk => ⟨hk.1.1.1.1, ⟨hk.1.1.1.2.1, ⟨hk.1.1.1.2.2, ⟨hk.1.1.2, hk.1.2⟩⟩⟩⟩)⟩
 have n3_ : Aside0 (Kd.R (Kd.int .u8) 5 (((w64.setCell ⟨gb337, 0, none⟩ (.slice Ao65 t328.length co65)).setCell ⟨gb337, 1, none⟩ (.slice Ao70 t331.length co70)).setCell ⟨gb337, 2, none⟩ (.slice Ao71 t334.length co71)) w.heap.size (fun k_ => some k_ ≠ (v309 : Value).ownBlock ∧ some k_ ≠ (.slice Ao65 t328.length co65 : Value).ownBlock) (.slice Ao55 t317.length co55) t317) := ⟨by (with_reducible repeat (first | apply Kd.R_alloc | apply Kd.R_drewN | apply Kd.R_drew)); exact Kd.R_mono (rkf (rkf (rkf (Kd.R_types HO319.out BK337.out q144t)))) (fun _ hk => ⟨hk.1.1, hk.1.2⟩)⟩
 have n4_ : Aside0 (Kd.R (Kd.int .i64) 3 (((w64.setCell ⟨gb337, 0, none⟩ (.slice Ao65 t328.length co65)).setCell ⟨gb337, 1, none⟩ (.slice Ao70 t331.length co70)).setCell ⟨gb337, 2, none⟩ (.slice Ao71 t334.length co71)) w.heap.size (fun k_ => some k_ ≠ (v312 : Value).ownBlock ∧ some k_ ≠ (v315 : Value).ownBlock ∧ some k_ ≠ (.slice Ao59 t323.length co59 : Value).ownBlock ∧ some k_ ≠ (.slice Ao70 t331.length co70 : Value).ownBlock ∧ some k_ ≠ (.slice Ao71 t334.length co71 : Value).ownBlock) (.slice Ao57 t320.length co57) t320) := ⟨by (with_reducible repeat (first | apply Kd.R_alloc | apply Kd.R_drewN | apply Kd.R_drew)); exact Kd.R_mono (rkf (rkf (rkf (Kd.R_types HO322.out BK337.out q144t)))) (fun _ hk => ⟨hk.1.1.1.1, ⟨hk.1.1.1.2.1, ⟨hk.1.1.1.2.2, ⟨hk.1.1.2, hk.1.2⟩⟩⟩⟩)⟩
 have n5_ : Aside0 (Kd.R (Kd.int .i64) 3 (((w64.setCell ⟨gb337, 0, none⟩ (.slice Ao65 t328.length co65)).setCell ⟨gb337, 1, none⟩ (.slice Ao70 t331.length co70)).setCell ⟨gb337, 2, none⟩ (.slice Ao71 t334.length co71)) w.heap.size (fun k_ => some k_ ≠ (v312 : Value).ownBlock ∧ some k_ ≠ (v315 : Value).ownBlock ∧ some k_ ≠ (.slice Ao57 t320.length co57 : Value).ownBlock ∧ some k_ ≠ (.slice Ao70 t331.length co70 : Value).ownBlock ∧ some k_ ≠ (.slice Ao71 t334.length co71 : Value).ownBlock) (.slice Ao59 t323.length co59) t323) := ⟨by (with_reducible repeat (first | apply Kd.R_alloc | apply Kd.R_drewN | apply Kd.R_drew)); exact Kd.R_mono (rkf (rkf (rkf (Kd.R_types HO325.out BK337.out q144t)))) (fun _ hk => ⟨hk.1.1.1.1, ⟨hk.1.1.1.2.1, ⟨hk.1.1.1.2.2, ⟨hk.1.1.2, hk.1.2⟩⟩⟩⟩)⟩
 have n6_ : Aside0 (Kd.R (Kd.int .u8) 5 (((w64.setCell ⟨gb337, 0, none⟩ (.slice Ao65 t328.length co65)).setCell ⟨gb337, 1, none⟩ (.slice Ao70 t331.length co70)).setCell ⟨gb337, 2, none⟩ (.slice Ao71 t334.length co71)) w.heap.size (fun k_ => some k_ ≠ (v309 : Value).ownBlock ∧ some k_ ≠ (.slice Ao55 t317.length co55 : Value).ownBlock) (.slice Ao65 t328.length co65) t328) := ⟨by (with_reducible repeat (first | apply Kd.R_alloc | apply Kd.R_drewN | apply Kd.R_drew)); exact Kd.R_mono (rkf (rkf (rkf (Kd.R_types HO330.out BK337.out q144t)))) (fun _ hk => ⟨hk.1.1.2, hk.1.2⟩)⟩
 have n7_ : Aside0 (Kd.R (Kd.int .i64) 3 (((w64.setCell ⟨gb337, 0, none⟩ (.slice Ao65 t328.length co65)).setCell ⟨gb337, 1, none⟩ (.slice Ao70 t331.length co70)).setCell ⟨gb337, 2, none⟩ (.slice Ao71 t334.length co71)) w.heap.size (fun k_ => some k_ ≠ (v312 : Value).ownBlock ∧ some k_ ≠ (v315 : Value).ownBlock ∧ some k_ ≠ (.slice Ao57 t320.length co57 : Value).ownBlock ∧ some k_ ≠ (.slice Ao59 t323.length co59 : Value).ownBlock ∧ some k_ ≠ (.slice Ao71 t334.length co71 : Value).ownBlock) (.slice Ao70 t331.length co70) t331) := ⟨by (with_reducible repeat (first | apply Kd.R_alloc | apply Kd.R_drewN | apply Kd.R_drew)); exact Kd.R_mono (rkf (rkf (rkf (Kd.R_types HO333.out BK337.out q144t)))) (fun _ hk => ⟨hk.1.1.1.1.2, ⟨hk.1.1.1.2, ⟨hk.1.1.2, ⟨hk.1.2, hk.1.1.1.1.1⟩⟩⟩⟩)⟩
 have n8_ : Aside0 (Kd.R (Kd.int .i64) 3 (((w64.setCell ⟨gb337, 0, none⟩ (.slice Ao65 t328.length co65)).setCell ⟨gb337, 1, none⟩ (.slice Ao70 t331.length co70)).setCell ⟨gb337, 2, none⟩ (.slice Ao71 t334.length co71)) w.heap.size (fun k_ => some k_ ≠ (v312 : Value).ownBlock ∧ some k_ ≠ (v315 : Value).ownBlock ∧ some k_ ≠ (.slice Ao57 t320.length co57 : Value).ownBlock ∧ some k_ ≠ (.slice Ao59 t323.length co59 : Value).ownBlock ∧ some k_ ≠ (.slice Ao70 t331.length co70 : Value).ownBlock) (.slice Ao71 t334.length co71) t334) := ⟨by (with_reducible repeat (first | apply Kd.R_alloc | apply Kd.R_drewN | apply Kd.R_drew)); exact Kd.R_mono (rkf (rkf (rkf (Kd.R_types HO336.out BK337.out q144t)))) (fun _ hk => ⟨hk.1.1.1.1.2, ⟨hk.1.1.1.2, ⟨hk.1.1.2, ⟨hk.1.2, hk.1.1.1.1.1⟩⟩⟩⟩)⟩
 have n9_ : Aside0 ((((w64.setCell ⟨gb337, 0, none⟩ (.slice Ao65 t328.length co65)).setCell ⟨gb337, 1, none⟩ (.slice Ao70 t331.length co70)).setCell ⟨gb337, 2, none⟩ (.slice Ao71 t334.length co71)).heap[gb299]? = some (.cells #[.int .i64 a0_0, .int .i64 a0_1, .int .i64 a0_2, .int .i64 a0_3, .int .i64 a0_4, .int .i64 a0_5] 23 (0, 0))) := ⟨by (with_reducible repeat (first | refine blk_drewN ?_ _ | refine blk_drew ?_ | refine blk_alloc ?_ _)); refine blk_far ?_ NB299_337.out _; (with_reducible repeat (first | refine blk_drewN ?_ _ | refine blk_drew ?_ | refine blk_alloc ?_ _)); refine blk_far ?_ NB299_337.out _; (with_reducible repeat (first | refine blk_drewN ?_ _ | refine blk_drew ?_ | refine blk_alloc ?_ _)); refine blk_far ?_ NB299_337.out _; (with_reducible repeat (first | refine blk_drewN ?_ _ | refine blk_drew ?_ | refine blk_alloc ?_ _)); exact BK299.out⟩
 have n10_ : Aside0 ((((w64.setCell ⟨gb337, 0, none⟩ (.slice Ao65 t328.length co65)).setCell ⟨gb337, 1, none⟩ (.slice Ao70 t331.length co70)).setCell ⟨gb337, 2, none⟩ (.slice Ao71 t334.length co71)).heap[gb300]? = some (.cells #[.slice A1_0 l1_0.length c1_0, .slice A1_1 l1_1.length c1_1, .slice A1_2 l1_2.length c1_2] 27 (0, 0))) := ⟨by (with_reducible repeat (first | refine blk_drewN ?_ _ | refine blk_drew ?_ | refine blk_alloc ?_ _)); refine blk_far ?_ NB300_337.out _; (with_reducible repeat (first | refine blk_drewN ?_ _ | refine blk_drew ?_ | refine blk_alloc ?_ _)); refine blk_far ?_ NB300_337.out _; (with_reducible repeat (first | refine blk_drewN ?_ _ | refine blk_drew ?_ | refine blk_alloc ?_ _)); refine blk_far ?_ NB300_337.out _; (with_reducible repeat (first | refine blk_drewN ?_ _ | refine blk_drew ?_ | refine blk_alloc ?_ _)); exact BK300.out⟩
 have n11_ : Aside0 ((((w64.setCell ⟨gb337, 0, none⟩ (.slice Ao65 t328.length co65)).setCell ⟨gb337, 1, none⟩ (.slice Ao70 t331.length co70)).setCell ⟨gb337, 2, none⟩ (.slice Ao71 t334.length co71)).heap[gb327]? = some (.cells #[.slice Ao55 t317.length co55, .slice Ao57 t320.length co57, .slice Ao59 t323.length co59] 29 (0, 0))) := ⟨by (with_reducible repeat (first | refine blk_drewN ?_ _ | refine blk_drew ?_ | refine blk_alloc ?_ _)); refine blk_far ?_ NB327_337.out _; (with_reducible repeat (first | refine blk_drewN ?_ _ | refine blk_drew ?_ | refine blk_alloc ?_ _)); refine blk_far ?_ NB327_337.out _; (with_reducible repeat (first | refine blk_drewN ?_ _ | refine blk_drew ?_ | refine blk_alloc ?_ _)); refine blk_far ?_ NB327_337.out _; (with_reducible repeat (first | refine blk_drewN ?_ _ | refine blk_drew ?_ | refine blk_alloc ?_ _)); exact BK327.out⟩
 have n12_ : Aside0 ((((w64.setCell ⟨gb337, 0, none⟩ (.slice Ao65 t328.length co65)).setCell ⟨gb337, 1, none⟩ (.slice Ao70 t331.length co70)).setCell ⟨gb337, 2, none⟩ (.slice Ao71 t334.length co71)).heap[gb337]? = some (.cells #[.slice Ao65 t328.length co65, .slice Ao70 t331.length co70, .slice Ao71 t334.length co71] 29 (0, 0))) := ⟨qbp BK337⟩
 have n13_ : Aside0 (Below w.heap.size w (((w64.setCell ⟨gb337, 0, none⟩ (.slice Ao65 t328.length co65)).setCell ⟨gb337, 1, none⟩ (.slice Ao70 t331.length co70)).setCell ⟨gb337, 2, none⟩ (.slice Ao71 t334.length co71))) := ⟨by repeat (first | (with_reducible first | exact HB.out | apply below_alloc | apply pw_below_drewN | apply below_drew1 | refine below_set ?_ GE299.out | refine below_set ?_ GE300.out | refine below_set ?_ GE327.out | refine below_set ?_ GE337.out) | exact HB.out)⟩
 (try clear HO310)
 (try clear HO313)
 (try clear HO316)
 (try clear HO319)
 (try clear HO322)
 (try clear HO325)
 (try clear HO330)
 (try clear HO333)
 (try clear HO336)
 (try clear BK299)
 (try clear BK300)
 (try clear BK327)
 (try clear BK337)
 (try clear HB)
 generalize (((w64.setCell ⟨gb337, 0, none⟩ (.slice Ao65 t328.length co65)).setCell ⟨gb337, 1, none⟩ (.slice Ao70 t331.length co70)).setCell ⟨gb337, 2, none⟩ (.slice Ao71 t334.length co71)) = w72 at n0_ n1_ n2_ n3_ n4_ n5_ n6_ n7_ n8_ n9_ n10_ n11_ n12_ n13_ ⊢
 have HO310 := n0_
 have HO313 := n1_
 have HO316 := n2_
 have HO319 := n3_
 have HO322 := n4_
 have HO325 := n5_
 have HO330 := n6_
 have HO333 := n7_
 have HO336 := n8_
 have BK299 := n9_
 have BK300 := n10_
 have BK327 := n11_
 have BK337 := n12_
 have HB := n13_
 clear n0_ n1_ n2_ n3_ n4_ n5_ n6_ n7_ n8_ n9_ n10_ n11_ n12_ n13_
 replace HO310 := Aside0.mk (Kd.R_drew HO310.out)
 replace HO313 := Aside0.mk (Kd.R_drew HO313.out)
 replace HO316 := Aside0.mk (Kd.R_drew HO316.out)
 replace HO319 := Aside0.mk (Kd.R_drew HO319.out)
 replace HO322 := Aside0.mk (Kd.R_drew HO322.out)
 replace HO325 := Aside0.mk (Kd.R_drew HO325.out)
 replace HO330 := Aside0.mk (Kd.R_drew HO330.out)
 replace HO333 := Aside0.mk (Kd.R_drew HO333.out)
 replace HO336 := Aside0.mk (Kd.R_drew HO336.out)
 replace BK299 := Aside0.mk (blk_drew BK299.out)
 replace BK300 := Aside0.mk (blk_drew BK300.out)
 replace BK327 := Aside0.mk (blk_drew BK327.out)
 replace BK337 := Aside0.mk (blk_drew BK337.out)
 replace HB := Aside0.mk (below_drew1 HB.out)
 refine start_ (n := 12) (S := fun w' => w'.cell? ⟨gb299, 0, none⟩ = some (.int .i64 a0_0) ∧ w'.cell? ⟨gb299, 1, none⟩ = some (.int .i64 a0_1) ∧ w'.cell? ⟨gb299, 2, none⟩ = some (.int .i64 a0_2) ∧ w'.cell? ⟨gb299, 3, none⟩ = some (.int .i64 a0_3) ∧ w'.cell? ⟨gb299, 4, none⟩ = some (.int .i64 a0_4) ∧ w'.cell? ⟨gb299, 5, none⟩ = some (.int .i64 a0_5) ∧ w'.cell? ⟨gb337, 0, none⟩ = some (.slice Ao65 t328.length co65) ∧ w'.cell? ⟨gb337, 1, none⟩ = some (.slice Ao70 t331.length co70) ∧ w'.cell? ⟨gb337, 2, none⟩ = some (.slice Ao71 t334.length co71)) (ds := []) (bm 12 0) (by kernel_rfl) rfl (by kernel_rfl) ⟨(blk_cell BK299.out 0).trans rfl, (blk_cell BK299.out 1).trans rfl, (blk_cell BK299.out 2).trans rfl, (blk_cell BK299.out 3).trans rfl, (blk_cell BK299.out 4).trans rfl, (blk_cell BK299.out 5).trans rfl, (blk_cell BK337.out 0).trans rfl, (blk_cell BK337.out 1).trans rfl, (blk_cell BK337.out 2).trans rfl⟩ (fun hHeld => ?_); refine with_tabW laws_FnExactWipeSome.tab7 laws_FnExactWipeSome.bits7 (fun HT_ HW_ => ?_)
 generalize w72.drew = w73 at HO310 HO313 HO316 HO319 HO322 HO325 HO330 HO333 HO336 BK299 BK300 BK327 BK337 HB hHeld ⊢
 refine pu_ 3 (some 41) (bm 12 8) (any_of HT_.out (by kernel_rfl)) ?_
 refine pu_ 4 (some 42) (bm 12 24) (any_of HT_.out (by kernel_rfl)) ?_
 refine take_ (i := 0) (N := some 38) (v := ?_) (a' := ?_) (bm 12 25) rfl rfl (take_ofW HT_.out HW_.out (by kernel_rfl)) (fun _ _ _ h => h) (Or.inl ⟨by rfl, ?_⟩) hHeld ?_ ?_
 rotate_left
 ·rintro w' ⟨s0, s1, s2, s3, s4, s5, s6, s7, s8⟩
  go_simp
  with_reducible rfl
 rotate_left
 ·simp only [Act.put, List.setIfInBounds_toArray, List.set_cons_zero, List.set_cons_succ, i64_w, i32_w]
  rfl
 refine take_ (i := 2) (N := some 40) (v := ?_) (a' := ?_) (bm 12 29) rfl rfl (take_ofW HT_.out HW_.out (by kernel_rfl)) (fun _ _ _ h => h) (Or.inl ⟨by rfl, ?_⟩) hHeld ?_ ?_
 rotate_left
 ·rintro w' ⟨s0, s1, s2, s3, s4, s5, s6, s7, s8⟩
  go_simp
  with_reducible rfl
 rotate_left
 ·simp only [Act.put, List.setIfInBounds_toArray, List.set_cons_zero, List.set_cons_succ, i64_w, i32_w]
  rfl
 refine join_ (σ := Value × Value × Value × Nat) 2 #[true, true, true, true, true, true, true, true, true, true, false, false] (fun s_ => [(39, .agg #[.int .i64 t338, .int .i64 t339, .int .i64 t340, .int .i64 t341, .int .i64 t342, .int .i64 t343]), (43, .tuple #[.agg #[s_.1, s_.2.1, s_.2.2.1], .bool t353]), (13, .pointer (some ⟨s_.2.2.2, 0, none⟩)), (37, .tuple #[.agg #[s_.1, s_.2.1, s_.2.2.1], .bool t353]), (44, .agg #[s_.1, s_.2.1, s_.2.2.1]), (45, .bool t353)]) (fun s_ w' => (w'.cell? ⟨gb299, 0, none⟩ = some (.int .i64 a0_0) ∧ w'.cell? ⟨gb299, 1, none⟩ = some (.int .i64 a0_1) ∧ w'.cell? ⟨gb299, 2, none⟩ = some (.int .i64 a0_2) ∧ w'.cell? ⟨gb299, 3, none⟩ = some (.int .i64 a0_3) ∧ w'.cell? ⟨gb299, 4, none⟩ = some (.int .i64 a0_4) ∧ w'.cell? ⟨gb299, 5, none⟩ = some (.int .i64 a0_5) ∧ w'.cell? ⟨gb337, 0, none⟩ = some (.slice Ao65 t328.length co65) ∧ w'.cell? ⟨gb337, 1, none⟩ = some (.slice Ao70 t331.length co70) ∧ w'.cell? ⟨gb337, 2, none⟩ = some (.slice Ao71 t334.length co71)) ∧ (Kd.R (Kd.int .u8) 5 w' w.heap.size (fun k_ => some k_ ≠ (.slice Ao55 t317.length co55 : Value).ownBlock ∧ some k_ ≠ (.slice Ao65 t328.length co65 : Value).ownBlock ∧ some k_ ≠ (s_.1 : Value).ownBlock) v309 t308) ∧ (Kd.R (Kd.int .i64) 3 w' w.heap.size (fun k_ => some k_ ≠ (v315 : Value).ownBlock ∧ some k_ ≠ (.slice Ao57 t320.length co57 : Value).ownBlock ∧ some k_ ≠ (.slice Ao59 t323.length co59 : Value).ownBlock ∧ some k_ ≠ (.slice Ao70 t331.length co70 : Value).ownBlock ∧ some k_ ≠ (.slice Ao71 t334.length co71 : Value).ownBlock ∧ some k_ ≠ (s_.2.1 : Value).ownBlock ∧ some k_ ≠ (s_.2.2.1 : Value).ownBlock) v312 t311) ∧ (Kd.R (Kd.int .i64) 3 w' w.heap.size (fun k_ => some k_ ≠ (v312 : Value).ownBlock ∧ some k_ ≠ (.slice Ao57 t320.length co57 : Value).ownBlock ∧ some k_ ≠ (.slice Ao59 t323.length co59 : Value).ownBlock ∧ some k_ ≠ (.slice Ao70 t331.length co70 : Value).ownBlock ∧ some k_ ≠ (.slice Ao71 t334.length co71 : Value).ownBlock ∧ some k_ ≠ (s_.2.1 : Value).ownBlock ∧ some k_ ≠ (s_.2.2.1 : Value).ownBlock) v315 t314) ∧ (Kd.R (Kd.int .u8) 5 w' w.heap.size (fun k_ => some k_ ≠ (v309 : Value).ownBlock ∧ some k_ ≠ (.slice Ao65 t328.length co65 : Value).ownBlock ∧ some k_ ≠ (s_.1 : Value).ownBlock) (.slice Ao55 t317.length co55) t317) ∧ (Kd.R (Kd.int .i64) 3 w' w.heap.size (fun k_ => some k_ ≠ (v312 : Value).ownBlock ∧ some k_ ≠ (v315 : Value).ownBlock ∧ some k_ ≠ (.slice Ao59 t323.length co59 : Value).ownBlock ∧ some k_ ≠ (.slice Ao70 t331.length co70 : Value).ownBlock ∧ some k_ ≠ (.slice Ao71 t334.length co71 : Value).ownBlock ∧ some k_ ≠ (s_.2.1 : Value).ownBlock ∧ some k_ ≠ (s_.2.2.1 : Value).ownBlock) (.slice Ao57 t320.length co57) t320) ∧ (Kd.R (Kd.int .i64) 3 w' w.heap.size (fun k_ => some k_ ≠ (v312 : Value).ownBlock ∧ some k_ ≠ (v315 : Value).ownBlock ∧ some k_ ≠ (.slice Ao57 t320.length co57 : Value).ownBlock ∧ some k_ ≠ (.slice Ao70 t331.length co70 : Value).ownBlock ∧ some k_ ≠ (.slice Ao71 t334.length co71 : Value).ownBlock ∧ some k_ ≠ (s_.2.1 : Value).ownBlock ∧ some k_ ≠ (s_.2.2.1 : Value).ownBlock) (.slice Ao59 t323.length co59) t323) ∧ (Kd.R (Kd.int .u8) 5 w' w.heap.size (fun k_ => some k_ ≠ (v309 : Value).ownBlock ∧ some k_ ≠ (.slice Ao55 t317.length co55 : Value).ownBlock ∧ some k_ ≠ (s_.1 : Value).ownBlock) (.slice Ao65 t328.length co65) t328) ∧ (Kd.R (Kd.int .i64) 3 w' w.heap.size (fun k_ => some k_ ≠ (v312 : Value).ownBlock ∧ some k_ ≠ (v315 : Value).ownBlock ∧ some k_ ≠ (.slice Ao57 t320.length co57 : Value).ownBlock ∧ some k_ ≠ (.slice Ao59 t323.length co59 : Value).ownBlock ∧ some k_ ≠ (.slice Ao71 t334.length co71 : Value).ownBlock ∧ some k_ ≠ (s_.2.1 : Value).ownBlock ∧ some k_ ≠ (s_.2.2.1 : Value).ownBlock) (.slice Ao70 t331.length co70) t331) ∧ (Kd.R (Kd.int .i64) 3 w' w.heap.size (fun k_ => some k_ ≠ (v312 : Value).ownBlock ∧ some k_ ≠ (v315 : Value).ownBlock ∧ some k_ ≠ (.slice Ao57 t320.length co57 : Value).ownBlock ∧ some k_ ≠ (.slice Ao59 t323.length co59 : Value).ownBlock ∧ some k_ ≠ (.slice Ao70 t331.length co70 : Value).ownBlock ∧ some k_ ≠ (s_.2.1 : Value).ownBlock ∧ some k_ ≠ (s_.2.2.1 : Value).ownBlock) (.slice Ao71 t334.length co71) t334) ∧ (Kd.R (Kd.int .u8) 5 w' w.heap.size (fun k_ => some k_ ≠ (v309 : Value).ownBlock ∧ some k_ ≠ (.slice Ao55 t317.length co55 : Value).ownBlock ∧ some k_ ≠ (.slice Ao65 t328.length co65 : Value).ownBlock) s_.1 t344) ∧ (Kd.R (Kd.int .i64) 3 w' w.heap.size (fun k_ => some k_ ≠ (v312 : Value).ownBlock ∧ some k_ ≠ (v315 : Value).ownBlock ∧ some k_ ≠ (.slice Ao57 t320.length co57 : Value).ownBlock ∧ some k_ ≠ (.slice Ao59 t323.length co59 : Value).ownBlock ∧ some k_ ≠ (.slice Ao70 t331.length co70 : Value).ownBlock ∧ some k_ ≠ (.slice Ao71 t334.length co71 : Value).ownBlock ∧ some k_ ≠ (s_.2.2.1 : Value).ownBlock) s_.2.1 t347) ∧ (Kd.R (Kd.int .i64) 3 w' w.heap.size (fun k_ => some k_ ≠ (v312 : Value).ownBlock ∧ some k_ ≠ (v315 : Value).ownBlock ∧ some k_ ≠ (.slice Ao57 t320.length co57 : Value).ownBlock ∧ some k_ ≠ (.slice Ao59 t323.length co59 : Value).ownBlock ∧ some k_ ≠ (.slice Ao70 t331.length co70 : Value).ownBlock ∧ some k_ ≠ (.slice Ao71 t334.length co71 : Value).ownBlock ∧ some k_ ≠ (s_.2.1 : Value).ownBlock) s_.2.2.1 t350) ∧ (w'.heap[gb299]? = some (.cells #[.int .i64 a0_0, .int .i64 a0_1, .int .i64 a0_2, .int .i64 a0_3, .int .i64 a0_4, .int .i64 a0_5] 23 (0, 0))) ∧ (w'.heap[gb300]? = some (.cells #[.slice A1_0 l1_0.length c1_0, .slice A1_1 l1_1.length c1_1, .slice A1_2 l1_2.length c1_2] 27 (0, 0))) ∧ (w'.heap[gb327]? = some (.cells #[.slice Ao55 t317.length co55, .slice Ao57 t320.length co57, .slice Ao59 t323.length co59] 29 (0, 0))) ∧ (w'.heap[gb337]? = some (.cells #[.slice Ao65 t328.length co65, .slice Ao70 t331.length co70, .slice Ao71 t334.length co71] 29 (0, 0))) ∧ (w'.heap[s_.2.2.2]? = some (.cells #[.slice none 0 0, .slice none 0 0, .slice none 0 0] 29 (0, 0))) ∧ (w.heap.size ≤ s_.2.2.2) ∧ (w.heap.size ≤ s_.2.2.2) ∧ (gb299 ≠ s_.2.2.2) ∧ (s_.2.2.2 ≠ gb299) ∧ (gb300 ≠ s_.2.2.2) ∧ (s_.2.2.2 ≠ gb300) ∧ (gb327 ≠ s_.2.2.2) ∧ (s_.2.2.2 ≠ gb327) ∧ (gb337 ≠ s_.2.2.2) ∧ (s_.2.2.2 ≠ gb337) ∧ (Below w.heap.size w w')) ?_ ?_
 rotate_left
 ·intro hCont
  refine two_ (i := 1) (j := 9) (Ni := some 39) (Nj := some 13) #[true, true, true, true, true, false, false, false, false, false, false, false] #[true, false, true, true, true, false, false, false, false, true, false, false] rfl rfl rfl rfl (two_of HT_.out (by kernel_rfl)) q144t q144t (fun K hK => ?_) (fun K hK => ?_)
  ·skip
   refine goes_ Try.func6 (by kernel_rfl) rfl #[.agg #[.int .i64 a0_0, .int .i64 a0_1, .int .i64 a0_2, .int .i64 a0_3, .int .i64 a0_4, .int .i64 a0_5]] (by rfl) rfl rfl q97t ?_
   with_reducible refine (laws_toConf.calls a0_0 a0_1 a0_2 a0_3 a0_4 a0_5 t338 t339 t340 t341 t342 t343 _ A16.out).mono ?_
   rintro e w74 ⟨rfl, hb⟩
   refine ⟨_, rfl, ?_⟩
   replace HO310 := Aside0.mk (Kd.R_below q113t hb)
   replace HO313 := Aside0.mk (Kd.R_below q114t hb)
   replace HO316 := Aside0.mk (Kd.R_below q115t hb)
   replace HO319 := Aside0.mk (Kd.R_below q116t hb)
   replace HO322 := Aside0.mk (Kd.R_below q117t hb)
   replace HO325 := Aside0.mk (Kd.R_below q118t hb)
   replace HO330 := Aside0.mk (Kd.R_below q119t hb)
   replace HO333 := Aside0.mk (Kd.R_below q120t hb)
   replace HO336 := Aside0.mk (Kd.R_below q121t hb)
   replace BK299 := blb BK299 hb
   replace BK300 := blb BK300 hb
   replace BK327 := blb BK327 hb
   replace BK337 := blb BK337 hb
   replace HB := Aside0.mk (below_step q30t hb)
   (try clear hb)
   (try clear hb2)
   (try clear hk)
   (try clear hi)
   refine hK.out _ _ q23t (fun hHeld => ?_)
   clear hK K
   refine norm_ (a' := ?_) ?_ ?_
   rotate_left
   ·show Act.put _ (some 39) _ = _
    simp only [Act.put, List.setIfInBounds_toArray, List.set_cons_zero, List.set_cons_succ, i64_w, i32_w]
    rfl
   refine two_ (i := 5) (j := 9) (Ni := some 43) (Nj := some 13) #[true, true, true, true, true, true, false, false, false, false, false, false] #[true, true, true, true, true, false, false, false, false, true, false, false] rfl rfl rfl rfl (two_of HT_.out (by kernel_rfl)) q144t q144t (fun K hK => ?_) (fun K hK => ?_)
   ·skip
    refine goes_ Try.func8 (by kernel_rfl) rfl #[.agg #[.int .i64 t338, .int .i64 t339, .int .i64 t340, .int .i64 t341, .int .i64 t342, .int .i64 t343], .agg #[.slice Ao65 t328.length co65, .slice Ao70 t331.length co70, .slice Ao71 t334.length co71], .int .i64 a2, .int .i64 a3] (by rfl) rfl rfl q97t ?_
    with_reducible refine (impl_WipeSome.calls k t338 t339 t340 t341 t342 t343 _ _ t328 _ _ t331 _ _ t334 a2 a3 t344 t347 t350 t353 _ ?side1 ?side2 ?side3 ?side4 ?side5 ?side6 A17.out).mono ?_
    (case side1 => repeat (first | exact (Kd.R_reads' HO330.out).2.2 | (with_reducible refine Kd.C_alloc ?_ _) | (with_reducible refine Kd.C_drewN ?_ _) | (with_reducible refine Kd.C_drew ?_)))
    (case side2 => exact (Kd.R_reads' HO330.out).2.1)
    (case side3 => repeat (first | exact (Kd.R_reads' HO333.out).2.2 | (with_reducible refine Kd.C_alloc ?_ _) | (with_reducible refine Kd.C_drewN ?_ _) | (with_reducible refine Kd.C_drew ?_)))
    (case side4 => exact (Kd.R_reads' HO333.out).2.1)
    (case side5 => repeat (first | exact (Kd.R_reads' HO336.out).2.2 | (with_reducible refine Kd.C_alloc ?_ _) | (with_reducible refine Kd.C_drewN ?_ _) | (with_reducible refine Kd.C_drew ?_)))
    (case side6 => exact (Kd.R_reads' HO336.out).2.1)
    rintro e w75 ⟨v345, v348, v351, rfl, ho0, ho1, ho2, hb⟩
    refine ⟨_, rfl, ?_⟩
    have HO346 := Aside0.mk (Kd.R_lower (Kd.R_new' (Kd.R_new' (Kd.R_new' ho0 (Kd.R_lt q113t)) (Kd.R_lt q116t)) (Kd.R_lt q119t)) (below_size q30t))
    replace HO310 := Aside0.mk (Kd.R_elder' q113t (Kd.R_base ho0) hb)
    replace HO319 := Aside0.mk (Kd.R_elder' q116t (Kd.R_base ho0) hb)
    replace HO330 := Aside0.mk (Kd.R_elder' q119t (Kd.R_base ho0) hb)
    have HO349 := Aside0.mk (Kd.R_lower (Kd.R_new' (Kd.R_new' (Kd.R_new' (Kd.R_new' (Kd.R_new' (Kd.R_new' ho1 (Kd.R_lt q114t)) (Kd.R_lt q115t)) (Kd.R_lt q117t)) (Kd.R_lt q118t)) (Kd.R_lt q120t)) (Kd.R_lt q121t)) (below_size q30t))
    have HO352 := Aside0.mk (Kd.R_lower (Kd.R_new' (Kd.R_new' (Kd.R_new' (Kd.R_new' (Kd.R_new' (Kd.R_new' ho2 (Kd.R_lt q114t)) (Kd.R_lt q115t)) (Kd.R_lt q117t)) (Kd.R_lt q118t)) (Kd.R_lt q120t)) (Kd.R_lt q121t)) (below_size q30t))
    replace HO313 := Aside0.mk (Kd.R_mono (Kd.R_told (Kd.R_told (Kd.R_old q114t hb) (Kd.R_base ho1)) (Kd.R_base ho2)) (fun _ h_ => h_.1))
    replace HO316 := Aside0.mk (Kd.R_mono (Kd.R_told (Kd.R_told (Kd.R_old q115t hb) (Kd.R_base ho1)) (Kd.R_base ho2)) (fun _ h_ => h_.1))
    replace HO322 := Aside0.mk (Kd.R_mono (Kd.R_told (Kd.R_told (Kd.R_old q117t hb) (Kd.R_base ho1)) (Kd.R_base ho2)) (fun _ h_ => h_.1))
    replace HO325 := Aside0.mk (Kd.R_mono (Kd.R_told (Kd.R_told (Kd.R_old q118t hb) (Kd.R_base ho1)) (Kd.R_base ho2)) (fun _ h_ => h_.1))
    replace HO333 := Aside0.mk (Kd.R_mono (Kd.R_told (Kd.R_told (Kd.R_old q120t hb) (Kd.R_base ho1)) (Kd.R_base ho2)) (fun _ h_ => h_.1))
    replace HO336 := Aside0.mk (Kd.R_mono (Kd.R_told (Kd.R_told (Kd.R_old q121t hb) (Kd.R_base ho1)) (Kd.R_base ho2)) (fun _ h_ => h_.1))
    replace BK299 := blb BK299 hb
    replace BK300 := blb BK300 hb
    replace BK327 := blb BK327 hb
    replace BK337 := blb BK337 hb
    replace HB := Aside0.mk (below_step q30t hb)
    (try clear hb)
    (try clear hb2)
    (try clear hk)
    (try clear hi)
    (try clear ho0)
    (try clear ho1)
    (try clear ho2)
    refine hK.out _ _ q23t (fun hHeld => ?_)
    clear hK K
    refine norm_ (a' := ?_) ?_ ?_
    rotate_left
    ·show Act.put _ (some 43) _ = _
     simp only [Act.put, List.setIfInBounds_toArray, List.set_cons_zero, List.set_cons_succ, i64_w, i32_w]
     rfl
    refine pu_ 6 (some 37) (bm 12 127) (any_of HT_.out (by kernel_rfl)) ?_
    refine pu_ 7 (some 44) (bm 12 255) (any_of HT_.out (by kernel_rfl)) ?_
    refine pu_ 8 (some 45) (bm 12 511) (any_of HT_.out (by kernel_rfl)) ?_
    refine one_ (i := 9) (N := some 13) (bm 12 1023) rfl rfl (one_of HT_.out (by kernel_rfl)) q144t (fun K hK => ?_)
    refine box_step ?hg (N := 13) ?hd (cs := #[.slice none 0 0, .slice none 0 0, .slice none 0 0]) (t := 29) ?hr ?_; (case hd => rfl); (case hg => rfl); (case hr => first | (go_simp; done) | (go_simp; rfl))
    intro gb354 hg w76 hbox hb
    replace HO310 := Aside0.mk (Kd.R_below q113t hb)
    replace HO313 := Aside0.mk (Kd.R_below q114t hb)
    replace HO316 := Aside0.mk (Kd.R_below q115t hb)
    replace HO319 := Aside0.mk (Kd.R_below q116t hb)
    replace HO322 := Aside0.mk (Kd.R_below q117t hb)
    replace HO325 := Aside0.mk (Kd.R_below q118t hb)
    replace HO330 := Aside0.mk (Kd.R_below q119t hb)
    replace HO333 := Aside0.mk (Kd.R_below q120t hb)
    replace HO336 := Aside0.mk (Kd.R_below q121t hb)
    replace HO346 := Aside0.mk (Kd.R_below q122t hb)
    replace HO349 := Aside0.mk (Kd.R_below q123t hb)
    replace HO352 := Aside0.mk (Kd.R_below q124t hb)
    have BK354 := Aside0.mk (hbox)
    have GW354 := Aside0.mk ((q26t : w.heap.size ≤ gb354))
    have GE354 := Aside0.mk ((q26t : w.heap.size ≤ gb354))
    replace HB := Aside0.mk (below_step q30t hb)
    have NB299_354 := Aside0.mk ((q134t : gb299 ≠ gb354))
    have NB354_299 := Aside0.mk ((q135t : gb354 ≠ gb299))
    replace BK299 := blb BK299 hb
    have NB300_354 := Aside0.mk ((q136t : gb300 ≠ gb354))
    have NB354_300 := Aside0.mk ((q137t : gb354 ≠ gb300))
    replace BK300 := blb BK300 hb
    have NB327_354 := Aside0.mk ((q138t : gb327 ≠ gb354))
    have NB354_327 := Aside0.mk ((q139t : gb354 ≠ gb327))
    replace BK327 := blb BK327 hb
    have NB337_354 := Aside0.mk ((q140t : gb337 ≠ gb354))
    have NB354_337 := Aside0.mk ((q141t : gb354 ≠ gb337))
    replace BK337 := blb BK337 hb
    clear hb hbox hg
    refine hK.out _ _ q23t (fun hHeld => ?_)
    clear hK K
    refine norm_ (a' := ?_) ?_ ?_
    rotate_left
    ·show Act.put _ (some 13) _ = _
     simp only [Act.put, List.setIfInBounds_toArray, List.set_cons_zero, List.set_cons_succ, i64_w, i32_w]
     rfl
    exact norm_ q131t (hCont (v345, v348, v351, gb354) _ ⟨hHeld, q94t, q36t, q37t, q95t, q38t, q39t, q96t, q40t, q41t, q89t, q42t, q43t, (qbk BK299), (qbk BK300), (qbk BK327), (qbk BK337), (qbk BK354), GW354.out, GE354.out, NB299_354.out, NB354_299.out, NB300_354.out, NB354_300.out, NB327_354.out, NB354_327.out, NB337_354.out, NB354_337.out, q27t⟩)
   skip
   refine box_step ?hg (N := 13) ?hd (cs := #[.slice none 0 0, .slice none 0 0, .slice none 0 0]) (t := 29) ?hr ?_; (case hd => rfl); (case hg => rfl); (case hr => first | (go_simp; done) | (go_simp; rfl))
   intro gb354 hg w75 hbox hb
   replace HO310 := Aside0.mk (Kd.R_below q113t hb)
   replace HO313 := Aside0.mk (Kd.R_below q114t hb)
   replace HO316 := Aside0.mk (Kd.R_below q115t hb)
   replace HO319 := Aside0.mk (Kd.R_below q116t hb)
   replace HO322 := Aside0.mk (Kd.R_below q117t hb)
   replace HO325 := Aside0.mk (Kd.R_below q118t hb)
   replace HO330 := Aside0.mk (Kd.R_below q119t hb)
   replace HO333 := Aside0.mk (Kd.R_below q120t hb)
   replace HO336 := Aside0.mk (Kd.R_below q121t hb)
   have BK354 := Aside0.mk (hbox)
   have GW354 := Aside0.mk ((q26t : w.heap.size ≤ gb354))
   have GE354 := Aside0.mk ((q26t : w.heap.size ≤ gb354))
   replace HB := Aside0.mk (below_step q30t hb)
   have NB299_354 := Aside0.mk ((q134t : gb299 ≠ gb354))
   have NB354_299 := Aside0.mk ((q135t : gb354 ≠ gb299))
   replace BK299 := blb BK299 hb
   have NB300_354 := Aside0.mk ((q136t : gb300 ≠ gb354))
   have NB354_300 := Aside0.mk ((q137t : gb354 ≠ gb300))
   replace BK300 := blb BK300 hb
   have NB327_354 := Aside0.mk ((q138t : gb327 ≠ gb354))
   have NB354_327 := Aside0.mk ((q139t : gb354 ≠ gb327))
   replace BK327 := blb BK327 hb
   have NB337_354 := Aside0.mk ((q140t : gb337 ≠ gb354))
   have NB354_337 := Aside0.mk ((q141t : gb354 ≠ gb337))
   replace BK337 := blb BK337 hb
   clear hb hbox hg
   refine hK.out _ _ q23t (fun hHeld => ?_)
   clear hK K
   refine norm_ (a' := ?_) ?_ ?_
   rotate_left
   ·show Act.put _ (some 13) _ = _
    simp only [Act.put, List.setIfInBounds_toArray, List.set_cons_zero, List.set_cons_succ, i64_w, i32_w]
    rfl
   refine one_ (i := 5) (N := some 43) (bm 12 575) rfl rfl (one_of HT_.out (by kernel_rfl)) q144t (fun K hK => ?_)
   refine goes_ Try.func8 (by kernel_rfl) rfl #[.agg #[.int .i64 t338, .int .i64 t339, .int .i64 t340, .int .i64 t341, .int .i64 t342, .int .i64 t343], .agg #[.slice Ao65 t328.length co65, .slice Ao70 t331.length co70, .slice Ao71 t334.length co71], .int .i64 a2, .int .i64 a3] (by rfl) rfl rfl q97t ?_
   with_reducible refine (impl_WipeSome.calls k t338 t339 t340 t341 t342 t343 _ _ t328 _ _ t331 _ _ t334 a2 a3 t344 t347 t350 t353 _ ?side1 ?side2 ?side3 ?side4 ?side5 ?side6 A17.out).mono ?_
   (case side1 => repeat (first | exact (Kd.R_reads' HO330.out).2.2 | (with_reducible refine Kd.C_alloc ?_ _) | (with_reducible refine Kd.C_drewN ?_ _) | (with_reducible refine Kd.C_drew ?_)))
   (case side2 => exact (Kd.R_reads' HO330.out).2.1)
   (case side3 => repeat (first | exact (Kd.R_reads' HO333.out).2.2 | (with_reducible refine Kd.C_alloc ?_ _) | (with_reducible refine Kd.C_drewN ?_ _) | (with_reducible refine Kd.C_drew ?_)))
   (case side4 => exact (Kd.R_reads' HO333.out).2.1)
   (case side5 => repeat (first | exact (Kd.R_reads' HO336.out).2.2 | (with_reducible refine Kd.C_alloc ?_ _) | (with_reducible refine Kd.C_drewN ?_ _) | (with_reducible refine Kd.C_drew ?_)))
   (case side6 => exact (Kd.R_reads' HO336.out).2.1)
   rintro e w76 ⟨v345, v348, v351, rfl, ho0, ho1, ho2, hb⟩
   refine ⟨_, rfl, ?_⟩
   have HO346 := Aside0.mk (Kd.R_lower (Kd.R_new' (Kd.R_new' (Kd.R_new' ho0 (Kd.R_lt q113t)) (Kd.R_lt q116t)) (Kd.R_lt q119t)) (below_size q27t))
   replace HO310 := Aside0.mk (Kd.R_elder' q113t (Kd.R_base ho0) hb)
   replace HO319 := Aside0.mk (Kd.R_elder' q116t (Kd.R_base ho0) hb)
   replace HO330 := Aside0.mk (Kd.R_elder' q119t (Kd.R_base ho0) hb)
   have HO349 := Aside0.mk (Kd.R_lower (Kd.R_new' (Kd.R_new' (Kd.R_new' (Kd.R_new' (Kd.R_new' (Kd.R_new' ho1 (Kd.R_lt q114t)) (Kd.R_lt q115t)) (Kd.R_lt q117t)) (Kd.R_lt q118t)) (Kd.R_lt q120t)) (Kd.R_lt q121t)) (below_size q27t))
   have HO352 := Aside0.mk (Kd.R_lower (Kd.R_new' (Kd.R_new' (Kd.R_new' (Kd.R_new' (Kd.R_new' (Kd.R_new' ho2 (Kd.R_lt q114t)) (Kd.R_lt q115t)) (Kd.R_lt q117t)) (Kd.R_lt q118t)) (Kd.R_lt q120t)) (Kd.R_lt q121t)) (below_size q27t))
   replace HO313 := Aside0.mk (Kd.R_mono (Kd.R_told (Kd.R_told (Kd.R_old q114t hb) (Kd.R_base ho1)) (Kd.R_base ho2)) (fun _ h_ => h_.1))
   replace HO316 := Aside0.mk (Kd.R_mono (Kd.R_told (Kd.R_told (Kd.R_old q115t hb) (Kd.R_base ho1)) (Kd.R_base ho2)) (fun _ h_ => h_.1))
   replace HO322 := Aside0.mk (Kd.R_mono (Kd.R_told (Kd.R_told (Kd.R_old q117t hb) (Kd.R_base ho1)) (Kd.R_base ho2)) (fun _ h_ => h_.1))
   replace HO325 := Aside0.mk (Kd.R_mono (Kd.R_told (Kd.R_told (Kd.R_old q118t hb) (Kd.R_base ho1)) (Kd.R_base ho2)) (fun _ h_ => h_.1))
   replace HO333 := Aside0.mk (Kd.R_mono (Kd.R_told (Kd.R_told (Kd.R_old q120t hb) (Kd.R_base ho1)) (Kd.R_base ho2)) (fun _ h_ => h_.1))
   replace HO336 := Aside0.mk (Kd.R_mono (Kd.R_told (Kd.R_told (Kd.R_old q121t hb) (Kd.R_base ho1)) (Kd.R_base ho2)) (fun _ h_ => h_.1))
   replace BK299 := blb BK299 hb
   replace BK300 := blb BK300 hb
   replace BK327 := blb BK327 hb
   replace BK337 := blb BK337 hb
   replace BK354 := blb BK354 hb
   replace HB := Aside0.mk (below_step q27t hb)
   (try clear hb)
   (try clear hb2)
   (try clear hk)
   (try clear hi)
   (try clear ho0)
   (try clear ho1)
   (try clear ho2)
   refine hK.out _ _ q23t (fun hHeld => ?_)
   clear hK K
   refine norm_ (a' := ?_) ?_ ?_
   rotate_left
   ·show Act.put _ (some 43) _ = _
    simp only [Act.put, List.setIfInBounds_toArray, List.set_cons_zero, List.set_cons_succ, i64_w, i32_w]
    rfl
   refine pu_ 6 (some 37) (bm 12 639) (any_of HT_.out (by kernel_rfl)) ?_
   refine pu_ 7 (some 44) (bm 12 767) (any_of HT_.out (by kernel_rfl)) ?_
   refine pu_ 8 (some 45) (bm 12 1023) (any_of HT_.out (by kernel_rfl)) ?_
   exact norm_ q131t (hCont (v345, v348, v351, gb354) _ ⟨hHeld, q94t, q36t, q37t, q95t, q38t, q39t, q96t, q40t, q41t, q89t, q42t, q43t, (qbk BK299), (qbk BK300), (qbk BK327), (qbk BK337), (qbk BK354), GW354.out, GE354.out, NB299_354.out, NB354_299.out, NB300_354.out, NB354_300.out, NB327_354.out, NB354_327.out, NB337_354.out, NB354_337.out, q27t⟩)
  skip
  refine box_step ?hg (N := 13) ?hd (cs := #[.slice none 0 0, .slice none 0 0, .slice none 0 0]) (t := 29) ?hr ?_; (case hd => rfl); (case hg => rfl); (case hr => first | (go_simp; done) | (go_simp; rfl))
  intro gb354 hg w74 hbox hb
  replace HO310 := Aside0.mk (Kd.R_below q113t hb)
  replace HO313 := Aside0.mk (Kd.R_below q114t hb)
  replace HO316 := Aside0.mk (Kd.R_below q115t hb)
  replace HO319 := Aside0.mk (Kd.R_below q116t hb)
  replace HO322 := Aside0.mk (Kd.R_below q117t hb)
  replace HO325 := Aside0.mk (Kd.R_below q118t hb)
  replace HO330 := Aside0.mk (Kd.R_below q119t hb)
  replace HO333 := Aside0.mk (Kd.R_below q120t hb)
  replace HO336 := Aside0.mk (Kd.R_below q121t hb)
  have BK354 := Aside0.mk (hbox)
  have GW354 := Aside0.mk ((q26t : w.heap.size ≤ gb354))
  have GE354 := Aside0.mk ((q26t : w.heap.size ≤ gb354))
  replace HB := Aside0.mk (below_step q30t hb)
  have NB299_354 := Aside0.mk ((q134t : gb299 ≠ gb354))
  have NB354_299 := Aside0.mk ((q135t : gb354 ≠ gb299))
  replace BK299 := blb BK299 hb
  have NB300_354 := Aside0.mk ((q136t : gb300 ≠ gb354))
  have NB354_300 := Aside0.mk ((q137t : gb354 ≠ gb300))
  replace BK300 := blb BK300 hb
  have NB327_354 := Aside0.mk ((q138t : gb327 ≠ gb354))
  have NB354_327 := Aside0.mk ((q139t : gb354 ≠ gb327))
  replace BK327 := blb BK327 hb
  have NB337_354 := Aside0.mk ((q140t : gb337 ≠ gb354))
  have NB354_337 := Aside0.mk ((q141t : gb354 ≠ gb337))
  replace BK337 := blb BK337 hb
  clear hb hbox hg
  refine hK.out _ _ q23t (fun hHeld => ?_)
  clear hK K
  refine norm_ (a' := ?_) ?_ ?_
  rotate_left
  ·show Act.put _ (some 13) _ = _
   simp only [Act.put, List.setIfInBounds_toArray, List.set_cons_zero, List.set_cons_succ, i64_w, i32_w]
   rfl
  refine one_ (i := 1) (N := some 39) (bm 12 543) rfl rfl (one_of HT_.out (by kernel_rfl)) q144t (fun K hK => ?_)
  refine goes_ Try.func6 (by kernel_rfl) rfl #[.agg #[.int .i64 a0_0, .int .i64 a0_1, .int .i64 a0_2, .int .i64 a0_3, .int .i64 a0_4, .int .i64 a0_5]] (by rfl) rfl rfl q97t ?_
  with_reducible refine (laws_toConf.calls a0_0 a0_1 a0_2 a0_3 a0_4 a0_5 t338 t339 t340 t341 t342 t343 _ A16.out).mono ?_
  rintro e w75 ⟨rfl, hb⟩
  refine ⟨_, rfl, ?_⟩
  replace HO310 := Aside0.mk (Kd.R_below q113t hb)
  replace HO313 := Aside0.mk (Kd.R_below q114t hb)
  replace HO316 := Aside0.mk (Kd.R_below q115t hb)
  replace HO319 := Aside0.mk (Kd.R_below q116t hb)
  replace HO322 := Aside0.mk (Kd.R_below q117t hb)
  replace HO325 := Aside0.mk (Kd.R_below q118t hb)
  replace HO330 := Aside0.mk (Kd.R_below q119t hb)
  replace HO333 := Aside0.mk (Kd.R_below q120t hb)
  replace HO336 := Aside0.mk (Kd.R_below q121t hb)
  replace BK299 := blb BK299 hb
  replace BK300 := blb BK300 hb
  replace BK327 := blb BK327 hb
  replace BK337 := blb BK337 hb
  replace BK354 := blb BK354 hb
  replace HB := Aside0.mk (below_step q27t hb)
  (try clear hb)
  (try clear hb2)
  (try clear hk)
  (try clear hi)
  refine hK.out _ _ q23t (fun hHeld => ?_)
  clear hK K
  refine norm_ (a' := ?_) ?_ ?_
  rotate_left
  ·show Act.put _ (some 39) _ = _
   simp only [Act.put, List.setIfInBounds_toArray, List.set_cons_zero, List.set_cons_succ, i64_w, i32_w]
   rfl
  refine one_ (i := 5) (N := some 43) (bm 12 575) rfl rfl (one_of HT_.out (by kernel_rfl)) q144t (fun K hK => ?_)
  refine goes_ Try.func8 (by kernel_rfl) rfl #[.agg #[.int .i64 t338, .int .i64 t339, .int .i64 t340, .int .i64 t341, .int .i64 t342, .int .i64 t343], .agg #[.slice Ao65 t328.length co65, .slice Ao70 t331.length co70, .slice Ao71 t334.length co71], .int .i64 a2, .int .i64 a3] (by rfl) rfl rfl q97t ?_
  with_reducible refine (impl_WipeSome.calls k t338 t339 t340 t341 t342 t343 _ _ t328 _ _ t331 _ _ t334 a2 a3 t344 t347 t350 t353 _ ?side1 ?side2 ?side3 ?side4 ?side5 ?side6 A17.out).mono ?_
  (case side1 => repeat (first | exact (Kd.R_reads' HO330.out).2.2 | (with_reducible refine Kd.C_alloc ?_ _) | (with_reducible refine Kd.C_drewN ?_ _) | (with_reducible refine Kd.C_drew ?_)))
  (case side2 => exact (Kd.R_reads' HO330.out).2.1)
  (case side3 => repeat (first | exact (Kd.R_reads' HO333.out).2.2 | (with_reducible refine Kd.C_alloc ?_ _) | (with_reducible refine Kd.C_drewN ?_ _) | (with_reducible refine Kd.C_drew ?_)))
  (case side4 => exact (Kd.R_reads' HO333.out).2.1)
  (case side5 => repeat (first | exact (Kd.R_reads' HO336.out).2.2 | (with_reducible refine Kd.C_alloc ?_ _) | (with_reducible refine Kd.C_drewN ?_ _) | (with_reducible refine Kd.C_drew ?_)))
  (case side6 => exact (Kd.R_reads' HO336.out).2.1)
  rintro e w76 ⟨v345, v348, v351, rfl, ho0, ho1, ho2, hb⟩
  refine ⟨_, rfl, ?_⟩
  have HO346 := Aside0.mk (Kd.R_lower (Kd.R_new' (Kd.R_new' (Kd.R_new' ho0 (Kd.R_lt q113t)) (Kd.R_lt q116t)) (Kd.R_lt q119t)) (below_size q27t))
  replace HO310 := Aside0.mk (Kd.R_elder' q113t (Kd.R_base ho0) hb)
  replace HO319 := Aside0.mk (Kd.R_elder' q116t (Kd.R_base ho0) hb)
  replace HO330 := Aside0.mk (Kd.R_elder' q119t (Kd.R_base ho0) hb)
  have HO349 := Aside0.mk (Kd.R_lower (Kd.R_new' (Kd.R_new' (Kd.R_new' (Kd.R_new' (Kd.R_new' (Kd.R_new' ho1 (Kd.R_lt q114t)) (Kd.R_lt q115t)) (Kd.R_lt q117t)) (Kd.R_lt q118t)) (Kd.R_lt q120t)) (Kd.R_lt q121t)) (below_size q27t))
  have HO352 := Aside0.mk (Kd.R_lower (Kd.R_new' (Kd.R_new' (Kd.R_new' (Kd.R_new' (Kd.R_new' (Kd.R_new' ho2 (Kd.R_lt q114t)) (Kd.R_lt q115t)) (Kd.R_lt q117t)) (Kd.R_lt q118t)) (Kd.R_lt q120t)) (Kd.R_lt q121t)) (below_size q27t))
  replace HO313 := Aside0.mk (Kd.R_mono (Kd.R_told (Kd.R_told (Kd.R_old q114t hb) (Kd.R_base ho1)) (Kd.R_base ho2)) (fun _ h_ => h_.1))
  replace HO316 := Aside0.mk (Kd.R_mono (Kd.R_told (Kd.R_told (Kd.R_old q115t hb) (Kd.R_base ho1)) (Kd.R_base ho2)) (fun _ h_ => h_.1))
  replace HO322 := Aside0.mk (Kd.R_mono (Kd.R_told (Kd.R_told (Kd.R_old q117t hb) (Kd.R_base ho1)) (Kd.R_base ho2)) (fun _ h_ => h_.1))
  replace HO325 := Aside0.mk (Kd.R_mono (Kd.R_told (Kd.R_told (Kd.R_old q118t hb) (Kd.R_base ho1)) (Kd.R_base ho2)) (fun _ h_ => h_.1))
  replace HO333 := Aside0.mk (Kd.R_mono (Kd.R_told (Kd.R_told (Kd.R_old q120t hb) (Kd.R_base ho1)) (Kd.R_base ho2)) (fun _ h_ => h_.1))
  replace HO336 := Aside0.mk (Kd.R_mono (Kd.R_told (Kd.R_told (Kd.R_old q121t hb) (Kd.R_base ho1)) (Kd.R_base ho2)) (fun _ h_ => h_.1))
  replace BK299 := blb BK299 hb
  replace BK300 := blb BK300 hb
  replace BK327 := blb BK327 hb
  replace BK337 := blb BK337 hb
  replace BK354 := blb BK354 hb
  replace HB := Aside0.mk (below_step q27t hb)
  (try clear hb)
  (try clear hb2)
  (try clear hk)
  (try clear hi)
  (try clear ho0)
  (try clear ho1)
  (try clear ho2)
  refine hK.out _ _ q23t (fun hHeld => ?_)
  clear hK K
  refine norm_ (a' := ?_) ?_ ?_
  rotate_left
  ·show Act.put _ (some 43) _ = _
   simp only [Act.put, List.setIfInBounds_toArray, List.set_cons_zero, List.set_cons_succ, i64_w, i32_w]
   rfl
  refine pu_ 6 (some 37) (bm 12 639) (any_of HT_.out (by kernel_rfl)) ?_
  refine pu_ 7 (some 44) (bm 12 767) (any_of HT_.out (by kernel_rfl)) ?_
  refine pu_ 8 (some 45) (bm 12 1023) (any_of HT_.out (by kernel_rfl)) ?_
  exact norm_ q131t (hCont (v345, v348, v351, gb354) _ ⟨hHeld, q94t, q36t, q37t, q95t, q38t, q39t, q96t, q40t, q41t, q89t, q42t, q43t, (qbk BK299), (qbk BK300), (qbk BK327), (qbk BK337), (qbk BK354), GW354.out, GE354.out, NB299_354.out, NB354_299.out, NB300_354.out, NB354_300.out, NB327_354.out, NB354_327.out, NB337_354.out, NB354_337.out, q27t⟩)
 rintro ⟨v345, v348, v351, gb354⟩ w77 ⟨hS_, h0_, h1_, h2_, h3_, h4_, h5_, h6_, h7_, h8_, h9_, h10_, h11_, h12_, h13_, h14_, h15_, h16_, h17_, h18_, h19_, h20_, h21_, h22_, h23_, h24_, h25_, h26_, h27_⟩
 have n0_ : Aside0 (Kd.R (Kd.int .u8) 5 w77 w.heap.size (fun k_ => some k_ ≠ (.slice Ao55 t317.length co55 : Value).ownBlock ∧ some k_ ≠ (.slice Ao65 t328.length co65 : Value).ownBlock ∧ some k_ ≠ (v345 : Value).ownBlock) v309 t308) := ⟨h0_⟩
 have n1_ : Aside0 (Kd.R (Kd.int .i64) 3 w77 w.heap.size (fun k_ => some k_ ≠ (v315 : Value).ownBlock ∧ some k_ ≠ (.slice Ao57 t320.length co57 : Value).ownBlock ∧ some k_ ≠ (.slice Ao59 t323.length co59 : Value).ownBlock ∧ some k_ ≠ (.slice Ao70 t331.length co70 : Value).ownBlock ∧ some k_ ≠ (.slice Ao71 t334.length co71 : Value).ownBlock ∧ some k_ ≠ (v348 : Value).ownBlock ∧ some k_ ≠ (v351 : Value).ownBlock) v312 t311) := ⟨h1_⟩
 have n2_ : Aside0 (Kd.R (Kd.int .i64) 3 w77 w.heap.size (fun k_ => some k_ ≠ (v312 : Value).ownBlock ∧ some k_ ≠ (.slice Ao57 t320.length co57 : Value).ownBlock ∧ some k_ ≠ (.slice Ao59 t323.length co59 : Value).ownBlock ∧ some k_ ≠ (.slice Ao70 t331.length co70 : Value).ownBlock ∧ some k_ ≠ (.slice Ao71 t334.length co71 : Value).ownBlock ∧ some k_ ≠ (v348 : Value).ownBlock ∧ some k_ ≠ (v351 : Value).ownBlock) v315 t314) := ⟨h2_⟩
 have n3_ : Aside0 (Kd.R (Kd.int .u8) 5 w77 w.heap.size (fun k_ => some k_ ≠ (v309 : Value).ownBlock ∧ some k_ ≠ (.slice Ao65 t328.length co65 : Value).ownBlock ∧ some k_ ≠ (v345 : Value).ownBlock) (.slice Ao55 t317.length co55) t317) := ⟨h3_⟩
 have n4_ : Aside0 (Kd.R (Kd.int .i64) 3 w77 w.heap.size (fun k_ => some k_ ≠ (v312 : Value).ownBlock ∧ some k_ ≠ (v315 : Value).ownBlock ∧ some k_ ≠ (.slice Ao59 t323.length co59 : Value).ownBlock ∧ some k_ ≠ (.slice Ao70 t331.length co70 : Value).ownBlock ∧ some k_ ≠ (.slice Ao71 t334.length co71 : Value).ownBlock ∧ some k_ ≠ (v348 : Value).ownBlock ∧ some k_ ≠ (v351 : Value).ownBlock) (.slice Ao57 t320.length co57) t320) := ⟨h4_⟩
 have n5_ : Aside0 (Kd.R (Kd.int .i64) 3 w77 w.heap.size (fun k_ => some k_ ≠ (v312 : Value).ownBlock ∧ some k_ ≠ (v315 : Value).ownBlock ∧ some k_ ≠ (.slice Ao57 t320.length co57 : Value).ownBlock ∧ some k_ ≠ (.slice Ao70 t331.length co70 : Value).ownBlock ∧ some k_ ≠ (.slice Ao71 t334.length co71 : Value).ownBlock ∧ some k_ ≠ (v348 : Value).ownBlock ∧ some k_ ≠ (v351 : Value).ownBlock) (.slice Ao59 t323.length co59) t323) := ⟨h5_⟩
 have n6_ : Aside0 (Kd.R (Kd.int .u8) 5 w77 w.heap.size (fun k_ => some k_ ≠ (v309 : Value).ownBlock ∧ some k_ ≠ (.slice Ao55 t317.length co55 : Value).ownBlock ∧ some k_ ≠ (v345 : Value).ownBlock) (.slice Ao65 t328.length co65) t328) := ⟨h6_⟩
 have n7_ : Aside0 (Kd.R (Kd.int .i64) 3 w77 w.heap.size (fun k_ => some k_ ≠ (v312 : Value).ownBlock ∧ some k_ ≠ (v315 : Value).ownBlock ∧ some k_ ≠ (.slice Ao57 t320.length co57 : Value).ownBlock ∧ some k_ ≠ (.slice Ao59 t323.length co59 : Value).ownBlock ∧ some k_ ≠ (.slice Ao71 t334.length co71 : Value).ownBlock ∧ some k_ ≠ (v348 : Value).ownBlock ∧ some k_ ≠ (v351 : Value).ownBlock) (.slice Ao70 t331.length co70) t331) := ⟨h7_⟩
 have n8_ : Aside0 (Kd.R (Kd.int .i64) 3 w77 w.heap.size (fun k_ => some k_ ≠ (v312 : Value).ownBlock ∧ some k_ ≠ (v315 : Value).ownBlock ∧ some k_ ≠ (.slice Ao57 t320.length co57 : Value).ownBlock ∧ some k_ ≠ (.slice Ao59 t323.length co59 : Value).ownBlock ∧ some k_ ≠ (.slice Ao70 t331.length co70 : Value).ownBlock ∧ some k_ ≠ (v348 : Value).ownBlock ∧ some k_ ≠ (v351 : Value).ownBlock) (.slice Ao71 t334.length co71) t334) := ⟨h8_⟩
 have n9_ : Aside0 (Kd.R (Kd.int .u8) 5 w77 w.heap.size (fun k_ => some k_ ≠ (v309 : Value).ownBlock ∧ some k_ ≠ (.slice Ao55 t317.length co55 : Value).ownBlock ∧ some k_ ≠ (.slice Ao65 t328.length co65 : Value).ownBlock) v345 t344) := ⟨h9_⟩
 have n10_ : Aside0 (Kd.R (Kd.int .i64) 3 w77 w.heap.size (fun k_ => some k_ ≠ (v312 : Value).ownBlock ∧ some k_ ≠ (v315 : Value).ownBlock ∧ some k_ ≠ (.slice Ao57 t320.length co57 : Value).ownBlock ∧ some k_ ≠ (.slice Ao59 t323.length co59 : Value).ownBlock ∧ some k_ ≠ (.slice Ao70 t331.length co70 : Value).ownBlock ∧ some k_ ≠ (.slice Ao71 t334.length co71 : Value).ownBlock ∧ some k_ ≠ (v351 : Value).ownBlock) v348 t347) := ⟨h10_⟩
 have n11_ : Aside0 (Kd.R (Kd.int .i64) 3 w77 w.heap.size (fun k_ => some k_ ≠ (v312 : Value).ownBlock ∧ some k_ ≠ (v315 : Value).ownBlock ∧ some k_ ≠ (.slice Ao57 t320.length co57 : Value).ownBlock ∧ some k_ ≠ (.slice Ao59 t323.length co59 : Value).ownBlock ∧ some k_ ≠ (.slice Ao70 t331.length co70 : Value).ownBlock ∧ some k_ ≠ (.slice Ao71 t334.length co71 : Value).ownBlock ∧ some k_ ≠ (v348 : Value).ownBlock) v351 t350) := ⟨h11_⟩
 have n12_ : Aside0 (w77.heap[gb299]? = some (.cells #[.int .i64 a0_0, .int .i64 a0_1, .int .i64 a0_2, .int .i64 a0_3, .int .i64 a0_4, .int .i64 a0_5] 23 (0, 0))) := ⟨h12_⟩
 have n13_ : Aside0 (w77.heap[gb300]? = some (.cells #[.slice A1_0 l1_0.length c1_0, .slice A1_1 l1_1.length c1_1, .slice A1_2 l1_2.length c1_2] 27 (0, 0))) := ⟨h13_⟩
 have n14_ : Aside0 (w77.heap[gb327]? = some (.cells #[.slice Ao55 t317.length co55, .slice Ao57 t320.length co57, .slice Ao59 t323.length co59] 29 (0, 0))) := ⟨h14_⟩
 have n15_ : Aside0 (w77.heap[gb337]? = some (.cells #[.slice Ao65 t328.length co65, .slice Ao70 t331.length co70, .slice Ao71 t334.length co71] 29 (0, 0))) := ⟨h15_⟩
 have n16_ : Aside0 (w77.heap[gb354]? = some (.cells #[.slice none 0 0, .slice none 0 0, .slice none 0 0] 29 (0, 0))) := ⟨h16_⟩
 have n17_ : Aside0 (w.heap.size ≤ gb354) := ⟨h17_⟩
 have n18_ : Aside0 (w.heap.size ≤ gb354) := ⟨h18_⟩
 have n19_ : Aside0 (gb299 ≠ gb354) := ⟨h19_⟩
 have n20_ : Aside0 (gb354 ≠ gb299) := ⟨h20_⟩
 have n21_ : Aside0 (gb300 ≠ gb354) := ⟨h21_⟩
 have n22_ : Aside0 (gb354 ≠ gb300) := ⟨h22_⟩
 have n23_ : Aside0 (gb327 ≠ gb354) := ⟨h23_⟩
 have n24_ : Aside0 (gb354 ≠ gb327) := ⟨h24_⟩
 have n25_ : Aside0 (gb337 ≠ gb354) := ⟨h25_⟩
 have n26_ : Aside0 (gb354 ≠ gb337) := ⟨h26_⟩
 have n27_ : Aside0 (Below w.heap.size w w77) := ⟨h27_⟩
 clear HO310
 clear HO313
 clear HO316
 clear HO319
 clear HO322
 clear HO325
 clear HO330
 clear HO333
 clear HO336
 clear BK299
 clear BK300
 clear BK327
 clear BK337
 clear HB
 clear h0_ h1_ h2_ h3_ h4_ h5_ h6_ h7_ h8_ h9_ h10_ h11_ h12_ h13_ h14_ h15_ h16_ h17_ h18_ h19_ h20_ h21_ h22_ h23_ h24_ h25_ h26_ h27_
 have HO310 := n0_
 have HO313 := n1_
 have HO316 := n2_
 have HO319 := n3_
 have HO322 := n4_
 have HO325 := n5_
 have HO330 := n6_
 have HO333 := n7_
 have HO336 := n8_
 have HO346 := n9_
 have HO349 := n10_
 have HO352 := n11_
 have BK299 := n12_
 have BK300 := n13_
 have BK327 := n14_
 have BK337 := n15_
 have BK354 := n16_
 have GW354 := n17_
 have GE354 := n18_
 have NB299_354 := n19_
 have NB354_299 := n20_
 have NB300_354 := n21_
 have NB354_300 := n22_
 have NB327_354 := n23_
 have NB354_327 := n24_
 have NB337_354 := n25_
 have NB354_337 := n26_
 have HB := n27_
 clear n0_ n1_ n2_ n3_ n4_ n5_ n6_ n7_ n8_ n9_ n10_ n11_ n12_ n13_ n14_ n15_ n16_ n17_ n18_ n19_ n20_ n21_ n22_ n23_ n24_ n25_ n26_ n27_
 have hHeld : w77.cell? ⟨gb299, 0, none⟩ = some (.int .i64 a0_0) ∧ w77.cell? ⟨gb299, 1, none⟩ = some (.int .i64 a0_1) ∧ w77.cell? ⟨gb299, 2, none⟩ = some (.int .i64 a0_2) ∧ w77.cell? ⟨gb299, 3, none⟩ = some (.int .i64 a0_3) ∧ w77.cell? ⟨gb299, 4, none⟩ = some (.int .i64 a0_4) ∧ w77.cell? ⟨gb299, 5, none⟩ = some (.int .i64 a0_5) ∧ w77.cell? ⟨gb337, 0, none⟩ = some (.slice Ao65 t328.length co65) ∧ w77.cell? ⟨gb337, 1, none⟩ = some (.slice Ao70 t331.length co70) ∧ w77.cell? ⟨gb337, 2, none⟩ = some (.slice Ao71 t334.length co71) := hS_
 obtain ⟨Ao78, co78, eo78⟩ := Kd.R_slice HO346.out
 (first | subst eo78 | (injection eo78 with f1_ f2_ f3_; have f4_ := f1_.symm; have f5_ := f3_.symm; clear f1_ f2_ f3_; subst f4_; subst f5_))
 obtain ⟨Ao80, co80, eo80⟩ := Kd.R_slice HO349.out
 (first | subst eo80 | (injection eo80 with f1_ f2_ f3_; have f4_ := f1_.symm; have f5_ := f3_.symm; clear f1_ f2_ f3_; subst f4_; subst f5_))
 obtain ⟨Ao82, co82, eo82⟩ := Kd.R_slice HO352.out
 (first | subst eo82 | (injection eo82 with f1_ f2_ f3_; have f4_ := f1_.symm; have f5_ := f3_.symm; clear f1_ f2_ f3_; subst f4_; subst f5_))
 refine norm_ (a' := ?_) ?_ ?_
 rotate_left
 ·simp only [putAll, Act.put, List.setIfInBounds_toArray, List.set_cons_zero, List.set_cons_succ]
  rfl
 refine one_ (i := 10) (N := none) (bm 12 2047) rfl rfl (one_of HT_.out (by kernel_rfl)) q144t (fun K hK => ?_)
 have hs79 : w77.cell? ⟨gb354, 0, none⟩ = some (.slice none 0 0) := (blk_cell BK354.out 0).trans rfl
 have hfs79 := blk_frozen BK354.out 0
 have hns79_0 := NB299_354.out
 have hns79_1 := NB300_354.out
 have hns79_2 := NB327_354.out
 have hns79_3 := NB337_354.out
 have hms79_0 := NB354_299.out
 have hms79_1 := NB354_300.out
 have hms79_2 := NB354_327.out
 have hms79_3 := NB354_337.out
 have hs81 : w77.cell? ⟨gb354, 1, none⟩ = some (.slice none 0 0) := (blk_cell BK354.out 1).trans rfl
 have hfs81 := blk_frozen BK354.out 1
 have hns81_0 := NB299_354.out
 have hns81_1 := NB300_354.out
 have hns81_2 := NB327_354.out
 have hns81_3 := NB337_354.out
 have hms81_0 := NB354_299.out
 have hms81_1 := NB354_300.out
 have hms81_2 := NB354_327.out
 have hms81_3 := NB354_337.out
 have hs83 : w77.cell? ⟨gb354, 2, none⟩ = some (.slice none 0 0) := (blk_cell BK354.out 2).trans rfl
 have hfs83 := blk_frozen BK354.out 2
 have hns83_0 := NB299_354.out
 have hns83_1 := NB300_354.out
 have hns83_2 := NB327_354.out
 have hns83_3 := NB337_354.out
 have hms83_0 := NB354_299.out
 have hms83_1 := NB354_300.out
 have hms83_2 := NB354_327.out
 have hms83_3 := NB354_337.out
 refine skip_ (w1 := ?_) (by rfl) rfl ?_ ?_
 rotate_left
 ·go_simp
  rfl
 refine hK.out _ _ (by first | exact ⟨((cell_far (p := ⟨gb354, _, none⟩) NB299_354.out _).trans (((cell_far (p := ⟨gb354, _, none⟩) NB299_354.out _).trans (((cell_far (p := ⟨gb354, _, none⟩) NB299_354.out _).trans (hHeld.1)))))), ((cell_far (p := ⟨gb354, _, none⟩) NB299_354.out _).trans (((cell_far (p := ⟨gb354, _, none⟩) NB299_354.out _).trans (((cell_far (p := ⟨gb354, _, none⟩) NB299_354.out _).trans (hHeld.2.1)))))), ((cell_far (p := ⟨gb354, _, none⟩) NB299_354.out _).trans (((cell_far (p := ⟨gb354, _, none⟩) NB299_354.out _).trans (((cell_far (p := ⟨gb354, _, none⟩) NB299_354.out _).trans (hHeld.2.2.1)))))), ((cell_far (p := ⟨gb354, _, none⟩) NB299_354.out _).trans (((cell_far (p := ⟨gb354, _, none⟩) NB299_354.out _).trans (((cell_far (p := ⟨gb354, _, none⟩) NB299_354.out _).trans (hHeld.2.2.2.1)))))), ((cell_far (p := ⟨gb354, _, none⟩) NB299_354.out _).trans (((cell_far (p := ⟨gb354, _, none⟩) NB299_354.out _).trans (((cell_far (p := ⟨gb354, _, none⟩) NB299_354.out _).trans (hHeld.2.2.2.2.1)))))), ((cell_far (p := ⟨gb354, _, none⟩) NB299_354.out _).trans (((cell_far (p := ⟨gb354, _, none⟩) NB299_354.out _).trans (((cell_far (p := ⟨gb354, _, none⟩) NB299_354.out _).trans (hHeld.2.2.2.2.2.1)))))), ((cell_far (p := ⟨gb354, _, none⟩) NB337_354.out _).trans (((cell_far (p := ⟨gb354, _, none⟩) NB337_354.out _).trans (((cell_far (p := ⟨gb354, _, none⟩) NB337_354.out _).trans (hHeld.2.2.2.2.2.2.1)))))), ((cell_far (p := ⟨gb354, _, none⟩) NB337_354.out _).trans (((cell_far (p := ⟨gb354, _, none⟩) NB337_354.out _).trans (((cell_far (p := ⟨gb354, _, none⟩) NB337_354.out _).trans (hHeld.2.2.2.2.2.2.2.1)))))), ((cell_far (p := ⟨gb354, _, none⟩) NB337_354.out _).trans (((cell_far (p := ⟨gb354, _, none⟩) NB337_354.out _).trans (((cell_far (p := ⟨gb354, _, none⟩) NB337_354.out _).trans (hHeld.2.2.2.2.2.2.2.2))))))⟩ | exact hHeld) (fun hHeld => ?_)
 clear hK K
 refine pu_ 11 (some 14) (bm 12 4095) (any_of HT_.out (by kernel_rfl)) ?_
 refine done_ (done_of HT_.out (by kernel_rfl)) ?_
 have hnb84 := NB354_299.out
 have hnc84 := NB299_354.out
 have hnb85 := NB354_300.out
 have hnc85 := NB300_354.out
 have hnb86 := NB354_327.out
 have hnc86 := NB327_354.out
 have hnb87 := NB354_337.out
 have hnc87 := NB337_354.out
 obtain ⟨hcz88_0, hcz88_1, hcz88_2⟩ := qc3 BK354.out
 obtain ⟨hfz88_0, hfz88_1, hfz88_2⟩ := qf3 BK354.out
 have hnb89 := NB327_299.out
 have hnc89 := NB299_327.out
 obtain ⟨hcz90_0, hcz90_1, hcz90_2⟩ := qc3 BK327.out
 obtain ⟨hfz90_0, hfz90_1, hfz90_2⟩ := qf3 BK327.out
 try go_wp2_with (first | ((with_reducible refine gate_callee (f := 9) rfl ?_); refine goesL_ (some 48) rfl rfl Try.func9 (by kernel_rfl) rfl #[.agg #[.slice Ao78 t344.length co78, .slice Ao80 t347.length co80, .slice Ao82 t350.length co82], .agg #[.slice Ao55 t317.length co55, .slice Ao57 t320.length co57, .slice Ao59 t323.length co59]] rfl q97t ?_; (with_reducible refine (laws_eqPool.calls k _ _ t344 _ _ t347 _ _ t350 _ _ t317 _ _ t320 _ _ t323 true _ ?side1 ?side2 ?side3 ?side4 ?side5 ?side6 ?side7 ?side8 ?side9 ?side10 ?side11 ?side12 A18.out).mono ?_); (case side1 => refine (Kd.R_reads' (e := 5) (base := w.heap.size) (ok := fun k_ => (some k_ ≠ (v309 : Value).ownBlock ∧ (some k_ ≠ (.slice Ao55 t317.length co55 : Value).ownBlock ∧ some k_ ≠ (.slice Ao65 t328.length co65 : Value).ownBlock))) (n := t344.length) (c := co78) ?_).2.2; exact (by (with_reducible repeat (first | apply Kd.R_alloc | apply Kd.R_drewN | apply Kd.R_drew)); exact (Kd.R_mono (rkf (rkf (rkf (Kd.R_types HO346.out BK354.out q144t)))) (fun _ h_ => h_.1)))); (case side2 => exact (Kd.R_reads' HO346.out).2.1); (case side3 => refine (Kd.R_reads' (e := 3) (base := w.heap.size) (ok := fun k_ => (some k_ ≠ (v312 : Value).ownBlock ∧ (some k_ ≠ (v315 : Value).ownBlock ∧ (some k_ ≠ (.slice Ao57 t320.length co57 : Value).ownBlock ∧ (some k_ ≠ (.slice Ao59 t323.length co59 : Value).ownBlock ∧ (some k_ ≠ (.slice Ao70 t331.length co70 : Value).ownBlock ∧ (some k_ ≠ (.slice Ao71 t334.length co71 : Value).ownBlock ∧ some k_ ≠ (.slice Ao82 t350.length co82 : Value).ownBlock))))))) (n := t347.length) (c := co80) ?_).2.2; exact (by (with_reducible repeat (first | apply Kd.R_alloc | apply Kd.R_drewN | apply Kd.R_drew)); exact (Kd.R_mono (rkf (rkf (rkf (Kd.R_types HO349.out BK354.out q144t)))) (fun _ h_ => h_.1)))); (case side4 => exact (Kd.R_reads' HO349.out).2.1); (case side5 => refine (Kd.R_reads' (e := 3) (base := w.heap.size) (ok := fun k_ => (some k_ ≠ (v312 : Value).ownBlock ∧ (some k_ ≠ (v315 : Value).ownBlock ∧ (some k_ ≠ (.slice Ao57 t320.length co57 : Value).ownBlock ∧ (some k_ ≠ (.slice Ao59 t323.length co59 : Value).ownBlock ∧ (some k_ ≠ (.slice Ao70 t331.length co70 : Value).ownBlock ∧ (some k_ ≠ (.slice Ao71 t334.length co71 : Value).ownBlock ∧ some k_ ≠ (.slice Ao80 t347.length co80 : Value).ownBlock))))))) (n := t350.length) (c := co82) ?_).2.2; exact (by (with_reducible repeat (first | apply Kd.R_alloc | apply Kd.R_drewN | apply Kd.R_drew)); exact (Kd.R_mono (rkf (rkf (rkf (Kd.R_types HO352.out BK354.out q144t)))) (fun _ h_ => h_.1)))); (case side6 => exact (Kd.R_reads' HO352.out).2.1); (case side7 => refine (Kd.R_reads' (e := 5) (base := w.heap.size) (ok := fun k_ => (some k_ ≠ (v309 : Value).ownBlock ∧ (some k_ ≠ (.slice Ao65 t328.length co65 : Value).ownBlock ∧ some k_ ≠ (.slice Ao78 t344.length co78 : Value).ownBlock))) (n := t317.length) (c := co55) ?_).2.2; exact (by (with_reducible repeat (first | apply Kd.R_alloc | apply Kd.R_drewN | apply Kd.R_drew)); exact (Kd.R_mono (rkf (rkf (rkf (Kd.R_types HO319.out BK354.out q144t)))) (fun _ h_ => h_.1)))); (case side8 => exact (Kd.R_reads' HO319.out).2.1); (case side9 => refine (Kd.R_reads' (e := 3) (base := w.heap.size) (ok := fun k_ => (some k_ ≠ (v312 : Value).ownBlock ∧ (some k_ ≠ (v315 : Value).ownBlock ∧ (some k_ ≠ (.slice Ao59 t323.length co59 : Value).ownBlock ∧ (some k_ ≠ (.slice Ao70 t331.length co70 : Value).ownBlock ∧ (some k_ ≠ (.slice Ao71 t334.length co71 : Value).ownBlock ∧ (some k_ ≠ (.slice Ao80 t347.length co80 : Value).ownBlock ∧ some k_ ≠ (.slice Ao82 t350.length co82 : Value).ownBlock))))))) (n := t320.length) (c := co57) ?_).2.2; exact (by (with_reducible repeat (first | apply Kd.R_alloc | apply Kd.R_drewN | apply Kd.R_drew)); exact (Kd.R_mono (rkf (rkf (rkf (Kd.R_types HO322.out BK354.out q144t)))) (fun _ h_ => h_.1)))); (case side10 => exact (Kd.R_reads' HO322.out).2.1); (case side11 => refine (Kd.R_reads' (e := 3) (base := w.heap.size) (ok := fun k_ => (some k_ ≠ (v312 : Value).ownBlock ∧ (some k_ ≠ (v315 : Value).ownBlock ∧ (some k_ ≠ (.slice Ao57 t320.length co57 : Value).ownBlock ∧ (some k_ ≠ (.slice Ao70 t331.length co70 : Value).ownBlock ∧ (some k_ ≠ (.slice Ao71 t334.length co71 : Value).ownBlock ∧ (some k_ ≠ (.slice Ao80 t347.length co80 : Value).ownBlock ∧ some k_ ≠ (.slice Ao82 t350.length co82 : Value).ownBlock))))))) (n := t323.length) (c := co59) ?_).2.2; exact (by (with_reducible repeat (first | apply Kd.R_alloc | apply Kd.R_drewN | apply Kd.R_drew)); exact (Kd.R_mono (rkf (rkf (rkf (Kd.R_types HO325.out BK354.out q144t)))) (fun _ h_ => h_.1)))); (case side12 => exact (Kd.R_reads' HO325.out).2.1); rintro e w91 ⟨rfl, hb⟩; refine ⟨_, rfl, ?_⟩; replace HO310 := Aside0.mk (Kd.R_below (by (with_reducible repeat (first | apply Kd.R_alloc | apply Kd.R_drewN | apply Kd.R_drew)); exact (Kd.R_mono (rkf (rkf (rkf (Kd.R_types HO310.out BK354.out q144t)))) (fun _ h_ => h_.1))) hb); replace HO313 := Aside0.mk (Kd.R_below (by (with_reducible repeat (first | apply Kd.R_alloc | apply Kd.R_drewN | apply Kd.R_drew)); exact (Kd.R_mono (rkf (rkf (rkf (Kd.R_types HO313.out BK354.out q144t)))) (fun _ h_ => h_.1))) hb); replace HO316 := Aside0.mk (Kd.R_below (by (with_reducible repeat (first | apply Kd.R_alloc | apply Kd.R_drewN | apply Kd.R_drew)); exact (Kd.R_mono (rkf (rkf (rkf (Kd.R_types HO316.out BK354.out q144t)))) (fun _ h_ => h_.1))) hb); replace HO319 := Aside0.mk (Kd.R_below (by (with_reducible repeat (first | apply Kd.R_alloc | apply Kd.R_drewN | apply Kd.R_drew)); exact (Kd.R_mono (rkf (rkf (rkf (Kd.R_types HO319.out BK354.out q144t)))) (fun _ h_ => h_.1))) hb); replace HO322 := Aside0.mk (Kd.R_below (by (with_reducible repeat (first | apply Kd.R_alloc | apply Kd.R_drewN | apply Kd.R_drew)); exact (Kd.R_mono (rkf (rkf (rkf (Kd.R_types HO322.out BK354.out q144t)))) (fun _ h_ => h_.1))) hb); replace HO325 := Aside0.mk (Kd.R_below (by (with_reducible repeat (first | apply Kd.R_alloc | apply Kd.R_drewN | apply Kd.R_drew)); exact (Kd.R_mono (rkf (rkf (rkf (Kd.R_types HO325.out BK354.out q144t)))) (fun _ h_ => h_.1))) hb); replace HO330 := Aside0.mk (Kd.R_below (by (with_reducible repeat (first | apply Kd.R_alloc | apply Kd.R_drewN | apply Kd.R_drew)); exact (Kd.R_mono (rkf (rkf (rkf (Kd.R_types HO330.out BK354.out q144t)))) (fun _ h_ => h_.1))) hb); replace HO333 := Aside0.mk (Kd.R_below (by (with_reducible repeat (first | apply Kd.R_alloc | apply Kd.R_drewN | apply Kd.R_drew)); exact (Kd.R_mono (rkf (rkf (rkf (Kd.R_types HO333.out BK354.out q144t)))) (fun _ h_ => h_.1))) hb); replace HO336 := Aside0.mk (Kd.R_below (by (with_reducible repeat (first | apply Kd.R_alloc | apply Kd.R_drewN | apply Kd.R_drew)); exact (Kd.R_mono (rkf (rkf (rkf (Kd.R_types HO336.out BK354.out q144t)))) (fun _ h_ => h_.1))) hb); replace HO346 := Aside0.mk (Kd.R_below (by (with_reducible repeat (first | apply Kd.R_alloc | apply Kd.R_drewN | apply Kd.R_drew)); exact (Kd.R_mono (rkf (rkf (rkf (Kd.R_types HO346.out BK354.out q144t)))) (fun _ h_ => h_.1))) hb); replace HO349 := Aside0.mk (Kd.R_below (by (with_reducible repeat (first | apply Kd.R_alloc | apply Kd.R_drewN | apply Kd.R_drew)); exact (Kd.R_mono (rkf (rkf (rkf (Kd.R_types HO349.out BK354.out q144t)))) (fun _ h_ => h_.1))) hb); replace HO352 := Aside0.mk (Kd.R_below (by (with_reducible repeat (first | apply Kd.R_alloc | apply Kd.R_drewN | apply Kd.R_drew)); exact (Kd.R_mono (rkf (rkf (rkf (Kd.R_types HO352.out BK354.out q144t)))) (fun _ h_ => h_.1))) hb); replace BK299 := Aside0.mk (blk_below (g := gb299) (o := .cells #[.int .i64 a0_0, .int .i64 a0_1, .int .i64 a0_2, .int .i64 a0_3, .int .i64 a0_4, .int .i64 a0_5] 23 (0, 0)) (by (with_reducible repeat (first | refine blk_drewN ?_ _ | refine blk_drew ?_ | refine blk_alloc ?_ _)); refine blk_far ?_ NB299_354.out _; (with_reducible repeat (first | refine blk_drewN ?_ _ | refine blk_drew ?_ | refine blk_alloc ?_ _)); refine blk_far ?_ NB299_354.out _; (with_reducible repeat (first | refine blk_drewN ?_ _ | refine blk_drew ?_ | refine blk_alloc ?_ _)); refine blk_far ?_ NB299_354.out _; (with_reducible repeat (first | refine blk_drewN ?_ _ | refine blk_drew ?_ | refine blk_alloc ?_ _)); exact BK299.out) hb); replace BK300 := Aside0.mk (blk_below (g := gb300) (o := .cells #[.slice A1_0 l1_0.length c1_0, .slice A1_1 l1_1.length c1_1, .slice A1_2 l1_2.length c1_2] 27 (0, 0)) (by (with_reducible repeat (first | refine blk_drewN ?_ _ | refine blk_drew ?_ | refine blk_alloc ?_ _)); refine blk_far ?_ NB300_354.out _; (with_reducible repeat (first | refine blk_drewN ?_ _ | refine blk_drew ?_ | refine blk_alloc ?_ _)); refine blk_far ?_ NB300_354.out _; (with_reducible repeat (first | refine blk_drewN ?_ _ | refine blk_drew ?_ | refine blk_alloc ?_ _)); refine blk_far ?_ NB300_354.out _; (with_reducible repeat (first | refine blk_drewN ?_ _ | refine blk_drew ?_ | refine blk_alloc ?_ _)); exact BK300.out) hb); replace BK327 := Aside0.mk (blk_below (g := gb327) (o := .cells #[.slice Ao55 t317.length co55, .slice Ao57 t320.length co57, .slice Ao59 t323.length co59] 29 (0, 0)) (by (with_reducible repeat (first | refine blk_drewN ?_ _ | refine blk_drew ?_ | refine blk_alloc ?_ _)); refine blk_far ?_ NB327_354.out _; (with_reducible repeat (first | refine blk_drewN ?_ _ | refine blk_drew ?_ | refine blk_alloc ?_ _)); refine blk_far ?_ NB327_354.out _; (with_reducible repeat (first | refine blk_drewN ?_ _ | refine blk_drew ?_ | refine blk_alloc ?_ _)); refine blk_far ?_ NB327_354.out _; (with_reducible repeat (first | refine blk_drewN ?_ _ | refine blk_drew ?_ | refine blk_alloc ?_ _)); exact BK327.out) hb); replace BK337 := Aside0.mk (blk_below (g := gb337) (o := .cells #[.slice Ao65 t328.length co65, .slice Ao70 t331.length co70, .slice Ao71 t334.length co71] 29 (0, 0)) (by (with_reducible repeat (first | refine blk_drewN ?_ _ | refine blk_drew ?_ | refine blk_alloc ?_ _)); refine blk_far ?_ NB337_354.out _; (with_reducible repeat (first | refine blk_drewN ?_ _ | refine blk_drew ?_ | refine blk_alloc ?_ _)); refine blk_far ?_ NB337_354.out _; (with_reducible repeat (first | refine blk_drewN ?_ _ | refine blk_drew ?_ | refine blk_alloc ?_ _)); refine blk_far ?_ NB337_354.out _; (with_reducible repeat (first | refine blk_drewN ?_ _ | refine blk_drew ?_ | refine blk_alloc ?_ _)); exact BK337.out) hb); replace BK354 := blp BK354 hb; replace HB := Aside0.mk (below_step q27t hb); (try clear hb); (try clear hb2); (try clear hk); (try clear hi)))
 replace HO310 := Aside0.mk (Kd.R_drew HO310.out)
 replace HO313 := Aside0.mk (Kd.R_drew HO313.out)
 replace HO316 := Aside0.mk (Kd.R_drew HO316.out)
 replace HO319 := Aside0.mk (Kd.R_drew HO319.out)
 replace HO322 := Aside0.mk (Kd.R_drew HO322.out)
 replace HO325 := Aside0.mk (Kd.R_drew HO325.out)
 replace HO330 := Aside0.mk (Kd.R_drew HO330.out)
 replace HO333 := Aside0.mk (Kd.R_drew HO333.out)
 replace HO336 := Aside0.mk (Kd.R_drew HO336.out)
 replace HO346 := Aside0.mk (Kd.R_drew HO346.out)
 replace HO349 := Aside0.mk (Kd.R_drew HO349.out)
 replace HO352 := Aside0.mk (Kd.R_drew HO352.out)
 replace BK299 := Aside0.mk (blk_drew BK299.out)
 replace BK300 := Aside0.mk (blk_drew BK300.out)
 replace BK327 := Aside0.mk (blk_drew BK327.out)
 replace BK337 := Aside0.mk (blk_drew BK337.out)
 replace BK354 := Aside0.mk (blk_drew BK354.out)
 replace HB := Aside0.mk (below_drew1 HB.out)
 refine start_ (n := 5) (S := fun w' => w'.cell? ⟨gb337, 0, none⟩ = some (.slice Ao65 t328.length co65) ∧ w'.cell? ⟨gb337, 1, none⟩ = some (.slice Ao70 t331.length co70) ∧ w'.cell? ⟨gb337, 2, none⟩ = some (.slice Ao71 t334.length co71) ∧ w'.cell? ⟨gb300, 0, none⟩ = some (.slice A1_0 l1_0.length c1_0) ∧ w'.cell? ⟨gb300, 1, none⟩ = some (.slice A1_1 l1_1.length c1_1) ∧ w'.cell? ⟨gb300, 2, none⟩ = some (.slice A1_2 l1_2.length c1_2)) (ds := []) (bm 5 0) (by kernel_rfl) rfl (by kernel_rfl) ⟨(blk_cell BK337.out 0).trans rfl, (blk_cell BK337.out 1).trans rfl, (blk_cell BK337.out 2).trans rfl, (blk_cell BK300.out 0).trans rfl, (blk_cell BK300.out 1).trans rfl, (blk_cell BK300.out 2).trans rfl⟩ (fun hHeld => ?_)
 generalize w91.drew = w92 at HO310 HO313 HO316 HO319 HO322 HO325 HO330 HO333 HO336 HO346 HO349 HO352 BK299 BK300 BK327 BK337 BK354 HB hHeld ⊢
 refine take_ (i := 0) (N := some 55) (v := ?_) (a' := ?_) (bm 5 1) rfl rfl (by kernel_rfl) (fun _ _ _ h => h) (Or.inl ⟨by rfl, ?_⟩) hHeld ?_ ?_
 rotate_left
 ·rintro w' ⟨s0, s1, s2, s3, s4, s5⟩
  go_simp
  with_reducible rfl
 rotate_left
 ·simp only [Act.put, List.setIfInBounds_toArray, List.set_cons_zero, List.set_cons_succ, i64_w, i32_w]
  rfl
 refine take_ (i := 1) (N := some 56) (v := ?_) (a' := ?_) (bm 5 3) rfl rfl (by kernel_rfl) (fun _ _ _ h => h) (Or.inl ⟨by rfl, ?_⟩) hHeld ?_ ?_
 rotate_left
 ·rintro w' ⟨s0, s1, s2, s3, s4, s5⟩
  go_simp
  with_reducible rfl
 rotate_left
 ·simp only [Act.put, List.setIfInBounds_toArray, List.set_cons_zero, List.set_cons_succ, i64_w, i32_w]
  rfl
 refine one_ (i := 2) (N := some 57) (bm 5 7) rfl rfl (by kernel_rfl) q144t (fun K hK => ?_)
 refine goes_ Try.func7 (by kernel_rfl) rfl #[.agg #[.slice A1_0 l1_0.length c1_0, .slice A1_1 l1_1.length c1_1, .slice A1_2 l1_2.length c1_2]] (by rfl) rfl rfl q97t ?_
 with_reducible refine (laws_toPool.calls k _ _ l1_0 _ _ l1_1 _ _ l1_2 t356 t359 t362 _ ?side1 ?side2 ?side3 ?side4 ?side5 ?side6 A21.out).mono ?_
 (case side1 => repeat (first | exact (Kd.C_below HR1_0.out HB.out) | (with_reducible refine Kd.C_alloc ?_ _) | (with_reducible refine Kd.C_drewN ?_ _) | (with_reducible refine Kd.C_drew ?_)))
 (case side2 => exact HC1_0.out)
 (case side3 => repeat (first | exact (Kd.C_below HR1_1.out HB.out) | (with_reducible refine Kd.C_alloc ?_ _) | (with_reducible refine Kd.C_drewN ?_ _) | (with_reducible refine Kd.C_drew ?_)))
 (case side4 => exact HC1_1.out)
 (case side5 => repeat (first | exact (Kd.C_below HR1_2.out HB.out) | (with_reducible refine Kd.C_alloc ?_ _) | (with_reducible refine Kd.C_drewN ?_ _) | (with_reducible refine Kd.C_drew ?_)))
 (case side6 => exact HC1_2.out)
 rintro e w93 ⟨v357, v360, v363, rfl, ho0, ho1, ho2, hb⟩
 refine ⟨_, rfl, ?_⟩
 have HO358 := Aside0.mk (Kd.R_lower (Kd.R_new' (Kd.R_new' (Kd.R_new' (Kd.R_new' ho0 (Kd.R_lt q113t)) (Kd.R_lt q116t)) (Kd.R_lt q119t)) (Kd.R_lt q122t)) (below_size q27t))
 replace HO310 := Aside0.mk (Kd.R_elder' q113t (Kd.R_base ho0) hb)
 replace HO319 := Aside0.mk (Kd.R_elder' q116t (Kd.R_base ho0) hb)
 replace HO330 := Aside0.mk (Kd.R_elder' q119t (Kd.R_base ho0) hb)
 replace HO346 := Aside0.mk (Kd.R_elder' q122t (Kd.R_base ho0) hb)
 have HO361 := Aside0.mk (Kd.R_lower (Kd.R_new' (Kd.R_new' (Kd.R_new' (Kd.R_new' (Kd.R_new' (Kd.R_new' (Kd.R_new' (Kd.R_new' ho1 (Kd.R_lt q114t)) (Kd.R_lt q115t)) (Kd.R_lt q117t)) (Kd.R_lt q118t)) (Kd.R_lt q120t)) (Kd.R_lt q121t)) (Kd.R_lt q123t)) (Kd.R_lt q124t)) (below_size q27t))
 have HO364 := Aside0.mk (Kd.R_lower (Kd.R_new' (Kd.R_new' (Kd.R_new' (Kd.R_new' (Kd.R_new' (Kd.R_new' (Kd.R_new' (Kd.R_new' ho2 (Kd.R_lt q114t)) (Kd.R_lt q115t)) (Kd.R_lt q117t)) (Kd.R_lt q118t)) (Kd.R_lt q120t)) (Kd.R_lt q121t)) (Kd.R_lt q123t)) (Kd.R_lt q124t)) (below_size q27t))
 replace HO313 := Aside0.mk (Kd.R_mono (Kd.R_told (Kd.R_told (Kd.R_old q114t hb) (Kd.R_base ho1)) (Kd.R_base ho2)) (fun _ h_ => h_.1))
 replace HO316 := Aside0.mk (Kd.R_mono (Kd.R_told (Kd.R_told (Kd.R_old q115t hb) (Kd.R_base ho1)) (Kd.R_base ho2)) (fun _ h_ => h_.1))
 replace HO322 := Aside0.mk (Kd.R_mono (Kd.R_told (Kd.R_told (Kd.R_old q117t hb) (Kd.R_base ho1)) (Kd.R_base ho2)) (fun _ h_ => h_.1))
 replace HO325 := Aside0.mk (Kd.R_mono (Kd.R_told (Kd.R_told (Kd.R_old q118t hb) (Kd.R_base ho1)) (Kd.R_base ho2)) (fun _ h_ => h_.1))
 replace HO333 := Aside0.mk (Kd.R_mono (Kd.R_told (Kd.R_told (Kd.R_old q120t hb) (Kd.R_base ho1)) (Kd.R_base ho2)) (fun _ h_ => h_.1))
 replace HO336 := Aside0.mk (Kd.R_mono (Kd.R_told (Kd.R_told (Kd.R_old q121t hb) (Kd.R_base ho1)) (Kd.R_base ho2)) (fun _ h_ => h_.1))
 replace HO349 := Aside0.mk (Kd.R_mono (Kd.R_told (Kd.R_told (Kd.R_old q123t hb) (Kd.R_base ho1)) (Kd.R_base ho2)) (fun _ h_ => h_.1))
 replace HO352 := Aside0.mk (Kd.R_mono (Kd.R_told (Kd.R_told (Kd.R_old q124t hb) (Kd.R_base ho1)) (Kd.R_base ho2)) (fun _ h_ => h_.1))
 replace BK299 := blb BK299 hb
 replace BK300 := blb BK300 hb
 replace BK327 := blb BK327 hb
 replace BK337 := blb BK337 hb
 replace BK354 := blb BK354 hb
 replace HB := Aside0.mk (below_step q27t hb)
 (try clear hb)
 (try clear hb2)
 (try clear hk)
 (try clear hi)
 (try clear ho0)
 (try clear ho1)
 (try clear ho2)
 obtain ⟨Ao94, co94, eo94⟩ := Kd.R_slice HO358.out
 (first | subst eo94 | (injection eo94 with f1_ f2_ f3_; have f4_ := f1_.symm; have f5_ := f3_.symm; clear f1_ f2_ f3_; subst f4_; subst f5_))
 obtain ⟨Ao95, co95, eo95⟩ := Kd.R_slice HO361.out
 (first | subst eo95 | (injection eo95 with f1_ f2_ f3_; have f4_ := f1_.symm; have f5_ := f3_.symm; clear f1_ f2_ f3_; subst f4_; subst f5_))
 obtain ⟨Ao96, co96, eo96⟩ := Kd.R_slice HO364.out
 (first | subst eo96 | (injection eo96 with f1_ f2_ f3_; have f4_ := f1_.symm; have f5_ := f3_.symm; clear f1_ f2_ f3_; subst f4_; subst f5_))
 refine hK.out _ _ (by first | exact ⟨(blk_cell BK337.out 0).trans rfl, (blk_cell BK337.out 1).trans rfl, (blk_cell BK337.out 2).trans rfl, (blk_cell BK300.out 0).trans rfl, (blk_cell BK300.out 1).trans rfl, (blk_cell BK300.out 2).trans rfl⟩ | exact hHeld) (fun hHeld => ?_)
 clear hK K
 refine norm_ (a' := ?_) ?_ ?_
 rotate_left
 ·show Act.put _ (some 57) _ = _
  simp only [Act.put, List.setIfInBounds_toArray, List.set_cons_zero, List.set_cons_succ, i64_w, i32_w]
  rfl
 refine one_ (i := 3) (N := some 58) (bm 5 15) rfl rfl (by kernel_rfl) q144t (fun K hK => ?_)
 refine goes_ Try.func9 (by kernel_rfl) rfl #[.agg #[.slice Ao65 t328.length co65, .slice Ao70 t331.length co70, .slice Ao71 t334.length co71], .agg #[.slice Ao94 t356.length co94, .slice Ao95 t359.length co95, .slice Ao96 t362.length co96]] (by rfl) rfl rfl q97t ?_
 with_reducible refine (laws_eqPool.calls k _ _ t328 _ _ t331 _ _ t334 _ _ t356 _ _ t359 _ _ t362 true _ ?side1 ?side2 ?side3 ?side4 ?side5 ?side6 ?side7 ?side8 ?side9 ?side10 ?side11 ?side12 A22.out).mono ?_
 (case side1 => repeat (first | exact (Kd.R_reads' HO330.out).2.2 | (with_reducible refine Kd.C_alloc ?_ _) | (with_reducible refine Kd.C_drewN ?_ _) | (with_reducible refine Kd.C_drew ?_)))
 (case side2 => exact (Kd.R_reads' HO330.out).2.1)
 (case side3 => repeat (first | exact (Kd.R_reads' HO333.out).2.2 | (with_reducible refine Kd.C_alloc ?_ _) | (with_reducible refine Kd.C_drewN ?_ _) | (with_reducible refine Kd.C_drew ?_)))
 (case side4 => exact (Kd.R_reads' HO333.out).2.1)
 (case side5 => repeat (first | exact (Kd.R_reads' HO336.out).2.2 | (with_reducible refine Kd.C_alloc ?_ _) | (with_reducible refine Kd.C_drewN ?_ _) | (with_reducible refine Kd.C_drew ?_)))
 (case side6 => exact (Kd.R_reads' HO336.out).2.1)
 (case side7 => repeat (first | exact (Kd.R_reads' HO358.out).2.2 | (with_reducible refine Kd.C_alloc ?_ _) | (with_reducible refine Kd.C_drewN ?_ _) | (with_reducible refine Kd.C_drew ?_)))
 (case side8 => exact (Kd.R_reads' HO358.out).2.1)
 (case side9 => repeat (first | exact (Kd.R_reads' HO361.out).2.2 | (with_reducible refine Kd.C_alloc ?_ _) | (with_reducible refine Kd.C_drewN ?_ _) | (with_reducible refine Kd.C_drew ?_)))
 (case side10 => exact (Kd.R_reads' HO361.out).2.1)
 (case side11 => repeat (first | exact (Kd.R_reads' HO364.out).2.2 | (with_reducible refine Kd.C_alloc ?_ _) | (with_reducible refine Kd.C_drewN ?_ _) | (with_reducible refine Kd.C_drew ?_)))
 (case side12 => exact (Kd.R_reads' HO364.out).2.1)
 rintro e w97 ⟨rfl, hb⟩
 refine ⟨_, rfl, ?_⟩
 replace HO310 := Aside0.mk (Kd.R_below q113t hb)
 replace HO313 := Aside0.mk (Kd.R_below q114t hb)
 replace HO316 := Aside0.mk (Kd.R_below q115t hb)
 replace HO319 := Aside0.mk (Kd.R_below q116t hb)
 replace HO322 := Aside0.mk (Kd.R_below q117t hb)
 replace HO325 := Aside0.mk (Kd.R_below q118t hb)
 replace HO330 := Aside0.mk (Kd.R_below q119t hb)
 replace HO333 := Aside0.mk (Kd.R_below q120t hb)
 replace HO336 := Aside0.mk (Kd.R_below q121t hb)
 replace HO346 := Aside0.mk (Kd.R_below q122t hb)
 replace HO349 := Aside0.mk (Kd.R_below q123t hb)
 replace HO352 := Aside0.mk (Kd.R_below q124t hb)
 replace HO358 := Aside0.mk (Kd.R_below q125t hb)
 replace HO361 := Aside0.mk (Kd.R_below q126t hb)
 replace HO364 := Aside0.mk (Kd.R_below q127t hb)
 replace BK299 := blb BK299 hb
 replace BK300 := blb BK300 hb
 replace BK327 := blb BK327 hb
 replace BK337 := blb BK337 hb
 replace BK354 := blb BK354 hb
 replace HB := Aside0.mk (below_step q27t hb)
 (try clear hb)
 (try clear hb2)
 (try clear hk)
 (try clear hi)
 refine hK.out _ _ (by first | exact ⟨(blk_cell BK337.out 0).trans rfl, (blk_cell BK337.out 1).trans rfl, (blk_cell BK337.out 2).trans rfl, (blk_cell BK300.out 0).trans rfl, (blk_cell BK300.out 1).trans rfl, (blk_cell BK300.out 2).trans rfl⟩ | exact hHeld) (fun hHeld => ?_)
 clear hK K
 refine norm_ (a' := ?_) ?_ ?_
 rotate_left
 ·show Act.put _ (some 58) _ = _
  simp only [Act.put, List.setIfInBounds_toArray, List.set_cons_zero, List.set_cons_succ, i64_w, i32_w]
  rfl
 refine pu_ 4 (some 59) (bm 5 31) (by kernel_rfl) ?_
 refine done_ (by kernel_rfl) ?_
 obtain ⟨hcz98_0, hcz98_1, hcz98_2⟩ := qc3 BK337.out
 obtain ⟨hfz98_0, hfz98_1, hfz98_2⟩ := qf3 BK337.out
 try go_wp2_with (first | ((with_reducible refine gate_callee (f := 10) rfl ?_); refine goesL_ (some 62) rfl rfl Try.func10 (by kernel_rfl) rfl #[.agg #[.slice Ao65 t328.length co65, .slice Ao70 t331.length co70, .slice Ao71 t334.length co71], .int .i64 1] rfl q97t ?_; (with_reducible refine (laws_markPool.calls k (fun k_ => some k_ = (.slice Ao65 t328.length co65 : Value).ownBlock) (.slice Ao65 t328.length co65) t328 (fun k_ => some k_ = (.slice Ao70 t331.length co70 : Value).ownBlock) (.slice Ao70 t331.length co70) t331 (fun k_ => some k_ = (.slice Ao71 t334.length co71 : Value).ownBlock) (.slice Ao71 t334.length co71) t334 1 t366 t367 t368 t369 w _ ?side1 ?side2 ?side3 ?side4 ?side5 ?side6 A24.out).mono ?_); (case side1 => repeat (first | (with_reducible first | exact HB.out | apply below_alloc | apply pw_below_drewN | apply below_drew1 | refine below_set ?_ GE299.out | refine below_set ?_ GE300.out | refine below_set ?_ GE327.out | refine below_set ?_ GE337.out | refine below_set ?_ GE354.out) | exact HB.out)); (case side2 => exact Kd.R_tight rfl HO330.out); (case side3 => exact Kd.R_tight rfl HO333.out); (case side4 => exact fun k_ e_ => (HO333.out.1 k_ e_.symm).1.1.2.2.2.2.1); (case side5 => exact Kd.R_tight rfl HO336.out); (case side6 => exact fun k_ e_ => (HO336.out.1 k_ e_.symm).1.1.2.2.2.2.1); rintro e w99 ⟨rfl, hy0, hy1, hy2, hb, hkp⟩; refine ⟨_, rfl, ?_⟩; replace BK299 := Aside0.mk (blk_kept (qbk BK299) hkp (fun hs_ => Or.elim hs_ (fun e_ => (fun e_ => (Kd.R_ne HO330.out BK299.out q144t) e_) e_) (fun e_ => Or.elim e_ (fun e_ => (fun e_ => (Kd.R_ne HO333.out BK299.out q144t) e_) e_) (fun e_ => (fun e_ => (Kd.R_ne HO336.out BK299.out q144t) e_) e_)))); replace BK300 := Aside0.mk (blk_kept (qbk BK300) hkp (fun hs_ => Or.elim hs_ (fun e_ => (fun e_ => (Kd.R_ne HO330.out BK300.out q144t) e_) e_) (fun e_ => Or.elim e_ (fun e_ => (fun e_ => (Kd.R_ne HO333.out BK300.out q144t) e_) e_) (fun e_ => (fun e_ => (Kd.R_ne HO336.out BK300.out q144t) e_) e_)))); replace HO310 := Aside0.mk (Kd.R_mono (ok' := fun k_ => some k_ ≠ (.slice Ao55 t317.length co55 : Value).ownBlock ∧ some k_ ≠ (.slice Ao65 t328.length co65 : Value).ownBlock ∧ some k_ ≠ (.slice Ao78 t344.length co78 : Value).ownBlock ∧ some k_ ≠ (.slice Ao94 t356.length co94 : Value).ownBlock) (Kd.R_keptB ((Kd.R_apart' (Kd.R_apart' HO310.out (Kd.R_typed HO333.out) q144t) (Kd.R_typed HO336.out) q144t)) hkp (fun k_ hk_ hs_ => Or.elim hs_ (fun e_ => (hk_.1.1.1.2.1) e_) (fun e_ => Or.elim e_ (fun e_ => (hk_.1.2) e_) (fun e_ => (hk_.2) e_)))) (fun k_ hk_ => ⟨hk_.1.1.1.1.1, hk_.1.1.1.1.2.1, hk_.1.1.1.1.2.2, hk_.1.1.1.2⟩)); replace HO313 := Aside0.mk (Kd.R_mono (ok' := fun k_ => some k_ ≠ (v315 : Value).ownBlock ∧ some k_ ≠ (.slice Ao57 t320.length co57 : Value).ownBlock ∧ some k_ ≠ (.slice Ao59 t323.length co59 : Value).ownBlock ∧ some k_ ≠ (.slice Ao70 t331.length co70 : Value).ownBlock ∧ some k_ ≠ (.slice Ao71 t334.length co71 : Value).ownBlock ∧ some k_ ≠ (.slice Ao80 t347.length co80 : Value).ownBlock ∧ some k_ ≠ (.slice Ao82 t350.length co82 : Value).ownBlock ∧ some k_ ≠ (.slice Ao95 t359.length co95 : Value).ownBlock ∧ some k_ ≠ (.slice Ao96 t362.length co96 : Value).ownBlock) (Kd.R_keptB ((Kd.R_apart' HO313.out (Kd.R_typed HO330.out) q144t)) hkp (fun k_ hk_ hs_ => Or.elim hs_ (fun e_ => (hk_.2) e_) (fun e_ => Or.elim e_ (fun e_ => (hk_.1.1.1.2.2.2.1) e_) (fun e_ => (hk_.1.1.1.2.2.2.2.1) e_)))) (fun k_ hk_ => ⟨hk_.1.1.1.1.1, hk_.1.1.1.1.2.1, hk_.1.1.1.1.2.2.1, hk_.1.1.1.1.2.2.2.1, hk_.1.1.1.1.2.2.2.2.1, hk_.1.1.1.1.2.2.2.2.2.1, hk_.1.1.1.1.2.2.2.2.2.2, hk_.1.1.1.2, hk_.1.1.2⟩)); replace HO316 := Aside0.mk (Kd.R_mono (ok' := fun k_ => some k_ ≠ (v312 : Value).ownBlock ∧ some k_ ≠ (.slice Ao57 t320.length co57 : Value).ownBlock ∧ some k_ ≠ (.slice Ao59 t323.length co59 : Value).ownBlock ∧ some k_ ≠ (.slice Ao70 t331.length co70 : Value).ownBlock ∧ some k_ ≠ (.slice Ao71 t334.length co71 : Value).ownBlock ∧ some k_ ≠ (.slice Ao80 t347.length co80 : Value).ownBlock ∧ some k_ ≠ (.slice Ao82 t350.length co82 : Value).ownBlock ∧ some k_ ≠ (.slice Ao95 t359.length co95 : Value).ownBlock ∧ some k_ ≠ (.slice Ao96 t362.length co96 : Value).ownBlock) (Kd.R_keptB ((Kd.R_apart' HO316.out (Kd.R_typed HO330.out) q144t)) hkp (fun k_ hk_ hs_ => Or.elim hs_ (fun e_ => (hk_.2) e_) (fun e_ => Or.elim e_ (fun e_ => (hk_.1.1.1.2.2.2.1) e_) (fun e_ => (hk_.1.1.1.2.2.2.2.1) e_)))) (fun k_ hk_ => ⟨hk_.1.1.1.1.1, hk_.1.1.1.1.2.1, hk_.1.1.1.1.2.2.1, hk_.1.1.1.1.2.2.2.1, hk_.1.1.1.1.2.2.2.2.1, hk_.1.1.1.1.2.2.2.2.2.1, hk_.1.1.1.1.2.2.2.2.2.2, hk_.1.1.1.2, hk_.1.1.2⟩)); replace HO319 := Aside0.mk (Kd.R_mono (ok' := fun k_ => some k_ ≠ (v309 : Value).ownBlock ∧ some k_ ≠ (.slice Ao65 t328.length co65 : Value).ownBlock ∧ some k_ ≠ (.slice Ao78 t344.length co78 : Value).ownBlock ∧ some k_ ≠ (.slice Ao94 t356.length co94 : Value).ownBlock) (Kd.R_keptB ((Kd.R_apart' (Kd.R_apart' HO319.out (Kd.R_typed HO333.out) q144t) (Kd.R_typed HO336.out) q144t)) hkp (fun k_ hk_ hs_ => Or.elim hs_ (fun e_ => (hk_.1.1.1.2.1) e_) (fun e_ => Or.elim e_ (fun e_ => (hk_.1.2) e_) (fun e_ => (hk_.2) e_)))) (fun k_ hk_ => ⟨hk_.1.1.1.1.1, hk_.1.1.1.1.2.1, hk_.1.1.1.1.2.2, hk_.1.1.1.2⟩)); replace HO322 := Aside0.mk (Kd.R_mono (ok' := fun k_ => some k_ ≠ (v312 : Value).ownBlock ∧ some k_ ≠ (v315 : Value).ownBlock ∧ some k_ ≠ (.slice Ao59 t323.length co59 : Value).ownBlock ∧ some k_ ≠ (.slice Ao70 t331.length co70 : Value).ownBlock ∧ some k_ ≠ (.slice Ao71 t334.length co71 : Value).ownBlock ∧ some k_ ≠ (.slice Ao80 t347.length co80 : Value).ownBlock ∧ some k_ ≠ (.slice Ao82 t350.length co82 : Value).ownBlock ∧ some k_ ≠ (.slice Ao95 t359.length co95 : Value).ownBlock ∧ some k_ ≠ (.slice Ao96 t362.length co96 : Value).ownBlock) (Kd.R_keptB ((Kd.R_apart' HO322.out (Kd.R_typed HO330.out) q144t)) hkp (fun k_ hk_ hs_ => Or.elim hs_ (fun e_ => (hk_.2) e_) (fun e_ => Or.elim e_ (fun e_ => (hk_.1.1.1.2.2.2.1) e_) (fun e_ => (hk_.1.1.1.2.2.2.2.1) e_)))) (fun k_ hk_ => ⟨hk_.1.1.1.1.1, hk_.1.1.1.1.2.1, hk_.1.1.1.1.2.2.1, hk_.1.1.1.1.2.2.2.1, hk_.1.1.1.1.2.2.2.2.1, hk_.1.1.1.1.2.2.2.2.2.1, hk_.1.1.1.1.2.2.2.2.2.2, hk_.1.1.1.2, hk_.1.1.2⟩)); replace HO325 := Aside0.mk (Kd.R_mono (ok' := fun k_ => some k_ ≠ (v312 : Value).ownBlock ∧ some k_ ≠ (v315 : Value).ownBlock ∧ some k_ ≠ (.slice Ao57 t320.length co57 : Value).ownBlock ∧ some k_ ≠ (.slice Ao70 t331.length co70 : Value).ownBlock ∧ some k_ ≠ (.slice Ao71 t334.length co71 : Value).ownBlock ∧ some k_ ≠ (.slice Ao80 t347.length co80 : Value).ownBlock ∧ some k_ ≠ (.slice Ao82 t350.length co82 : Value).ownBlock ∧ some k_ ≠ (.slice Ao95 t359.length co95 : Value).ownBlock ∧ some k_ ≠ (.slice Ao96 t362.length co96 : Value).ownBlock) (Kd.R_keptB ((Kd.R_apart' HO325.out (Kd.R_typed HO330.out) q144t)) hkp (fun k_ hk_ hs_ => Or.elim hs_ (fun e_ => (hk_.2) e_) (fun e_ => Or.elim e_ (fun e_ => (hk_.1.1.1.2.2.2.1) e_) (fun e_ => (hk_.1.1.1.2.2.2.2.1) e_)))) (fun k_ hk_ => ⟨hk_.1.1.1.1.1, hk_.1.1.1.1.2.1, hk_.1.1.1.1.2.2.1, hk_.1.1.1.1.2.2.2.1, hk_.1.1.1.1.2.2.2.2.1, hk_.1.1.1.1.2.2.2.2.2.1, hk_.1.1.1.1.2.2.2.2.2.2, hk_.1.1.1.2, hk_.1.1.2⟩)); replace BK327 := Aside0.mk (blk_kept (qbk BK327) hkp (fun hs_ => Or.elim hs_ (fun e_ => (fun e_ => (Kd.R_ne HO330.out BK327.out q144t) e_) e_) (fun e_ => Or.elim e_ (fun e_ => (fun e_ => (Kd.R_ne HO333.out BK327.out q144t) e_) e_) (fun e_ => (fun e_ => (Kd.R_ne HO336.out BK327.out q144t) e_) e_)))); replace BK337 := Aside0.mk (blk_kept (qbk BK337) hkp (fun hs_ => Or.elim hs_ (fun e_ => (fun e_ => (Kd.R_ne HO330.out BK337.out q144t) e_) e_) (fun e_ => Or.elim e_ (fun e_ => (fun e_ => (Kd.R_ne HO333.out BK337.out q144t) e_) e_) (fun e_ => (fun e_ => (Kd.R_ne HO336.out BK337.out q144t) e_) e_)))); replace HO346 := Aside0.mk (Kd.R_mono (ok' := fun k_ => some k_ ≠ (v309 : Value).ownBlock ∧ some k_ ≠ (.slice Ao55 t317.length co55 : Value).ownBlock ∧ some k_ ≠ (.slice Ao65 t328.length co65 : Value).ownBlock ∧ some k_ ≠ (.slice Ao94 t356.length co94 : Value).ownBlock) (Kd.R_keptB ((Kd.R_apart' (Kd.R_apart' HO346.out (Kd.R_typed HO333.out) q144t) (Kd.R_typed HO336.out) q144t)) hkp (fun k_ hk_ hs_ => Or.elim hs_ (fun e_ => (hk_.1.1.1.2.2) e_) (fun e_ => Or.elim e_ (fun e_ => (hk_.1.2) e_) (fun e_ => (hk_.2) e_)))) (fun k_ hk_ => ⟨hk_.1.1.1.1.1, hk_.1.1.1.1.2.1, hk_.1.1.1.1.2.2, hk_.1.1.1.2⟩)); replace HO349 := Aside0.mk (Kd.R_mono (ok' := fun k_ => some k_ ≠ (v312 : Value).ownBlock ∧ some k_ ≠ (v315 : Value).ownBlock ∧ some k_ ≠ (.slice Ao57 t320.length co57 : Value).ownBlock ∧ some k_ ≠ (.slice Ao59 t323.length co59 : Value).ownBlock ∧ some k_ ≠ (.slice Ao70 t331.length co70 : Value).ownBlock ∧ some k_ ≠ (.slice Ao71 t334.length co71 : Value).ownBlock ∧ some k_ ≠ (.slice Ao82 t350.length co82 : Value).ownBlock ∧ some k_ ≠ (.slice Ao95 t359.length co95 : Value).ownBlock ∧ some k_ ≠ (.slice Ao96 t362.length co96 : Value).ownBlock) (Kd.R_keptB ((Kd.R_apart' HO349.out (Kd.R_typed HO330.out) q144t)) hkp (fun k_ hk_ hs_ => Or.elim hs_ (fun e_ => (hk_.2) e_) (fun e_ => Or.elim e_ (fun e_ => (hk_.1.1.1.2.2.2.2.1) e_) (fun e_ => (hk_.1.1.1.2.2.2.2.2.1) e_)))) (fun k_ hk_ => ⟨hk_.1.1.1.1.1, hk_.1.1.1.1.2.1, hk_.1.1.1.1.2.2.1, hk_.1.1.1.1.2.2.2.1, hk_.1.1.1.1.2.2.2.2.1, hk_.1.1.1.1.2.2.2.2.2.1, hk_.1.1.1.1.2.2.2.2.2.2, hk_.1.1.1.2, hk_.1.1.2⟩)); replace HO352 := Aside0.mk (Kd.R_mono (ok' := fun k_ => some k_ ≠ (v312 : Value).ownBlock ∧ some k_ ≠ (v315 : Value).ownBlock ∧ some k_ ≠ (.slice Ao57 t320.length co57 : Value).ownBlock ∧ some k_ ≠ (.slice Ao59 t323.length co59 : Value).ownBlock ∧ some k_ ≠ (.slice Ao70 t331.length co70 : Value).ownBlock ∧ some k_ ≠ (.slice Ao71 t334.length co71 : Value).ownBlock ∧ some k_ ≠ (.slice Ao80 t347.length co80 : Value).ownBlock ∧ some k_ ≠ (.slice Ao95 t359.length co95 : Value).ownBlock ∧ some k_ ≠ (.slice Ao96 t362.length co96 : Value).ownBlock) (Kd.R_keptB ((Kd.R_apart' HO352.out (Kd.R_typed HO330.out) q144t)) hkp (fun k_ hk_ hs_ => Or.elim hs_ (fun e_ => (hk_.2) e_) (fun e_ => Or.elim e_ (fun e_ => (hk_.1.1.1.2.2.2.2.1) e_) (fun e_ => (hk_.1.1.1.2.2.2.2.2.1) e_)))) (fun k_ hk_ => ⟨hk_.1.1.1.1.1, hk_.1.1.1.1.2.1, hk_.1.1.1.1.2.2.1, hk_.1.1.1.1.2.2.2.1, hk_.1.1.1.1.2.2.2.2.1, hk_.1.1.1.1.2.2.2.2.2.1, hk_.1.1.1.1.2.2.2.2.2.2, hk_.1.1.1.2, hk_.1.1.2⟩)); replace BK354 := Aside0.mk (blk_kept (qbk BK354) hkp (fun hs_ => Or.elim hs_ (fun e_ => (fun e_ => (Kd.R_ne HO330.out BK354.out q144t) e_) e_) (fun e_ => Or.elim e_ (fun e_ => (fun e_ => (Kd.R_ne HO333.out BK354.out q144t) e_) e_) (fun e_ => (fun e_ => (Kd.R_ne HO336.out BK354.out q144t) e_) e_)))); replace HO358 := Aside0.mk (Kd.R_mono (ok' := fun k_ => some k_ ≠ (v309 : Value).ownBlock ∧ some k_ ≠ (.slice Ao55 t317.length co55 : Value).ownBlock ∧ some k_ ≠ (.slice Ao65 t328.length co65 : Value).ownBlock ∧ some k_ ≠ (.slice Ao78 t344.length co78 : Value).ownBlock) (Kd.R_keptB ((Kd.R_apart' (Kd.R_apart' HO358.out (Kd.R_typed HO333.out) q144t) (Kd.R_typed HO336.out) q144t)) hkp (fun k_ hk_ hs_ => Or.elim hs_ (fun e_ => (hk_.1.1.1.2) e_) (fun e_ => Or.elim e_ (fun e_ => (hk_.1.2) e_) (fun e_ => (hk_.2) e_)))) (fun k_ hk_ => ⟨hk_.1.1.1.1.1.1.2, hk_.1.1.1.1.1.2, hk_.1.1.1.1.2, hk_.1.1.1.2⟩)); replace HO333 := Aside0.mk (Kd.R_reok rfl hy1 (fun k_ e_ => HO333.out.1 k_ e_)); replace HO336 := Aside0.mk (Kd.R_reok rfl hy2 (fun k_ e_ => HO336.out.1 k_ e_)); replace HO361 := Aside0.mk (Kd.R_mono (ok' := fun k_ => some k_ ≠ (v312 : Value).ownBlock ∧ some k_ ≠ (v315 : Value).ownBlock ∧ some k_ ≠ (.slice Ao57 t320.length co57 : Value).ownBlock ∧ some k_ ≠ (.slice Ao59 t323.length co59 : Value).ownBlock ∧ some k_ ≠ (.slice Ao70 t331.length co70 : Value).ownBlock ∧ some k_ ≠ (.slice Ao71 t334.length co71 : Value).ownBlock ∧ some k_ ≠ (.slice Ao80 t347.length co80 : Value).ownBlock ∧ some k_ ≠ (.slice Ao82 t350.length co82 : Value).ownBlock ∧ some k_ ≠ (.slice Ao96 t362.length co96 : Value).ownBlock) (Kd.R_keptB ((Kd.R_apart' HO361.out (Kd.R_typed HO330.out) q144t)) hkp (fun k_ hk_ hs_ => Or.elim hs_ (fun e_ => (hk_.2) e_) (fun e_ => Or.elim e_ (fun e_ => (hk_.1.1.1.1.2) e_) (fun e_ => (hk_.1.1.1.2) e_)))) (fun k_ hk_ => ⟨hk_.1.1.1.1.1.1.1.1.1.2, hk_.1.1.1.1.1.1.1.1.2, hk_.1.1.1.1.1.1.1.2, hk_.1.1.1.1.1.1.2, hk_.1.1.1.1.1.2, hk_.1.1.1.1.2, hk_.1.1.1.2, hk_.1.1.2, hk_.1.1.1.1.1.1.1.1.1.1⟩)); replace HO364 := Aside0.mk (Kd.R_mono (ok' := fun k_ => some k_ ≠ (v312 : Value).ownBlock ∧ some k_ ≠ (v315 : Value).ownBlock ∧ some k_ ≠ (.slice Ao57 t320.length co57 : Value).ownBlock ∧ some k_ ≠ (.slice Ao59 t323.length co59 : Value).ownBlock ∧ some k_ ≠ (.slice Ao70 t331.length co70 : Value).ownBlock ∧ some k_ ≠ (.slice Ao71 t334.length co71 : Value).ownBlock ∧ some k_ ≠ (.slice Ao80 t347.length co80 : Value).ownBlock ∧ some k_ ≠ (.slice Ao82 t350.length co82 : Value).ownBlock ∧ some k_ ≠ (.slice Ao95 t359.length co95 : Value).ownBlock) (Kd.R_keptB ((Kd.R_apart' HO364.out (Kd.R_typed HO330.out) q144t)) hkp (fun k_ hk_ hs_ => Or.elim hs_ (fun e_ => (hk_.2) e_) (fun e_ => Or.elim e_ (fun e_ => (hk_.1.1.1.1.2) e_) (fun e_ => (hk_.1.1.1.2) e_)))) (fun k_ hk_ => ⟨hk_.1.1.1.1.1.1.1.1.1.2, hk_.1.1.1.1.1.1.1.1.2, hk_.1.1.1.1.1.1.1.2, hk_.1.1.1.1.1.1.2, hk_.1.1.1.1.1.2, hk_.1.1.1.1.2, hk_.1.1.1.2, hk_.1.1.2, hk_.1.1.1.1.1.1.1.1.1.1⟩)); replace HO330 := Aside0.mk (Kd.R_reok rfl hy0 (fun k_ e_ => HO330.out.1 k_ e_)); replace HB := Aside0.mk (hb); (try clear hb); (try clear hkp); (try clear hy0); (try clear hy1); (try clear hy2); obtain ⟨hcz100_0, hcz100_1, hcz100_2⟩ := qc3 BK354.out; obtain ⟨hfz100_0, hfz100_1, hfz100_2⟩ := qf3 BK354.out; obtain ⟨hcz101_0, hcz101_1, hcz101_2⟩ := qc3 BK327.out; obtain ⟨hfz101_0, hfz101_1, hfz101_2⟩ := qf3 BK327.out) | (go_at_call 9; (with_reducible refine (laws_eqPool.calls k _ _ t344 _ _ t347 _ _ t350 _ _ t317 _ _ t320 _ _ t323 true _ ?side1 ?side2 ?side3 ?side4 ?side5 ?side6 ?side7 ?side8 ?side9 ?side10 ?side11 ?side12 A26.out).mono ?_); (case side1 => repeat (first | exact (Kd.R_reads' HO346.out).2.2 | (with_reducible refine Kd.C_alloc ?_ _) | (with_reducible refine Kd.C_drewN ?_ _) | (with_reducible refine Kd.C_drew ?_))); (case side2 => exact (Kd.R_reads' HO346.out).2.1); (case side3 => repeat (first | exact (Kd.R_reads' HO349.out).2.2 | (with_reducible refine Kd.C_alloc ?_ _) | (with_reducible refine Kd.C_drewN ?_ _) | (with_reducible refine Kd.C_drew ?_))); (case side4 => exact (Kd.R_reads' HO349.out).2.1); (case side5 => repeat (first | exact (Kd.R_reads' HO352.out).2.2 | (with_reducible refine Kd.C_alloc ?_ _) | (with_reducible refine Kd.C_drewN ?_ _) | (with_reducible refine Kd.C_drew ?_))); (case side6 => exact (Kd.R_reads' HO352.out).2.1); (case side7 => repeat (first | exact (Kd.R_reads' HO319.out).2.2 | (with_reducible refine Kd.C_alloc ?_ _) | (with_reducible refine Kd.C_drewN ?_ _) | (with_reducible refine Kd.C_drew ?_))); (case side8 => exact (Kd.R_reads' HO319.out).2.1); (case side9 => repeat (first | exact (Kd.R_reads' HO322.out).2.2 | (with_reducible refine Kd.C_alloc ?_ _) | (with_reducible refine Kd.C_drewN ?_ _) | (with_reducible refine Kd.C_drew ?_))); (case side10 => exact (Kd.R_reads' HO322.out).2.1); (case side11 => repeat (first | exact (Kd.R_reads' HO325.out).2.2 | (with_reducible refine Kd.C_alloc ?_ _) | (with_reducible refine Kd.C_drewN ?_ _) | (with_reducible refine Kd.C_drew ?_))); (case side12 => exact (Kd.R_reads' HO325.out).2.1); rintro e w102 ⟨rfl, hb⟩; replace HO310 := Aside0.mk (Kd.R_below q113t hb); replace HO313 := Aside0.mk (Kd.R_below q114t hb); replace HO316 := Aside0.mk (Kd.R_below q115t hb); replace HO319 := Aside0.mk (Kd.R_below q116t hb); replace HO322 := Aside0.mk (Kd.R_below q117t hb); replace HO325 := Aside0.mk (Kd.R_below q118t hb); replace HO330 := Aside0.mk (Kd.R_below q119t hb); replace HO333 := Aside0.mk (Kd.R_below q120t hb); replace HO336 := Aside0.mk (Kd.R_below q121t hb); replace HO346 := Aside0.mk (Kd.R_below q122t hb); replace HO349 := Aside0.mk (Kd.R_below q123t hb); replace HO352 := Aside0.mk (Kd.R_below q124t hb); replace HO358 := Aside0.mk (Kd.R_below q125t hb); replace HO361 := Aside0.mk (Kd.R_below q126t hb); replace HO364 := Aside0.mk (Kd.R_below q127t hb); replace BK299 := blb BK299 hb; replace BK300 := blb BK300 hb; replace BK327 := blb BK327 hb; replace BK337 := blb BK337 hb; replace BK354 := blb BK354 hb; replace HB := Aside0.mk (below_step q27t hb); (try clear hb); (try clear hb2); (try clear hk); (try clear hi); obtain ⟨hcz103_0, hcz103_1, hcz103_2⟩ := qc3 BK354.out; obtain ⟨hfz103_0, hfz103_1, hfz103_2⟩ := qf3 BK354.out) | ((with_reducible refine gate_callee (f := 10) rfl ?_); refine goesL_ (some 78) rfl rfl Try.func10 (by kernel_rfl) rfl #[.agg #[.slice Ao78 t344.length co78, .slice Ao80 t347.length co80, .slice Ao82 t350.length co82], .int .i64 1] rfl q97t ?_; (with_reducible refine (laws_markPool.calls k (fun k_ => some k_ = (.slice Ao78 t344.length co78 : Value).ownBlock) (.slice Ao78 t344.length co78) t344 (fun k_ => some k_ = (.slice Ao80 t347.length co80 : Value).ownBlock) (.slice Ao80 t347.length co80) t347 (fun k_ => some k_ = (.slice Ao82 t350.length co82 : Value).ownBlock) (.slice Ao82 t350.length co82) t350 1 t371 t372 t373 t374 w _ ?side1 ?side2 ?side3 ?side4 ?side5 ?side6 A28.out).mono ?_); (case side1 => repeat (first | (with_reducible first | exact HB.out | apply below_alloc | apply pw_below_drewN | apply below_drew1 | refine below_set ?_ GE299.out | refine below_set ?_ GE300.out | refine below_set ?_ GE327.out | refine below_set ?_ GE337.out | refine below_set ?_ GE354.out) | exact HB.out)); (case side2 => exact Kd.R_tight rfl HO346.out); (case side3 => exact Kd.R_tight rfl HO349.out); (case side4 => exact fun k_ e_ => (HO349.out.1 k_ e_.symm).2.2.2.2.2.2.1); (case side5 => exact Kd.R_tight rfl HO352.out); (case side6 => exact fun k_ e_ => (HO352.out.1 k_ e_.symm).2.2.2.2.2.2.1); rintro e w104 ⟨rfl, hy0, hy1, hy2, hb, hkp⟩; refine ⟨_, rfl, ?_⟩; replace BK299 := Aside0.mk (blk_kept (qbk BK299) hkp (fun hs_ => Or.elim hs_ (fun e_ => (fun e_ => (Kd.R_ne HO346.out BK299.out q144t) e_) e_) (fun e_ => Or.elim e_ (fun e_ => (fun e_ => (Kd.R_ne HO349.out BK299.out q144t) e_) e_) (fun e_ => (fun e_ => (Kd.R_ne HO352.out BK299.out q144t) e_) e_)))); replace BK300 := Aside0.mk (blk_kept (qbk BK300) hkp (fun hs_ => Or.elim hs_ (fun e_ => (fun e_ => (Kd.R_ne HO346.out BK300.out q144t) e_) e_) (fun e_ => Or.elim e_ (fun e_ => (fun e_ => (Kd.R_ne HO349.out BK300.out q144t) e_) e_) (fun e_ => (fun e_ => (Kd.R_ne HO352.out BK300.out q144t) e_) e_)))); replace HO310 := Aside0.mk (Kd.R_mono (ok' := fun k_ => some k_ ≠ (.slice Ao55 t317.length co55 : Value).ownBlock ∧ some k_ ≠ (.slice Ao65 t328.length co65 : Value).ownBlock ∧ some k_ ≠ (.slice Ao78 t344.length co78 : Value).ownBlock ∧ some k_ ≠ (.slice Ao94 t356.length co94 : Value).ownBlock) (Kd.R_keptB ((Kd.R_apart' (Kd.R_apart' HO310.out (Kd.R_typed HO349.out) q144t) (Kd.R_typed HO352.out) q144t)) hkp (fun k_ hk_ hs_ => Or.elim hs_ (fun e_ => (hk_.1.1.2.2.1) e_) (fun e_ => Or.elim e_ (fun e_ => (hk_.1.2) e_) (fun e_ => (hk_.2) e_)))) (fun k_ hk_ => ⟨hk_.1.1.1.1, hk_.1.1.1.2.1, hk_.1.1.1.2.2.1, hk_.1.1.1.2.2.2⟩)); replace HO313 := Aside0.mk (Kd.R_mono (ok' := fun k_ => some k_ ≠ (v315 : Value).ownBlock ∧ some k_ ≠ (.slice Ao57 t320.length co57 : Value).ownBlock ∧ some k_ ≠ (.slice Ao59 t323.length co59 : Value).ownBlock ∧ some k_ ≠ (.slice Ao70 t331.length co70 : Value).ownBlock ∧ some k_ ≠ (.slice Ao71 t334.length co71 : Value).ownBlock ∧ some k_ ≠ (.slice Ao80 t347.length co80 : Value).ownBlock ∧ some k_ ≠ (.slice Ao82 t350.length co82 : Value).ownBlock ∧ some k_ ≠ (.slice Ao95 t359.length co95 : Value).ownBlock ∧ some k_ ≠ (.slice Ao96 t362.length co96 : Value).ownBlock) (Kd.R_keptB ((Kd.R_apart' HO313.out (Kd.R_typed HO346.out) q144t)) hkp (fun k_ hk_ hs_ => Or.elim hs_ (fun e_ => (hk_.2) e_) (fun e_ => Or.elim e_ (fun e_ => (hk_.1.2.2.2.2.2.1) e_) (fun e_ => (hk_.1.2.2.2.2.2.2.1) e_)))) (fun k_ hk_ => ⟨hk_.1.1.1, hk_.1.1.2.1, hk_.1.1.2.2.1, hk_.1.1.2.2.2.1, hk_.1.1.2.2.2.2.1, hk_.1.1.2.2.2.2.2.1, hk_.1.1.2.2.2.2.2.2.1, hk_.1.1.2.2.2.2.2.2.2.1, hk_.1.1.2.2.2.2.2.2.2.2⟩)); replace HO316 := Aside0.mk (Kd.R_mono (ok' := fun k_ => some k_ ≠ (v312 : Value).ownBlock ∧ some k_ ≠ (.slice Ao57 t320.length co57 : Value).ownBlock ∧ some k_ ≠ (.slice Ao59 t323.length co59 : Value).ownBlock ∧ some k_ ≠ (.slice Ao70 t331.length co70 : Value).ownBlock ∧ some k_ ≠ (.slice Ao71 t334.length co71 : Value).ownBlock ∧ some k_ ≠ (.slice Ao80 t347.length co80 : Value).ownBlock ∧ some k_ ≠ (.slice Ao82 t350.length co82 : Value).ownBlock ∧ some k_ ≠ (.slice Ao95 t359.length co95 : Value).ownBlock ∧ some k_ ≠ (.slice Ao96 t362.length co96 : Value).ownBlock) (Kd.R_keptB ((Kd.R_apart' HO316.out (Kd.R_typed HO346.out) q144t)) hkp (fun k_ hk_ hs_ => Or.elim hs_ (fun e_ => (hk_.2) e_) (fun e_ => Or.elim e_ (fun e_ => (hk_.1.2.2.2.2.2.1) e_) (fun e_ => (hk_.1.2.2.2.2.2.2.1) e_)))) (fun k_ hk_ => ⟨hk_.1.1.1, hk_.1.1.2.1, hk_.1.1.2.2.1, hk_.1.1.2.2.2.1, hk_.1.1.2.2.2.2.1, hk_.1.1.2.2.2.2.2.1, hk_.1.1.2.2.2.2.2.2.1, hk_.1.1.2.2.2.2.2.2.2.1, hk_.1.1.2.2.2.2.2.2.2.2⟩)); replace HO319 := Aside0.mk (Kd.R_mono (ok' := fun k_ => some k_ ≠ (v309 : Value).ownBlock ∧ some k_ ≠ (.slice Ao65 t328.length co65 : Value).ownBlock ∧ some k_ ≠ (.slice Ao78 t344.length co78 : Value).ownBlock ∧ some k_ ≠ (.slice Ao94 t356.length co94 : Value).ownBlock) (Kd.R_keptB ((Kd.R_apart' (Kd.R_apart' HO319.out (Kd.R_typed HO349.out) q144t) (Kd.R_typed HO352.out) q144t)) hkp (fun k_ hk_ hs_ => Or.elim hs_ (fun e_ => (hk_.1.1.2.2.1) e_) (fun e_ => Or.elim e_ (fun e_ => (hk_.1.2) e_) (fun e_ => (hk_.2) e_)))) (fun k_ hk_ => ⟨hk_.1.1.1.1, hk_.1.1.1.2.1, hk_.1.1.1.2.2.1, hk_.1.1.1.2.2.2⟩)); replace HO322 := Aside0.mk (Kd.R_mono (ok' := fun k_ => some k_ ≠ (v312 : Value).ownBlock ∧ some k_ ≠ (v315 : Value).ownBlock ∧ some k_ ≠ (.slice Ao59 t323.length co59 : Value).ownBlock ∧ some k_ ≠ (.slice Ao70 t331.length co70 : Value).ownBlock ∧ some k_ ≠ (.slice Ao71 t334.length co71 : Value).ownBlock ∧ some k_ ≠ (.slice Ao80 t347.length co80 : Value).ownBlock ∧ some k_ ≠ (.slice Ao82 t350.length co82 : Value).ownBlock ∧ some k_ ≠ (.slice Ao95 t359.length co95 : Value).ownBlock ∧ some k_ ≠ (.slice Ao96 t362.length co96 : Value).ownBlock) (Kd.R_keptB ((Kd.R_apart' HO322.out (Kd.R_typed HO346.out) q144t)) hkp (fun k_ hk_ hs_ => Or.elim hs_ (fun e_ => (hk_.2) e_) (fun e_ => Or.elim e_ (fun e_ => (hk_.1.2.2.2.2.2.1) e_) (fun e_ => (hk_.1.2.2.2.2.2.2.1) e_)))) (fun k_ hk_ => ⟨hk_.1.1.1, hk_.1.1.2.1, hk_.1.1.2.2.1, hk_.1.1.2.2.2.1, hk_.1.1.2.2.2.2.1, hk_.1.1.2.2.2.2.2.1, hk_.1.1.2.2.2.2.2.2.1, hk_.1.1.2.2.2.2.2.2.2.1, hk_.1.1.2.2.2.2.2.2.2.2⟩)); replace HO325 := Aside0.mk (Kd.R_mono (ok' := fun k_ => some k_ ≠ (v312 : Value).ownBlock ∧ some k_ ≠ (v315 : Value).ownBlock ∧ some k_ ≠ (.slice Ao57 t320.length co57 : Value).ownBlock ∧ some k_ ≠ (.slice Ao70 t331.length co70 : Value).ownBlock ∧ some k_ ≠ (.slice Ao71 t334.length co71 : Value).ownBlock ∧ some k_ ≠ (.slice Ao80 t347.length co80 : Value).ownBlock ∧ some k_ ≠ (.slice Ao82 t350.length co82 : Value).ownBlock ∧ some k_ ≠ (.slice Ao95 t359.length co95 : Value).ownBlock ∧ some k_ ≠ (.slice Ao96 t362.length co96 : Value).ownBlock) (Kd.R_keptB ((Kd.R_apart' HO325.out (Kd.R_typed HO346.out) q144t)) hkp (fun k_ hk_ hs_ => Or.elim hs_ (fun e_ => (hk_.2) e_) (fun e_ => Or.elim e_ (fun e_ => (hk_.1.2.2.2.2.2.1) e_) (fun e_ => (hk_.1.2.2.2.2.2.2.1) e_)))) (fun k_ hk_ => ⟨hk_.1.1.1, hk_.1.1.2.1, hk_.1.1.2.2.1, hk_.1.1.2.2.2.1, hk_.1.1.2.2.2.2.1, hk_.1.1.2.2.2.2.2.1, hk_.1.1.2.2.2.2.2.2.1, hk_.1.1.2.2.2.2.2.2.2.1, hk_.1.1.2.2.2.2.2.2.2.2⟩)); replace BK327 := Aside0.mk (blk_kept (qbk BK327) hkp (fun hs_ => Or.elim hs_ (fun e_ => (fun e_ => (Kd.R_ne HO346.out BK327.out q144t) e_) e_) (fun e_ => Or.elim e_ (fun e_ => (fun e_ => (Kd.R_ne HO349.out BK327.out q144t) e_) e_) (fun e_ => (fun e_ => (Kd.R_ne HO352.out BK327.out q144t) e_) e_)))); replace HO330 := Aside0.mk (Kd.R_mono (ok' := fun k_ => some k_ ≠ (v309 : Value).ownBlock ∧ some k_ ≠ (.slice Ao55 t317.length co55 : Value).ownBlock ∧ some k_ ≠ (.slice Ao78 t344.length co78 : Value).ownBlock ∧ some k_ ≠ (.slice Ao94 t356.length co94 : Value).ownBlock) (Kd.R_keptB ((Kd.R_apart' (Kd.R_apart' HO330.out (Kd.R_typed HO349.out) q144t) (Kd.R_typed HO352.out) q144t)) hkp (fun k_ hk_ hs_ => Or.elim hs_ (fun e_ => (hk_.1.1.1.2.2) e_) (fun e_ => Or.elim e_ (fun e_ => (hk_.1.2) e_) (fun e_ => (hk_.2) e_)))) (fun k_ hk_ => ⟨hk_.1.1.1.1.1, hk_.1.1.1.1.2.1, hk_.1.1.1.1.2.2, hk_.1.1.1.2⟩)); replace HO333 := Aside0.mk (Kd.R_mono (ok' := fun k_ => some k_ ≠ (v312 : Value).ownBlock ∧ some k_ ≠ (v315 : Value).ownBlock ∧ some k_ ≠ (.slice Ao57 t320.length co57 : Value).ownBlock ∧ some k_ ≠ (.slice Ao59 t323.length co59 : Value).ownBlock ∧ some k_ ≠ (.slice Ao71 t334.length co71 : Value).ownBlock ∧ some k_ ≠ (.slice Ao80 t347.length co80 : Value).ownBlock ∧ some k_ ≠ (.slice Ao82 t350.length co82 : Value).ownBlock ∧ some k_ ≠ (.slice Ao95 t359.length co95 : Value).ownBlock ∧ some k_ ≠ (.slice Ao96 t362.length co96 : Value).ownBlock) (Kd.R_keptB ((Kd.R_apart' HO333.out (Kd.R_typed HO346.out) q144t)) hkp (fun k_ hk_ hs_ => Or.elim hs_ (fun e_ => (hk_.2) e_) (fun e_ => Or.elim e_ (fun e_ => (hk_.1.1.1.2.2.2.2.2.1) e_) (fun e_ => (hk_.1.1.1.2.2.2.2.2.2) e_)))) (fun k_ hk_ => ⟨hk_.1.1.1.1.1, hk_.1.1.1.1.2.1, hk_.1.1.1.1.2.2.1, hk_.1.1.1.1.2.2.2.1, hk_.1.1.1.1.2.2.2.2.1, hk_.1.1.1.1.2.2.2.2.2.1, hk_.1.1.1.1.2.2.2.2.2.2, hk_.1.1.1.2, hk_.1.1.2⟩)); replace HO336 := Aside0.mk (Kd.R_mono (ok' := fun k_ => some k_ ≠ (v312 : Value).ownBlock ∧ some k_ ≠ (v315 : Value).ownBlock ∧ some k_ ≠ (.slice Ao57 t320.length co57 : Value).ownBlock ∧ some k_ ≠ (.slice Ao59 t323.length co59 : Value).ownBlock ∧ some k_ ≠ (.slice Ao70 t331.length co70 : Value).ownBlock ∧ some k_ ≠ (.slice Ao80 t347.length co80 : Value).ownBlock ∧ some k_ ≠ (.slice Ao82 t350.length co82 : Value).ownBlock ∧ some k_ ≠ (.slice Ao95 t359.length co95 : Value).ownBlock ∧ some k_ ≠ (.slice Ao96 t362.length co96 : Value).ownBlock) (Kd.R_keptB ((Kd.R_apart' HO336.out (Kd.R_typed HO346.out) q144t)) hkp (fun k_ hk_ hs_ => Or.elim hs_ (fun e_ => (hk_.2) e_) (fun e_ => Or.elim e_ (fun e_ => (hk_.1.1.1.2.2.2.2.2.1) e_) (fun e_ => (hk_.1.1.1.2.2.2.2.2.2) e_)))) (fun k_ hk_ => ⟨hk_.1.1.1.1.1, hk_.1.1.1.1.2.1, hk_.1.1.1.1.2.2.1, hk_.1.1.1.1.2.2.2.1, hk_.1.1.1.1.2.2.2.2.1, hk_.1.1.1.1.2.2.2.2.2.1, hk_.1.1.1.1.2.2.2.2.2.2, hk_.1.1.1.2, hk_.1.1.2⟩)); replace BK337 := Aside0.mk (blk_kept (qbk BK337) hkp (fun hs_ => Or.elim hs_ (fun e_ => (fun e_ => (Kd.R_ne HO346.out BK337.out q144t) e_) e_) (fun e_ => Or.elim e_ (fun e_ => (fun e_ => (Kd.R_ne HO349.out BK337.out q144t) e_) e_) (fun e_ => (fun e_ => (Kd.R_ne HO352.out BK337.out q144t) e_) e_)))); replace BK354 := Aside0.mk (blk_kept (qbk BK354) hkp (fun hs_ => Or.elim hs_ (fun e_ => (fun e_ => (Kd.R_ne HO346.out BK354.out q144t) e_) e_) (fun e_ => Or.elim e_ (fun e_ => (fun e_ => (Kd.R_ne HO349.out BK354.out q144t) e_) e_) (fun e_ => (fun e_ => (Kd.R_ne HO352.out BK354.out q144t) e_) e_)))); replace HO358 := Aside0.mk (Kd.R_mono (ok' := fun k_ => some k_ ≠ (v309 : Value).ownBlock ∧ some k_ ≠ (.slice Ao55 t317.length co55 : Value).ownBlock ∧ some k_ ≠ (.slice Ao65 t328.length co65 : Value).ownBlock ∧ some k_ ≠ (.slice Ao78 t344.length co78 : Value).ownBlock) (Kd.R_keptB ((Kd.R_apart' (Kd.R_apart' HO358.out (Kd.R_typed HO349.out) q144t) (Kd.R_typed HO352.out) q144t)) hkp (fun k_ hk_ hs_ => Or.elim hs_ (fun e_ => (hk_.1.1.2.2.2) e_) (fun e_ => Or.elim e_ (fun e_ => (hk_.1.2) e_) (fun e_ => (hk_.2) e_)))) (fun k_ hk_ => ⟨hk_.1.1.1.1, hk_.1.1.1.2.1, hk_.1.1.1.2.2.1, hk_.1.1.1.2.2.2⟩)); replace HO349 := Aside0.mk (Kd.R_reok rfl hy1 (fun k_ e_ => HO349.out.1 k_ e_)); replace HO352 := Aside0.mk (Kd.R_reok rfl hy2 (fun k_ e_ => HO352.out.1 k_ e_)); replace HO361 := Aside0.mk (Kd.R_mono (ok' := fun k_ => some k_ ≠ (v312 : Value).ownBlock ∧ some k_ ≠ (v315 : Value).ownBlock ∧ some k_ ≠ (.slice Ao57 t320.length co57 : Value).ownBlock ∧ some k_ ≠ (.slice Ao59 t323.length co59 : Value).ownBlock ∧ some k_ ≠ (.slice Ao70 t331.length co70 : Value).ownBlock ∧ some k_ ≠ (.slice Ao71 t334.length co71 : Value).ownBlock ∧ some k_ ≠ (.slice Ao80 t347.length co80 : Value).ownBlock ∧ some k_ ≠ (.slice Ao82 t350.length co82 : Value).ownBlock ∧ some k_ ≠ (.slice Ao96 t362.length co96 : Value).ownBlock) (Kd.R_keptB ((Kd.R_apart' HO361.out (Kd.R_typed HO346.out) q144t)) hkp (fun k_ hk_ hs_ => Or.elim hs_ (fun e_ => (hk_.2) e_) (fun e_ => Or.elim e_ (fun e_ => (hk_.1.2.2.2.2.2.2.1) e_) (fun e_ => (hk_.1.2.2.2.2.2.2.2.1) e_)))) (fun k_ hk_ => ⟨hk_.1.1.1, hk_.1.1.2.1, hk_.1.1.2.2.1, hk_.1.1.2.2.2.1, hk_.1.1.2.2.2.2.1, hk_.1.1.2.2.2.2.2.1, hk_.1.1.2.2.2.2.2.2.1, hk_.1.1.2.2.2.2.2.2.2.1, hk_.1.1.2.2.2.2.2.2.2.2⟩)); replace HO364 := Aside0.mk (Kd.R_mono (ok' := fun k_ => some k_ ≠ (v312 : Value).ownBlock ∧ some k_ ≠ (v315 : Value).ownBlock ∧ some k_ ≠ (.slice Ao57 t320.length co57 : Value).ownBlock ∧ some k_ ≠ (.slice Ao59 t323.length co59 : Value).ownBlock ∧ some k_ ≠ (.slice Ao70 t331.length co70 : Value).ownBlock ∧ some k_ ≠ (.slice Ao71 t334.length co71 : Value).ownBlock ∧ some k_ ≠ (.slice Ao80 t347.length co80 : Value).ownBlock ∧ some k_ ≠ (.slice Ao82 t350.length co82 : Value).ownBlock ∧ some k_ ≠ (.slice Ao95 t359.length co95 : Value).ownBlock) (Kd.R_keptB ((Kd.R_apart' HO364.out (Kd.R_typed HO346.out) q144t)) hkp (fun k_ hk_ hs_ => Or.elim hs_ (fun e_ => (hk_.2) e_) (fun e_ => Or.elim e_ (fun e_ => (hk_.1.2.2.2.2.2.2.1) e_) (fun e_ => (hk_.1.2.2.2.2.2.2.2.1) e_)))) (fun k_ hk_ => ⟨hk_.1.1.1, hk_.1.1.2.1, hk_.1.1.2.2.1, hk_.1.1.2.2.2.1, hk_.1.1.2.2.2.2.1, hk_.1.1.2.2.2.2.2.1, hk_.1.1.2.2.2.2.2.2.1, hk_.1.1.2.2.2.2.2.2.2.1, hk_.1.1.2.2.2.2.2.2.2.2⟩)); replace HO346 := Aside0.mk (Kd.R_reok rfl hy0 (fun k_ e_ => HO346.out.1 k_ e_)); replace HB := Aside0.mk (hb); (try clear hb); (try clear hkp); (try clear hy0); (try clear hy1); (try clear hy2); obtain ⟨hcz105_0, hcz105_1, hcz105_2⟩ := qc3 BK354.out; obtain ⟨hfz105_0, hfz105_1, hfz105_2⟩ := qf3 BK354.out) | ((with_reducible refine gate_callee (f := 11) rfl ?_); refine goesL_ (some 81) rfl rfl Try.func11 (by kernel_rfl) rfl #[.agg #[.slice Ao78 t372.length co78, .slice Ao80 t373.length co80, .slice Ao82 t374.length co82], .int .i64 1] rfl (by (try simp only [List.map_toArray, List.map_cons, List.map_nil]); first | done | (rw [show t372.length = t344.length from (Kd.R_reads' HO346.out).1.symm, show t373.length = t347.length from (Kd.R_reads' HO349.out).1.symm, show t374.length = t350.length from (Kd.R_reads' HO352.out).1.symm] <;> rfl) | rfl | (simp only [List.length_drop, List.length_take]; rfl)) ?_; (with_reducible refine (laws_heldPool.calls k _ _ t372 _ _ t373 _ _ t374 1 t375 _ ?side1 ?side2 ?side3 ?side4 ?side5 ?side6 A29.out).mono ?_); (case side1 => repeat (first | exact (Kd.R_reads' HO346.out).2.2 | (with_reducible refine Kd.C_alloc ?_ _) | (with_reducible refine Kd.C_drewN ?_ _) | (with_reducible refine Kd.C_drew ?_))); (case side2 => rw [show t372.length = t344.length from (Kd.R_reads' HO346.out).1.symm]; exact (Kd.R_reads' HO346.out).2.1); (case side3 => repeat (first | exact (Kd.R_reads' HO349.out).2.2 | (with_reducible refine Kd.C_alloc ?_ _) | (with_reducible refine Kd.C_drewN ?_ _) | (with_reducible refine Kd.C_drew ?_))); (case side4 => rw [show t373.length = t347.length from (Kd.R_reads' HO349.out).1.symm]; exact (Kd.R_reads' HO349.out).2.1); (case side5 => repeat (first | exact (Kd.R_reads' HO352.out).2.2 | (with_reducible refine Kd.C_alloc ?_ _) | (with_reducible refine Kd.C_drewN ?_ _) | (with_reducible refine Kd.C_drew ?_))); (case side6 => rw [show t374.length = t350.length from (Kd.R_reads' HO352.out).1.symm]; exact (Kd.R_reads' HO352.out).2.1); rintro e w106 ⟨rfl, hb⟩; refine ⟨_, rfl, ?_⟩; replace HO310 := Aside0.mk (Kd.R_below q113t hb); replace HO313 := Aside0.mk (Kd.R_below q114t hb); replace HO316 := Aside0.mk (Kd.R_below q115t hb); replace HO319 := Aside0.mk (Kd.R_below q116t hb); replace HO322 := Aside0.mk (Kd.R_below q117t hb); replace HO325 := Aside0.mk (Kd.R_below q118t hb); replace HO330 := Aside0.mk (Kd.R_below q119t hb); replace HO333 := Aside0.mk (Kd.R_below q120t hb); replace HO336 := Aside0.mk (Kd.R_below q121t hb); replace HO346 := Aside0.mk (Kd.R_below q122t hb); replace HO349 := Aside0.mk (Kd.R_below q123t hb); replace HO352 := Aside0.mk (Kd.R_below q124t hb); replace HO358 := Aside0.mk (Kd.R_below q125t hb); replace HO361 := Aside0.mk (Kd.R_below q126t hb); replace HO364 := Aside0.mk (Kd.R_below q127t hb); replace BK299 := blb BK299 hb; replace BK300 := blb BK300 hb; replace BK327 := blb BK327 hb; replace BK337 := blb BK337 hb; replace BK354 := blb BK354 hb; replace HB := Aside0.mk (below_step q27t hb); (try clear hb); (try clear hb2); (try clear hk); (try clear hi)))
 replace HO310 := Aside0.mk (Kd.R_drew HO310.out)
 replace HO313 := Aside0.mk (Kd.R_drew HO313.out)
 replace HO316 := Aside0.mk (Kd.R_drew HO316.out)
 replace HO319 := Aside0.mk (Kd.R_drew HO319.out)
 replace HO322 := Aside0.mk (Kd.R_drew HO322.out)
 replace HO325 := Aside0.mk (Kd.R_drew HO325.out)
 replace HO330 := Aside0.mk (Kd.R_drew HO330.out)
 replace HO333 := Aside0.mk (Kd.R_drew HO333.out)
 replace HO336 := Aside0.mk (Kd.R_drew HO336.out)
 replace HO346 := Aside0.mk (Kd.R_drew HO346.out)
 replace HO349 := Aside0.mk (Kd.R_drew HO349.out)
 replace HO352 := Aside0.mk (Kd.R_drew HO352.out)
 replace HO358 := Aside0.mk (Kd.R_drew HO358.out)
 replace HO361 := Aside0.mk (Kd.R_drew HO361.out)
 replace HO364 := Aside0.mk (Kd.R_drew HO364.out)
 replace BK299 := Aside0.mk (blk_drew BK299.out)
 replace BK300 := Aside0.mk (blk_drew BK300.out)
 replace BK327 := Aside0.mk (blk_drew BK327.out)
 replace BK337 := Aside0.mk (blk_drew BK337.out)
 replace BK354 := Aside0.mk (blk_drew BK354.out)
 replace HB := Aside0.mk (below_drew1 HB.out)
 refine start_ (n := 13) (S := fun w' => w'.cell? ⟨gb299, 0, none⟩ = some (.int .i64 a0_0) ∧ w'.cell? ⟨gb299, 1, none⟩ = some (.int .i64 a0_1) ∧ w'.cell? ⟨gb299, 2, none⟩ = some (.int .i64 a0_2) ∧ w'.cell? ⟨gb299, 3, none⟩ = some (.int .i64 a0_3) ∧ w'.cell? ⟨gb299, 4, none⟩ = some (.int .i64 a0_4) ∧ w'.cell? ⟨gb299, 5, none⟩ = some (.int .i64 a0_5) ∧ w'.cell? ⟨gb300, 0, none⟩ = some (.slice A1_0 l1_0.length c1_0) ∧ w'.cell? ⟨gb300, 1, none⟩ = some (.slice A1_1 l1_1.length c1_1) ∧ w'.cell? ⟨gb300, 2, none⟩ = some (.slice A1_2 l1_2.length c1_2)) (ds := []) (bm 13 0) (by kernel_rfl) rfl (by kernel_rfl) ⟨(blk_cell BK299.out 0).trans rfl, (blk_cell BK299.out 1).trans rfl, (blk_cell BK299.out 2).trans rfl, (blk_cell BK299.out 3).trans rfl, (blk_cell BK299.out 4).trans rfl, (blk_cell BK299.out 5).trans rfl, (blk_cell BK300.out 0).trans rfl, (blk_cell BK300.out 1).trans rfl, (blk_cell BK300.out 2).trans rfl⟩ (fun hHeld => ?_); refine with_tabW laws_FnExactWipeSome.tab24 laws_FnExactWipeSome.bits24 (fun HT_ HW_ => ?_)
 generalize w106.drew = w107 at HO310 HO313 HO316 HO319 HO322 HO325 HO330 HO333 HO336 HO346 HO349 HO352 HO358 HO361 HO364 BK299 BK300 BK327 BK337 BK354 HB hHeld ⊢
 refine pu_ 4 (some 92) (bm 13 16) (any_of HT_.out (by kernel_rfl)) ?_
 refine pu_ 5 (some 93) (bm 13 48) (any_of HT_.out (by kernel_rfl)) ?_
 refine take_ (i := 0) (N := some 88) (v := ?_) (a' := ?_) (bm 13 49) rfl rfl (take_ofW HT_.out HW_.out (by kernel_rfl)) (fun _ _ _ h => h) (Or.inl ⟨by rfl, ?_⟩) hHeld ?_ ?_
 rotate_left
 ·rintro w' ⟨s0, s1, s2, s3, s4, s5, s6, s7, s8⟩
  go_simp
  with_reducible rfl
 rotate_left
 ·simp only [Act.put, List.setIfInBounds_toArray, List.set_cons_zero, List.set_cons_succ, i64_w, i32_w]
  rfl
 refine take_ (i := 2) (N := some 90) (v := ?_) (a' := ?_) (bm 13 53) rfl rfl (take_ofW HT_.out HW_.out (by kernel_rfl)) (fun _ _ _ h => h) (Or.inl ⟨by rfl, ?_⟩) hHeld ?_ ?_
 rotate_left
 ·rintro w' ⟨s0, s1, s2, s3, s4, s5, s6, s7, s8⟩
  go_simp
  with_reducible rfl
 rotate_left
 ·simp only [Act.put, List.setIfInBounds_toArray, List.set_cons_zero, List.set_cons_succ, i64_w, i32_w]
  rfl
 refine join_ (σ := Value × Value × Value × Value × Value × Value × Nat) 2 #[true, true, true, true, true, true, true, true, true, true, true, false, false] (fun s_ => [(89, .agg #[.int .i64 t376, .int .i64 t377, .int .i64 t378, .int .i64 t379, .int .i64 t380, .int .i64 t381]), (91, .agg #[s_.1, s_.2.1, s_.2.2.1]), (94, .tuple #[.agg #[s_.2.2.2.1, s_.2.2.2.2.1, s_.2.2.2.2.2.1], .bool t400]), (18, .pointer (some ⟨s_.2.2.2.2.2.2, 0, none⟩)), (87, .tuple #[.agg #[s_.2.2.2.1, s_.2.2.2.2.1, s_.2.2.2.2.2.1], .bool t400]), (95, .agg #[s_.2.2.2.1, s_.2.2.2.2.1, s_.2.2.2.2.2.1]), (96, .bool t400)]) (fun s_ w' => (w'.cell? ⟨gb299, 0, none⟩ = some (.int .i64 a0_0) ∧ w'.cell? ⟨gb299, 1, none⟩ = some (.int .i64 a0_1) ∧ w'.cell? ⟨gb299, 2, none⟩ = some (.int .i64 a0_2) ∧ w'.cell? ⟨gb299, 3, none⟩ = some (.int .i64 a0_3) ∧ w'.cell? ⟨gb299, 4, none⟩ = some (.int .i64 a0_4) ∧ w'.cell? ⟨gb299, 5, none⟩ = some (.int .i64 a0_5) ∧ w'.cell? ⟨gb300, 0, none⟩ = some (.slice A1_0 l1_0.length c1_0) ∧ w'.cell? ⟨gb300, 1, none⟩ = some (.slice A1_1 l1_1.length c1_1) ∧ w'.cell? ⟨gb300, 2, none⟩ = some (.slice A1_2 l1_2.length c1_2)) ∧ (Kd.R (Kd.int .u8) 5 w' w.heap.size (fun k_ => some k_ ≠ (.slice Ao55 t317.length co55 : Value).ownBlock ∧ some k_ ≠ (.slice Ao65 t328.length co65 : Value).ownBlock ∧ some k_ ≠ (.slice Ao78 t344.length co78 : Value).ownBlock ∧ some k_ ≠ (.slice Ao94 t356.length co94 : Value).ownBlock ∧ some k_ ≠ (s_.1 : Value).ownBlock ∧ some k_ ≠ (s_.2.2.2.1 : Value).ownBlock) v309 t308) ∧ (Kd.R (Kd.int .i64) 3 w' w.heap.size (fun k_ => some k_ ≠ (v315 : Value).ownBlock ∧ some k_ ≠ (.slice Ao57 t320.length co57 : Value).ownBlock ∧ some k_ ≠ (.slice Ao59 t323.length co59 : Value).ownBlock ∧ some k_ ≠ (.slice Ao70 t331.length co70 : Value).ownBlock ∧ some k_ ≠ (.slice Ao71 t334.length co71 : Value).ownBlock ∧ some k_ ≠ (.slice Ao80 t347.length co80 : Value).ownBlock ∧ some k_ ≠ (.slice Ao82 t350.length co82 : Value).ownBlock ∧ some k_ ≠ (.slice Ao95 t359.length co95 : Value).ownBlock ∧ some k_ ≠ (.slice Ao96 t362.length co96 : Value).ownBlock ∧ some k_ ≠ (s_.2.1 : Value).ownBlock ∧ some k_ ≠ (s_.2.2.1 : Value).ownBlock ∧ some k_ ≠ (s_.2.2.2.2.1 : Value).ownBlock ∧ some k_ ≠ (s_.2.2.2.2.2.1 : Value).ownBlock) v312 t311) ∧ (Kd.R (Kd.int .i64) 3 w' w.heap.size (fun k_ => some k_ ≠ (v312 : Value).ownBlock ∧ some k_ ≠ (.slice Ao57 t320.length co57 : Value).ownBlock ∧ some k_ ≠ (.slice Ao59 t323.length co59 : Value).ownBlock ∧ some k_ ≠ (.slice Ao70 t331.length co70 : Value).ownBlock ∧ some k_ ≠ (.slice Ao71 t334.length co71 : Value).ownBlock ∧ some k_ ≠ (.slice Ao80 t347.length co80 : Value).ownBlock ∧ some k_ ≠ (.slice Ao82 t350.length co82 : Value).ownBlock ∧ some k_ ≠ (.slice Ao95 t359.length co95 : Value).ownBlock ∧ some k_ ≠ (.slice Ao96 t362.length co96 : Value).ownBlock ∧ some k_ ≠ (s_.2.1 : Value).ownBlock ∧ some k_ ≠ (s_.2.2.1 : Value).ownBlock ∧ some k_ ≠ (s_.2.2.2.2.1 : Value).ownBlock ∧ some k_ ≠ (s_.2.2.2.2.2.1 : Value).ownBlock) v315 t314) ∧ (Kd.R (Kd.int .u8) 5 w' w.heap.size (fun k_ => some k_ ≠ (v309 : Value).ownBlock ∧ some k_ ≠ (.slice Ao65 t328.length co65 : Value).ownBlock ∧ some k_ ≠ (.slice Ao78 t344.length co78 : Value).ownBlock ∧ some k_ ≠ (.slice Ao94 t356.length co94 : Value).ownBlock ∧ some k_ ≠ (s_.1 : Value).ownBlock ∧ some k_ ≠ (s_.2.2.2.1 : Value).ownBlock) (.slice Ao55 t317.length co55) t317) ∧ (Kd.R (Kd.int .i64) 3 w' w.heap.size (fun k_ => some k_ ≠ (v312 : Value).ownBlock ∧ some k_ ≠ (v315 : Value).ownBlock ∧ some k_ ≠ (.slice Ao59 t323.length co59 : Value).ownBlock ∧ some k_ ≠ (.slice Ao70 t331.length co70 : Value).ownBlock ∧ some k_ ≠ (.slice Ao71 t334.length co71 : Value).ownBlock ∧ some k_ ≠ (.slice Ao80 t347.length co80 : Value).ownBlock ∧ some k_ ≠ (.slice Ao82 t350.length co82 : Value).ownBlock ∧ some k_ ≠ (.slice Ao95 t359.length co95 : Value).ownBlock ∧ some k_ ≠ (.slice Ao96 t362.length co96 : Value).ownBlock ∧ some k_ ≠ (s_.2.1 : Value).ownBlock ∧ some k_ ≠ (s_.2.2.1 : Value).ownBlock ∧ some k_ ≠ (s_.2.2.2.2.1 : Value).ownBlock ∧ some k_ ≠ (s_.2.2.2.2.2.1 : Value).ownBlock) (.slice Ao57 t320.length co57) t320) ∧ (Kd.R (Kd.int .i64) 3 w' w.heap.size (fun k_ => some k_ ≠ (v312 : Value).ownBlock ∧ some k_ ≠ (v315 : Value).ownBlock ∧ some k_ ≠ (.slice Ao57 t320.length co57 : Value).ownBlock ∧ some k_ ≠ (.slice Ao70 t331.length co70 : Value).ownBlock ∧ some k_ ≠ (.slice Ao71 t334.length co71 : Value).ownBlock ∧ some k_ ≠ (.slice Ao80 t347.length co80 : Value).ownBlock ∧ some k_ ≠ (.slice Ao82 t350.length co82 : Value).ownBlock ∧ some k_ ≠ (.slice Ao95 t359.length co95 : Value).ownBlock ∧ some k_ ≠ (.slice Ao96 t362.length co96 : Value).ownBlock ∧ some k_ ≠ (s_.2.1 : Value).ownBlock ∧ some k_ ≠ (s_.2.2.1 : Value).ownBlock ∧ some k_ ≠ (s_.2.2.2.2.1 : Value).ownBlock ∧ some k_ ≠ (s_.2.2.2.2.2.1 : Value).ownBlock) (.slice Ao59 t323.length co59) t323) ∧ (Kd.R (Kd.int .u8) 5 w' w.heap.size (fun k_ => some k_ ≠ (v309 : Value).ownBlock ∧ some k_ ≠ (.slice Ao55 t317.length co55 : Value).ownBlock ∧ some k_ ≠ (.slice Ao78 t344.length co78 : Value).ownBlock ∧ some k_ ≠ (.slice Ao94 t356.length co94 : Value).ownBlock ∧ some k_ ≠ (s_.1 : Value).ownBlock ∧ some k_ ≠ (s_.2.2.2.1 : Value).ownBlock) (.slice Ao65 t328.length co65) t367) ∧ (Kd.R (Kd.int .i64) 3 w' w.heap.size (fun k_ => some k_ ≠ (v312 : Value).ownBlock ∧ some k_ ≠ (v315 : Value).ownBlock ∧ some k_ ≠ (.slice Ao57 t320.length co57 : Value).ownBlock ∧ some k_ ≠ (.slice Ao59 t323.length co59 : Value).ownBlock ∧ some k_ ≠ (.slice Ao71 t334.length co71 : Value).ownBlock ∧ some k_ ≠ (.slice Ao80 t347.length co80 : Value).ownBlock ∧ some k_ ≠ (.slice Ao82 t350.length co82 : Value).ownBlock ∧ some k_ ≠ (.slice Ao95 t359.length co95 : Value).ownBlock ∧ some k_ ≠ (.slice Ao96 t362.length co96 : Value).ownBlock ∧ some k_ ≠ (s_.2.1 : Value).ownBlock ∧ some k_ ≠ (s_.2.2.1 : Value).ownBlock ∧ some k_ ≠ (s_.2.2.2.2.1 : Value).ownBlock ∧ some k_ ≠ (s_.2.2.2.2.2.1 : Value).ownBlock) (.slice Ao70 t331.length co70) t368) ∧ (Kd.R (Kd.int .i64) 3 w' w.heap.size (fun k_ => some k_ ≠ (v312 : Value).ownBlock ∧ some k_ ≠ (v315 : Value).ownBlock ∧ some k_ ≠ (.slice Ao57 t320.length co57 : Value).ownBlock ∧ some k_ ≠ (.slice Ao59 t323.length co59 : Value).ownBlock ∧ some k_ ≠ (.slice Ao70 t331.length co70 : Value).ownBlock ∧ some k_ ≠ (.slice Ao80 t347.length co80 : Value).ownBlock ∧ some k_ ≠ (.slice Ao82 t350.length co82 : Value).ownBlock ∧ some k_ ≠ (.slice Ao95 t359.length co95 : Value).ownBlock ∧ some k_ ≠ (.slice Ao96 t362.length co96 : Value).ownBlock ∧ some k_ ≠ (s_.2.1 : Value).ownBlock ∧ some k_ ≠ (s_.2.2.1 : Value).ownBlock ∧ some k_ ≠ (s_.2.2.2.2.1 : Value).ownBlock ∧ some k_ ≠ (s_.2.2.2.2.2.1 : Value).ownBlock) (.slice Ao71 t334.length co71) t369) ∧ (Kd.R (Kd.int .u8) 5 w' w.heap.size (fun k_ => some k_ ≠ (v309 : Value).ownBlock ∧ some k_ ≠ (.slice Ao55 t317.length co55 : Value).ownBlock ∧ some k_ ≠ (.slice Ao65 t328.length co65 : Value).ownBlock ∧ some k_ ≠ (.slice Ao94 t356.length co94 : Value).ownBlock ∧ some k_ ≠ (s_.1 : Value).ownBlock ∧ some k_ ≠ (s_.2.2.2.1 : Value).ownBlock) (.slice Ao78 t344.length co78) t372) ∧ (Kd.R (Kd.int .i64) 3 w' w.heap.size (fun k_ => some k_ ≠ (v312 : Value).ownBlock ∧ some k_ ≠ (v315 : Value).ownBlock ∧ some k_ ≠ (.slice Ao57 t320.length co57 : Value).ownBlock ∧ some k_ ≠ (.slice Ao59 t323.length co59 : Value).ownBlock ∧ some k_ ≠ (.slice Ao70 t331.length co70 : Value).ownBlock ∧ some k_ ≠ (.slice Ao71 t334.length co71 : Value).ownBlock ∧ some k_ ≠ (.slice Ao82 t350.length co82 : Value).ownBlock ∧ some k_ ≠ (.slice Ao95 t359.length co95 : Value).ownBlock ∧ some k_ ≠ (.slice Ao96 t362.length co96 : Value).ownBlock ∧ some k_ ≠ (s_.2.1 : Value).ownBlock ∧ some k_ ≠ (s_.2.2.1 : Value).ownBlock ∧ some k_ ≠ (s_.2.2.2.2.1 : Value).ownBlock ∧ some k_ ≠ (s_.2.2.2.2.2.1 : Value).ownBlock) (.slice Ao80 t347.length co80) t373) ∧ (Kd.R (Kd.int .i64) 3 w' w.heap.size (fun k_ => some k_ ≠ (v312 : Value).ownBlock ∧ some k_ ≠ (v315 : Value).ownBlock ∧ some k_ ≠ (.slice Ao57 t320.length co57 : Value).ownBlock ∧ some k_ ≠ (.slice Ao59 t323.length co59 : Value).ownBlock ∧ some k_ ≠ (.slice Ao70 t331.length co70 : Value).ownBlock ∧ some k_ ≠ (.slice Ao71 t334.length co71 : Value).ownBlock ∧ some k_ ≠ (.slice Ao80 t347.length co80 : Value).ownBlock ∧ some k_ ≠ (.slice Ao95 t359.length co95 : Value).ownBlock ∧ some k_ ≠ (.slice Ao96 t362.length co96 : Value).ownBlock ∧ some k_ ≠ (s_.2.1 : Value).ownBlock ∧ some k_ ≠ (s_.2.2.1 : Value).ownBlock ∧ some k_ ≠ (s_.2.2.2.2.1 : Value).ownBlock ∧ some k_ ≠ (s_.2.2.2.2.2.1 : Value).ownBlock) (.slice Ao82 t350.length co82) t374) ∧ (Kd.R (Kd.int .u8) 5 w' w.heap.size (fun k_ => some k_ ≠ (v309 : Value).ownBlock ∧ some k_ ≠ (.slice Ao55 t317.length co55 : Value).ownBlock ∧ some k_ ≠ (.slice Ao65 t328.length co65 : Value).ownBlock ∧ some k_ ≠ (.slice Ao78 t344.length co78 : Value).ownBlock ∧ some k_ ≠ (s_.1 : Value).ownBlock ∧ some k_ ≠ (s_.2.2.2.1 : Value).ownBlock) (.slice Ao94 t356.length co94) t356) ∧ (Kd.R (Kd.int .i64) 3 w' w.heap.size (fun k_ => some k_ ≠ (v312 : Value).ownBlock ∧ some k_ ≠ (v315 : Value).ownBlock ∧ some k_ ≠ (.slice Ao57 t320.length co57 : Value).ownBlock ∧ some k_ ≠ (.slice Ao59 t323.length co59 : Value).ownBlock ∧ some k_ ≠ (.slice Ao70 t331.length co70 : Value).ownBlock ∧ some k_ ≠ (.slice Ao71 t334.length co71 : Value).ownBlock ∧ some k_ ≠ (.slice Ao80 t347.length co80 : Value).ownBlock ∧ some k_ ≠ (.slice Ao82 t350.length co82 : Value).ownBlock ∧ some k_ ≠ (.slice Ao96 t362.length co96 : Value).ownBlock ∧ some k_ ≠ (s_.2.1 : Value).ownBlock ∧ some k_ ≠ (s_.2.2.1 : Value).ownBlock ∧ some k_ ≠ (s_.2.2.2.2.1 : Value).ownBlock ∧ some k_ ≠ (s_.2.2.2.2.2.1 : Value).ownBlock) (.slice Ao95 t359.length co95) t359) ∧ (Kd.R (Kd.int .i64) 3 w' w.heap.size (fun k_ => some k_ ≠ (v312 : Value).ownBlock ∧ some k_ ≠ (v315 : Value).ownBlock ∧ some k_ ≠ (.slice Ao57 t320.length co57 : Value).ownBlock ∧ some k_ ≠ (.slice Ao59 t323.length co59 : Value).ownBlock ∧ some k_ ≠ (.slice Ao70 t331.length co70 : Value).ownBlock ∧ some k_ ≠ (.slice Ao71 t334.length co71 : Value).ownBlock ∧ some k_ ≠ (.slice Ao80 t347.length co80 : Value).ownBlock ∧ some k_ ≠ (.slice Ao82 t350.length co82 : Value).ownBlock ∧ some k_ ≠ (.slice Ao95 t359.length co95 : Value).ownBlock ∧ some k_ ≠ (s_.2.1 : Value).ownBlock ∧ some k_ ≠ (s_.2.2.1 : Value).ownBlock ∧ some k_ ≠ (s_.2.2.2.2.1 : Value).ownBlock ∧ some k_ ≠ (s_.2.2.2.2.2.1 : Value).ownBlock) (.slice Ao96 t362.length co96) t362) ∧ (Kd.R (Kd.int .u8) 5 w' w.heap.size (fun k_ => some k_ ≠ (v309 : Value).ownBlock ∧ some k_ ≠ (.slice Ao55 t317.length co55 : Value).ownBlock ∧ some k_ ≠ (.slice Ao65 t328.length co65 : Value).ownBlock ∧ some k_ ≠ (.slice Ao78 t344.length co78 : Value).ownBlock ∧ some k_ ≠ (.slice Ao94 t356.length co94 : Value).ownBlock ∧ some k_ ≠ (s_.2.2.2.1 : Value).ownBlock) s_.1 t382) ∧ (Kd.R (Kd.int .i64) 3 w' w.heap.size (fun k_ => some k_ ≠ (v312 : Value).ownBlock ∧ some k_ ≠ (v315 : Value).ownBlock ∧ some k_ ≠ (.slice Ao57 t320.length co57 : Value).ownBlock ∧ some k_ ≠ (.slice Ao59 t323.length co59 : Value).ownBlock ∧ some k_ ≠ (.slice Ao70 t331.length co70 : Value).ownBlock ∧ some k_ ≠ (.slice Ao71 t334.length co71 : Value).ownBlock ∧ some k_ ≠ (.slice Ao80 t347.length co80 : Value).ownBlock ∧ some k_ ≠ (.slice Ao82 t350.length co82 : Value).ownBlock ∧ some k_ ≠ (.slice Ao95 t359.length co95 : Value).ownBlock ∧ some k_ ≠ (.slice Ao96 t362.length co96 : Value).ownBlock ∧ some k_ ≠ (s_.2.2.1 : Value).ownBlock ∧ some k_ ≠ (s_.2.2.2.2.1 : Value).ownBlock ∧ some k_ ≠ (s_.2.2.2.2.2.1 : Value).ownBlock) s_.2.1 t385) ∧ (Kd.R (Kd.int .i64) 3 w' w.heap.size (fun k_ => some k_ ≠ (v312 : Value).ownBlock ∧ some k_ ≠ (v315 : Value).ownBlock ∧ some k_ ≠ (.slice Ao57 t320.length co57 : Value).ownBlock ∧ some k_ ≠ (.slice Ao59 t323.length co59 : Value).ownBlock ∧ some k_ ≠ (.slice Ao70 t331.length co70 : Value).ownBlock ∧ some k_ ≠ (.slice Ao71 t334.length co71 : Value).ownBlock ∧ some k_ ≠ (.slice Ao80 t347.length co80 : Value).ownBlock ∧ some k_ ≠ (.slice Ao82 t350.length co82 : Value).ownBlock ∧ some k_ ≠ (.slice Ao95 t359.length co95 : Value).ownBlock ∧ some k_ ≠ (.slice Ao96 t362.length co96 : Value).ownBlock ∧ some k_ ≠ (s_.2.1 : Value).ownBlock ∧ some k_ ≠ (s_.2.2.2.2.1 : Value).ownBlock ∧ some k_ ≠ (s_.2.2.2.2.2.1 : Value).ownBlock) s_.2.2.1 t388) ∧ (Kd.R (Kd.int .u8) 5 w' w.heap.size (fun k_ => some k_ ≠ (v309 : Value).ownBlock ∧ some k_ ≠ (.slice Ao55 t317.length co55 : Value).ownBlock ∧ some k_ ≠ (.slice Ao65 t328.length co65 : Value).ownBlock ∧ some k_ ≠ (.slice Ao78 t344.length co78 : Value).ownBlock ∧ some k_ ≠ (.slice Ao94 t356.length co94 : Value).ownBlock ∧ some k_ ≠ (s_.1 : Value).ownBlock) s_.2.2.2.1 t391) ∧ (Kd.R (Kd.int .i64) 3 w' w.heap.size (fun k_ => some k_ ≠ (v312 : Value).ownBlock ∧ some k_ ≠ (v315 : Value).ownBlock ∧ some k_ ≠ (.slice Ao57 t320.length co57 : Value).ownBlock ∧ some k_ ≠ (.slice Ao59 t323.length co59 : Value).ownBlock ∧ some k_ ≠ (.slice Ao70 t331.length co70 : Value).ownBlock ∧ some k_ ≠ (.slice Ao71 t334.length co71 : Value).ownBlock ∧ some k_ ≠ (.slice Ao80 t347.length co80 : Value).ownBlock ∧ some k_ ≠ (.slice Ao82 t350.length co82 : Value).ownBlock ∧ some k_ ≠ (.slice Ao95 t359.length co95 : Value).ownBlock ∧ some k_ ≠ (.slice Ao96 t362.length co96 : Value).ownBlock ∧ some k_ ≠ (s_.2.1 : Value).ownBlock ∧ some k_ ≠ (s_.2.2.1 : Value).ownBlock ∧ some k_ ≠ (s_.2.2.2.2.2.1 : Value).ownBlock) s_.2.2.2.2.1 t394) ∧ (Kd.R (Kd.int .i64) 3 w' w.heap.size (fun k_ => some k_ ≠ (v312 : Value).ownBlock ∧ some k_ ≠ (v315 : Value).ownBlock ∧ some k_ ≠ (.slice Ao57 t320.length co57 : Value).ownBlock ∧ some k_ ≠ (.slice Ao59 t323.length co59 : Value).ownBlock ∧ some k_ ≠ (.slice Ao70 t331.length co70 : Value).ownBlock ∧ some k_ ≠ (.slice Ao71 t334.length co71 : Value).ownBlock ∧ some k_ ≠ (.slice Ao80 t347.length co80 : Value).ownBlock ∧ some k_ ≠ (.slice Ao82 t350.length co82 : Value).ownBlock ∧ some k_ ≠ (.slice Ao95 t359.length co95 : Value).ownBlock ∧ some k_ ≠ (.slice Ao96 t362.length co96 : Value).ownBlock ∧ some k_ ≠ (s_.2.1 : Value).ownBlock ∧ some k_ ≠ (s_.2.2.1 : Value).ownBlock ∧ some k_ ≠ (s_.2.2.2.2.1 : Value).ownBlock) s_.2.2.2.2.2.1 t397) ∧ (w'.heap[gb299]? = some (.cells #[.int .i64 a0_0, .int .i64 a0_1, .int .i64 a0_2, .int .i64 a0_3, .int .i64 a0_4, .int .i64 a0_5] 23 (0, 0))) ∧ (w'.heap[gb300]? = some (.cells #[.slice A1_0 l1_0.length c1_0, .slice A1_1 l1_1.length c1_1, .slice A1_2 l1_2.length c1_2] 27 (0, 0))) ∧ (w'.heap[gb327]? = some (.cells #[.slice Ao55 t317.length co55, .slice Ao57 t320.length co57, .slice Ao59 t323.length co59] 29 (0, 0))) ∧ (w'.heap[gb337]? = some (.cells #[.slice Ao65 t328.length co65, .slice Ao70 t331.length co70, .slice Ao71 t334.length co71] 29 (0, 0))) ∧ (w'.heap[gb354]? = some (.cells #[.slice Ao78 t344.length co78, .slice Ao80 t347.length co80, .slice Ao82 t350.length co82] 29 (0, 0))) ∧ (w'.heap[s_.2.2.2.2.2.2]? = some (.cells #[.slice none 0 0, .slice none 0 0, .slice none 0 0] 29 (0, 0))) ∧ (w.heap.size ≤ s_.2.2.2.2.2.2) ∧ (w.heap.size ≤ s_.2.2.2.2.2.2) ∧ (gb299 ≠ s_.2.2.2.2.2.2) ∧ (s_.2.2.2.2.2.2 ≠ gb299) ∧ (gb300 ≠ s_.2.2.2.2.2.2) ∧ (s_.2.2.2.2.2.2 ≠ gb300) ∧ (gb327 ≠ s_.2.2.2.2.2.2) ∧ (s_.2.2.2.2.2.2 ≠ gb327) ∧ (gb337 ≠ s_.2.2.2.2.2.2) ∧ (s_.2.2.2.2.2.2 ≠ gb337) ∧ (gb354 ≠ s_.2.2.2.2.2.2) ∧ (s_.2.2.2.2.2.2 ≠ gb354) ∧ (Below w.heap.size w w')) ?_ ?_
 rotate_left
 ·intro hCont
  refine two_ (i := 1) (j := 10) (Ni := some 89) (Nj := some 18) #[true, true, true, false, true, true, false, false, false, false, false, false, false] #[true, false, true, false, true, true, false, false, false, false, true, false, false] rfl rfl rfl rfl (two_of HT_.out (by kernel_rfl)) q144t q144t (fun K hK => ?_) (fun K hK => ?_)
  ·skip
   refine goes_ Try.func6 (by kernel_rfl) rfl #[.agg #[.int .i64 a0_0, .int .i64 a0_1, .int .i64 a0_2, .int .i64 a0_3, .int .i64 a0_4, .int .i64 a0_5]] (by rfl) rfl rfl q97t ?_
   with_reducible refine (laws_toConf.calls a0_0 a0_1 a0_2 a0_3 a0_4 a0_5 t376 t377 t378 t379 t380 t381 _ A32.out).mono ?_
   rintro e w108 ⟨rfl, hb⟩
   refine ⟨_, rfl, ?_⟩
   replace HO310 := Aside0.mk (Kd.R_below q113t hb)
   replace HO313 := Aside0.mk (Kd.R_below q114t hb)
   replace HO316 := Aside0.mk (Kd.R_below q115t hb)
   replace HO319 := Aside0.mk (Kd.R_below q116t hb)
   replace HO322 := Aside0.mk (Kd.R_below q117t hb)
   replace HO325 := Aside0.mk (Kd.R_below q118t hb)
   replace HO330 := Aside0.mk (Kd.R_below q119t hb)
   replace HO333 := Aside0.mk (Kd.R_below q120t hb)
   replace HO336 := Aside0.mk (Kd.R_below q121t hb)
   replace HO346 := Aside0.mk (Kd.R_below q122t hb)
   replace HO349 := Aside0.mk (Kd.R_below q123t hb)
   replace HO352 := Aside0.mk (Kd.R_below q124t hb)
   replace HO358 := Aside0.mk (Kd.R_below q125t hb)
   replace HO361 := Aside0.mk (Kd.R_below q126t hb)
   replace HO364 := Aside0.mk (Kd.R_below q127t hb)
   replace BK299 := blb BK299 hb
   replace BK300 := blb BK300 hb
   replace BK327 := blb BK327 hb
   replace BK337 := blb BK337 hb
   replace BK354 := blb BK354 hb
   replace HB := Aside0.mk (below_step q27t hb)
   (try clear hb)
   (try clear hb2)
   (try clear hk)
   (try clear hi)
   refine hK.out _ _ q22t (fun hHeld => ?_)
   clear hK K
   refine norm_ (a' := ?_) ?_ ?_
   rotate_left
   ·show Act.put _ (some 89) _ = _
    simp only [Act.put, List.setIfInBounds_toArray, List.set_cons_zero, List.set_cons_succ, i64_w, i32_w]
    rfl
   refine two_ (i := 3) (j := 10) (Ni := some 91) (Nj := some 18) #[true, true, true, true, true, true, false, false, false, false, false, false, false] #[true, true, true, false, true, true, false, false, false, false, true, false, false] rfl rfl rfl rfl (two_of HT_.out (by kernel_rfl)) q144t q144t (fun K hK => ?_) (fun K hK => ?_)
   ·skip
    refine goes_ Try.func7 (by kernel_rfl) rfl #[.agg #[.slice A1_0 l1_0.length c1_0, .slice A1_1 l1_1.length c1_1, .slice A1_2 l1_2.length c1_2]] (by rfl) rfl rfl q97t ?_
    with_reducible refine (laws_toPool.calls k _ _ l1_0 _ _ l1_1 _ _ l1_2 t382 t385 t388 _ ?side1 ?side2 ?side3 ?side4 ?side5 ?side6 A33.out).mono ?_
    (case side1 => repeat (first | exact (Kd.C_below HR1_0.out HB.out) | (with_reducible refine Kd.C_alloc ?_ _) | (with_reducible refine Kd.C_drewN ?_ _) | (with_reducible refine Kd.C_drew ?_)))
    (case side2 => exact HC1_0.out)
    (case side3 => repeat (first | exact (Kd.C_below HR1_1.out HB.out) | (with_reducible refine Kd.C_alloc ?_ _) | (with_reducible refine Kd.C_drewN ?_ _) | (with_reducible refine Kd.C_drew ?_)))
    (case side4 => exact HC1_1.out)
    (case side5 => repeat (first | exact (Kd.C_below HR1_2.out HB.out) | (with_reducible refine Kd.C_alloc ?_ _) | (with_reducible refine Kd.C_drewN ?_ _) | (with_reducible refine Kd.C_drew ?_)))
    (case side6 => exact HC1_2.out)
    rintro e w109 ⟨v383, v386, v389, rfl, ho0, ho1, ho2, hb⟩
    refine ⟨_, rfl, ?_⟩
    have HO384 := Aside0.mk (Kd.R_lower (Kd.R_new' (Kd.R_new' (Kd.R_new' (Kd.R_new' (Kd.R_new' ho0 (Kd.R_lt q113t)) (Kd.R_lt q116t)) (Kd.R_lt q119t)) (Kd.R_lt q122t)) (Kd.R_lt q125t)) (below_size q27t))
    replace HO310 := Aside0.mk (Kd.R_elder' q113t (Kd.R_base ho0) hb)
    replace HO319 := Aside0.mk (Kd.R_elder' q116t (Kd.R_base ho0) hb)
    replace HO330 := Aside0.mk (Kd.R_elder' q119t (Kd.R_base ho0) hb)
    replace HO346 := Aside0.mk (Kd.R_elder' q122t (Kd.R_base ho0) hb)
    replace HO358 := Aside0.mk (Kd.R_elder' q125t (Kd.R_base ho0) hb)
    have HO387 := Aside0.mk (Kd.R_lower (Kd.R_new' (Kd.R_new' (Kd.R_new' (Kd.R_new' (Kd.R_new' (Kd.R_new' (Kd.R_new' (Kd.R_new' (Kd.R_new' (Kd.R_new' ho1 (Kd.R_lt q114t)) (Kd.R_lt q115t)) (Kd.R_lt q117t)) (Kd.R_lt q118t)) (Kd.R_lt q120t)) (Kd.R_lt q121t)) (Kd.R_lt q123t)) (Kd.R_lt q124t)) (Kd.R_lt q126t)) (Kd.R_lt q127t)) (below_size q27t))
    have HO390 := Aside0.mk (Kd.R_lower (Kd.R_new' (Kd.R_new' (Kd.R_new' (Kd.R_new' (Kd.R_new' (Kd.R_new' (Kd.R_new' (Kd.R_new' (Kd.R_new' (Kd.R_new' ho2 (Kd.R_lt q114t)) (Kd.R_lt q115t)) (Kd.R_lt q117t)) (Kd.R_lt q118t)) (Kd.R_lt q120t)) (Kd.R_lt q121t)) (Kd.R_lt q123t)) (Kd.R_lt q124t)) (Kd.R_lt q126t)) (Kd.R_lt q127t)) (below_size q27t))
    replace HO313 := Aside0.mk (Kd.R_mono (Kd.R_told (Kd.R_told (Kd.R_old q114t hb) (Kd.R_base ho1)) (Kd.R_base ho2)) (fun _ h_ => h_.1))
    replace HO316 := Aside0.mk (Kd.R_mono (Kd.R_told (Kd.R_told (Kd.R_old q115t hb) (Kd.R_base ho1)) (Kd.R_base ho2)) (fun _ h_ => h_.1))
    replace HO322 := Aside0.mk (Kd.R_mono (Kd.R_told (Kd.R_told (Kd.R_old q117t hb) (Kd.R_base ho1)) (Kd.R_base ho2)) (fun _ h_ => h_.1))
    replace HO325 := Aside0.mk (Kd.R_mono (Kd.R_told (Kd.R_told (Kd.R_old q118t hb) (Kd.R_base ho1)) (Kd.R_base ho2)) (fun _ h_ => h_.1))
    replace HO333 := Aside0.mk (Kd.R_mono (Kd.R_told (Kd.R_told (Kd.R_old q120t hb) (Kd.R_base ho1)) (Kd.R_base ho2)) (fun _ h_ => h_.1))
    replace HO336 := Aside0.mk (Kd.R_mono (Kd.R_told (Kd.R_told (Kd.R_old q121t hb) (Kd.R_base ho1)) (Kd.R_base ho2)) (fun _ h_ => h_.1))
    replace HO349 := Aside0.mk (Kd.R_mono (Kd.R_told (Kd.R_told (Kd.R_old q123t hb) (Kd.R_base ho1)) (Kd.R_base ho2)) (fun _ h_ => h_.1))
    replace HO352 := Aside0.mk (Kd.R_mono (Kd.R_told (Kd.R_told (Kd.R_old q124t hb) (Kd.R_base ho1)) (Kd.R_base ho2)) (fun _ h_ => h_.1))
    replace HO361 := Aside0.mk (Kd.R_mono (Kd.R_told (Kd.R_told (Kd.R_old q126t hb) (Kd.R_base ho1)) (Kd.R_base ho2)) (fun _ h_ => h_.1))
    replace HO364 := Aside0.mk (Kd.R_mono (Kd.R_told (Kd.R_told (Kd.R_old q127t hb) (Kd.R_base ho1)) (Kd.R_base ho2)) (fun _ h_ => h_.1))
    replace BK299 := blb BK299 hb
    replace BK300 := blb BK300 hb
    replace BK327 := blb BK327 hb
    replace BK337 := blb BK337 hb
    replace BK354 := blb BK354 hb
    replace HB := Aside0.mk (below_step q27t hb)
    (try clear hb)
    (try clear hb2)
    (try clear hk)
    (try clear hi)
    (try clear ho0)
    (try clear ho1)
    (try clear ho2)
    obtain ⟨Ao110, co110, eo110⟩ := Kd.R_slice HO384.out
    (first | subst eo110 | (injection eo110 with f1_ f2_ f3_; have f4_ := f1_.symm; have f5_ := f3_.symm; clear f1_ f2_ f3_; subst f4_; subst f5_))
    obtain ⟨Ao111, co111, eo111⟩ := Kd.R_slice HO387.out
    (first | subst eo111 | (injection eo111 with f1_ f2_ f3_; have f4_ := f1_.symm; have f5_ := f3_.symm; clear f1_ f2_ f3_; subst f4_; subst f5_))
    obtain ⟨Ao112, co112, eo112⟩ := Kd.R_slice HO390.out
    (first | subst eo112 | (injection eo112 with f1_ f2_ f3_; have f4_ := f1_.symm; have f5_ := f3_.symm; clear f1_ f2_ f3_; subst f4_; subst f5_))
    refine hK.out _ _ q22t (fun hHeld => ?_)
    clear hK K
    refine norm_ (a' := ?_) ?_ ?_
    rotate_left
    ·show Act.put _ (some 91) _ = _
     simp only [Act.put, List.setIfInBounds_toArray, List.set_cons_zero, List.set_cons_succ, i64_w, i32_w]
     rfl
    refine two_ (i := 6) (j := 10) (Ni := some 94) (Nj := some 18) #[true, true, true, true, true, true, true, false, false, false, false, false, false] #[true, true, true, true, true, true, false, false, false, false, true, false, false] rfl rfl rfl rfl (two_of HT_.out (by kernel_rfl)) q144t q144t (fun K hK => ?_) (fun K hK => ?_)
    ·skip
     refine goes_ Try.func8 (by kernel_rfl) rfl #[.agg #[.int .i64 t376, .int .i64 t377, .int .i64 t378, .int .i64 t379, .int .i64 t380, .int .i64 t381], .agg #[.slice Ao110 t382.length co110, .slice Ao111 t385.length co111, .slice Ao112 t388.length co112], .int .i64 a2, .int .i64 a3] (by rfl) rfl rfl q97t ?_
     with_reducible refine (impl_WipeSome.calls k t376 t377 t378 t379 t380 t381 _ _ t382 _ _ t385 _ _ t388 a2 a3 t391 t394 t397 t400 _ ?side1 ?side2 ?side3 ?side4 ?side5 ?side6 A34.out).mono ?_
     (case side1 => repeat (first | exact (Kd.R_reads' HO384.out).2.2 | (with_reducible refine Kd.C_alloc ?_ _) | (with_reducible refine Kd.C_drewN ?_ _) | (with_reducible refine Kd.C_drew ?_)))
     (case side2 => exact (Kd.R_reads' HO384.out).2.1)
     (case side3 => repeat (first | exact (Kd.R_reads' HO387.out).2.2 | (with_reducible refine Kd.C_alloc ?_ _) | (with_reducible refine Kd.C_drewN ?_ _) | (with_reducible refine Kd.C_drew ?_)))
     (case side4 => exact (Kd.R_reads' HO387.out).2.1)
     (case side5 => repeat (first | exact (Kd.R_reads' HO390.out).2.2 | (with_reducible refine Kd.C_alloc ?_ _) | (with_reducible refine Kd.C_drewN ?_ _) | (with_reducible refine Kd.C_drew ?_)))
     (case side6 => exact (Kd.R_reads' HO390.out).2.1)
     rintro e w113 ⟨v392, v395, v398, rfl, ho0, ho1, ho2, hb⟩
     refine ⟨_, rfl, ?_⟩
     have HO393 := Aside0.mk (Kd.R_lower (Kd.R_new' (Kd.R_new' (Kd.R_new' (Kd.R_new' (Kd.R_new' (Kd.R_new' ho0 (Kd.R_lt q113t)) (Kd.R_lt q116t)) (Kd.R_lt q119t)) (Kd.R_lt q122t)) (Kd.R_lt q125t)) (Kd.R_lt q128t)) (below_size q27t))
     replace HO310 := Aside0.mk (Kd.R_elder' q113t (Kd.R_base ho0) hb)
     replace HO319 := Aside0.mk (Kd.R_elder' q116t (Kd.R_base ho0) hb)
     replace HO330 := Aside0.mk (Kd.R_elder' q119t (Kd.R_base ho0) hb)
     replace HO346 := Aside0.mk (Kd.R_elder' q122t (Kd.R_base ho0) hb)
     replace HO358 := Aside0.mk (Kd.R_elder' q125t (Kd.R_base ho0) hb)
     replace HO384 := Aside0.mk (Kd.R_elder' q128t (Kd.R_base ho0) hb)
     have HO396 := Aside0.mk (Kd.R_lower (Kd.R_new' (Kd.R_new' (Kd.R_new' (Kd.R_new' (Kd.R_new' (Kd.R_new' (Kd.R_new' (Kd.R_new' (Kd.R_new' (Kd.R_new' (Kd.R_new' (Kd.R_new' ho1 (Kd.R_lt q114t)) (Kd.R_lt q115t)) (Kd.R_lt q117t)) (Kd.R_lt q118t)) (Kd.R_lt q120t)) (Kd.R_lt q121t)) (Kd.R_lt q123t)) (Kd.R_lt q124t)) (Kd.R_lt q126t)) (Kd.R_lt q127t)) (Kd.R_lt q129t)) (Kd.R_lt q130t)) (below_size q27t))
     have HO399 := Aside0.mk (Kd.R_lower (Kd.R_new' (Kd.R_new' (Kd.R_new' (Kd.R_new' (Kd.R_new' (Kd.R_new' (Kd.R_new' (Kd.R_new' (Kd.R_new' (Kd.R_new' (Kd.R_new' (Kd.R_new' ho2 (Kd.R_lt q114t)) (Kd.R_lt q115t)) (Kd.R_lt q117t)) (Kd.R_lt q118t)) (Kd.R_lt q120t)) (Kd.R_lt q121t)) (Kd.R_lt q123t)) (Kd.R_lt q124t)) (Kd.R_lt q126t)) (Kd.R_lt q127t)) (Kd.R_lt q129t)) (Kd.R_lt q130t)) (below_size q27t))
     replace HO313 := Aside0.mk (Kd.R_mono (Kd.R_told (Kd.R_told (Kd.R_old q114t hb) (Kd.R_base ho1)) (Kd.R_base ho2)) (fun _ h_ => h_.1))
     replace HO316 := Aside0.mk (Kd.R_mono (Kd.R_told (Kd.R_told (Kd.R_old q115t hb) (Kd.R_base ho1)) (Kd.R_base ho2)) (fun _ h_ => h_.1))
     replace HO322 := Aside0.mk (Kd.R_mono (Kd.R_told (Kd.R_told (Kd.R_old q117t hb) (Kd.R_base ho1)) (Kd.R_base ho2)) (fun _ h_ => h_.1))
     replace HO325 := Aside0.mk (Kd.R_mono (Kd.R_told (Kd.R_told (Kd.R_old q118t hb) (Kd.R_base ho1)) (Kd.R_base ho2)) (fun _ h_ => h_.1))
     replace HO333 := Aside0.mk (Kd.R_mono (Kd.R_told (Kd.R_told (Kd.R_old q120t hb) (Kd.R_base ho1)) (Kd.R_base ho2)) (fun _ h_ => h_.1))
     replace HO336 := Aside0.mk (Kd.R_mono (Kd.R_told (Kd.R_told (Kd.R_old q121t hb) (Kd.R_base ho1)) (Kd.R_base ho2)) (fun _ h_ => h_.1))
     replace HO349 := Aside0.mk (Kd.R_mono (Kd.R_told (Kd.R_told (Kd.R_old q123t hb) (Kd.R_base ho1)) (Kd.R_base ho2)) (fun _ h_ => h_.1))
     replace HO352 := Aside0.mk (Kd.R_mono (Kd.R_told (Kd.R_told (Kd.R_old q124t hb) (Kd.R_base ho1)) (Kd.R_base ho2)) (fun _ h_ => h_.1))
     replace HO361 := Aside0.mk (Kd.R_mono (Kd.R_told (Kd.R_told (Kd.R_old q126t hb) (Kd.R_base ho1)) (Kd.R_base ho2)) (fun _ h_ => h_.1))
     replace HO364 := Aside0.mk (Kd.R_mono (Kd.R_told (Kd.R_told (Kd.R_old q127t hb) (Kd.R_base ho1)) (Kd.R_base ho2)) (fun _ h_ => h_.1))
     replace HO387 := Aside0.mk (Kd.R_mono (Kd.R_told (Kd.R_told (Kd.R_old q129t hb) (Kd.R_base ho1)) (Kd.R_base ho2)) (fun _ h_ => h_.1))
     replace HO390 := Aside0.mk (Kd.R_mono (Kd.R_told (Kd.R_told (Kd.R_old q130t hb) (Kd.R_base ho1)) (Kd.R_base ho2)) (fun _ h_ => h_.1))
     replace BK299 := blb BK299 hb
     replace BK300 := blb BK300 hb
     replace BK327 := blb BK327 hb
     replace BK337 := blb BK337 hb
     replace BK354 := blb BK354 hb
     replace HB := Aside0.mk (below_step q27t hb)
     (try clear hb)
     (try clear hb2)
     (try clear hk)
     (try clear hi)
     (try clear ho0)
     (try clear ho1)
     (try clear ho2)
     refine hK.out _ _ q22t (fun hHeld => ?_)
     clear hK K
     refine norm_ (a' := ?_) ?_ ?_
     rotate_left
     ·show Act.put _ (some 94) _ = _
      simp only [Act.put, List.setIfInBounds_toArray, List.set_cons_zero, List.set_cons_succ, i64_w, i32_w]
      rfl
     refine pu_ 7 (some 87) (bm 13 255) (any_of HT_.out (by kernel_rfl)) ?_
     refine pu_ 8 (some 95) (bm 13 511) (any_of HT_.out (by kernel_rfl)) ?_
     refine pu_ 9 (some 96) (bm 13 1023) (any_of HT_.out (by kernel_rfl)) ?_
     refine one_ (i := 10) (N := some 18) (bm 13 2047) rfl rfl (one_of HT_.out (by kernel_rfl)) q144t (fun K hK => ?_)
     refine box_step ?hg (N := 18) ?hd (cs := #[.slice none 0 0, .slice none 0 0, .slice none 0 0]) (t := 29) ?hr ?_; (case hd => rfl); (case hg => rfl); (case hr => first | (go_simp; done) | (go_simp; rfl))
     intro gb401 hg w114 hbox hb
     replace HO310 := Aside0.mk (Kd.R_below q113t hb)
     replace HO313 := Aside0.mk (Kd.R_below q114t hb)
     replace HO316 := Aside0.mk (Kd.R_below q115t hb)
     replace HO319 := Aside0.mk (Kd.R_below q116t hb)
     replace HO322 := Aside0.mk (Kd.R_below q117t hb)
     replace HO325 := Aside0.mk (Kd.R_below q118t hb)
     replace HO330 := Aside0.mk (Kd.R_below q119t hb)
     replace HO333 := Aside0.mk (Kd.R_below q120t hb)
     replace HO336 := Aside0.mk (Kd.R_below q121t hb)
     replace HO346 := Aside0.mk (Kd.R_below q122t hb)
     replace HO349 := Aside0.mk (Kd.R_below q123t hb)
     replace HO352 := Aside0.mk (Kd.R_below q124t hb)
     replace HO358 := Aside0.mk (Kd.R_below q125t hb)
     replace HO361 := Aside0.mk (Kd.R_below q126t hb)
     replace HO364 := Aside0.mk (Kd.R_below q127t hb)
     replace HO384 := Aside0.mk (Kd.R_below q128t hb)
     replace HO387 := Aside0.mk (Kd.R_below q129t hb)
     replace HO390 := Aside0.mk (Kd.R_below q130t hb)
     replace HO393 := Aside0.mk (Kd.R_below (by (with_reducible repeat (first | apply Kd.R_alloc | apply Kd.R_drewN | apply Kd.R_drew)); exact HO393.out) hb)
     replace HO396 := Aside0.mk (Kd.R_below (by (with_reducible repeat (first | apply Kd.R_alloc | apply Kd.R_drewN | apply Kd.R_drew)); exact HO396.out) hb)
     replace HO399 := Aside0.mk (Kd.R_below (by (with_reducible repeat (first | apply Kd.R_alloc | apply Kd.R_drewN | apply Kd.R_drew)); exact HO399.out) hb)
     have BK401 := Aside0.mk (hbox)
     have GW401 := Aside0.mk ((q24t : w.heap.size ≤ gb401))
     have GE401 := Aside0.mk ((q24t : w.heap.size ≤ gb401))
     replace HB := Aside0.mk (below_step q27t hb)
     have NB299_401 := Aside0.mk ((q134t : gb299 ≠ gb401))
     have NB401_299 := Aside0.mk ((q135t : gb401 ≠ gb299))
     replace BK299 := blb BK299 hb
     have NB300_401 := Aside0.mk ((q136t : gb300 ≠ gb401))
     have NB401_300 := Aside0.mk ((q137t : gb401 ≠ gb300))
     replace BK300 := blb BK300 hb
     have NB327_401 := Aside0.mk ((q138t : gb327 ≠ gb401))
     have NB401_327 := Aside0.mk ((q139t : gb401 ≠ gb327))
     replace BK327 := blb BK327 hb
     have NB337_401 := Aside0.mk ((q140t : gb337 ≠ gb401))
     have NB401_337 := Aside0.mk ((q141t : gb401 ≠ gb337))
     replace BK337 := blb BK337 hb
     have NB354_401 := Aside0.mk ((by rw [hg]; exact Nat.ne_of_lt (blk_lt (qbk BK354)) : gb354 ≠ gb401))
     have NB401_354 := Aside0.mk ((by rw [hg]; exact Nat.ne_of_gt (blk_lt (qbk BK354)) : gb401 ≠ gb354))
     replace BK354 := blb BK354 hb
     clear hb hbox hg
     refine hK.out _ _ q22t (fun hHeld => ?_)
     clear hK K
     refine norm_ (a' := ?_) ?_ ?_
     rotate_left
     ·show Act.put _ (some 18) _ = _
      simp only [Act.put, List.setIfInBounds_toArray, List.set_cons_zero, List.set_cons_succ, i64_w, i32_w]
      rfl
     exact norm_ q131t (hCont (.slice Ao110 t382.length co110, .slice Ao111 t385.length co111, .slice Ao112 t388.length co112, v392, v395, v398, gb401) _ ⟨hHeld, q47t, q6t, q7t, q48t, q8t, q9t, q49t, q10t, q11t, q50t, q12t, q13t, q51t, q14t, q15t, q45t, q16t, q17t, q46t, q18t, q19t, (qbk BK299), (qbk BK300), (qbk BK327), (qbk BK337), (qbk BK354), (qbk BK401), GW401.out, GE401.out, NB299_401.out, NB401_299.out, NB300_401.out, NB401_300.out, NB327_401.out, NB401_327.out, NB337_401.out, NB401_337.out, NB354_401.out, NB401_354.out, q25t⟩)
    skip
    refine box_step ?hg (N := 18) ?hd (cs := #[.slice none 0 0, .slice none 0 0, .slice none 0 0]) (t := 29) ?hr ?_; (case hd => rfl); (case hg => rfl); (case hr => first | (go_simp; done) | (go_simp; rfl))
    intro gb401 hg w110 hbox hb
    replace HO310 := Aside0.mk (Kd.R_below q113t hb)
    replace HO313 := Aside0.mk (Kd.R_below q114t hb)
    replace HO316 := Aside0.mk (Kd.R_below q115t hb)
    replace HO319 := Aside0.mk (Kd.R_below q116t hb)
    replace HO322 := Aside0.mk (Kd.R_below q117t hb)
    replace HO325 := Aside0.mk (Kd.R_below q118t hb)
    replace HO330 := Aside0.mk (Kd.R_below q119t hb)
    replace HO333 := Aside0.mk (Kd.R_below q120t hb)
    replace HO336 := Aside0.mk (Kd.R_below q121t hb)
    replace HO346 := Aside0.mk (Kd.R_below q122t hb)
    replace HO349 := Aside0.mk (Kd.R_below q123t hb)
    replace HO352 := Aside0.mk (Kd.R_below q124t hb)
    replace HO358 := Aside0.mk (Kd.R_below q125t hb)
    replace HO361 := Aside0.mk (Kd.R_below q126t hb)
    replace HO364 := Aside0.mk (Kd.R_below q127t hb)
    replace HO384 := Aside0.mk (Kd.R_below q128t hb)
    replace HO387 := Aside0.mk (Kd.R_below q129t hb)
    replace HO390 := Aside0.mk (Kd.R_below q130t hb)
    have BK401 := Aside0.mk (hbox)
    have GW401 := Aside0.mk ((q24t : w.heap.size ≤ gb401))
    have GE401 := Aside0.mk ((q24t : w.heap.size ≤ gb401))
    replace HB := Aside0.mk (below_step q27t hb)
    have NB299_401 := Aside0.mk ((q134t : gb299 ≠ gb401))
    have NB401_299 := Aside0.mk ((q135t : gb401 ≠ gb299))
    replace BK299 := blb BK299 hb
    have NB300_401 := Aside0.mk ((q136t : gb300 ≠ gb401))
    have NB401_300 := Aside0.mk ((q137t : gb401 ≠ gb300))
    replace BK300 := blb BK300 hb
    have NB327_401 := Aside0.mk ((q138t : gb327 ≠ gb401))
    have NB401_327 := Aside0.mk ((q139t : gb401 ≠ gb327))
    replace BK327 := blb BK327 hb
    have NB337_401 := Aside0.mk ((q140t : gb337 ≠ gb401))
    have NB401_337 := Aside0.mk ((q141t : gb401 ≠ gb337))
    replace BK337 := blb BK337 hb
    have NB354_401 := Aside0.mk ((by rw [hg]; exact Nat.ne_of_lt (blk_lt (qbk BK354)) : gb354 ≠ gb401))
    have NB401_354 := Aside0.mk ((by rw [hg]; exact Nat.ne_of_gt (blk_lt (qbk BK354)) : gb401 ≠ gb354))
    replace BK354 := blb BK354 hb
    clear hb hbox hg
    obtain ⟨Ao111, co111, eo111⟩ := Kd.R_slice HO384.out
    (first | subst eo111 | (injection eo111 with f1_ f2_ f3_; have f4_ := f1_.symm; have f5_ := f3_.symm; clear f1_ f2_ f3_; subst f4_; subst f5_))
    obtain ⟨Ao112, co112, eo112⟩ := Kd.R_slice HO387.out
    (first | subst eo112 | (injection eo112 with f1_ f2_ f3_; have f4_ := f1_.symm; have f5_ := f3_.symm; clear f1_ f2_ f3_; subst f4_; subst f5_))
    obtain ⟨Ao113, co113, eo113⟩ := Kd.R_slice HO390.out
    (first | subst eo113 | (injection eo113 with f1_ f2_ f3_; have f4_ := f1_.symm; have f5_ := f3_.symm; clear f1_ f2_ f3_; subst f4_; subst f5_))
    refine hK.out _ _ q22t (fun hHeld => ?_)
    clear hK K
    refine norm_ (a' := ?_) ?_ ?_
    rotate_left
    ·show Act.put _ (some 18) _ = _
     simp only [Act.put, List.setIfInBounds_toArray, List.set_cons_zero, List.set_cons_succ, i64_w, i32_w]
     rfl
    refine one_ (i := 6) (N := some 94) (bm 13 1151) rfl rfl (one_of HT_.out (by kernel_rfl)) q144t (fun K hK => ?_)
    refine goes_ Try.func8 (by kernel_rfl) rfl #[.agg #[.int .i64 t376, .int .i64 t377, .int .i64 t378, .int .i64 t379, .int .i64 t380, .int .i64 t381], .agg #[.slice Ao111 t382.length co111, .slice Ao112 t385.length co112, .slice Ao113 t388.length co113], .int .i64 a2, .int .i64 a3] (by rfl) rfl rfl q97t ?_
    with_reducible refine (impl_WipeSome.calls k t376 t377 t378 t379 t380 t381 _ _ t382 _ _ t385 _ _ t388 a2 a3 t391 t394 t397 t400 _ ?side1 ?side2 ?side3 ?side4 ?side5 ?side6 A34.out).mono ?_
    (case side1 => repeat (first | exact (Kd.R_reads' HO384.out).2.2 | (with_reducible refine Kd.C_alloc ?_ _) | (with_reducible refine Kd.C_drewN ?_ _) | (with_reducible refine Kd.C_drew ?_)))
    (case side2 => exact (Kd.R_reads' HO384.out).2.1)
    (case side3 => repeat (first | exact (Kd.R_reads' HO387.out).2.2 | (with_reducible refine Kd.C_alloc ?_ _) | (with_reducible refine Kd.C_drewN ?_ _) | (with_reducible refine Kd.C_drew ?_)))
    (case side4 => exact (Kd.R_reads' HO387.out).2.1)
    (case side5 => repeat (first | exact (Kd.R_reads' HO390.out).2.2 | (with_reducible refine Kd.C_alloc ?_ _) | (with_reducible refine Kd.C_drewN ?_ _) | (with_reducible refine Kd.C_drew ?_)))
    (case side6 => exact (Kd.R_reads' HO390.out).2.1)
    rintro e w114 ⟨v392, v395, v398, rfl, ho0, ho1, ho2, hb⟩
    refine ⟨_, rfl, ?_⟩
    have HO393 := Aside0.mk (Kd.R_lower (Kd.R_new' (Kd.R_new' (Kd.R_new' (Kd.R_new' (Kd.R_new' (Kd.R_new' ho0 (Kd.R_lt q113t)) (Kd.R_lt q116t)) (Kd.R_lt q119t)) (Kd.R_lt q122t)) (Kd.R_lt q125t)) (Kd.R_lt q128t)) (below_size q25t))
    replace HO310 := Aside0.mk (Kd.R_elder' q113t (Kd.R_base ho0) hb)
    replace HO319 := Aside0.mk (Kd.R_elder' q116t (Kd.R_base ho0) hb)
    replace HO330 := Aside0.mk (Kd.R_elder' q119t (Kd.R_base ho0) hb)
    replace HO346 := Aside0.mk (Kd.R_elder' q122t (Kd.R_base ho0) hb)
    replace HO358 := Aside0.mk (Kd.R_elder' q125t (Kd.R_base ho0) hb)
    replace HO384 := Aside0.mk (Kd.R_elder' q128t (Kd.R_base ho0) hb)
    have HO396 := Aside0.mk (Kd.R_lower (Kd.R_new' (Kd.R_new' (Kd.R_new' (Kd.R_new' (Kd.R_new' (Kd.R_new' (Kd.R_new' (Kd.R_new' (Kd.R_new' (Kd.R_new' (Kd.R_new' (Kd.R_new' ho1 (Kd.R_lt q114t)) (Kd.R_lt q115t)) (Kd.R_lt q117t)) (Kd.R_lt q118t)) (Kd.R_lt q120t)) (Kd.R_lt q121t)) (Kd.R_lt q123t)) (Kd.R_lt q124t)) (Kd.R_lt q126t)) (Kd.R_lt q127t)) (Kd.R_lt q129t)) (Kd.R_lt q130t)) (below_size q25t))
    have HO399 := Aside0.mk (Kd.R_lower (Kd.R_new' (Kd.R_new' (Kd.R_new' (Kd.R_new' (Kd.R_new' (Kd.R_new' (Kd.R_new' (Kd.R_new' (Kd.R_new' (Kd.R_new' (Kd.R_new' (Kd.R_new' ho2 (Kd.R_lt q114t)) (Kd.R_lt q115t)) (Kd.R_lt q117t)) (Kd.R_lt q118t)) (Kd.R_lt q120t)) (Kd.R_lt q121t)) (Kd.R_lt q123t)) (Kd.R_lt q124t)) (Kd.R_lt q126t)) (Kd.R_lt q127t)) (Kd.R_lt q129t)) (Kd.R_lt q130t)) (below_size q25t))
    replace HO313 := Aside0.mk (Kd.R_mono (Kd.R_told (Kd.R_told (Kd.R_old q114t hb) (Kd.R_base ho1)) (Kd.R_base ho2)) (fun _ h_ => h_.1))
    replace HO316 := Aside0.mk (Kd.R_mono (Kd.R_told (Kd.R_told (Kd.R_old q115t hb) (Kd.R_base ho1)) (Kd.R_base ho2)) (fun _ h_ => h_.1))
    replace HO322 := Aside0.mk (Kd.R_mono (Kd.R_told (Kd.R_told (Kd.R_old q117t hb) (Kd.R_base ho1)) (Kd.R_base ho2)) (fun _ h_ => h_.1))
    replace HO325 := Aside0.mk (Kd.R_mono (Kd.R_told (Kd.R_told (Kd.R_old q118t hb) (Kd.R_base ho1)) (Kd.R_base ho2)) (fun _ h_ => h_.1))
    replace HO333 := Aside0.mk (Kd.R_mono (Kd.R_told (Kd.R_told (Kd.R_old q120t hb) (Kd.R_base ho1)) (Kd.R_base ho2)) (fun _ h_ => h_.1))
    replace HO336 := Aside0.mk (Kd.R_mono (Kd.R_told (Kd.R_told (Kd.R_old q121t hb) (Kd.R_base ho1)) (Kd.R_base ho2)) (fun _ h_ => h_.1))
    replace HO349 := Aside0.mk (Kd.R_mono (Kd.R_told (Kd.R_told (Kd.R_old q123t hb) (Kd.R_base ho1)) (Kd.R_base ho2)) (fun _ h_ => h_.1))
    replace HO352 := Aside0.mk (Kd.R_mono (Kd.R_told (Kd.R_told (Kd.R_old q124t hb) (Kd.R_base ho1)) (Kd.R_base ho2)) (fun _ h_ => h_.1))
    replace HO361 := Aside0.mk (Kd.R_mono (Kd.R_told (Kd.R_told (Kd.R_old q126t hb) (Kd.R_base ho1)) (Kd.R_base ho2)) (fun _ h_ => h_.1))
    replace HO364 := Aside0.mk (Kd.R_mono (Kd.R_told (Kd.R_told (Kd.R_old q127t hb) (Kd.R_base ho1)) (Kd.R_base ho2)) (fun _ h_ => h_.1))
    replace HO387 := Aside0.mk (Kd.R_mono (Kd.R_told (Kd.R_told (Kd.R_old q129t hb) (Kd.R_base ho1)) (Kd.R_base ho2)) (fun _ h_ => h_.1))
    replace HO390 := Aside0.mk (Kd.R_mono (Kd.R_told (Kd.R_told (Kd.R_old q130t hb) (Kd.R_base ho1)) (Kd.R_base ho2)) (fun _ h_ => h_.1))
    replace BK299 := blb BK299 hb
    replace BK300 := blb BK300 hb
    replace BK327 := blb BK327 hb
    replace BK337 := blb BK337 hb
    replace BK354 := blb BK354 hb
    replace BK401 := blb BK401 hb
    replace HB := Aside0.mk (below_step q25t hb)
    (try clear hb)
    (try clear hb2)
    (try clear hk)
    (try clear hi)
    (try clear ho0)
    (try clear ho1)
    (try clear ho2)
    refine hK.out _ _ q22t (fun hHeld => ?_)
    clear hK K
    refine norm_ (a' := ?_) ?_ ?_
    rotate_left
    ·show Act.put _ (some 94) _ = _
     simp only [Act.put, List.setIfInBounds_toArray, List.set_cons_zero, List.set_cons_succ, i64_w, i32_w]
     rfl
    refine pu_ 7 (some 87) (bm 13 1279) (any_of HT_.out (by kernel_rfl)) ?_
    refine pu_ 8 (some 95) (bm 13 1535) (any_of HT_.out (by kernel_rfl)) ?_
    refine pu_ 9 (some 96) (bm 13 2047) (any_of HT_.out (by kernel_rfl)) ?_
    exact norm_ q131t (hCont (.slice Ao111 t382.length co111, .slice Ao112 t385.length co112, .slice Ao113 t388.length co113, v392, v395, v398, gb401) _ ⟨hHeld, q47t, q6t, q7t, q48t, q8t, q9t, q49t, q10t, q11t, q50t, q12t, q13t, q51t, q14t, q15t, q45t, q16t, q17t, q46t, q18t, q19t, (qbk BK299), (qbk BK300), (qbk BK327), (qbk BK337), (qbk BK354), (qbk BK401), GW401.out, GE401.out, NB299_401.out, NB401_299.out, NB300_401.out, NB401_300.out, NB327_401.out, NB401_327.out, NB337_401.out, NB401_337.out, NB354_401.out, NB401_354.out, q25t⟩)
   skip
   refine box_step ?hg (N := 18) ?hd (cs := #[.slice none 0 0, .slice none 0 0, .slice none 0 0]) (t := 29) ?hr ?_; (case hd => rfl); (case hg => rfl); (case hr => first | (go_simp; done) | (go_simp; rfl))
   intro gb401 hg w109 hbox hb
   replace HO310 := Aside0.mk (Kd.R_below q113t hb)
   replace HO313 := Aside0.mk (Kd.R_below q114t hb)
   replace HO316 := Aside0.mk (Kd.R_below q115t hb)
   replace HO319 := Aside0.mk (Kd.R_below q116t hb)
   replace HO322 := Aside0.mk (Kd.R_below q117t hb)
   replace HO325 := Aside0.mk (Kd.R_below q118t hb)
   replace HO330 := Aside0.mk (Kd.R_below q119t hb)
   replace HO333 := Aside0.mk (Kd.R_below q120t hb)
   replace HO336 := Aside0.mk (Kd.R_below q121t hb)
   replace HO346 := Aside0.mk (Kd.R_below q122t hb)
   replace HO349 := Aside0.mk (Kd.R_below q123t hb)
   replace HO352 := Aside0.mk (Kd.R_below q124t hb)
   replace HO358 := Aside0.mk (Kd.R_below q125t hb)
   replace HO361 := Aside0.mk (Kd.R_below q126t hb)
   replace HO364 := Aside0.mk (Kd.R_below q127t hb)
   have BK401 := Aside0.mk (hbox)
   have GW401 := Aside0.mk ((q24t : w.heap.size ≤ gb401))
   have GE401 := Aside0.mk ((q24t : w.heap.size ≤ gb401))
   replace HB := Aside0.mk (below_step q27t hb)
   have NB299_401 := Aside0.mk ((q134t : gb299 ≠ gb401))
   have NB401_299 := Aside0.mk ((q135t : gb401 ≠ gb299))
   replace BK299 := blb BK299 hb
   have NB300_401 := Aside0.mk ((q136t : gb300 ≠ gb401))
   have NB401_300 := Aside0.mk ((q137t : gb401 ≠ gb300))
   replace BK300 := blb BK300 hb
   have NB327_401 := Aside0.mk ((q138t : gb327 ≠ gb401))
   have NB401_327 := Aside0.mk ((q139t : gb401 ≠ gb327))
   replace BK327 := blb BK327 hb
   have NB337_401 := Aside0.mk ((q140t : gb337 ≠ gb401))
   have NB401_337 := Aside0.mk ((q141t : gb401 ≠ gb337))
   replace BK337 := blb BK337 hb
   have NB354_401 := Aside0.mk ((by rw [hg]; exact Nat.ne_of_lt (blk_lt (qbk BK354)) : gb354 ≠ gb401))
   have NB401_354 := Aside0.mk ((by rw [hg]; exact Nat.ne_of_gt (blk_lt (qbk BK354)) : gb401 ≠ gb354))
   replace BK354 := blb BK354 hb
   clear hb hbox hg
   refine hK.out _ _ q22t (fun hHeld => ?_)
   clear hK K
   refine norm_ (a' := ?_) ?_ ?_
   rotate_left
   ·show Act.put _ (some 18) _ = _
    simp only [Act.put, List.setIfInBounds_toArray, List.set_cons_zero, List.set_cons_succ, i64_w, i32_w]
    rfl
   refine one_ (i := 3) (N := some 91) (bm 13 1087) rfl rfl (one_of HT_.out (by kernel_rfl)) q144t (fun K hK => ?_)
   refine goes_ Try.func7 (by kernel_rfl) rfl #[.agg #[.slice A1_0 l1_0.length c1_0, .slice A1_1 l1_1.length c1_1, .slice A1_2 l1_2.length c1_2]] (by rfl) rfl rfl q97t ?_
   with_reducible refine (laws_toPool.calls k _ _ l1_0 _ _ l1_1 _ _ l1_2 t382 t385 t388 _ ?side1 ?side2 ?side3 ?side4 ?side5 ?side6 A33.out).mono ?_
   (case side1 => repeat (first | exact (Kd.C_below HR1_0.out HB.out) | (with_reducible refine Kd.C_alloc ?_ _) | (with_reducible refine Kd.C_drewN ?_ _) | (with_reducible refine Kd.C_drew ?_)))
   (case side2 => exact HC1_0.out)
   (case side3 => repeat (first | exact (Kd.C_below HR1_1.out HB.out) | (with_reducible refine Kd.C_alloc ?_ _) | (with_reducible refine Kd.C_drewN ?_ _) | (with_reducible refine Kd.C_drew ?_)))
   (case side4 => exact HC1_1.out)
   (case side5 => repeat (first | exact (Kd.C_below HR1_2.out HB.out) | (with_reducible refine Kd.C_alloc ?_ _) | (with_reducible refine Kd.C_drewN ?_ _) | (with_reducible refine Kd.C_drew ?_)))
   (case side6 => exact HC1_2.out)
   rintro e w110 ⟨v383, v386, v389, rfl, ho0, ho1, ho2, hb⟩
   refine ⟨_, rfl, ?_⟩
   have HO384 := Aside0.mk (Kd.R_lower (Kd.R_new' (Kd.R_new' (Kd.R_new' (Kd.R_new' (Kd.R_new' ho0 (Kd.R_lt q113t)) (Kd.R_lt q116t)) (Kd.R_lt q119t)) (Kd.R_lt q122t)) (Kd.R_lt q125t)) (below_size q25t))
   replace HO310 := Aside0.mk (Kd.R_elder' q113t (Kd.R_base ho0) hb)
   replace HO319 := Aside0.mk (Kd.R_elder' q116t (Kd.R_base ho0) hb)
   replace HO330 := Aside0.mk (Kd.R_elder' q119t (Kd.R_base ho0) hb)
   replace HO346 := Aside0.mk (Kd.R_elder' q122t (Kd.R_base ho0) hb)
   replace HO358 := Aside0.mk (Kd.R_elder' q125t (Kd.R_base ho0) hb)
   have HO387 := Aside0.mk (Kd.R_lower (Kd.R_new' (Kd.R_new' (Kd.R_new' (Kd.R_new' (Kd.R_new' (Kd.R_new' (Kd.R_new' (Kd.R_new' (Kd.R_new' (Kd.R_new' ho1 (Kd.R_lt q114t)) (Kd.R_lt q115t)) (Kd.R_lt q117t)) (Kd.R_lt q118t)) (Kd.R_lt q120t)) (Kd.R_lt q121t)) (Kd.R_lt q123t)) (Kd.R_lt q124t)) (Kd.R_lt q126t)) (Kd.R_lt q127t)) (below_size q25t))
   have HO390 := Aside0.mk (Kd.R_lower (Kd.R_new' (Kd.R_new' (Kd.R_new' (Kd.R_new' (Kd.R_new' (Kd.R_new' (Kd.R_new' (Kd.R_new' (Kd.R_new' (Kd.R_new' ho2 (Kd.R_lt q114t)) (Kd.R_lt q115t)) (Kd.R_lt q117t)) (Kd.R_lt q118t)) (Kd.R_lt q120t)) (Kd.R_lt q121t)) (Kd.R_lt q123t)) (Kd.R_lt q124t)) (Kd.R_lt q126t)) (Kd.R_lt q127t)) (below_size q25t))
   replace HO313 := Aside0.mk (Kd.R_mono (Kd.R_told (Kd.R_told (Kd.R_old q114t hb) (Kd.R_base ho1)) (Kd.R_base ho2)) (fun _ h_ => h_.1))
   replace HO316 := Aside0.mk (Kd.R_mono (Kd.R_told (Kd.R_told (Kd.R_old q115t hb) (Kd.R_base ho1)) (Kd.R_base ho2)) (fun _ h_ => h_.1))
   replace HO322 := Aside0.mk (Kd.R_mono (Kd.R_told (Kd.R_told (Kd.R_old q117t hb) (Kd.R_base ho1)) (Kd.R_base ho2)) (fun _ h_ => h_.1))
   replace HO325 := Aside0.mk (Kd.R_mono (Kd.R_told (Kd.R_told (Kd.R_old q118t hb) (Kd.R_base ho1)) (Kd.R_base ho2)) (fun _ h_ => h_.1))
   replace HO333 := Aside0.mk (Kd.R_mono (Kd.R_told (Kd.R_told (Kd.R_old q120t hb) (Kd.R_base ho1)) (Kd.R_base ho2)) (fun _ h_ => h_.1))
   replace HO336 := Aside0.mk (Kd.R_mono (Kd.R_told (Kd.R_told (Kd.R_old q121t hb) (Kd.R_base ho1)) (Kd.R_base ho2)) (fun _ h_ => h_.1))
   replace HO349 := Aside0.mk (Kd.R_mono (Kd.R_told (Kd.R_told (Kd.R_old q123t hb) (Kd.R_base ho1)) (Kd.R_base ho2)) (fun _ h_ => h_.1))
   replace HO352 := Aside0.mk (Kd.R_mono (Kd.R_told (Kd.R_told (Kd.R_old q124t hb) (Kd.R_base ho1)) (Kd.R_base ho2)) (fun _ h_ => h_.1))
   replace HO361 := Aside0.mk (Kd.R_mono (Kd.R_told (Kd.R_told (Kd.R_old q126t hb) (Kd.R_base ho1)) (Kd.R_base ho2)) (fun _ h_ => h_.1))
   replace HO364 := Aside0.mk (Kd.R_mono (Kd.R_told (Kd.R_told (Kd.R_old q127t hb) (Kd.R_base ho1)) (Kd.R_base ho2)) (fun _ h_ => h_.1))
   replace BK299 := blb BK299 hb
   replace BK300 := blb BK300 hb
   replace BK327 := blb BK327 hb
   replace BK337 := blb BK337 hb
   replace BK354 := blb BK354 hb
   replace BK401 := blb BK401 hb
   replace HB := Aside0.mk (below_step q25t hb)
   (try clear hb)
   (try clear hb2)
   (try clear hk)
   (try clear hi)
   (try clear ho0)
   (try clear ho1)
   (try clear ho2)
   obtain ⟨Ao111, co111, eo111⟩ := Kd.R_slice HO384.out
   (first | subst eo111 | (injection eo111 with f1_ f2_ f3_; have f4_ := f1_.symm; have f5_ := f3_.symm; clear f1_ f2_ f3_; subst f4_; subst f5_))
   obtain ⟨Ao112, co112, eo112⟩ := Kd.R_slice HO387.out
   (first | subst eo112 | (injection eo112 with f1_ f2_ f3_; have f4_ := f1_.symm; have f5_ := f3_.symm; clear f1_ f2_ f3_; subst f4_; subst f5_))
   obtain ⟨Ao113, co113, eo113⟩ := Kd.R_slice HO390.out
   (first | subst eo113 | (injection eo113 with f1_ f2_ f3_; have f4_ := f1_.symm; have f5_ := f3_.symm; clear f1_ f2_ f3_; subst f4_; subst f5_))
   refine hK.out _ _ q22t (fun hHeld => ?_)
   clear hK K
   refine norm_ (a' := ?_) ?_ ?_
   rotate_left
   ·show Act.put _ (some 91) _ = _
    simp only [Act.put, List.setIfInBounds_toArray, List.set_cons_zero, List.set_cons_succ, i64_w, i32_w]
    rfl
   refine one_ (i := 6) (N := some 94) (bm 13 1151) rfl rfl (one_of HT_.out (by kernel_rfl)) q144t (fun K hK => ?_)
   refine goes_ Try.func8 (by kernel_rfl) rfl #[.agg #[.int .i64 t376, .int .i64 t377, .int .i64 t378, .int .i64 t379, .int .i64 t380, .int .i64 t381], .agg #[.slice Ao111 t382.length co111, .slice Ao112 t385.length co112, .slice Ao113 t388.length co113], .int .i64 a2, .int .i64 a3] (by rfl) rfl rfl q97t ?_
   with_reducible refine (impl_WipeSome.calls k t376 t377 t378 t379 t380 t381 _ _ t382 _ _ t385 _ _ t388 a2 a3 t391 t394 t397 t400 _ ?side1 ?side2 ?side3 ?side4 ?side5 ?side6 A34.out).mono ?_
   (case side1 => repeat (first | exact (Kd.R_reads' HO384.out).2.2 | (with_reducible refine Kd.C_alloc ?_ _) | (with_reducible refine Kd.C_drewN ?_ _) | (with_reducible refine Kd.C_drew ?_)))
   (case side2 => exact (Kd.R_reads' HO384.out).2.1)
   (case side3 => repeat (first | exact (Kd.R_reads' HO387.out).2.2 | (with_reducible refine Kd.C_alloc ?_ _) | (with_reducible refine Kd.C_drewN ?_ _) | (with_reducible refine Kd.C_drew ?_)))
   (case side4 => exact (Kd.R_reads' HO387.out).2.1)
   (case side5 => repeat (first | exact (Kd.R_reads' HO390.out).2.2 | (with_reducible refine Kd.C_alloc ?_ _) | (with_reducible refine Kd.C_drewN ?_ _) | (with_reducible refine Kd.C_drew ?_)))
   (case side6 => exact (Kd.R_reads' HO390.out).2.1)
   rintro e w114 ⟨v392, v395, v398, rfl, ho0, ho1, ho2, hb⟩
   refine ⟨_, rfl, ?_⟩
   have HO393 := Aside0.mk (Kd.R_lower (Kd.R_new' (Kd.R_new' (Kd.R_new' (Kd.R_new' (Kd.R_new' (Kd.R_new' ho0 (Kd.R_lt q113t)) (Kd.R_lt q116t)) (Kd.R_lt q119t)) (Kd.R_lt q122t)) (Kd.R_lt q125t)) (Kd.R_lt q128t)) (below_size q25t))
   replace HO310 := Aside0.mk (Kd.R_elder' q113t (Kd.R_base ho0) hb)
   replace HO319 := Aside0.mk (Kd.R_elder' q116t (Kd.R_base ho0) hb)
   replace HO330 := Aside0.mk (Kd.R_elder' q119t (Kd.R_base ho0) hb)
   replace HO346 := Aside0.mk (Kd.R_elder' q122t (Kd.R_base ho0) hb)
   replace HO358 := Aside0.mk (Kd.R_elder' q125t (Kd.R_base ho0) hb)
   replace HO384 := Aside0.mk (Kd.R_elder' q128t (Kd.R_base ho0) hb)
   have HO396 := Aside0.mk (Kd.R_lower (Kd.R_new' (Kd.R_new' (Kd.R_new' (Kd.R_new' (Kd.R_new' (Kd.R_new' (Kd.R_new' (Kd.R_new' (Kd.R_new' (Kd.R_new' (Kd.R_new' (Kd.R_new' ho1 (Kd.R_lt q114t)) (Kd.R_lt q115t)) (Kd.R_lt q117t)) (Kd.R_lt q118t)) (Kd.R_lt q120t)) (Kd.R_lt q121t)) (Kd.R_lt q123t)) (Kd.R_lt q124t)) (Kd.R_lt q126t)) (Kd.R_lt q127t)) (Kd.R_lt q129t)) (Kd.R_lt q130t)) (below_size q25t))
   have HO399 := Aside0.mk (Kd.R_lower (Kd.R_new' (Kd.R_new' (Kd.R_new' (Kd.R_new' (Kd.R_new' (Kd.R_new' (Kd.R_new' (Kd.R_new' (Kd.R_new' (Kd.R_new' (Kd.R_new' (Kd.R_new' ho2 (Kd.R_lt q114t)) (Kd.R_lt q115t)) (Kd.R_lt q117t)) (Kd.R_lt q118t)) (Kd.R_lt q120t)) (Kd.R_lt q121t)) (Kd.R_lt q123t)) (Kd.R_lt q124t)) (Kd.R_lt q126t)) (Kd.R_lt q127t)) (Kd.R_lt q129t)) (Kd.R_lt q130t)) (below_size q25t))
   replace HO313 := Aside0.mk (Kd.R_mono (Kd.R_told (Kd.R_told (Kd.R_old q114t hb) (Kd.R_base ho1)) (Kd.R_base ho2)) (fun _ h_ => h_.1))
   replace HO316 := Aside0.mk (Kd.R_mono (Kd.R_told (Kd.R_told (Kd.R_old q115t hb) (Kd.R_base ho1)) (Kd.R_base ho2)) (fun _ h_ => h_.1))
   replace HO322 := Aside0.mk (Kd.R_mono (Kd.R_told (Kd.R_told (Kd.R_old q117t hb) (Kd.R_base ho1)) (Kd.R_base ho2)) (fun _ h_ => h_.1))
   replace HO325 := Aside0.mk (Kd.R_mono (Kd.R_told (Kd.R_told (Kd.R_old q118t hb) (Kd.R_base ho1)) (Kd.R_base ho2)) (fun _ h_ => h_.1))
   replace HO333 := Aside0.mk (Kd.R_mono (Kd.R_told (Kd.R_told (Kd.R_old q120t hb) (Kd.R_base ho1)) (Kd.R_base ho2)) (fun _ h_ => h_.1))
   replace HO336 := Aside0.mk (Kd.R_mono (Kd.R_told (Kd.R_told (Kd.R_old q121t hb) (Kd.R_base ho1)) (Kd.R_base ho2)) (fun _ h_ => h_.1))
   replace HO349 := Aside0.mk (Kd.R_mono (Kd.R_told (Kd.R_told (Kd.R_old q123t hb) (Kd.R_base ho1)) (Kd.R_base ho2)) (fun _ h_ => h_.1))
   replace HO352 := Aside0.mk (Kd.R_mono (Kd.R_told (Kd.R_told (Kd.R_old q124t hb) (Kd.R_base ho1)) (Kd.R_base ho2)) (fun _ h_ => h_.1))
   replace HO361 := Aside0.mk (Kd.R_mono (Kd.R_told (Kd.R_told (Kd.R_old q126t hb) (Kd.R_base ho1)) (Kd.R_base ho2)) (fun _ h_ => h_.1))
   replace HO364 := Aside0.mk (Kd.R_mono (Kd.R_told (Kd.R_told (Kd.R_old q127t hb) (Kd.R_base ho1)) (Kd.R_base ho2)) (fun _ h_ => h_.1))
   replace HO387 := Aside0.mk (Kd.R_mono (Kd.R_told (Kd.R_told (Kd.R_old q129t hb) (Kd.R_base ho1)) (Kd.R_base ho2)) (fun _ h_ => h_.1))
   replace HO390 := Aside0.mk (Kd.R_mono (Kd.R_told (Kd.R_told (Kd.R_old q130t hb) (Kd.R_base ho1)) (Kd.R_base ho2)) (fun _ h_ => h_.1))
   replace BK299 := blb BK299 hb
   replace BK300 := blb BK300 hb
   replace BK327 := blb BK327 hb
   replace BK337 := blb BK337 hb
   replace BK354 := blb BK354 hb
   replace BK401 := blb BK401 hb
   replace HB := Aside0.mk (below_step q25t hb)
   (try clear hb)
   (try clear hb2)
   (try clear hk)
   (try clear hi)
   (try clear ho0)
   (try clear ho1)
   (try clear ho2)
   refine hK.out _ _ q22t (fun hHeld => ?_)
   clear hK K
   refine norm_ (a' := ?_) ?_ ?_
   rotate_left
   ·show Act.put _ (some 94) _ = _
    simp only [Act.put, List.setIfInBounds_toArray, List.set_cons_zero, List.set_cons_succ, i64_w, i32_w]
    rfl
   refine pu_ 7 (some 87) (bm 13 1279) (any_of HT_.out (by kernel_rfl)) ?_
   refine pu_ 8 (some 95) (bm 13 1535) (any_of HT_.out (by kernel_rfl)) ?_
   refine pu_ 9 (some 96) (bm 13 2047) (any_of HT_.out (by kernel_rfl)) ?_
   exact norm_ q131t (hCont (.slice Ao111 t382.length co111, .slice Ao112 t385.length co112, .slice Ao113 t388.length co113, v392, v395, v398, gb401) _ ⟨hHeld, q47t, q6t, q7t, q48t, q8t, q9t, q49t, q10t, q11t, q50t, q12t, q13t, q51t, q14t, q15t, q45t, q16t, q17t, q46t, q18t, q19t, (qbk BK299), (qbk BK300), (qbk BK327), (qbk BK337), (qbk BK354), (qbk BK401), GW401.out, GE401.out, NB299_401.out, NB401_299.out, NB300_401.out, NB401_300.out, NB327_401.out, NB401_327.out, NB337_401.out, NB401_337.out, NB354_401.out, NB401_354.out, q25t⟩)
  skip
  refine box_step ?hg (N := 18) ?hd (cs := #[.slice none 0 0, .slice none 0 0, .slice none 0 0]) (t := 29) ?hr ?_; (case hd => rfl); (case hg => rfl); (case hr => first | (go_simp; done) | (go_simp; rfl))
  intro gb401 hg w108 hbox hb
  replace HO310 := Aside0.mk (Kd.R_below q113t hb)
  replace HO313 := Aside0.mk (Kd.R_below q114t hb)
  replace HO316 := Aside0.mk (Kd.R_below q115t hb)
  replace HO319 := Aside0.mk (Kd.R_below q116t hb)
  replace HO322 := Aside0.mk (Kd.R_below q117t hb)
  replace HO325 := Aside0.mk (Kd.R_below q118t hb)
  replace HO330 := Aside0.mk (Kd.R_below q119t hb)
  replace HO333 := Aside0.mk (Kd.R_below q120t hb)
  replace HO336 := Aside0.mk (Kd.R_below q121t hb)
  replace HO346 := Aside0.mk (Kd.R_below q122t hb)
  replace HO349 := Aside0.mk (Kd.R_below q123t hb)
  replace HO352 := Aside0.mk (Kd.R_below q124t hb)
  replace HO358 := Aside0.mk (Kd.R_below q125t hb)
  replace HO361 := Aside0.mk (Kd.R_below q126t hb)
  replace HO364 := Aside0.mk (Kd.R_below q127t hb)
  have BK401 := Aside0.mk (hbox)
  have GW401 := Aside0.mk ((q24t : w.heap.size ≤ gb401))
  have GE401 := Aside0.mk ((q24t : w.heap.size ≤ gb401))
  replace HB := Aside0.mk (below_step q27t hb)
  have NB299_401 := Aside0.mk ((q134t : gb299 ≠ gb401))
  have NB401_299 := Aside0.mk ((q135t : gb401 ≠ gb299))
  replace BK299 := blb BK299 hb
  have NB300_401 := Aside0.mk ((q136t : gb300 ≠ gb401))
  have NB401_300 := Aside0.mk ((q137t : gb401 ≠ gb300))
  replace BK300 := blb BK300 hb
  have NB327_401 := Aside0.mk ((q138t : gb327 ≠ gb401))
  have NB401_327 := Aside0.mk ((q139t : gb401 ≠ gb327))
  replace BK327 := blb BK327 hb
  have NB337_401 := Aside0.mk ((q140t : gb337 ≠ gb401))
  have NB401_337 := Aside0.mk ((q141t : gb401 ≠ gb337))
  replace BK337 := blb BK337 hb
  have NB354_401 := Aside0.mk ((by rw [hg]; exact Nat.ne_of_lt (blk_lt (qbk BK354)) : gb354 ≠ gb401))
  have NB401_354 := Aside0.mk ((by rw [hg]; exact Nat.ne_of_gt (blk_lt (qbk BK354)) : gb401 ≠ gb354))
  replace BK354 := blb BK354 hb
  clear hb hbox hg
  refine hK.out _ _ q22t (fun hHeld => ?_)
  clear hK K
  refine norm_ (a' := ?_) ?_ ?_
  rotate_left
  ·show Act.put _ (some 18) _ = _
   simp only [Act.put, List.setIfInBounds_toArray, List.set_cons_zero, List.set_cons_succ, i64_w, i32_w]
   rfl
  refine one_ (i := 1) (N := some 89) (bm 13 1079) rfl rfl (one_of HT_.out (by kernel_rfl)) q144t (fun K hK => ?_)
  refine goes_ Try.func6 (by kernel_rfl) rfl #[.agg #[.int .i64 a0_0, .int .i64 a0_1, .int .i64 a0_2, .int .i64 a0_3, .int .i64 a0_4, .int .i64 a0_5]] (by rfl) rfl rfl q97t ?_
  with_reducible refine (laws_toConf.calls a0_0 a0_1 a0_2 a0_3 a0_4 a0_5 t376 t377 t378 t379 t380 t381 _ A32.out).mono ?_
  rintro e w109 ⟨rfl, hb⟩
  refine ⟨_, rfl, ?_⟩
  replace HO310 := Aside0.mk (Kd.R_below q113t hb)
  replace HO313 := Aside0.mk (Kd.R_below q114t hb)
  replace HO316 := Aside0.mk (Kd.R_below q115t hb)
  replace HO319 := Aside0.mk (Kd.R_below q116t hb)
  replace HO322 := Aside0.mk (Kd.R_below q117t hb)
  replace HO325 := Aside0.mk (Kd.R_below q118t hb)
  replace HO330 := Aside0.mk (Kd.R_below q119t hb)
  replace HO333 := Aside0.mk (Kd.R_below q120t hb)
  replace HO336 := Aside0.mk (Kd.R_below q121t hb)
  replace HO346 := Aside0.mk (Kd.R_below q122t hb)
  replace HO349 := Aside0.mk (Kd.R_below q123t hb)
  replace HO352 := Aside0.mk (Kd.R_below q124t hb)
  replace HO358 := Aside0.mk (Kd.R_below q125t hb)
  replace HO361 := Aside0.mk (Kd.R_below q126t hb)
  replace HO364 := Aside0.mk (Kd.R_below q127t hb)
  replace BK299 := blb BK299 hb
  replace BK300 := blb BK300 hb
  replace BK327 := blb BK327 hb
  replace BK337 := blb BK337 hb
  replace BK354 := blb BK354 hb
  replace BK401 := blb BK401 hb
  replace HB := Aside0.mk (below_step q25t hb)
  (try clear hb)
  (try clear hb2)
  (try clear hk)
  (try clear hi)
  refine hK.out _ _ q22t (fun hHeld => ?_)
  clear hK K
  refine norm_ (a' := ?_) ?_ ?_
  rotate_left
  ·show Act.put _ (some 89) _ = _
   simp only [Act.put, List.setIfInBounds_toArray, List.set_cons_zero, List.set_cons_succ, i64_w, i32_w]
   rfl
  refine one_ (i := 3) (N := some 91) (bm 13 1087) rfl rfl (one_of HT_.out (by kernel_rfl)) q144t (fun K hK => ?_)
  refine goes_ Try.func7 (by kernel_rfl) rfl #[.agg #[.slice A1_0 l1_0.length c1_0, .slice A1_1 l1_1.length c1_1, .slice A1_2 l1_2.length c1_2]] (by rfl) rfl rfl q97t ?_
  with_reducible refine (laws_toPool.calls k _ _ l1_0 _ _ l1_1 _ _ l1_2 t382 t385 t388 _ ?side1 ?side2 ?side3 ?side4 ?side5 ?side6 A33.out).mono ?_
  (case side1 => repeat (first | exact (Kd.C_below HR1_0.out HB.out) | (with_reducible refine Kd.C_alloc ?_ _) | (with_reducible refine Kd.C_drewN ?_ _) | (with_reducible refine Kd.C_drew ?_)))
  (case side2 => exact HC1_0.out)
  (case side3 => repeat (first | exact (Kd.C_below HR1_1.out HB.out) | (with_reducible refine Kd.C_alloc ?_ _) | (with_reducible refine Kd.C_drewN ?_ _) | (with_reducible refine Kd.C_drew ?_)))
  (case side4 => exact HC1_1.out)
  (case side5 => repeat (first | exact (Kd.C_below HR1_2.out HB.out) | (with_reducible refine Kd.C_alloc ?_ _) | (with_reducible refine Kd.C_drewN ?_ _) | (with_reducible refine Kd.C_drew ?_)))
  (case side6 => exact HC1_2.out)
  rintro e w110 ⟨v383, v386, v389, rfl, ho0, ho1, ho2, hb⟩
  refine ⟨_, rfl, ?_⟩
  have HO384 := Aside0.mk (Kd.R_lower (Kd.R_new' (Kd.R_new' (Kd.R_new' (Kd.R_new' (Kd.R_new' ho0 (Kd.R_lt q113t)) (Kd.R_lt q116t)) (Kd.R_lt q119t)) (Kd.R_lt q122t)) (Kd.R_lt q125t)) (below_size q25t))
  replace HO310 := Aside0.mk (Kd.R_elder' q113t (Kd.R_base ho0) hb)
  replace HO319 := Aside0.mk (Kd.R_elder' q116t (Kd.R_base ho0) hb)
  replace HO330 := Aside0.mk (Kd.R_elder' q119t (Kd.R_base ho0) hb)
  replace HO346 := Aside0.mk (Kd.R_elder' q122t (Kd.R_base ho0) hb)
  replace HO358 := Aside0.mk (Kd.R_elder' q125t (Kd.R_base ho0) hb)
  have HO387 := Aside0.mk (Kd.R_lower (Kd.R_new' (Kd.R_new' (Kd.R_new' (Kd.R_new' (Kd.R_new' (Kd.R_new' (Kd.R_new' (Kd.R_new' (Kd.R_new' (Kd.R_new' ho1 (Kd.R_lt q114t)) (Kd.R_lt q115t)) (Kd.R_lt q117t)) (Kd.R_lt q118t)) (Kd.R_lt q120t)) (Kd.R_lt q121t)) (Kd.R_lt q123t)) (Kd.R_lt q124t)) (Kd.R_lt q126t)) (Kd.R_lt q127t)) (below_size q25t))
  have HO390 := Aside0.mk (Kd.R_lower (Kd.R_new' (Kd.R_new' (Kd.R_new' (Kd.R_new' (Kd.R_new' (Kd.R_new' (Kd.R_new' (Kd.R_new' (Kd.R_new' (Kd.R_new' ho2 (Kd.R_lt q114t)) (Kd.R_lt q115t)) (Kd.R_lt q117t)) (Kd.R_lt q118t)) (Kd.R_lt q120t)) (Kd.R_lt q121t)) (Kd.R_lt q123t)) (Kd.R_lt q124t)) (Kd.R_lt q126t)) (Kd.R_lt q127t)) (below_size q25t))
  replace HO313 := Aside0.mk (Kd.R_mono (Kd.R_told (Kd.R_told (Kd.R_old q114t hb) (Kd.R_base ho1)) (Kd.R_base ho2)) (fun _ h_ => h_.1))
  replace HO316 := Aside0.mk (Kd.R_mono (Kd.R_told (Kd.R_told (Kd.R_old q115t hb) (Kd.R_base ho1)) (Kd.R_base ho2)) (fun _ h_ => h_.1))
  replace HO322 := Aside0.mk (Kd.R_mono (Kd.R_told (Kd.R_told (Kd.R_old q117t hb) (Kd.R_base ho1)) (Kd.R_base ho2)) (fun _ h_ => h_.1))
  replace HO325 := Aside0.mk (Kd.R_mono (Kd.R_told (Kd.R_told (Kd.R_old q118t hb) (Kd.R_base ho1)) (Kd.R_base ho2)) (fun _ h_ => h_.1))
  replace HO333 := Aside0.mk (Kd.R_mono (Kd.R_told (Kd.R_told (Kd.R_old q120t hb) (Kd.R_base ho1)) (Kd.R_base ho2)) (fun _ h_ => h_.1))
  replace HO336 := Aside0.mk (Kd.R_mono (Kd.R_told (Kd.R_told (Kd.R_old q121t hb) (Kd.R_base ho1)) (Kd.R_base ho2)) (fun _ h_ => h_.1))
  replace HO349 := Aside0.mk (Kd.R_mono (Kd.R_told (Kd.R_told (Kd.R_old q123t hb) (Kd.R_base ho1)) (Kd.R_base ho2)) (fun _ h_ => h_.1))
  replace HO352 := Aside0.mk (Kd.R_mono (Kd.R_told (Kd.R_told (Kd.R_old q124t hb) (Kd.R_base ho1)) (Kd.R_base ho2)) (fun _ h_ => h_.1))
  replace HO361 := Aside0.mk (Kd.R_mono (Kd.R_told (Kd.R_told (Kd.R_old q126t hb) (Kd.R_base ho1)) (Kd.R_base ho2)) (fun _ h_ => h_.1))
  replace HO364 := Aside0.mk (Kd.R_mono (Kd.R_told (Kd.R_told (Kd.R_old q127t hb) (Kd.R_base ho1)) (Kd.R_base ho2)) (fun _ h_ => h_.1))
  replace BK299 := blb BK299 hb
  replace BK300 := blb BK300 hb
  replace BK327 := blb BK327 hb
  replace BK337 := blb BK337 hb
  replace BK354 := blb BK354 hb
  replace BK401 := blb BK401 hb
  replace HB := Aside0.mk (below_step q25t hb)
  (try clear hb)
  (try clear hb2)
  (try clear hk)
  (try clear hi)
  (try clear ho0)
  (try clear ho1)
  (try clear ho2)
  obtain ⟨Ao111, co111, eo111⟩ := Kd.R_slice HO384.out
  (first | subst eo111 | (injection eo111 with f1_ f2_ f3_; have f4_ := f1_.symm; have f5_ := f3_.symm; clear f1_ f2_ f3_; subst f4_; subst f5_))
  obtain ⟨Ao112, co112, eo112⟩ := Kd.R_slice HO387.out
  (first | subst eo112 | (injection eo112 with f1_ f2_ f3_; have f4_ := f1_.symm; have f5_ := f3_.symm; clear f1_ f2_ f3_; subst f4_; subst f5_))
  obtain ⟨Ao113, co113, eo113⟩ := Kd.R_slice HO390.out
  (first | subst eo113 | (injection eo113 with f1_ f2_ f3_; have f4_ := f1_.symm; have f5_ := f3_.symm; clear f1_ f2_ f3_; subst f4_; subst f5_))
  refine hK.out _ _ q22t (fun hHeld => ?_)
  clear hK K
  refine norm_ (a' := ?_) ?_ ?_
  rotate_left
  ·show Act.put _ (some 91) _ = _
   simp only [Act.put, List.setIfInBounds_toArray, List.set_cons_zero, List.set_cons_succ, i64_w, i32_w]
   rfl
  refine one_ (i := 6) (N := some 94) (bm 13 1151) rfl rfl (one_of HT_.out (by kernel_rfl)) q144t (fun K hK => ?_)
  refine goes_ Try.func8 (by kernel_rfl) rfl #[.agg #[.int .i64 t376, .int .i64 t377, .int .i64 t378, .int .i64 t379, .int .i64 t380, .int .i64 t381], .agg #[.slice Ao111 t382.length co111, .slice Ao112 t385.length co112, .slice Ao113 t388.length co113], .int .i64 a2, .int .i64 a3] (by rfl) rfl rfl q97t ?_
  with_reducible refine (impl_WipeSome.calls k t376 t377 t378 t379 t380 t381 _ _ t382 _ _ t385 _ _ t388 a2 a3 t391 t394 t397 t400 _ ?side1 ?side2 ?side3 ?side4 ?side5 ?side6 A34.out).mono ?_
  (case side1 => repeat (first | exact (Kd.R_reads' HO384.out).2.2 | (with_reducible refine Kd.C_alloc ?_ _) | (with_reducible refine Kd.C_drewN ?_ _) | (with_reducible refine Kd.C_drew ?_)))
  (case side2 => exact (Kd.R_reads' HO384.out).2.1)
  (case side3 => repeat (first | exact (Kd.R_reads' HO387.out).2.2 | (with_reducible refine Kd.C_alloc ?_ _) | (with_reducible refine Kd.C_drewN ?_ _) | (with_reducible refine Kd.C_drew ?_)))
  (case side4 => exact (Kd.R_reads' HO387.out).2.1)
  (case side5 => repeat (first | exact (Kd.R_reads' HO390.out).2.2 | (with_reducible refine Kd.C_alloc ?_ _) | (with_reducible refine Kd.C_drewN ?_ _) | (with_reducible refine Kd.C_drew ?_)))
  (case side6 => exact (Kd.R_reads' HO390.out).2.1)
  rintro e w114 ⟨v392, v395, v398, rfl, ho0, ho1, ho2, hb⟩
  refine ⟨_, rfl, ?_⟩
  have HO393 := Aside0.mk (Kd.R_lower (Kd.R_new' (Kd.R_new' (Kd.R_new' (Kd.R_new' (Kd.R_new' (Kd.R_new' ho0 (Kd.R_lt q113t)) (Kd.R_lt q116t)) (Kd.R_lt q119t)) (Kd.R_lt q122t)) (Kd.R_lt q125t)) (Kd.R_lt q128t)) (below_size q25t))
  replace HO310 := Aside0.mk (Kd.R_elder' q113t (Kd.R_base ho0) hb)
  replace HO319 := Aside0.mk (Kd.R_elder' q116t (Kd.R_base ho0) hb)
  replace HO330 := Aside0.mk (Kd.R_elder' q119t (Kd.R_base ho0) hb)
  replace HO346 := Aside0.mk (Kd.R_elder' q122t (Kd.R_base ho0) hb)
  replace HO358 := Aside0.mk (Kd.R_elder' q125t (Kd.R_base ho0) hb)
  replace HO384 := Aside0.mk (Kd.R_elder' q128t (Kd.R_base ho0) hb)
  have HO396 := Aside0.mk (Kd.R_lower (Kd.R_new' (Kd.R_new' (Kd.R_new' (Kd.R_new' (Kd.R_new' (Kd.R_new' (Kd.R_new' (Kd.R_new' (Kd.R_new' (Kd.R_new' (Kd.R_new' (Kd.R_new' ho1 (Kd.R_lt q114t)) (Kd.R_lt q115t)) (Kd.R_lt q117t)) (Kd.R_lt q118t)) (Kd.R_lt q120t)) (Kd.R_lt q121t)) (Kd.R_lt q123t)) (Kd.R_lt q124t)) (Kd.R_lt q126t)) (Kd.R_lt q127t)) (Kd.R_lt q129t)) (Kd.R_lt q130t)) (below_size q25t))
  have HO399 := Aside0.mk (Kd.R_lower (Kd.R_new' (Kd.R_new' (Kd.R_new' (Kd.R_new' (Kd.R_new' (Kd.R_new' (Kd.R_new' (Kd.R_new' (Kd.R_new' (Kd.R_new' (Kd.R_new' (Kd.R_new' ho2 (Kd.R_lt q114t)) (Kd.R_lt q115t)) (Kd.R_lt q117t)) (Kd.R_lt q118t)) (Kd.R_lt q120t)) (Kd.R_lt q121t)) (Kd.R_lt q123t)) (Kd.R_lt q124t)) (Kd.R_lt q126t)) (Kd.R_lt q127t)) (Kd.R_lt q129t)) (Kd.R_lt q130t)) (below_size q25t))
  replace HO313 := Aside0.mk (Kd.R_mono (Kd.R_told (Kd.R_told (Kd.R_old q114t hb) (Kd.R_base ho1)) (Kd.R_base ho2)) (fun _ h_ => h_.1))
  replace HO316 := Aside0.mk (Kd.R_mono (Kd.R_told (Kd.R_told (Kd.R_old q115t hb) (Kd.R_base ho1)) (Kd.R_base ho2)) (fun _ h_ => h_.1))
  replace HO322 := Aside0.mk (Kd.R_mono (Kd.R_told (Kd.R_told (Kd.R_old q117t hb) (Kd.R_base ho1)) (Kd.R_base ho2)) (fun _ h_ => h_.1))
  replace HO325 := Aside0.mk (Kd.R_mono (Kd.R_told (Kd.R_told (Kd.R_old q118t hb) (Kd.R_base ho1)) (Kd.R_base ho2)) (fun _ h_ => h_.1))
  replace HO333 := Aside0.mk (Kd.R_mono (Kd.R_told (Kd.R_told (Kd.R_old q120t hb) (Kd.R_base ho1)) (Kd.R_base ho2)) (fun _ h_ => h_.1))
  replace HO336 := Aside0.mk (Kd.R_mono (Kd.R_told (Kd.R_told (Kd.R_old q121t hb) (Kd.R_base ho1)) (Kd.R_base ho2)) (fun _ h_ => h_.1))
  replace HO349 := Aside0.mk (Kd.R_mono (Kd.R_told (Kd.R_told (Kd.R_old q123t hb) (Kd.R_base ho1)) (Kd.R_base ho2)) (fun _ h_ => h_.1))
  replace HO352 := Aside0.mk (Kd.R_mono (Kd.R_told (Kd.R_told (Kd.R_old q124t hb) (Kd.R_base ho1)) (Kd.R_base ho2)) (fun _ h_ => h_.1))
  replace HO361 := Aside0.mk (Kd.R_mono (Kd.R_told (Kd.R_told (Kd.R_old q126t hb) (Kd.R_base ho1)) (Kd.R_base ho2)) (fun _ h_ => h_.1))
  replace HO364 := Aside0.mk (Kd.R_mono (Kd.R_told (Kd.R_told (Kd.R_old q127t hb) (Kd.R_base ho1)) (Kd.R_base ho2)) (fun _ h_ => h_.1))
  replace HO387 := Aside0.mk (Kd.R_mono (Kd.R_told (Kd.R_told (Kd.R_old q129t hb) (Kd.R_base ho1)) (Kd.R_base ho2)) (fun _ h_ => h_.1))
  replace HO390 := Aside0.mk (Kd.R_mono (Kd.R_told (Kd.R_told (Kd.R_old q130t hb) (Kd.R_base ho1)) (Kd.R_base ho2)) (fun _ h_ => h_.1))
  replace BK299 := blb BK299 hb
  replace BK300 := blb BK300 hb
  replace BK327 := blb BK327 hb
  replace BK337 := blb BK337 hb
  replace BK354 := blb BK354 hb
  replace BK401 := blb BK401 hb
  replace HB := Aside0.mk (below_step q25t hb)
  (try clear hb)
  (try clear hb2)
  (try clear hk)
  (try clear hi)
  (try clear ho0)
  (try clear ho1)
  (try clear ho2)
  refine hK.out _ _ q22t (fun hHeld => ?_)
  clear hK K
  refine norm_ (a' := ?_) ?_ ?_
  rotate_left
  ·show Act.put _ (some 94) _ = _
   simp only [Act.put, List.setIfInBounds_toArray, List.set_cons_zero, List.set_cons_succ, i64_w, i32_w]
   rfl
  refine pu_ 7 (some 87) (bm 13 1279) (any_of HT_.out (by kernel_rfl)) ?_
  refine pu_ 8 (some 95) (bm 13 1535) (any_of HT_.out (by kernel_rfl)) ?_
  refine pu_ 9 (some 96) (bm 13 2047) (any_of HT_.out (by kernel_rfl)) ?_
  exact norm_ q131t (hCont (.slice Ao111 t382.length co111, .slice Ao112 t385.length co112, .slice Ao113 t388.length co113, v392, v395, v398, gb401) _ ⟨hHeld, q47t, q6t, q7t, q48t, q8t, q9t, q49t, q10t, q11t, q50t, q12t, q13t, q51t, q14t, q15t, q45t, q16t, q17t, q46t, q18t, q19t, (qbk BK299), (qbk BK300), (qbk BK327), (qbk BK337), (qbk BK354), (qbk BK401), GW401.out, GE401.out, NB299_401.out, NB401_299.out, NB300_401.out, NB401_300.out, NB327_401.out, NB401_327.out, NB337_401.out, NB401_337.out, NB354_401.out, NB401_354.out, q25t⟩)
 rintro ⟨v383, v386, v389, v392, v395, v398, gb401⟩ w115 ⟨hS_, h0_, h1_, h2_, h3_, h4_, h5_, h6_, h7_, h8_, h9_, h10_, h11_, h12_, h13_, h14_, h15_, h16_, h17_, h18_, h19_, h20_, h21_, h22_, h23_, h24_, h25_, h26_, h27_, h28_, h29_, h30_, h31_, h32_, h33_, h34_, h35_, h36_, h37_, h38_, h39_⟩
 have n0_ : Aside0 (Kd.R (Kd.int .u8) 5 w115 w.heap.size (fun k_ => some k_ ≠ (.slice Ao55 t317.length co55 : Value).ownBlock ∧ some k_ ≠ (.slice Ao65 t328.length co65 : Value).ownBlock ∧ some k_ ≠ (.slice Ao78 t344.length co78 : Value).ownBlock ∧ some k_ ≠ (.slice Ao94 t356.length co94 : Value).ownBlock ∧ some k_ ≠ (v383 : Value).ownBlock ∧ some k_ ≠ (v392 : Value).ownBlock) v309 t308) := ⟨h0_⟩
 have n1_ : Aside0 (Kd.R (Kd.int .i64) 3 w115 w.heap.size (fun k_ => some k_ ≠ (v315 : Value).ownBlock ∧ some k_ ≠ (.slice Ao57 t320.length co57 : Value).ownBlock ∧ some k_ ≠ (.slice Ao59 t323.length co59 : Value).ownBlock ∧ some k_ ≠ (.slice Ao70 t331.length co70 : Value).ownBlock ∧ some k_ ≠ (.slice Ao71 t334.length co71 : Value).ownBlock ∧ some k_ ≠ (.slice Ao80 t347.length co80 : Value).ownBlock ∧ some k_ ≠ (.slice Ao82 t350.length co82 : Value).ownBlock ∧ some k_ ≠ (.slice Ao95 t359.length co95 : Value).ownBlock ∧ some k_ ≠ (.slice Ao96 t362.length co96 : Value).ownBlock ∧ some k_ ≠ (v386 : Value).ownBlock ∧ some k_ ≠ (v389 : Value).ownBlock ∧ some k_ ≠ (v395 : Value).ownBlock ∧ some k_ ≠ (v398 : Value).ownBlock) v312 t311) := ⟨h1_⟩
 have n2_ : Aside0 (Kd.R (Kd.int .i64) 3 w115 w.heap.size (fun k_ => some k_ ≠ (v312 : Value).ownBlock ∧ some k_ ≠ (.slice Ao57 t320.length co57 : Value).ownBlock ∧ some k_ ≠ (.slice Ao59 t323.length co59 : Value).ownBlock ∧ some k_ ≠ (.slice Ao70 t331.length co70 : Value).ownBlock ∧ some k_ ≠ (.slice Ao71 t334.length co71 : Value).ownBlock ∧ some k_ ≠ (.slice Ao80 t347.length co80 : Value).ownBlock ∧ some k_ ≠ (.slice Ao82 t350.length co82 : Value).ownBlock ∧ some k_ ≠ (.slice Ao95 t359.length co95 : Value).ownBlock ∧ some k_ ≠ (.slice Ao96 t362.length co96 : Value).ownBlock ∧ some k_ ≠ (v386 : Value).ownBlock ∧ some k_ ≠ (v389 : Value).ownBlock ∧ some k_ ≠ (v395 : Value).ownBlock ∧ some k_ ≠ (v398 : Value).ownBlock) v315 t314) := ⟨h2_⟩
 have n3_ : Aside0 (Kd.R (Kd.int .u8) 5 w115 w.heap.size (fun k_ => some k_ ≠ (v309 : Value).ownBlock ∧ some k_ ≠ (.slice Ao65 t328.length co65 : Value).ownBlock ∧ some k_ ≠ (.slice Ao78 t344.length co78 : Value).ownBlock ∧ some k_ ≠ (.slice Ao94 t356.length co94 : Value).ownBlock ∧ some k_ ≠ (v383 : Value).ownBlock ∧ some k_ ≠ (v392 : Value).ownBlock) (.slice Ao55 t317.length co55) t317) := ⟨h3_⟩
 have n4_ : Aside0 (Kd.R (Kd.int .i64) 3 w115 w.heap.size (fun k_ => some k_ ≠ (v312 : Value).ownBlock ∧ some k_ ≠ (v315 : Value).ownBlock ∧ some k_ ≠ (.slice Ao59 t323.length co59 : Value).ownBlock ∧ some k_ ≠ (.slice Ao70 t331.length co70 : Value).ownBlock ∧ some k_ ≠ (.slice Ao71 t334.length co71 : Value).ownBlock ∧ some k_ ≠ (.slice Ao80 t347.length co80 : Value).ownBlock ∧ some k_ ≠ (.slice Ao82 t350.length co82 : Value).ownBlock ∧ some k_ ≠ (.slice Ao95 t359.length co95 : Value).ownBlock ∧ some k_ ≠ (.slice Ao96 t362.length co96 : Value).ownBlock ∧ some k_ ≠ (v386 : Value).ownBlock ∧ some k_ ≠ (v389 : Value).ownBlock ∧ some k_ ≠ (v395 : Value).ownBlock ∧ some k_ ≠ (v398 : Value).ownBlock) (.slice Ao57 t320.length co57) t320) := ⟨h4_⟩
 have n5_ : Aside0 (Kd.R (Kd.int .i64) 3 w115 w.heap.size (fun k_ => some k_ ≠ (v312 : Value).ownBlock ∧ some k_ ≠ (v315 : Value).ownBlock ∧ some k_ ≠ (.slice Ao57 t320.length co57 : Value).ownBlock ∧ some k_ ≠ (.slice Ao70 t331.length co70 : Value).ownBlock ∧ some k_ ≠ (.slice Ao71 t334.length co71 : Value).ownBlock ∧ some k_ ≠ (.slice Ao80 t347.length co80 : Value).ownBlock ∧ some k_ ≠ (.slice Ao82 t350.length co82 : Value).ownBlock ∧ some k_ ≠ (.slice Ao95 t359.length co95 : Value).ownBlock ∧ some k_ ≠ (.slice Ao96 t362.length co96 : Value).ownBlock ∧ some k_ ≠ (v386 : Value).ownBlock ∧ some k_ ≠ (v389 : Value).ownBlock ∧ some k_ ≠ (v395 : Value).ownBlock ∧ some k_ ≠ (v398 : Value).ownBlock) (.slice Ao59 t323.length co59) t323) := ⟨h5_⟩
 have n6_ : Aside0 (Kd.R (Kd.int .u8) 5 w115 w.heap.size (fun k_ => some k_ ≠ (v309 : Value).ownBlock ∧ some k_ ≠ (.slice Ao55 t317.length co55 : Value).ownBlock ∧ some k_ ≠ (.slice Ao78 t344.length co78 : Value).ownBlock ∧ some k_ ≠ (.slice Ao94 t356.length co94 : Value).ownBlock ∧ some k_ ≠ (v383 : Value).ownBlock ∧ some k_ ≠ (v392 : Value).ownBlock) (.slice Ao65 t328.length co65) t367) := ⟨h6_⟩
 have n7_ : Aside0 (Kd.R (Kd.int .i64) 3 w115 w.heap.size (fun k_ => some k_ ≠ (v312 : Value).ownBlock ∧ some k_ ≠ (v315 : Value).ownBlock ∧ some k_ ≠ (.slice Ao57 t320.length co57 : Value).ownBlock ∧ some k_ ≠ (.slice Ao59 t323.length co59 : Value).ownBlock ∧ some k_ ≠ (.slice Ao71 t334.length co71 : Value).ownBlock ∧ some k_ ≠ (.slice Ao80 t347.length co80 : Value).ownBlock ∧ some k_ ≠ (.slice Ao82 t350.length co82 : Value).ownBlock ∧ some k_ ≠ (.slice Ao95 t359.length co95 : Value).ownBlock ∧ some k_ ≠ (.slice Ao96 t362.length co96 : Value).ownBlock ∧ some k_ ≠ (v386 : Value).ownBlock ∧ some k_ ≠ (v389 : Value).ownBlock ∧ some k_ ≠ (v395 : Value).ownBlock ∧ some k_ ≠ (v398 : Value).ownBlock) (.slice Ao70 t331.length co70) t368) := ⟨h7_⟩
 have n8_ : Aside0 (Kd.R (Kd.int .i64) 3 w115 w.heap.size (fun k_ => some k_ ≠ (v312 : Value).ownBlock ∧ some k_ ≠ (v315 : Value).ownBlock ∧ some k_ ≠ (.slice Ao57 t320.length co57 : Value).ownBlock ∧ some k_ ≠ (.slice Ao59 t323.length co59 : Value).ownBlock ∧ some k_ ≠ (.slice Ao70 t331.length co70 : Value).ownBlock ∧ some k_ ≠ (.slice Ao80 t347.length co80 : Value).ownBlock ∧ some k_ ≠ (.slice Ao82 t350.length co82 : Value).ownBlock ∧ some k_ ≠ (.slice Ao95 t359.length co95 : Value).ownBlock ∧ some k_ ≠ (.slice Ao96 t362.length co96 : Value).ownBlock ∧ some k_ ≠ (v386 : Value).ownBlock ∧ some k_ ≠ (v389 : Value).ownBlock ∧ some k_ ≠ (v395 : Value).ownBlock ∧ some k_ ≠ (v398 : Value).ownBlock) (.slice Ao71 t334.length co71) t369) := ⟨h8_⟩
 have n9_ : Aside0 (Kd.R (Kd.int .u8) 5 w115 w.heap.size (fun k_ => some k_ ≠ (v309 : Value).ownBlock ∧ some k_ ≠ (.slice Ao55 t317.length co55 : Value).ownBlock ∧ some k_ ≠ (.slice Ao65 t328.length co65 : Value).ownBlock ∧ some k_ ≠ (.slice Ao94 t356.length co94 : Value).ownBlock ∧ some k_ ≠ (v383 : Value).ownBlock ∧ some k_ ≠ (v392 : Value).ownBlock) (.slice Ao78 t344.length co78) t372) := ⟨h9_⟩
 have n10_ : Aside0 (Kd.R (Kd.int .i64) 3 w115 w.heap.size (fun k_ => some k_ ≠ (v312 : Value).ownBlock ∧ some k_ ≠ (v315 : Value).ownBlock ∧ some k_ ≠ (.slice Ao57 t320.length co57 : Value).ownBlock ∧ some k_ ≠ (.slice Ao59 t323.length co59 : Value).ownBlock ∧ some k_ ≠ (.slice Ao70 t331.length co70 : Value).ownBlock ∧ some k_ ≠ (.slice Ao71 t334.length co71 : Value).ownBlock ∧ some k_ ≠ (.slice Ao82 t350.length co82 : Value).ownBlock ∧ some k_ ≠ (.slice Ao95 t359.length co95 : Value).ownBlock ∧ some k_ ≠ (.slice Ao96 t362.length co96 : Value).ownBlock ∧ some k_ ≠ (v386 : Value).ownBlock ∧ some k_ ≠ (v389 : Value).ownBlock ∧ some k_ ≠ (v395 : Value).ownBlock ∧ some k_ ≠ (v398 : Value).ownBlock) (.slice Ao80 t347.length co80) t373) := ⟨h10_⟩
 have n11_ : Aside0 (Kd.R (Kd.int .i64) 3 w115 w.heap.size (fun k_ => some k_ ≠ (v312 : Value).ownBlock ∧ some k_ ≠ (v315 : Value).ownBlock ∧ some k_ ≠ (.slice Ao57 t320.length co57 : Value).ownBlock ∧ some k_ ≠ (.slice Ao59 t323.length co59 : Value).ownBlock ∧ some k_ ≠ (.slice Ao70 t331.length co70 : Value).ownBlock ∧ some k_ ≠ (.slice Ao71 t334.length co71 : Value).ownBlock ∧ some k_ ≠ (.slice Ao80 t347.length co80 : Value).ownBlock ∧ some k_ ≠ (.slice Ao95 t359.length co95 : Value).ownBlock ∧ some k_ ≠ (.slice Ao96 t362.length co96 : Value).ownBlock ∧ some k_ ≠ (v386 : Value).ownBlock ∧ some k_ ≠ (v389 : Value).ownBlock ∧ some k_ ≠ (v395 : Value).ownBlock ∧ some k_ ≠ (v398 : Value).ownBlock) (.slice Ao82 t350.length co82) t374) := ⟨h11_⟩
 have n12_ : Aside0 (Kd.R (Kd.int .u8) 5 w115 w.heap.size (fun k_ => some k_ ≠ (v309 : Value).ownBlock ∧ some k_ ≠ (.slice Ao55 t317.length co55 : Value).ownBlock ∧ some k_ ≠ (.slice Ao65 t328.length co65 : Value).ownBlock ∧ some k_ ≠ (.slice Ao78 t344.length co78 : Value).ownBlock ∧ some k_ ≠ (v383 : Value).ownBlock ∧ some k_ ≠ (v392 : Value).ownBlock) (.slice Ao94 t356.length co94) t356) := ⟨h12_⟩
 have n13_ : Aside0 (Kd.R (Kd.int .i64) 3 w115 w.heap.size (fun k_ => some k_ ≠ (v312 : Value).ownBlock ∧ some k_ ≠ (v315 : Value).ownBlock ∧ some k_ ≠ (.slice Ao57 t320.length co57 : Value).ownBlock ∧ some k_ ≠ (.slice Ao59 t323.length co59 : Value).ownBlock ∧ some k_ ≠ (.slice Ao70 t331.length co70 : Value).ownBlock ∧ some k_ ≠ (.slice Ao71 t334.length co71 : Value).ownBlock ∧ some k_ ≠ (.slice Ao80 t347.length co80 : Value).ownBlock ∧ some k_ ≠ (.slice Ao82 t350.length co82 : Value).ownBlock ∧ some k_ ≠ (.slice Ao96 t362.length co96 : Value).ownBlock ∧ some k_ ≠ (v386 : Value).ownBlock ∧ some k_ ≠ (v389 : Value).ownBlock ∧ some k_ ≠ (v395 : Value).ownBlock ∧ some k_ ≠ (v398 : Value).ownBlock) (.slice Ao95 t359.length co95) t359) := ⟨h13_⟩
 have n14_ : Aside0 (Kd.R (Kd.int .i64) 3 w115 w.heap.size (fun k_ => some k_ ≠ (v312 : Value).ownBlock ∧ some k_ ≠ (v315 : Value).ownBlock ∧ some k_ ≠ (.slice Ao57 t320.length co57 : Value).ownBlock ∧ some k_ ≠ (.slice Ao59 t323.length co59 : Value).ownBlock ∧ some k_ ≠ (.slice Ao70 t331.length co70 : Value).ownBlock ∧ some k_ ≠ (.slice Ao71 t334.length co71 : Value).ownBlock ∧ some k_ ≠ (.slice Ao80 t347.length co80 : Value).ownBlock ∧ some k_ ≠ (.slice Ao82 t350.length co82 : Value).ownBlock ∧ some k_ ≠ (.slice Ao95 t359.length co95 : Value).ownBlock ∧ some k_ ≠ (v386 : Value).ownBlock ∧ some k_ ≠ (v389 : Value).ownBlock ∧ some k_ ≠ (v395 : Value).ownBlock ∧ some k_ ≠ (v398 : Value).ownBlock) (.slice Ao96 t362.length co96) t362) := ⟨h14_⟩
 have n15_ : Aside0 (Kd.R (Kd.int .u8) 5 w115 w.heap.size (fun k_ => some k_ ≠ (v309 : Value).ownBlock ∧ some k_ ≠ (.slice Ao55 t317.length co55 : Value).ownBlock ∧ some k_ ≠ (.slice Ao65 t328.length co65 : Value).ownBlock ∧ some k_ ≠ (.slice Ao78 t344.length co78 : Value).ownBlock ∧ some k_ ≠ (.slice Ao94 t356.length co94 : Value).ownBlock ∧ some k_ ≠ (v392 : Value).ownBlock) v383 t382) := ⟨h15_⟩
 have n16_ : Aside0 (Kd.R (Kd.int .i64) 3 w115 w.heap.size (fun k_ => some k_ ≠ (v312 : Value).ownBlock ∧ some k_ ≠ (v315 : Value).ownBlock ∧ some k_ ≠ (.slice Ao57 t320.length co57 : Value).ownBlock ∧ some k_ ≠ (.slice Ao59 t323.length co59 : Value).ownBlock ∧ some k_ ≠ (.slice Ao70 t331.length co70 : Value).ownBlock ∧ some k_ ≠ (.slice Ao71 t334.length co71 : Value).ownBlock ∧ some k_ ≠ (.slice Ao80 t347.length co80 : Value).ownBlock ∧ some k_ ≠ (.slice Ao82 t350.length co82 : Value).ownBlock ∧ some k_ ≠ (.slice Ao95 t359.length co95 : Value).ownBlock ∧ some k_ ≠ (.slice Ao96 t362.length co96 : Value).ownBlock ∧ some k_ ≠ (v389 : Value).ownBlock ∧ some k_ ≠ (v395 : Value).ownBlock ∧ some k_ ≠ (v398 : Value).ownBlock) v386 t385) := ⟨h16_⟩
 have n17_ : Aside0 (Kd.R (Kd.int .i64) 3 w115 w.heap.size (fun k_ => some k_ ≠ (v312 : Value).ownBlock ∧ some k_ ≠ (v315 : Value).ownBlock ∧ some k_ ≠ (.slice Ao57 t320.length co57 : Value).ownBlock ∧ some k_ ≠ (.slice Ao59 t323.length co59 : Value).ownBlock ∧ some k_ ≠ (.slice Ao70 t331.length co70 : Value).ownBlock ∧ some k_ ≠ (.slice Ao71 t334.length co71 : Value).ownBlock ∧ some k_ ≠ (.slice Ao80 t347.length co80 : Value).ownBlock ∧ some k_ ≠ (.slice Ao82 t350.length co82 : Value).ownBlock ∧ some k_ ≠ (.slice Ao95 t359.length co95 : Value).ownBlock ∧ some k_ ≠ (.slice Ao96 t362.length co96 : Value).ownBlock ∧ some k_ ≠ (v386 : Value).ownBlock ∧ some k_ ≠ (v395 : Value).ownBlock ∧ some k_ ≠ (v398 : Value).ownBlock) v389 t388) := ⟨h17_⟩
 have n18_ : Aside0 (Kd.R (Kd.int .u8) 5 w115 w.heap.size (fun k_ => some k_ ≠ (v309 : Value).ownBlock ∧ some k_ ≠ (.slice Ao55 t317.length co55 : Value).ownBlock ∧ some k_ ≠ (.slice Ao65 t328.length co65 : Value).ownBlock ∧ some k_ ≠ (.slice Ao78 t344.length co78 : Value).ownBlock ∧ some k_ ≠ (.slice Ao94 t356.length co94 : Value).ownBlock ∧ some k_ ≠ (v383 : Value).ownBlock) v392 t391) := ⟨h18_⟩
 have n19_ : Aside0 (Kd.R (Kd.int .i64) 3 w115 w.heap.size (fun k_ => some k_ ≠ (v312 : Value).ownBlock ∧ some k_ ≠ (v315 : Value).ownBlock ∧ some k_ ≠ (.slice Ao57 t320.length co57 : Value).ownBlock ∧ some k_ ≠ (.slice Ao59 t323.length co59 : Value).ownBlock ∧ some k_ ≠ (.slice Ao70 t331.length co70 : Value).ownBlock ∧ some k_ ≠ (.slice Ao71 t334.length co71 : Value).ownBlock ∧ some k_ ≠ (.slice Ao80 t347.length co80 : Value).ownBlock ∧ some k_ ≠ (.slice Ao82 t350.length co82 : Value).ownBlock ∧ some k_ ≠ (.slice Ao95 t359.length co95 : Value).ownBlock ∧ some k_ ≠ (.slice Ao96 t362.length co96 : Value).ownBlock ∧ some k_ ≠ (v386 : Value).ownBlock ∧ some k_ ≠ (v389 : Value).ownBlock ∧ some k_ ≠ (v398 : Value).ownBlock) v395 t394) := ⟨h19_⟩
 have n20_ : Aside0 (Kd.R (Kd.int .i64) 3 w115 w.heap.size (fun k_ => some k_ ≠ (v312 : Value).ownBlock ∧ some k_ ≠ (v315 : Value).ownBlock ∧ some k_ ≠ (.slice Ao57 t320.length co57 : Value).ownBlock ∧ some k_ ≠ (.slice Ao59 t323.length co59 : Value).ownBlock ∧ some k_ ≠ (.slice Ao70 t331.length co70 : Value).ownBlock ∧ some k_ ≠ (.slice Ao71 t334.length co71 : Value).ownBlock ∧ some k_ ≠ (.slice Ao80 t347.length co80 : Value).ownBlock ∧ some k_ ≠ (.slice Ao82 t350.length co82 : Value).ownBlock ∧ some k_ ≠ (.slice Ao95 t359.length co95 : Value).ownBlock ∧ some k_ ≠ (.slice Ao96 t362.length co96 : Value).ownBlock ∧ some k_ ≠ (v386 : Value).ownBlock ∧ some k_ ≠ (v389 : Value).ownBlock ∧ some k_ ≠ (v395 : Value).ownBlock) v398 t397) := ⟨h20_⟩
 have n21_ : Aside0 (w115.heap[gb299]? = some (.cells #[.int .i64 a0_0, .int .i64 a0_1, .int .i64 a0_2, .int .i64 a0_3, .int .i64 a0_4, .int .i64 a0_5] 23 (0, 0))) := ⟨h21_⟩
 have n22_ : Aside0 (w115.heap[gb300]? = some (.cells #[.slice A1_0 l1_0.length c1_0, .slice A1_1 l1_1.length c1_1, .slice A1_2 l1_2.length c1_2] 27 (0, 0))) := ⟨h22_⟩
 have n23_ : Aside0 (w115.heap[gb327]? = some (.cells #[.slice Ao55 t317.length co55, .slice Ao57 t320.length co57, .slice Ao59 t323.length co59] 29 (0, 0))) := ⟨h23_⟩
 have n24_ : Aside0 (w115.heap[gb337]? = some (.cells #[.slice Ao65 t328.length co65, .slice Ao70 t331.length co70, .slice Ao71 t334.length co71] 29 (0, 0))) := ⟨h24_⟩
 have n25_ : Aside0 (w115.heap[gb354]? = some (.cells #[.slice Ao78 t344.length co78, .slice Ao80 t347.length co80, .slice Ao82 t350.length co82] 29 (0, 0))) := ⟨h25_⟩
 have n26_ : Aside0 (w115.heap[gb401]? = some (.cells #[.slice none 0 0, .slice none 0 0, .slice none 0 0] 29 (0, 0))) := ⟨h26_⟩
 have n27_ : Aside0 (w.heap.size ≤ gb401) := ⟨h27_⟩
 have n28_ : Aside0 (w.heap.size ≤ gb401) := ⟨h28_⟩
 have n29_ : Aside0 (gb299 ≠ gb401) := ⟨h29_⟩
 have n30_ : Aside0 (gb401 ≠ gb299) := ⟨h30_⟩
 have n31_ : Aside0 (gb300 ≠ gb401) := ⟨h31_⟩
 have n32_ : Aside0 (gb401 ≠ gb300) := ⟨h32_⟩
 have n33_ : Aside0 (gb327 ≠ gb401) := ⟨h33_⟩
 have n34_ : Aside0 (gb401 ≠ gb327) := ⟨h34_⟩
 have n35_ : Aside0 (gb337 ≠ gb401) := ⟨h35_⟩
 have n36_ : Aside0 (gb401 ≠ gb337) := ⟨h36_⟩
 have n37_ : Aside0 (gb354 ≠ gb401) := ⟨h37_⟩
 have n38_ : Aside0 (gb401 ≠ gb354) := ⟨h38_⟩
 have n39_ : Aside0 (Below w.heap.size w w115) := ⟨h39_⟩
 clear HO310
 clear HO313
 clear HO316
 clear HO319
 clear HO322
 clear HO325
 clear HO330
 clear HO333
 clear HO336
 clear HO346
 clear HO349
 clear HO352
 clear HO358
 clear HO361
 clear HO364
 clear BK299
 clear BK300
 clear BK327
 clear BK337
 clear BK354
 clear HB
 clear h0_ h1_ h2_ h3_ h4_ h5_ h6_ h7_ h8_ h9_ h10_ h11_ h12_ h13_ h14_ h15_ h16_ h17_ h18_ h19_ h20_ h21_ h22_ h23_ h24_ h25_ h26_ h27_ h28_ h29_ h30_ h31_ h32_ h33_ h34_ h35_ h36_ h37_ h38_ h39_
 have HO310 := n0_
 have HO313 := n1_
 have HO316 := n2_
 have HO319 := n3_
 have HO322 := n4_
 have HO325 := n5_
 have HO330 := n6_
 have HO333 := n7_
 have HO336 := n8_
 have HO346 := n9_
 have HO349 := n10_
 have HO352 := n11_
 have HO358 := n12_
 have HO361 := n13_
 have HO364 := n14_
 have HO384 := n15_
 have HO387 := n16_
 have HO390 := n17_
 have HO393 := n18_
 have HO396 := n19_
 have HO399 := n20_
 have BK299 := n21_
 have BK300 := n22_
 have BK327 := n23_
 have BK337 := n24_
 have BK354 := n25_
 have BK401 := n26_
 have GW401 := n27_
 have GE401 := n28_
 have NB299_401 := n29_
 have NB401_299 := n30_
 have NB300_401 := n31_
 have NB401_300 := n32_
 have NB327_401 := n33_
 have NB401_327 := n34_
 have NB337_401 := n35_
 have NB401_337 := n36_
 have NB354_401 := n37_
 have NB401_354 := n38_
 have HB := n39_
 clear n0_ n1_ n2_ n3_ n4_ n5_ n6_ n7_ n8_ n9_ n10_ n11_ n12_ n13_ n14_ n15_ n16_ n17_ n18_ n19_ n20_ n21_ n22_ n23_ n24_ n25_ n26_ n27_ n28_ n29_ n30_ n31_ n32_ n33_ n34_ n35_ n36_ n37_ n38_ n39_
 have hHeld : w115.cell? ⟨gb299, 0, none⟩ = some (.int .i64 a0_0) ∧ w115.cell? ⟨gb299, 1, none⟩ = some (.int .i64 a0_1) ∧ w115.cell? ⟨gb299, 2, none⟩ = some (.int .i64 a0_2) ∧ w115.cell? ⟨gb299, 3, none⟩ = some (.int .i64 a0_3) ∧ w115.cell? ⟨gb299, 4, none⟩ = some (.int .i64 a0_4) ∧ w115.cell? ⟨gb299, 5, none⟩ = some (.int .i64 a0_5) ∧ w115.cell? ⟨gb300, 0, none⟩ = some (.slice A1_0 l1_0.length c1_0) ∧ w115.cell? ⟨gb300, 1, none⟩ = some (.slice A1_1 l1_1.length c1_1) ∧ w115.cell? ⟨gb300, 2, none⟩ = some (.slice A1_2 l1_2.length c1_2) := hS_
 obtain ⟨Ao116, co116, eo116⟩ := Kd.R_slice HO393.out
 (first | subst eo116 | (injection eo116 with f1_ f2_ f3_; have f4_ := f1_.symm; have f5_ := f3_.symm; clear f1_ f2_ f3_; subst f4_; subst f5_))
 obtain ⟨Ao118, co118, eo118⟩ := Kd.R_slice HO396.out
 (first | subst eo118 | (injection eo118 with f1_ f2_ f3_; have f4_ := f1_.symm; have f5_ := f3_.symm; clear f1_ f2_ f3_; subst f4_; subst f5_))
 obtain ⟨Ao120, co120, eo120⟩ := Kd.R_slice HO399.out
 (first | subst eo120 | (injection eo120 with f1_ f2_ f3_; have f4_ := f1_.symm; have f5_ := f3_.symm; clear f1_ f2_ f3_; subst f4_; subst f5_))
 refine norm_ (a' := ?_) ?_ ?_
 rotate_left
 ·simp only [putAll, Act.put, List.setIfInBounds_toArray, List.set_cons_zero, List.set_cons_succ]
  rfl
 refine one_ (i := 11) (N := none) (bm 13 4095) rfl rfl (one_of HT_.out (by kernel_rfl)) q144t (fun K hK => ?_)
 have hs117 : w115.cell? ⟨gb401, 0, none⟩ = some (.slice none 0 0) := (blk_cell BK401.out 0).trans rfl
 have hfs117 := blk_frozen BK401.out 0
 have hns117_0 := NB299_401.out
 have hns117_1 := NB300_401.out
 have hns117_2 := NB327_401.out
 have hns117_3 := NB337_401.out
 have hns117_4 := NB354_401.out
 have hms117_0 := NB401_299.out
 have hms117_1 := NB401_300.out
 have hms117_2 := NB401_327.out
 have hms117_3 := NB401_337.out
 have hms117_4 := NB401_354.out
 have hs119 : w115.cell? ⟨gb401, 1, none⟩ = some (.slice none 0 0) := (blk_cell BK401.out 1).trans rfl
 have hfs119 := blk_frozen BK401.out 1
 have hns119_0 := NB299_401.out
 have hns119_1 := NB300_401.out
 have hns119_2 := NB327_401.out
 have hns119_3 := NB337_401.out
 have hns119_4 := NB354_401.out
 have hms119_0 := NB401_299.out
 have hms119_1 := NB401_300.out
 have hms119_2 := NB401_327.out
 have hms119_3 := NB401_337.out
 have hms119_4 := NB401_354.out
 have hs121 : w115.cell? ⟨gb401, 2, none⟩ = some (.slice none 0 0) := (blk_cell BK401.out 2).trans rfl
 have hfs121 := blk_frozen BK401.out 2
 have hns121_0 := NB299_401.out
 have hns121_1 := NB300_401.out
 have hns121_2 := NB327_401.out
 have hns121_3 := NB337_401.out
 have hns121_4 := NB354_401.out
 have hms121_0 := NB401_299.out
 have hms121_1 := NB401_300.out
 have hms121_2 := NB401_327.out
 have hms121_3 := NB401_337.out
 have hms121_4 := NB401_354.out
 refine skip_ (w1 := ?_) (by rfl) rfl ?_ ?_
 rotate_left
 ·go_simp
  rfl
 refine hK.out _ _ (by first | exact ⟨((cell_far (p := ⟨gb401, _, none⟩) NB299_401.out _).trans (((cell_far (p := ⟨gb401, _, none⟩) NB299_401.out _).trans (((cell_far (p := ⟨gb401, _, none⟩) NB299_401.out _).trans (hHeld.1)))))), ((cell_far (p := ⟨gb401, _, none⟩) NB299_401.out _).trans (((cell_far (p := ⟨gb401, _, none⟩) NB299_401.out _).trans (((cell_far (p := ⟨gb401, _, none⟩) NB299_401.out _).trans (hHeld.2.1)))))), ((cell_far (p := ⟨gb401, _, none⟩) NB299_401.out _).trans (((cell_far (p := ⟨gb401, _, none⟩) NB299_401.out _).trans (((cell_far (p := ⟨gb401, _, none⟩) NB299_401.out _).trans (hHeld.2.2.1)))))), ((cell_far (p := ⟨gb401, _, none⟩) NB299_401.out _).trans (((cell_far (p := ⟨gb401, _, none⟩) NB299_401.out _).trans (((cell_far (p := ⟨gb401, _, none⟩) NB299_401.out _).trans (hHeld.2.2.2.1)))))), ((cell_far (p := ⟨gb401, _, none⟩) NB299_401.out _).trans (((cell_far (p := ⟨gb401, _, none⟩) NB299_401.out _).trans (((cell_far (p := ⟨gb401, _, none⟩) NB299_401.out _).trans (hHeld.2.2.2.2.1)))))), ((cell_far (p := ⟨gb401, _, none⟩) NB299_401.out _).trans (((cell_far (p := ⟨gb401, _, none⟩) NB299_401.out _).trans (((cell_far (p := ⟨gb401, _, none⟩) NB299_401.out _).trans (hHeld.2.2.2.2.2.1)))))), ((cell_far (p := ⟨gb401, _, none⟩) NB300_401.out _).trans (((cell_far (p := ⟨gb401, _, none⟩) NB300_401.out _).trans (((cell_far (p := ⟨gb401, _, none⟩) NB300_401.out _).trans (hHeld.2.2.2.2.2.2.1)))))), ((cell_far (p := ⟨gb401, _, none⟩) NB300_401.out _).trans (((cell_far (p := ⟨gb401, _, none⟩) NB300_401.out _).trans (((cell_far (p := ⟨gb401, _, none⟩) NB300_401.out _).trans (hHeld.2.2.2.2.2.2.2.1)))))), ((cell_far (p := ⟨gb401, _, none⟩) NB300_401.out _).trans (((cell_far (p := ⟨gb401, _, none⟩) NB300_401.out _).trans (((cell_far (p := ⟨gb401, _, none⟩) NB300_401.out _).trans (hHeld.2.2.2.2.2.2.2.2))))))⟩ | exact hHeld) (fun hHeld => ?_)
 clear hK K
 refine pu_ 12 (some 19) (bm 13 8191) (any_of HT_.out (by kernel_rfl)) ?_
 refine done_ (done_of HT_.out (by kernel_rfl)) ?_
 have hnb122 := NB401_299.out
 have hnc122 := NB299_401.out
 have hnb123 := NB401_300.out
 have hnc123 := NB300_401.out
 have hnb124 := NB401_327.out
 have hnc124 := NB327_401.out
 have hnb125 := NB401_337.out
 have hnc125 := NB337_401.out
 have hnb126 := NB401_354.out
 have hnc126 := NB354_401.out
 obtain ⟨hcz127_0, hcz127_1, hcz127_2⟩ := qc3 BK401.out
 obtain ⟨hfz127_0, hfz127_1, hfz127_2⟩ := qf3 BK401.out
 obtain ⟨hcz128_0, hcz128_1, hcz128_2⟩ := qc3 BK327.out
 obtain ⟨hfz128_0, hfz128_1, hfz128_2⟩ := qf3 BK327.out
 try go_wp2_with (first | ((with_reducible refine gate_callee (f := 9) rfl ?_); refine goesL_ (some 99) rfl rfl Try.func9 (by kernel_rfl) rfl #[.agg #[.slice Ao116 t391.length co116, .slice Ao118 t394.length co118, .slice Ao120 t397.length co120], .agg #[.slice Ao55 t317.length co55, .slice Ao57 t320.length co57, .slice Ao59 t323.length co59]] rfl q97t ?_; (with_reducible refine (laws_eqPool.calls k _ _ t391 _ _ t394 _ _ t397 _ _ t317 _ _ t320 _ _ t323 true _ ?side1 ?side2 ?side3 ?side4 ?side5 ?side6 ?side7 ?side8 ?side9 ?side10 ?side11 ?side12 A35.out).mono ?_); (case side1 => refine (Kd.R_reads' (e := 5) (base := w.heap.size) (ok := fun k_ => (some k_ ≠ (v309 : Value).ownBlock ∧ (some k_ ≠ (.slice Ao55 t317.length co55 : Value).ownBlock ∧ (some k_ ≠ (.slice Ao65 t328.length co65 : Value).ownBlock ∧ (some k_ ≠ (.slice Ao78 t344.length co78 : Value).ownBlock ∧ (some k_ ≠ (.slice Ao94 t356.length co94 : Value).ownBlock ∧ some k_ ≠ (v383 : Value).ownBlock)))))) (n := t391.length) (c := co116) ?_).2.2; exact (by (with_reducible repeat (first | apply Kd.R_alloc | apply Kd.R_drewN | apply Kd.R_drew)); exact (Kd.R_mono (rkf (rkf (rkf (Kd.R_types HO393.out BK401.out q144t)))) (fun _ h_ => h_.1)))); (case side2 => exact (Kd.R_reads' HO393.out).2.1); (case side3 => refine (Kd.R_reads' (e := 3) (base := w.heap.size) (ok := fun k_ => (some k_ ≠ (v312 : Value).ownBlock ∧ (some k_ ≠ (v315 : Value).ownBlock ∧ (some k_ ≠ (.slice Ao57 t320.length co57 : Value).ownBlock ∧ (some k_ ≠ (.slice Ao59 t323.length co59 : Value).ownBlock ∧ (some k_ ≠ (.slice Ao70 t331.length co70 : Value).ownBlock ∧ (some k_ ≠ (.slice Ao71 t334.length co71 : Value).ownBlock ∧ (some k_ ≠ (.slice Ao80 t347.length co80 : Value).ownBlock ∧ (some k_ ≠ (.slice Ao82 t350.length co82 : Value).ownBlock ∧ (some k_ ≠ (.slice Ao95 t359.length co95 : Value).ownBlock ∧ (some k_ ≠ (.slice Ao96 t362.length co96 : Value).ownBlock ∧ (some k_ ≠ (v386 : Value).ownBlock ∧ (some k_ ≠ (v389 : Value).ownBlock ∧ some k_ ≠ (.slice Ao120 t397.length co120 : Value).ownBlock))))))))))))) (n := t394.length) (c := co118) ?_).2.2; exact (by (with_reducible repeat (first | apply Kd.R_alloc | apply Kd.R_drewN | apply Kd.R_drew)); exact (Kd.R_mono (rkf (rkf (rkf (Kd.R_types HO396.out BK401.out q144t)))) (fun _ h_ => h_.1)))); (case side4 => exact (Kd.R_reads' HO396.out).2.1); (case side5 => refine (Kd.R_reads' (e := 3) (base := w.heap.size) (ok := fun k_ => (some k_ ≠ (v312 : Value).ownBlock ∧ (some k_ ≠ (v315 : Value).ownBlock ∧ (some k_ ≠ (.slice Ao57 t320.length co57 : Value).ownBlock ∧ (some k_ ≠ (.slice Ao59 t323.length co59 : Value).ownBlock ∧ (some k_ ≠ (.slice Ao70 t331.length co70 : Value).ownBlock ∧ (some k_ ≠ (.slice Ao71 t334.length co71 : Value).ownBlock ∧ (some k_ ≠ (.slice Ao80 t347.length co80 : Value).ownBlock ∧ (some k_ ≠ (.slice Ao82 t350.length co82 : Value).ownBlock ∧ (some k_ ≠ (.slice Ao95 t359.length co95 : Value).ownBlock ∧ (some k_ ≠ (.slice Ao96 t362.length co96 : Value).ownBlock ∧ (some k_ ≠ (v386 : Value).ownBlock ∧ (some k_ ≠ (v389 : Value).ownBlock ∧ some k_ ≠ (.slice Ao118 t394.length co118 : Value).ownBlock))))))))))))) (n := t397.length) (c := co120) ?_).2.2; exact (by (with_reducible repeat (first | apply Kd.R_alloc | apply Kd.R_drewN | apply Kd.R_drew)); exact (Kd.R_mono (rkf (rkf (rkf (Kd.R_types HO399.out BK401.out q144t)))) (fun _ h_ => h_.1)))); (case side6 => exact (Kd.R_reads' HO399.out).2.1); (case side7 => refine (Kd.R_reads' (e := 5) (base := w.heap.size) (ok := fun k_ => (some k_ ≠ (v309 : Value).ownBlock ∧ (some k_ ≠ (.slice Ao65 t328.length co65 : Value).ownBlock ∧ (some k_ ≠ (.slice Ao78 t344.length co78 : Value).ownBlock ∧ (some k_ ≠ (.slice Ao94 t356.length co94 : Value).ownBlock ∧ (some k_ ≠ (v383 : Value).ownBlock ∧ some k_ ≠ (.slice Ao116 t391.length co116 : Value).ownBlock)))))) (n := t317.length) (c := co55) ?_).2.2; exact (by (with_reducible repeat (first | apply Kd.R_alloc | apply Kd.R_drewN | apply Kd.R_drew)); exact (Kd.R_mono (rkf (rkf (rkf (Kd.R_types HO319.out BK401.out q144t)))) (fun _ h_ => h_.1)))); (case side8 => exact (Kd.R_reads' HO319.out).2.1); (case side9 => refine (Kd.R_reads' (e := 3) (base := w.heap.size) (ok := fun k_ => (some k_ ≠ (v312 : Value).ownBlock ∧ (some k_ ≠ (v315 : Value).ownBlock ∧ (some k_ ≠ (.slice Ao59 t323.length co59 : Value).ownBlock ∧ (some k_ ≠ (.slice Ao70 t331.length co70 : Value).ownBlock ∧ (some k_ ≠ (.slice Ao71 t334.length co71 : Value).ownBlock ∧ (some k_ ≠ (.slice Ao80 t347.length co80 : Value).ownBlock ∧ (some k_ ≠ (.slice Ao82 t350.length co82 : Value).ownBlock ∧ (some k_ ≠ (.slice Ao95 t359.length co95 : Value).ownBlock ∧ (some k_ ≠ (.slice Ao96 t362.length co96 : Value).ownBlock ∧ (some k_ ≠ (v386 : Value).ownBlock ∧ (some k_ ≠ (v389 : Value).ownBlock ∧ (some k_ ≠ (.slice Ao118 t394.length co118 : Value).ownBlock ∧ some k_ ≠ (.slice Ao120 t397.length co120 : Value).ownBlock))))))))))))) (n := t320.length) (c := co57) ?_).2.2; exact (by (with_reducible repeat (first | apply Kd.R_alloc | apply Kd.R_drewN | apply Kd.R_drew)); exact (Kd.R_mono (rkf (rkf (rkf (Kd.R_types HO322.out BK401.out q144t)))) (fun _ h_ => h_.1)))); (case side10 => exact (Kd.R_reads' HO322.out).2.1); (case side11 => refine (Kd.R_reads' (e := 3) (base := w.heap.size) (ok := fun k_ => (some k_ ≠ (v312 : Value).ownBlock ∧ (some k_ ≠ (v315 : Value).ownBlock ∧ (some k_ ≠ (.slice Ao57 t320.length co57 : Value).ownBlock ∧ (some k_ ≠ (.slice Ao70 t331.length co70 : Value).ownBlock ∧ (some k_ ≠ (.slice Ao71 t334.length co71 : Value).ownBlock ∧ (some k_ ≠ (.slice Ao80 t347.length co80 : Value).ownBlock ∧ (some k_ ≠ (.slice Ao82 t350.length co82 : Value).ownBlock ∧ (some k_ ≠ (.slice Ao95 t359.length co95 : Value).ownBlock ∧ (some k_ ≠ (.slice Ao96 t362.length co96 : Value).ownBlock ∧ (some k_ ≠ (v386 : Value).ownBlock ∧ (some k_ ≠ (v389 : Value).ownBlock ∧ (some k_ ≠ (.slice Ao118 t394.length co118 : Value).ownBlock ∧ some k_ ≠ (.slice Ao120 t397.length co120 : Value).ownBlock))))))))))))) (n := t323.length) (c := co59) ?_).2.2; exact (by (with_reducible repeat (first | apply Kd.R_alloc | apply Kd.R_drewN | apply Kd.R_drew)); exact (Kd.R_mono (rkf (rkf (rkf (Kd.R_types HO325.out BK401.out q144t)))) (fun _ h_ => h_.1)))); (case side12 => exact (Kd.R_reads' HO325.out).2.1); rintro e w129 ⟨rfl, hb⟩; refine ⟨_, rfl, ?_⟩; replace HO310 := Aside0.mk (Kd.R_below (by (with_reducible repeat (first | apply Kd.R_alloc | apply Kd.R_drewN | apply Kd.R_drew)); exact (Kd.R_mono (rkf (rkf (rkf (Kd.R_types HO310.out BK401.out q144t)))) (fun _ h_ => h_.1))) hb); replace HO313 := Aside0.mk (Kd.R_below (by (with_reducible repeat (first | apply Kd.R_alloc | apply Kd.R_drewN | apply Kd.R_drew)); exact (Kd.R_mono (rkf (rkf (rkf (Kd.R_types HO313.out BK401.out q144t)))) (fun _ h_ => h_.1))) hb); replace HO316 := Aside0.mk (Kd.R_below (by (with_reducible repeat (first | apply Kd.R_alloc | apply Kd.R_drewN | apply Kd.R_drew)); exact (Kd.R_mono (rkf (rkf (rkf (Kd.R_types HO316.out BK401.out q144t)))) (fun _ h_ => h_.1))) hb); replace HO319 := Aside0.mk (Kd.R_below (by (with_reducible repeat (first | apply Kd.R_alloc | apply Kd.R_drewN | apply Kd.R_drew)); exact (Kd.R_mono (rkf (rkf (rkf (Kd.R_types HO319.out BK401.out q144t)))) (fun _ h_ => h_.1))) hb); replace HO322 := Aside0.mk (Kd.R_below (by (with_reducible repeat (first | apply Kd.R_alloc | apply Kd.R_drewN | apply Kd.R_drew)); exact (Kd.R_mono (rkf (rkf (rkf (Kd.R_types HO322.out BK401.out q144t)))) (fun _ h_ => h_.1))) hb); replace HO325 := Aside0.mk (Kd.R_below (by (with_reducible repeat (first | apply Kd.R_alloc | apply Kd.R_drewN | apply Kd.R_drew)); exact (Kd.R_mono (rkf (rkf (rkf (Kd.R_types HO325.out BK401.out q144t)))) (fun _ h_ => h_.1))) hb); replace HO330 := Aside0.mk (Kd.R_below (by (with_reducible repeat (first | apply Kd.R_alloc | apply Kd.R_drewN | apply Kd.R_drew)); exact (Kd.R_mono (rkf (rkf (rkf (Kd.R_types HO330.out BK401.out q144t)))) (fun _ h_ => h_.1))) hb); replace HO333 := Aside0.mk (Kd.R_below (by (with_reducible repeat (first | apply Kd.R_alloc | apply Kd.R_drewN | apply Kd.R_drew)); exact (Kd.R_mono (rkf (rkf (rkf (Kd.R_types HO333.out BK401.out q144t)))) (fun _ h_ => h_.1))) hb); replace HO336 := Aside0.mk (Kd.R_below (by (with_reducible repeat (first | apply Kd.R_alloc | apply Kd.R_drewN | apply Kd.R_drew)); exact (Kd.R_mono (rkf (rkf (rkf (Kd.R_types HO336.out BK401.out q144t)))) (fun _ h_ => h_.1))) hb); replace HO346 := Aside0.mk (Kd.R_below (by (with_reducible repeat (first | apply Kd.R_alloc | apply Kd.R_drewN | apply Kd.R_drew)); exact (Kd.R_mono (rkf (rkf (rkf (Kd.R_types HO346.out BK401.out q144t)))) (fun _ h_ => h_.1))) hb); replace HO349 := Aside0.mk (Kd.R_below (by (with_reducible repeat (first | apply Kd.R_alloc | apply Kd.R_drewN | apply Kd.R_drew)); exact (Kd.R_mono (rkf (rkf (rkf (Kd.R_types HO349.out BK401.out q144t)))) (fun _ h_ => h_.1))) hb); replace HO352 := Aside0.mk (Kd.R_below (by (with_reducible repeat (first | apply Kd.R_alloc | apply Kd.R_drewN | apply Kd.R_drew)); exact (Kd.R_mono (rkf (rkf (rkf (Kd.R_types HO352.out BK401.out q144t)))) (fun _ h_ => h_.1))) hb); replace HO358 := Aside0.mk (Kd.R_below (by (with_reducible repeat (first | apply Kd.R_alloc | apply Kd.R_drewN | apply Kd.R_drew)); exact (Kd.R_mono (rkf (rkf (rkf (Kd.R_types HO358.out BK401.out q144t)))) (fun _ h_ => h_.1))) hb); replace HO361 := Aside0.mk (Kd.R_below (by (with_reducible repeat (first | apply Kd.R_alloc | apply Kd.R_drewN | apply Kd.R_drew)); exact (Kd.R_mono (rkf (rkf (rkf (Kd.R_types HO361.out BK401.out q144t)))) (fun _ h_ => h_.1))) hb); replace HO364 := Aside0.mk (Kd.R_below (by (with_reducible repeat (first | apply Kd.R_alloc | apply Kd.R_drewN | apply Kd.R_drew)); exact (Kd.R_mono (rkf (rkf (rkf (Kd.R_types HO364.out BK401.out q144t)))) (fun _ h_ => h_.1))) hb); replace HO384 := Aside0.mk (Kd.R_below (by (with_reducible repeat (first | apply Kd.R_alloc | apply Kd.R_drewN | apply Kd.R_drew)); exact (Kd.R_mono (rkf (rkf (rkf (Kd.R_types HO384.out BK401.out q144t)))) (fun _ h_ => h_.1))) hb); replace HO387 := Aside0.mk (Kd.R_below (by (with_reducible repeat (first | apply Kd.R_alloc | apply Kd.R_drewN | apply Kd.R_drew)); exact (Kd.R_mono (rkf (rkf (rkf (Kd.R_types HO387.out BK401.out q144t)))) (fun _ h_ => h_.1))) hb); replace HO390 := Aside0.mk (Kd.R_below (by (with_reducible repeat (first | apply Kd.R_alloc | apply Kd.R_drewN | apply Kd.R_drew)); exact (Kd.R_mono (rkf (rkf (rkf (Kd.R_types HO390.out BK401.out q144t)))) (fun _ h_ => h_.1))) hb); replace HO393 := Aside0.mk (Kd.R_below (by (with_reducible repeat (first | apply Kd.R_alloc | apply Kd.R_drewN | apply Kd.R_drew)); exact (Kd.R_mono (rkf (rkf (rkf (Kd.R_types HO393.out BK401.out q144t)))) (fun _ h_ => h_.1))) hb); replace HO396 := Aside0.mk (Kd.R_below (by (with_reducible repeat (first | apply Kd.R_alloc | apply Kd.R_drewN | apply Kd.R_drew)); exact (Kd.R_mono (rkf (rkf (rkf (Kd.R_types HO396.out BK401.out q144t)))) (fun _ h_ => h_.1))) hb); replace HO399 := Aside0.mk (Kd.R_below (by (with_reducible repeat (first | apply Kd.R_alloc | apply Kd.R_drewN | apply Kd.R_drew)); exact (Kd.R_mono (rkf (rkf (rkf (Kd.R_types HO399.out BK401.out q144t)))) (fun _ h_ => h_.1))) hb); replace BK299 := Aside0.mk (blk_below (g := gb299) (o := .cells #[.int .i64 a0_0, .int .i64 a0_1, .int .i64 a0_2, .int .i64 a0_3, .int .i64 a0_4, .int .i64 a0_5] 23 (0, 0)) (by (with_reducible repeat (first | refine blk_drewN ?_ _ | refine blk_drew ?_ | refine blk_alloc ?_ _)); refine blk_far ?_ NB299_401.out _; (with_reducible repeat (first | refine blk_drewN ?_ _ | refine blk_drew ?_ | refine blk_alloc ?_ _)); refine blk_far ?_ NB299_401.out _; (with_reducible repeat (first | refine blk_drewN ?_ _ | refine blk_drew ?_ | refine blk_alloc ?_ _)); refine blk_far ?_ NB299_401.out _; (with_reducible repeat (first | refine blk_drewN ?_ _ | refine blk_drew ?_ | refine blk_alloc ?_ _)); exact BK299.out) hb); replace BK300 := Aside0.mk (blk_below (g := gb300) (o := .cells #[.slice A1_0 l1_0.length c1_0, .slice A1_1 l1_1.length c1_1, .slice A1_2 l1_2.length c1_2] 27 (0, 0)) (by (with_reducible repeat (first | refine blk_drewN ?_ _ | refine blk_drew ?_ | refine blk_alloc ?_ _)); refine blk_far ?_ NB300_401.out _; (with_reducible repeat (first | refine blk_drewN ?_ _ | refine blk_drew ?_ | refine blk_alloc ?_ _)); refine blk_far ?_ NB300_401.out _; (with_reducible repeat (first | refine blk_drewN ?_ _ | refine blk_drew ?_ | refine blk_alloc ?_ _)); refine blk_far ?_ NB300_401.out _; (with_reducible repeat (first | refine blk_drewN ?_ _ | refine blk_drew ?_ | refine blk_alloc ?_ _)); exact BK300.out) hb); replace BK327 := Aside0.mk (blk_below (g := gb327) (o := .cells #[.slice Ao55 t317.length co55, .slice Ao57 t320.length co57, .slice Ao59 t323.length co59] 29 (0, 0)) (by (with_reducible repeat (first | refine blk_drewN ?_ _ | refine blk_drew ?_ | refine blk_alloc ?_ _)); refine blk_far ?_ NB327_401.out _; (with_reducible repeat (first | refine blk_drewN ?_ _ | refine blk_drew ?_ | refine blk_alloc ?_ _)); refine blk_far ?_ NB327_401.out _; (with_reducible repeat (first | refine blk_drewN ?_ _ | refine blk_drew ?_ | refine blk_alloc ?_ _)); refine blk_far ?_ NB327_401.out _; (with_reducible repeat (first | refine blk_drewN ?_ _ | refine blk_drew ?_ | refine blk_alloc ?_ _)); exact BK327.out) hb); replace BK337 := Aside0.mk (blk_below (g := gb337) (o := .cells #[.slice Ao65 t328.length co65, .slice Ao70 t331.length co70, .slice Ao71 t334.length co71] 29 (0, 0)) (by (with_reducible repeat (first | refine blk_drewN ?_ _ | refine blk_drew ?_ | refine blk_alloc ?_ _)); refine blk_far ?_ NB337_401.out _; (with_reducible repeat (first | refine blk_drewN ?_ _ | refine blk_drew ?_ | refine blk_alloc ?_ _)); refine blk_far ?_ NB337_401.out _; (with_reducible repeat (first | refine blk_drewN ?_ _ | refine blk_drew ?_ | refine blk_alloc ?_ _)); refine blk_far ?_ NB337_401.out _; (with_reducible repeat (first | refine blk_drewN ?_ _ | refine blk_drew ?_ | refine blk_alloc ?_ _)); exact BK337.out) hb); replace BK354 := Aside0.mk (blk_below (g := gb354) (o := .cells #[.slice Ao78 t344.length co78, .slice Ao80 t347.length co80, .slice Ao82 t350.length co82] 29 (0, 0)) (by (with_reducible repeat (first | refine blk_drewN ?_ _ | refine blk_drew ?_ | refine blk_alloc ?_ _)); refine blk_far ?_ NB354_401.out _; (with_reducible repeat (first | refine blk_drewN ?_ _ | refine blk_drew ?_ | refine blk_alloc ?_ _)); refine blk_far ?_ NB354_401.out _; (with_reducible repeat (first | refine blk_drewN ?_ _ | refine blk_drew ?_ | refine blk_alloc ?_ _)); refine blk_far ?_ NB354_401.out _; (with_reducible repeat (first | refine blk_drewN ?_ _ | refine blk_drew ?_ | refine blk_alloc ?_ _)); exact BK354.out) hb); replace BK401 := blp BK401 hb; replace HB := Aside0.mk (below_step q25t hb); (try clear hb); (try clear hb2); (try clear hk); (try clear hi); obtain ⟨hcz130_0, hcz130_1, hcz130_2⟩ := qc3 BK354.out; obtain ⟨hfz130_0, hfz130_1, hfz130_2⟩ := qf3 BK354.out) | ((with_reducible refine gate_callee (f := 11) rfl ?_); refine goesL_ (some 108) rfl rfl Try.func11 (by kernel_rfl) rfl #[.agg #[.slice Ao78 t372.length co78, .slice Ao80 t373.length co80, .slice Ao82 t374.length co82], .int .i64 1] rfl (by (try simp only [List.map_toArray, List.map_cons, List.map_nil]); first | done | (rw [show t372.length = t344.length from (Kd.R_reads' HO346.out).1.symm, show t373.length = t347.length from (Kd.R_reads' HO349.out).1.symm, show t374.length = t350.length from (Kd.R_reads' HO352.out).1.symm] <;> rfl) | rfl | (simp only [List.length_drop, List.length_take]; rfl)) ?_; (with_reducible refine (laws_heldPool.calls k _ _ t372 _ _ t373 _ _ t374 1 t403 _ ?side1 ?side2 ?side3 ?side4 ?side5 ?side6 A38.out).mono ?_); (case side1 => repeat (first | exact (Kd.R_reads' HO346.out).2.2 | (with_reducible refine Kd.C_alloc ?_ _) | (with_reducible refine Kd.C_drewN ?_ _) | (with_reducible refine Kd.C_drew ?_))); (case side2 => rw [show t372.length = t344.length from (Kd.R_reads' HO346.out).1.symm]; exact (Kd.R_reads' HO346.out).2.1); (case side3 => repeat (first | exact (Kd.R_reads' HO349.out).2.2 | (with_reducible refine Kd.C_alloc ?_ _) | (with_reducible refine Kd.C_drewN ?_ _) | (with_reducible refine Kd.C_drew ?_))); (case side4 => rw [show t373.length = t347.length from (Kd.R_reads' HO349.out).1.symm]; exact (Kd.R_reads' HO349.out).2.1); (case side5 => repeat (first | exact (Kd.R_reads' HO352.out).2.2 | (with_reducible refine Kd.C_alloc ?_ _) | (with_reducible refine Kd.C_drewN ?_ _) | (with_reducible refine Kd.C_drew ?_))); (case side6 => rw [show t374.length = t350.length from (Kd.R_reads' HO352.out).1.symm]; exact (Kd.R_reads' HO352.out).2.1); rintro e w131 ⟨rfl, hb⟩; refine ⟨_, rfl, ?_⟩; replace HO310 := Aside0.mk (Kd.R_below q113t hb); replace HO313 := Aside0.mk (Kd.R_below q114t hb); replace HO316 := Aside0.mk (Kd.R_below q115t hb); replace HO319 := Aside0.mk (Kd.R_below q116t hb); replace HO322 := Aside0.mk (Kd.R_below q117t hb); replace HO325 := Aside0.mk (Kd.R_below q118t hb); replace HO330 := Aside0.mk (Kd.R_below q119t hb); replace HO333 := Aside0.mk (Kd.R_below q120t hb); replace HO336 := Aside0.mk (Kd.R_below q121t hb); replace HO346 := Aside0.mk (Kd.R_below q122t hb); replace HO349 := Aside0.mk (Kd.R_below q123t hb); replace HO352 := Aside0.mk (Kd.R_below q124t hb); replace HO358 := Aside0.mk (Kd.R_below q125t hb); replace HO361 := Aside0.mk (Kd.R_below q126t hb); replace HO364 := Aside0.mk (Kd.R_below q127t hb); replace HO384 := Aside0.mk (Kd.R_below q128t hb); replace HO387 := Aside0.mk (Kd.R_below q129t hb); replace HO390 := Aside0.mk (Kd.R_below q130t hb); replace HO393 := Aside0.mk (Kd.R_below (by (with_reducible repeat (first | apply Kd.R_alloc | apply Kd.R_drewN | apply Kd.R_drew)); exact HO393.out) hb); replace HO396 := Aside0.mk (Kd.R_below (by (with_reducible repeat (first | apply Kd.R_alloc | apply Kd.R_drewN | apply Kd.R_drew)); exact HO396.out) hb); replace HO399 := Aside0.mk (Kd.R_below (by (with_reducible repeat (first | apply Kd.R_alloc | apply Kd.R_drewN | apply Kd.R_drew)); exact HO399.out) hb); replace BK299 := blb BK299 hb; replace BK300 := blb BK300 hb; replace BK327 := blb BK327 hb; replace BK337 := blb BK337 hb; replace BK354 := blb BK354 hb; replace BK401 := blb BK401 hb; replace HB := Aside0.mk (below_step q25t hb); (try clear hb); (try clear hb2); (try clear hk); (try clear hi)))
 go_ret
 exact ⟨by first | rfl | (simp [errW_none, errW_some] <;> rfl) | (simp [*, errW_none, errW_some] <;> rfl), by repeat (first | (with_reducible first | exact HB.out | apply below_alloc | apply pw_below_drewN | apply below_drew1 | refine below_set ?_ GE299.out | refine below_set ?_ GE300.out | refine below_set ?_ GE327.out | refine below_set ?_ GE337.out | refine below_set ?_ GE354.out | refine below_set ?_ GE401.out) | exact HB.out)⟩

end Go.Proofs.Ytofpmdgndegalaa.QFnExactWipeSome
