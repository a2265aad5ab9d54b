/- What the functions that the law FnTables reaches compute, as plain functions, and that the code computes just that (by a program of this session's; the library's functions by hand). No condition. -/
import Derived.Test.YtofpmdgndegalabQFnTablesx0
import Derived.Test.YtofpmdgndegalabQFnTablesx1
import Derived.Test.YtofpmdgndegalabQFnTablesx3
import Derived.Test.YtofpmdgndegalabQFnTablesx6
import Derived.Test.YtofpmdgndegalabQFnTablesx7
import Derived.Test.YtofpmdgndegalabQFnTablesx8
import Derived.Test.YtofpmdgndegalabQFnTablesx10
import Derived.Test.YtofpmdgndegalabQFnTablesx11
import Derived.Test.YtofpmdgndegalabQFnTablesx12
import Derived.Test.YtofpmdgndegalabQFnTablesx13
import Derived.Test.YtofpmdgndegalabQFnTablesx14
import Derived.Test.YtofpmdgndegalabQFnTablesx15
namespace Go.Proofs.Ytofpmdgndegalab.QFnTables
open Go.RowKit Go.Proofs.YtofpmdgndegalabW.PrintWords Go.Proofs.YtofpmdgndegalabW.PrintLast Go.Proofs.YtofpmdgndegalabW.PrintMore
attribute [local go_sem] max2_int min2_int max_two min_two max_three min_three max_four min_four   -- for this text's walks alone
set_option linter.unusedVariables false
set_option linter.unusedSimpArgs false

attribute [local go_sem high] eqA29
/-! ### laws_FnTables: function 3 -/
mutual
def laws_FnTables.j0 : Nat → List (S48) → Int → Int → List (S48) → List (S48) → Bool → Int → Int → Option (Bool)
 | 0, _, _, _, _, _, _, _, _ => none
 | k + 1, x3, x4, x5, x6, x7, x109, x676000, x676001 => if x109 = true then (none) else ((impl_PlaceOf.f k x7 x676000 x676001).bind fun t720 => (if t720 ≥ 0 then (if 0 ≤ t720 then (if t720 < (x7.length : Int) then (if ((rd_T48 x7 t720).f0) = 1 then ((impl_HandleAt.f x7 t720).bind fun bt722 => (laws_FnTables.j1 k x3 x4 x5 x6 (!(bt722.1 == x676000) || (!(bt722.2 == x676001))))) else (none)) else (none)) else (none)) else (laws_FnTables.j1 k x3 x4 x5 x6 false)))
def laws_FnTables.j1 : Nat → List (S48) → Int → Int → List (S48) → Bool → Option (Bool)
 | 0, _, _, _, _, _ => none
 | k + 1, x3, x4, x5, x6, x129 => if x129 = true then (none) else (if x4 < 0 then (laws_FnTables.j2 k x3 x4 x5 x6 true) else (laws_FnTables.j2 k x3 x4 x5 x6 (decide (x4 ≥ (x3.length : Int)))))
def laws_FnTables.j2 : Nat → List (S48) → Int → Int → List (S48) → Bool → Option (Bool)
 | 0, _, _, _, _, _ => none
 | k + 1, x3, x4, x5, x6, x137 => if x137 = true then ((laws_sameTable.f k x6 x3).bind fun t724 => (some t724)) else ((impl_HandleAt.f x3 x4).bind fun bt725 => ((impl_PlaceOf.f k x6 bt725.1 bt725.2).bind fun t728 => (if t728 < 0 then (if 0 ≤ x4 then (if x4 < (x6.length : Int) then (if x4 < (x3.length : Int) then (if ((((rd_T48 x6 x4).f0) == 3) == (decide (((rd_T48 x3 x4).f1) ≥ x5))) = true then (if ((rd_T48 x6 x4).f0) = 3 then (some true) else (some (((rd_T48 x6 x4).f1) == (wrap64 (((rd_T48 x3 x4).f1) + 1))))) else (none)) else (none)) else (none)) else (none)) else (none))))
end
def laws_FnTables.f (k : Nat) (l0 : List Int) : Option (Bool) := (laws_big.f l0).bind fun t661 => (if t661 = true then (some true) else ((spec_DrawClear.f k l0).bind fun bt662 => ((impl_Clear.f k bt662.1 bt662.2.1 bt662.2.2).bind fun t667 => ((spec_DrawPlaceOf.f k l0).bind fun bt670 => ((spec_DrawTableNew.f k l0).bind fun bt676 => ((spec_DrawCountNodes.f k l0).bind fun bt683 => ((spec_DrawSameTable.f k l0).bind fun bt687 => ((spec_DrawHandleAt.f k l0).bind fun bt693 => ((spec_Clear.f k bt662.1 bt662.2.1 bt662.2.2).bind fun t697 => ((laws_sameTable.f k t667 t697).bind fun t700 => (if t700 = true then ((impl_PlaceOf.f k bt670.1 bt670.2.1 bt670.2.2).bind fun t701 => ((spec_PlaceOf.f k bt670.1 bt670.2.1 bt670.2.2).bind fun t702 => (if t701 = t702 then ((impl_TableNew.f bt676.1 bt676.2.1 bt676.2.2.1 bt676.2.2.2.1 bt676.2.2.2.2.1 bt676.2.2.2.2.2).bind fun t703 => ((spec_TableNew.f k bt676.1 bt676.2.1 bt676.2.2.1 bt676.2.2.2.1 bt676.2.2.2.2.1 bt676.2.2.2.2.2).bind fun t706 => ((laws_sameTable.f k t703 t706).bind fun t709 => (if t709 = true then ((impl_CountNodes.f k bt683.1 bt683.2).bind fun t710 => ((spec_CountNodes.f k bt683.1 bt683.2).bind fun t711 => (if t710 = t711 then ((impl_FreePlace.f k bt683.1).bind fun t712 => ((spec_FreePlace.f k bt683.1).bind fun t713 => (if t712 = t713 then ((impl_SameTable.f k bt687.1 bt687.2).bind fun t714 => ((laws_sameTable.f k bt687.1 bt687.2).bind fun t715 => (if (t714 != t715) = true then (none) else ((impl_HandleAt.f bt693.1 bt693.2).bind fun bt716 => ((spec_HandleAt.f bt693.1 bt693.2).bind fun bt718 => (laws_FnTables.j0 k bt662.1 bt662.2.1 bt662.2.2 t667 bt670.1 (!(bt716.1 == bt718.1) || (!(bt716.2 == bt718.2))) bt670.2.1 bt670.2.2)))))) else (none)))) else (none)))) else (none))))) else (none)))) else (none))))))))))))
theorem laws_FnTables.mono_l : ∀ k, (∀ y0 y1 y2 y3 y4 y5 y6 y7, LeO (laws_FnTables.j0 k y0 y1 y2 y3 y4 y5 y6 y7) (laws_FnTables.j0 (k + 1) y0 y1 y2 y3 y4 y5 y6 y7)) ∧ (∀ y0 y1 y2 y3 y4, LeO (laws_FnTables.j1 k y0 y1 y2 y3 y4) (laws_FnTables.j1 (k + 1) y0 y1 y2 y3 y4)) ∧ (∀ y0 y1 y2 y3 y4, LeO (laws_FnTables.j2 k y0 y1 y2 y3 y4) (laws_FnTables.j2 (k + 1) y0 y1 y2 y3 y4))
 | 0 => ⟨fun _ _ _ _ _ _ _ _ r h => by simp [laws_FnTables.j0] at h, fun _ _ _ _ _ r h => by simp [laws_FnTables.j1] at h, fun _ _ _ _ _ r h => by simp [laws_FnTables.j2] at h⟩
 | k + 1 => by
  obtain ⟨ih0, ih1, ih2⟩ := laws_FnTables.mono_l k
  refine ⟨?_, ?_, ?_⟩
  ·intro y0 y1 y2 y3 y4 y5 y6 y7
   unfold laws_FnTables.j0
   repeat' first
   | (with_reducible exact ih0 _ _ _ _ _ _ _ _)
   | (with_reducible exact ih1 _ _ _ _ _)
   | (with_reducible exact ih2 _ _ _ _ _)
   | (with_reducible exact impl_Clear.mono _ _ _ _)
   | (with_reducible exact impl_CountNodes.mono _ _ _)
   | (with_reducible exact impl_FreePlace.mono _ _)
   | (with_reducible exact impl_PlaceOf.mono _ _ _ _)
   | (with_reducible exact impl_SameTable.mono _ _ _)
   | (with_reducible exact laws_sameTable.mono _ _ _)
   | (with_reducible exact spec_Clear.mono _ _ _ _)
   | (with_reducible exact spec_CountNodes.mono _ _ _)
   | (with_reducible exact spec_DrawClear.mono _ _)
   | (with_reducible exact spec_DrawCountNodes.mono _ _)
   | (with_reducible exact spec_DrawHandleAt.mono _ _)
   | (with_reducible exact spec_DrawPlaceOf.mono _ _)
   | (with_reducible exact spec_DrawSameTable.mono _ _)
   | (with_reducible exact spec_DrawTableNew.mono _ _)
   | (with_reducible exact spec_FreePlace.mono _ _)
   | (with_reducible exact spec_PlaceOf.mono _ _ _ _)
   | (with_reducible exact spec_TableNew.mono _ _ _ _ _ _ _)
   | (with_reducible exact LeO.refl _)
   | (with_reducible exact LeO.none _)
   | (with_reducible refine LeO.ite ?_ ?_)
   | (with_reducible refine LeO.bind ?_ (fun _ => ?_))
   | exact ih0 _ _ _ _ _ _ _ _
   | exact ih1 _ _ _ _ _
   | exact ih2 _ _ _ _ _
   | exact impl_Clear.mono _ _ _ _
   | exact impl_CountNodes.mono _ _ _
   | exact impl_FreePlace.mono _ _
   | exact impl_PlaceOf.mono _ _ _ _
   | exact impl_SameTable.mono _ _ _
   | exact laws_sameTable.mono _ _ _
   | exact spec_Clear.mono _ _ _ _
   | exact spec_CountNodes.mono _ _ _
   | exact spec_DrawClear.mono _ _
   | exact spec_DrawCountNodes.mono _ _
   | exact spec_DrawHandleAt.mono _ _
   | exact spec_DrawPlaceOf.mono _ _
   | exact spec_DrawSameTable.mono _ _
   | exact spec_DrawTableNew.mono _ _
   | exact spec_FreePlace.mono _ _
   | exact spec_PlaceOf.mono _ _ _ _
   | exact spec_TableNew.mono _ _ _ _ _ _ _
   | exact LeO.none _
   | refine LeO.ite ?_ ?_
   | refine LeO.bind ?_ (fun _ => ?_)
  ·intro y0 y1 y2 y3 y4
   unfold laws_FnTables.j1
   repeat' first
   | (with_reducible exact ih0 _ _ _ _ _ _ _ _)
   | (with_reducible exact ih1 _ _ _ _ _)
   | (with_reducible exact ih2 _ _ _ _ _)
   | (with_reducible exact impl_Clear.mono _ _ _ _)
   | (with_reducible exact impl_CountNodes.mono _ _ _)
   | (with_reducible exact impl_FreePlace.mono _ _)
   | (with_reducible exact impl_PlaceOf.mono _ _ _ _)
   | (with_reducible exact impl_SameTable.mono _ _ _)
   | (with_reducible exact laws_sameTable.mono _ _ _)
   | (with_reducible exact spec_Clear.mono _ _ _ _)
   | (with_reducible exact spec_CountNodes.mono _ _ _)
   | (with_reducible exact spec_DrawClear.mono _ _)
   | (with_reducible exact spec_DrawCountNodes.mono _ _)
   | (with_reducible exact spec_DrawHandleAt.mono _ _)
   | (with_reducible exact spec_DrawPlaceOf.mono _ _)
   | (with_reducible exact spec_DrawSameTable.mono _ _)
   | (with_reducible exact spec_DrawTableNew.mono _ _)
   | (with_reducible exact spec_FreePlace.mono _ _)
   | (with_reducible exact spec_PlaceOf.mono _ _ _ _)
   | (with_reducible exact spec_TableNew.mono _ _ _ _ _ _ _)
   | (with_reducible exact LeO.refl _)
   | (with_reducible exact LeO.none _)
   | (with_reducible refine LeO.ite ?_ ?_)
   | (with_reducible refine LeO.bind ?_ (fun _ => ?_))
   | exact ih0 _ _ _ _ _ _ _ _
   | exact ih1 _ _ _ _ _
   | exact ih2 _ _ _ _ _
   | exact impl_Clear.mono _ _ _ _
   | exact impl_CountNodes.mono _ _ _
   | exact impl_FreePlace.mono _ _
   | exact impl_PlaceOf.mono _ _ _ _
   | exact impl_SameTable.mono _ _ _
   | exact laws_sameTable.mono _ _ _
   | exact spec_Clear.mono _ _ _ _
   | exact spec_CountNodes.mono _ _ _
   | exact spec_DrawClear.mono _ _
   | exact spec_DrawCountNodes.mono _ _
   | exact spec_DrawHandleAt.mono _ _
   | exact spec_DrawPlaceOf.mono _ _
   | exact spec_DrawSameTable.mono _ _
   | exact spec_DrawTableNew.mono _ _
   | exact spec_FreePlace.mono _ _
   | exact spec_PlaceOf.mono _ _ _ _
   | exact spec_TableNew.mono _ _ _ _ _ _ _
   | exact LeO.none _
   | refine LeO.ite ?_ ?_
   | refine LeO.bind ?_ (fun _ => ?_)
  ·intro y0 y1 y2 y3 y4
   unfold laws_FnTables.j2
   repeat' first
   | (with_reducible exact ih0 _ _ _ _ _ _ _ _)
   | (with_reducible exact ih1 _ _ _ _ _)
   | (with_reducible exact ih2 _ _ _ _ _)
   | (with_reducible exact impl_Clear.mono _ _ _ _)
   | (with_reducible exact impl_CountNodes.mono _ _ _)
   | (with_reducible exact impl_FreePlace.mono _ _)
   | (with_reducible exact impl_PlaceOf.mono _ _ _ _)
   | (with_reducible exact impl_SameTable.mono _ _ _)
   | (with_reducible exact laws_sameTable.mono _ _ _)
   | (with_reducible exact spec_Clear.mono _ _ _ _)
   | (with_reducible exact spec_CountNodes.mono _ _ _)
   | (with_reducible exact spec_DrawClear.mono _ _)
   | (with_reducible exact spec_DrawCountNodes.mono _ _)
   | (with_reducible exact spec_DrawHandleAt.mono _ _)
   | (with_reducible exact spec_DrawPlaceOf.mono _ _)
   | (with_reducible exact spec_DrawSameTable.mono _ _)
   | (with_reducible exact spec_DrawTableNew.mono _ _)
   | (with_reducible exact spec_FreePlace.mono _ _)
   | (with_reducible exact spec_PlaceOf.mono _ _ _ _)
   | (with_reducible exact spec_TableNew.mono _ _ _ _ _ _ _)
   | (with_reducible exact LeO.refl _)
   | (with_reducible exact LeO.none _)
   | (with_reducible refine LeO.ite ?_ ?_)
   | (with_reducible refine LeO.bind ?_ (fun _ => ?_))
   | exact ih0 _ _ _ _ _ _ _ _
   | exact ih1 _ _ _ _ _
   | exact ih2 _ _ _ _ _
   | exact impl_Clear.mono _ _ _ _
   | exact impl_CountNodes.mono _ _ _
   | exact impl_FreePlace.mono _ _
   | exact impl_PlaceOf.mono _ _ _ _
   | exact impl_SameTable.mono _ _ _
   | exact laws_sameTable.mono _ _ _
   | exact spec_Clear.mono _ _ _ _
   | exact spec_CountNodes.mono _ _ _
   | exact spec_DrawClear.mono _ _
   | exact spec_DrawCountNodes.mono _ _
   | exact spec_DrawHandleAt.mono _ _
   | exact spec_DrawPlaceOf.mono _ _
   | exact spec_DrawSameTable.mono _ _
   | exact spec_DrawTableNew.mono _ _
   | exact spec_FreePlace.mono _ _
   | exact spec_PlaceOf.mono _ _ _ _
   | exact spec_TableNew.mono _ _ _ _ _ _ _
   | exact LeO.none _
   | refine LeO.ite ?_ ?_
   | refine LeO.bind ?_ (fun _ => ?_)
theorem laws_FnTables.mono : ∀ a0 k, LeO (laws_FnTables.f k a0) (laws_FnTables.f (k + 1) a0) := by
 intro a0 k
 obtain ⟨ih0, ih1, ih2⟩ := laws_FnTables.mono_l k
 unfold laws_FnTables.f
 repeat' first
   | (with_reducible exact ih0 _ _ _ _ _ _ _ _)
   | (with_reducible exact ih1 _ _ _ _ _)
   | (with_reducible exact ih2 _ _ _ _ _)
   | (with_reducible exact impl_Clear.mono _ _ _ _)
   | (with_reducible exact impl_CountNodes.mono _ _ _)
   | (with_reducible exact impl_FreePlace.mono _ _)
   | (with_reducible exact impl_PlaceOf.mono _ _ _ _)
   | (with_reducible exact impl_SameTable.mono _ _ _)
   | (with_reducible exact laws_sameTable.mono _ _ _)
   | (with_reducible exact spec_Clear.mono _ _ _ _)
   | (with_reducible exact spec_CountNodes.mono _ _ _)
   | (with_reducible exact spec_DrawClear.mono _ _)
   | (with_reducible exact spec_DrawCountNodes.mono _ _)
   | (with_reducible exact spec_DrawHandleAt.mono _ _)
   | (with_reducible exact spec_DrawPlaceOf.mono _ _)
   | (with_reducible exact spec_DrawSameTable.mono _ _)
   | (with_reducible exact spec_DrawTableNew.mono _ _)
   | (with_reducible exact spec_FreePlace.mono _ _)
   | (with_reducible exact spec_PlaceOf.mono _ _ _ _)
   | (with_reducible exact spec_TableNew.mono _ _ _ _ _ _ _)
   | (with_reducible exact LeO.refl _)
   | (with_reducible exact LeO.none _)
   | (with_reducible refine LeO.ite ?_ ?_)
   | (with_reducible refine LeO.bind ?_ (fun _ => ?_))
   | exact ih0 _ _ _ _ _ _ _ _
   | exact ih1 _ _ _ _ _
   | exact ih2 _ _ _ _ _
   | exact impl_Clear.mono _ _ _ _
   | exact impl_CountNodes.mono _ _ _
   | exact impl_FreePlace.mono _ _
   | exact impl_PlaceOf.mono _ _ _ _
   | exact impl_SameTable.mono _ _ _
   | exact laws_sameTable.mono _ _ _
   | exact spec_Clear.mono _ _ _ _
   | exact spec_CountNodes.mono _ _ _
   | exact spec_DrawClear.mono _ _
   | exact spec_DrawCountNodes.mono _ _
   | exact spec_DrawHandleAt.mono _ _
   | exact spec_DrawPlaceOf.mono _ _
   | exact spec_DrawSameTable.mono _ _
   | exact spec_DrawTableNew.mono _ _
   | exact spec_FreePlace.mono _ _
   | exact spec_PlaceOf.mono _ _ _ _
   | exact spec_TableNew.mono _ _ _ _ _ _ _
   | exact LeO.none _
   | refine LeO.ite ?_ ?_
   | refine LeO.bind ?_ (fun _ => ?_)
def laws_FnTables.T10 : Bool × List (List Nat × List Nat) := (true, [([], []), ([], []), ([], []), ([], []), ([1, 2, 3], [1, 2, 3]), ([0, 4, 4], [0, 4]), ([5], [5]), ([6, 5], [6]), ([7], [7]), ([7], [7]), ([8, 9, 7, 7], [7, 8, 9]), ([7], [7]), ([7], [7]), ([11, 12, 10, 7], [7, 11, 12]), ([10, 13, 7], [7, 10, 13]), ([7, 14], [7, 14]), ([15, 13], [15]), ([16], [16]), ([17, 16, 16], [16, 17]), ([16], [16]), ([19, 18, 16], [16, 19]), ([18, 20, 20, 16], [16, 18, 20]), ([21, 16], [16, 21]), ([16, 22], [16, 22]), ([23, 21], [23]), ([24], [24]), ([24], [24]), ([25, 26, 24, 24], [24, 25, 26]), ([24], [24]), ([24], [24]), ([28, 29, 27, 24], [24, 28, 29]), ([27, 30, 24], [24, 27, 30]), ([24, 31], [24, 31]), ([32, 30], [32]), ([33], [33]), ([34, 33, 33], [33, 34]), ([33], [33]), ([36, 35, 33], [33, 36]), ([35, 37, 33], [33, 35, 37]), ([33, 38], [33, 38]), ([39, 37], [39]), ([40], [40]), ([40], [40]), ([41, 42, 40, 40], [40, 41, 42]), ([40], [40]), ([40], [40]), ([44, 45, 43, 40], [40, 44, 45]), ([43, 46, 40], [40, 43, 46]), ([40, 47], [40, 47]), ([48, 46], [48]), ([49], [49]), ([49], [49]), ([50, 51, 49, 49], [49, 50, 51]), ([49], [49]), ([49], [49]), ([53, 54, 52, 49], [49, 53, 54]), ([52, 55, 49], [49, 52, 55]), ([49, 56], [49, 56])])
def laws_FnTables.B10 : List Nat := [0, 0, 0, 0, 14, 31, 63, 127, 255, 255, 1023, 255, 255, 8191, 16383, 32767, 65535, 131071, 262143, 131071, 1048575, 2097151, 4194303, 8388607, 16777215, 33554431, 33554431, 134217727, 33554431, 33554431, 1073741823, 2147483647, 4294967295, 8589934591, 17179869183, 34359738367, 17179869183, 137438953471, 274877906943, 549755813887, 1099511627775, 2199023255551, 2199023255551, 8796093022207, 2199023255551, 2199023255551, 70368744177663, 140737488355327, 281474976710655, 562949953421311, 1125899906842623, 1125899906842623, 4503599627370495, 1125899906842623, 1125899906842623, 36028797018963967, 72057594037927935, 144115188075855871]
theorem laws_FnTables.tab10 : rtab .any (opsOf Try.f3 10) = laws_FnTables.T10 := by kernel_rfl
theorem laws_FnTables.bits10 : waitsOk laws_FnTables.T10.2 laws_FnTables.B10 = true := by kernel_rfl
def laws_FnTables.T13 : Bool × List (List Nat × List Nat) := (true, [([], []), ([0], [0]), ([1], [1]), ([2], [2]), ([2], [2]), ([3, 4, 2], [2, 3, 4]), ([5, 2], [2, 5]), ([6, 2], [2, 6]), ([7, 2], [2, 7]), ([8, 2, 2], [2, 8]), ([9], [9]), ([9], [9]), ([10, 11, 9, 9], [9, 10, 11]), ([9], [9]), ([12, 13, 9], [9, 12, 13]), ([9, 14, 2], [2, 9, 14]), ([2, 15], [2, 15])])
def laws_FnTables.B13 : List Nat := [0, 1, 3, 7, 7, 31, 63, 127, 255, 511, 1023, 1023, 4095, 1023, 16383, 32767, 65535]
theorem laws_FnTables.tab13 : rtab .any (opsOf Try.f3 13) = laws_FnTables.T13 := by kernel_rfl
theorem laws_FnTables.bits13 : waitsOk laws_FnTables.T13.2 laws_FnTables.B13 = true := by kernel_rfl
def laws_FnTables.T18 : Bool × List (List Nat × List Nat) := (true, [([], []), ([], []), ([0, 1], [0, 1]), ([2], [2]), ([3, 2], [3]), ([4], [4]), ([4], [4]), ([5, 6, 4], [4, 5, 6]), ([7, 4], [4, 7]), ([8, 4], [4, 8]), ([9, 4], [4, 9]), ([4], [4]), ([4], [4]), ([11, 12, 4], [4, 11, 12]), ([13, 4], [4, 13]), ([14, 4], [4, 14]), ([4], [4]), ([15, 16, 4], [4, 15, 16]), ([10, 17, 4], [4, 10, 17]), ([4, 18], [4, 18]), ([19, 4], [19]), ([20], [20]), ([20], [20]), ([21, 22, 20], [20, 21, 22]), ([23, 20], [20, 23]), ([24, 20], [20, 24]), ([25, 20], [20, 25]), ([26, 20, 20], [20, 26]), ([27], [27]), ([27], [27]), ([28, 29, 27], [27, 28, 29]), ([30, 27], [27, 30]), ([31, 27], [27, 31]), ([27], [27]), ([27], [27]), ([33, 34, 27], [27, 33, 34]), ([35, 27], [27, 35]), ([36, 27], [27, 36]), ([37, 27], [27, 37]), ([32, 38, 27], [27, 32, 38]), ([27, 39, 20], [20, 27, 39]), ([20, 40], [20, 40]), ([41, 27, 0, 1, 2, 3, 4, 5, 6, 7, 8, 9, 10, 11, 12, 13, 14, 15, 16, 17, 18, 19, 20, 21, 22, 23, 24, 25, 26, 27, 28, 29, 30, 31, 32, 33, 34, 35, 36, 37, 38, 39, 40, 41], [41])])
def laws_FnTables.B18 : List Nat := [0, 0, 3, 7, 15, 31, 31, 127, 255, 511, 1023, 31, 31, 6175, 14367, 30751, 31, 129055, 262143, 524287, 1048575, 2097151, 2097151, 8388607, 16777215, 33554431, 67108863, 134217727, 268435455, 268435455, 1073741823, 2147483647, 4294967295, 268435455, 268435455, 26038239231, 60397977599, 129117454335, 266556407807, 549755813887, 1099511627775, 2199023255551, 4398046511103]
theorem laws_FnTables.tab18 : rtab .any (opsOf Try.f3 18) = laws_FnTables.T18 := by kernel_rfl
theorem laws_FnTables.bits18 : waitsOk laws_FnTables.T18.2 laws_FnTables.B18 = true := by kernel_rfl
set_option maxHeartbeats 8000000 in
set_option maxRecDepth 100000 in
theorem laws_FnTables.calls (k : Nat) (A0 : Option Addr) (c0 : Nat) (l0 : List Int) (r : Bool) (w : World) (hr0 : Kd.C (Kd.int .u8) w A0 l0.length l0) (hc0 : l0.length ≤ c0) (h : laws_FnTables.f k l0 = some r) :
  Calls Try.prog 3 #[.slice A0 l0.length c0] w fun e w' => e = .returned (.bool r) ∧ Below w.heap.size w w' := by
 have hu29 := Try.underlying29
 have hu33 := Try.underlying33
 have HR0 := Aside0.mk hr0
 have HC0 := Aside0.mk hc0
 clear hr0 hc0
 have HB := Aside0.mk (Below.refl w.heap.size w)
 have H : ((laws_big.f l0).bind fun t661 => (if t661 = true then (some true) else ((spec_DrawClear.f k l0).bind fun bt662 => ((impl_Clear.f k bt662.1 bt662.2.1 bt662.2.2).bind fun t667 => ((spec_DrawPlaceOf.f k l0).bind fun bt670 => ((spec_DrawTableNew.f k l0).bind fun bt676 => ((spec_DrawCountNodes.f k l0).bind fun bt683 => ((spec_DrawSameTable.f k l0).bind fun bt687 => ((spec_DrawHandleAt.f k l0).bind fun bt693 => ((spec_Clear.f k bt662.1 bt662.2.1 bt662.2.2).bind fun t697 => ((laws_sameTable.f k t667 t697).bind fun t700 => (if t700 = true then ((impl_PlaceOf.f k bt670.1 bt670.2.1 bt670.2.2).bind fun t701 => ((spec_PlaceOf.f k bt670.1 bt670.2.1 bt670.2.2).bind fun t702 => (if t701 = t702 then ((impl_TableNew.f bt676.1 bt676.2.1 bt676.2.2.1 bt676.2.2.2.1 bt676.2.2.2.2.1 bt676.2.2.2.2.2).bind fun t703 => ((spec_TableNew.f k bt676.1 bt676.2.1 bt676.2.2.1 bt676.2.2.2.1 bt676.2.2.2.2.1 bt676.2.2.2.2.2).bind fun t706 => ((laws_sameTable.f k t703 t706).bind fun t709 => (if t709 = true then ((impl_CountNodes.f k bt683.1 bt683.2).bind fun t710 => ((spec_CountNodes.f k bt683.1 bt683.2).bind fun t711 => (if t710 = t711 then ((impl_FreePlace.f k bt683.1).bind fun t712 => ((spec_FreePlace.f k bt683.1).bind fun t713 => (if t712 = t713 then ((impl_SameTable.f k bt687.1 bt687.2).bind fun t714 => ((laws_sameTable.f k bt687.1 bt687.2).bind fun t715 => (if (t714 != t715) = true then (none) else ((impl_HandleAt.f bt693.1 bt693.2).bind fun bt716 => ((spec_HandleAt.f bt693.1 bt693.2).bind fun bt718 => (laws_FnTables.j0 k bt662.1 bt662.2.1 bt662.2.2 t667 bt670.1 (!(bt716.1 == bt718.1) || (!(bt716.2 == bt718.2))) bt670.2.1 bt670.2.2)))))) else (none)))) else (none)))) else (none))))) else (none)))) else (none))))))))))))) = some r := h
 clear h
 replace H := Option.bind_eq_some_iff.mp H
 obtain ⟨t661, A20, H⟩ := H
 try dsimp only at H
 have A2 := Aside0.mk A20
 clear A20
 by_cases c3 : t661 = true
 ·subst c3
  rw [if_pos rfl] at H
  obtain rfl := Option.some.inj H
  go_enter Try.func3, Try.ntmps3
  go_wp2_with (first | ((with_reducible refine gate_callee (f := 4) rfl ?_); refine goesL_ (some 19) rfl rfl Try.func4 (by kernel_rfl) rfl #[.slice A0 l0.length c0] rfl q51t ?_; (with_reducible refine (laws_big.calls _ _ l0 true _ ?side1 ?side2 A2.out).mono ?_); (case side1 => repeat (first | exact HR0.out | (with_reducible refine Kd.C_alloc ?_ _) | (with_reducible refine Kd.C_drewN ?_ _) | (with_reducible refine Kd.C_drew ?_))); (case side2 => exact HC0.out); rintro e w' ⟨rfl, ⟨nd, rfl⟩⟩; refine ⟨_, rfl, ?_⟩))
  go_ret
  exact ⟨q73t, q53t⟩
 replace c3 := Bool.eq_false_iff.mpr c3
 subst c3
 rw [if_neg (show ¬ (false = true) by decide)] at H
 replace H := Option.bind_eq_some_iff.mp H
 obtain ⟨⟨t662, t663, t664⟩, A40, H⟩ := H
 try dsimp only at H
 have A4 := Aside0.mk A40
 clear A40
 replace H := Option.bind_eq_some_iff.mp H
 obtain ⟨t667, A50, H⟩ := H
 try dsimp only at H
 have A5 := Aside0.mk A50
 clear A50
 replace H := Option.bind_eq_some_iff.mp H
 obtain ⟨⟨t670, t673, t674⟩, A60, H⟩ := H
 try dsimp only at H
 have A6 := Aside0.mk A60
 clear A60
 replace H := Option.bind_eq_some_iff.mp H
 obtain ⟨⟨t676, t677, t678, t679, t680, t681⟩, A70, H⟩ := H
 try dsimp only at H
 have A7 := Aside0.mk A70
 clear A70
 replace H := Option.bind_eq_some_iff.mp H
 obtain ⟨⟨t683, t684⟩, A80, H⟩ := H
 try dsimp only at H
 have A8 := Aside0.mk A80
 clear A80
 replace H := Option.bind_eq_some_iff.mp H
 obtain ⟨⟨t687, t688⟩, A90, H⟩ := H
 try dsimp only at H
 have A9 := Aside0.mk A90
 clear A90
 replace H := Option.bind_eq_some_iff.mp H
 obtain ⟨⟨t693, t694⟩, A100, H⟩ := H
 try dsimp only at H
 have A10 := Aside0.mk A100
 clear A100
 have HC11 := Aside0.mk H
 clear H
 go_enter Try.func3, Try.ntmps3
 go_upto_region 10 with (first | ((with_reducible refine gate_callee (f := 4) rfl ?_); refine goesL_ (some 19) rfl rfl Try.func4 (by kernel_rfl) rfl #[.slice A0 l0.length c0] rfl q51t ?_; (with_reducible refine (laws_big.calls _ _ l0 false _ ?side1 ?side2 A2.out).mono ?_); (case side1 => repeat (first | exact HR0.out | (with_reducible refine Kd.C_alloc ?_ _) | (with_reducible refine Kd.C_drewN ?_ _) | (with_reducible refine Kd.C_drew ?_))); (case side2 => exact HC0.out); rintro e w' ⟨rfl, ⟨nd, rfl⟩⟩; refine ⟨_, rfl, ?_⟩) | ((with_reducible refine gate_callee (f := 5) rfl ?_); refine goesL_ (some 22) rfl rfl Try.func5 (by kernel_rfl) rfl #[.slice A0 l0.length c0] rfl q51t ?_; (with_reducible refine (spec_DrawClear.calls k _ _ l0 t662 t663 t664 _ ?side1 ?side2 A4.out).mono ?_); (case side1 => repeat (first | exact HR0.out | (with_reducible refine Kd.C_alloc ?_ _) | (with_reducible refine Kd.C_drewN ?_ _) | (with_reducible refine Kd.C_drew ?_))); (case side2 => exact HC0.out); rintro e w12 ⟨v665, rfl, ho0, hb⟩; refine ⟨_, rfl, ?_⟩; have HO666 := Aside0.mk (Kd.S_lower ho0 (below_size q53t)); replace HB := Aside0.mk (below_step q53t hb); (try clear hb); (try clear hb2); (try clear hk); (try clear hi); (try clear ho0); obtain ⟨Ao13, co13, eo13⟩ := Kd.S_slice HO666.out; subst eo13) | ((with_reducible refine gate_callee (f := 6) rfl ?_); refine goesL_ (some 29) rfl rfl Try.func6 (by kernel_rfl) rfl #[.slice Ao13 t662.length co13, .int .i64 t663, .int .i64 t664] rfl q51t ?_; (with_reducible refine (impl_Clear.calls k _ _ t662 t663 t664 t667 _ ?side1 ?side2 A5.out).mono ?_); (case side1 => repeat (first | exact (Kd.S_reads' HO666.out).2.2 | (with_reducible refine Kd.C_alloc ?_ _) | (with_reducible refine Kd.C_drewN ?_ _) | (with_reducible refine Kd.C_drew ?_))); (case side2 => exact (Kd.S_reads' HO666.out).2.1); rintro e w14 ⟨v668, rfl, ho0, hb⟩; refine ⟨_, rfl, ?_⟩; have HO669 := Aside0.mk (Kd.S_lower (Kd.S_new' ho0 (Kd.S_lt q60t)) (below_size q53t)); replace HO666 := Aside0.mk (Kd.S_elder' q60t (Kd.S_base ho0) hb); replace HB := Aside0.mk (below_step q53t hb); (try clear hb); (try clear hb2); (try clear hk); (try clear hi); (try clear ho0)) | ((with_reducible refine gate_callee (f := 7) rfl ?_); refine goesL_ (some 32) rfl rfl Try.func7 (by kernel_rfl) rfl #[.slice A0 l0.length c0] rfl q51t ?_; (with_reducible refine (spec_DrawPlaceOf.calls k _ _ l0 t670 t673 t674 _ ?side1 ?side2 A6.out).mono ?_); (case side1 => exact sC (Kd.C_below HR0.out HB.out)); (case side2 => exact HC0.out); rintro e w15 ⟨v671, rfl, ho0, hb⟩; refine ⟨_, rfl, ?_⟩; have HO672 := Aside0.mk (Kd.S_lower (Kd.S_new' (Kd.S_new' ho0 (Kd.S_lt q60t)) (Kd.S_lt q61t)) (below_size q53t)); replace HO666 := Aside0.mk (Kd.S_elder' q60t (Kd.S_base ho0) hb); replace HO669 := Aside0.mk (Kd.S_elder' q61t (Kd.S_base ho0) hb); replace HB := Aside0.mk (below_step q53t hb); (try clear hb); (try clear hb2); (try clear hk); (try clear hi); (try clear ho0)) | ((with_reducible refine gate_dst (N := 8) rfl ?_); (try (refine gate_guard (by rfl) ?_; dsimp only)); refine box_ev 8 #[.int .i64 0, .int .i64 0] 29 ?_; intro gb675 hg w16 hbox hb; replace HO666 := Aside0.mk (Kd.S_below q60t hb); replace HO669 := Aside0.mk (Kd.S_below q61t hb); replace HO672 := Aside0.mk (Kd.S_below q62t hb); have BK675 := Aside0.mk (hbox); have GW675 := Aside0.mk ((q48t : w.heap.size ≤ gb675)); have GE675 := Aside0.mk ((q48t : w.heap.size ≤ gb675)); replace HB := Aside0.mk (below_step q53t hb); clear hb hbox hg; obtain ⟨hcz17_0, hcz17_1⟩ := qc2 BK675.out; obtain ⟨hfz17_0, hfz17_1⟩ := qf2 BK675.out) | ((with_reducible refine gate_callee (f := 8) rfl ?_); refine goesL_ (some 36) rfl rfl Try.func8 (by kernel_rfl) rfl #[.slice A0 l0.length c0] rfl q51t ?_; (with_reducible refine (spec_DrawTableNew.calls k _ _ l0 t676 t677 t678 t679 t680 t681 _ ?side1 ?side2 A7.out).mono ?_); (case side1 => exact Kd.C_below HR0.out q33t); (case side2 => exact HC0.out); rintro e w18 ⟨rfl, hb⟩; refine ⟨_, rfl, ?_⟩; replace HO666 := Aside0.mk (Kd.S_below (by (with_reducible repeat (first | apply Kd.S_alloc | apply Kd.S_drewN | apply Kd.S_drew)); exact (Kd.S_mono (skf (skf (Kd.S_types HO666.out BK675.out q85t))) (fun _ h_ => h_.1))) hb); replace HO669 := Aside0.mk (Kd.S_below (by (with_reducible repeat (first | apply Kd.S_alloc | apply Kd.S_drewN | apply Kd.S_drew)); exact (Kd.S_mono (skf (skf (Kd.S_types HO669.out BK675.out q85t))) (fun _ h_ => h_.1))) hb); replace HO672 := Aside0.mk (Kd.S_below (by (with_reducible repeat (first | apply Kd.S_alloc | apply Kd.S_drewN | apply Kd.S_drew)); exact (Kd.S_mono (skf (skf (Kd.S_types HO672.out BK675.out q85t))) (fun _ h_ => h_.1))) hb); replace BK675 := blp BK675 hb; replace HB := Aside0.mk (below_step q33t hb); (try clear hb); (try clear hb2); (try clear hk); (try clear hi)) | ((with_reducible refine gate_dst (N := 9) rfl ?_); (try (refine gate_guard (by rfl) ?_; dsimp only)); refine box_ev 9 #[.int .i64 0, .int .i64 0, .int .i64 0, .int .i64 0, .int .i64 0, .int .i64 0] 33 ?_; intro gb682 hg w19 hbox hb; replace HO666 := Aside0.mk (Kd.S_below q60t hb); replace HO669 := Aside0.mk (Kd.S_below q61t hb); replace HO672 := Aside0.mk (Kd.S_below q62t hb); have BK682 := Aside0.mk (hbox); have GW682 := Aside0.mk ((q26t : w.heap.size ≤ gb682)); have GE682 := Aside0.mk ((q26t : w.heap.size ≤ gb682)); replace HB := Aside0.mk (below_step q33t hb); have NB675_682 := Aside0.mk ((by rw [hg]; exact Nat.ne_of_lt (blk_lt (qbk BK675)) : gb675 ≠ gb682)); have NB682_675 := Aside0.mk ((by rw [hg]; exact Nat.ne_of_gt (blk_lt (qbk BK675)) : gb682 ≠ gb675)); replace BK675 := blb BK675 hb; clear hb hbox hg; have hnb20 := NB682_675.out; have hnc20 := NB675_682.out; obtain ⟨hcz21_0, hcz21_1, hcz21_2, hcz21_3, hcz21_4, hcz21_5⟩ := qc6 BK682.out; obtain ⟨hfz21_0, hfz21_1, hfz21_2, hfz21_3, hfz21_4, hfz21_5⟩ := qf6 BK682.out) | ((with_reducible refine gate_callee (f := 9) rfl ?_); refine goesL_ (some 39) rfl rfl Try.func9 (by kernel_rfl) rfl #[.slice A0 l0.length c0] rfl q51t ?_; (with_reducible refine (spec_DrawCountNodes.calls k _ _ l0 t683 t684 _ ?side1 ?side2 A8.out).mono ?_); (case side1 => exact Kd.C_below HR0.out q33t); (case side2 => exact HC0.out); rintro e w22 ⟨v685, rfl, ho0, hb⟩; refine ⟨_, rfl, ?_⟩; have HO686 := Aside0.mk (Kd.S_lower (Kd.S_new' (Kd.S_new' (Kd.S_new' ho0 (Kd.S_lt (by (with_reducible repeat (first | apply Kd.S_alloc | apply Kd.S_drewN | apply Kd.S_drew)); exact (Kd.S_mono (skf (skf (skf (skf (skf (skf (Kd.S_types HO666.out BK682.out q85t))))))) (fun _ h_ => h_.1))))) (Kd.S_lt (by (with_reducible repeat (first | apply Kd.S_alloc | apply Kd.S_drewN | apply Kd.S_drew)); exact (Kd.S_mono (skf (skf (skf (skf (skf (skf (Kd.S_types HO669.out BK682.out q85t))))))) (fun _ h_ => h_.1))))) (Kd.S_lt (by (with_reducible repeat (first | apply Kd.S_alloc | apply Kd.S_drewN | apply Kd.S_drew)); exact (Kd.S_mono (skf (skf (skf (skf (skf (skf (Kd.S_types HO672.out BK682.out q85t))))))) (fun _ h_ => h_.1))))) (below_size q33t)); replace HO666 := Aside0.mk (Kd.S_elder' (by (with_reducible repeat (first | apply Kd.S_alloc | apply Kd.S_drewN | apply Kd.S_drew)); exact (Kd.S_mono (skf (skf (skf (skf (skf (skf (Kd.S_types HO666.out BK682.out q85t))))))) (fun _ h_ => h_.1))) (Kd.S_base ho0) hb); replace HO669 := Aside0.mk (Kd.S_elder' (by (with_reducible repeat (first | apply Kd.S_alloc | apply Kd.S_drewN | apply Kd.S_drew)); exact (Kd.S_mono (skf (skf (skf (skf (skf (skf (Kd.S_types HO669.out BK682.out q85t))))))) (fun _ h_ => h_.1))) (Kd.S_base ho0) hb); replace HO672 := Aside0.mk (Kd.S_elder' (by (with_reducible repeat (first | apply Kd.S_alloc | apply Kd.S_drewN | apply Kd.S_drew)); exact (Kd.S_mono (skf (skf (skf (skf (skf (skf (Kd.S_types HO672.out BK682.out q85t))))))) (fun _ h_ => h_.1))) (Kd.S_base ho0) hb); replace BK675 := Aside0.mk (blk_below (g := gb675) (o := .cells #[.int .i64 t673, .int .i64 t674] 29 (0, 0)) (by (with_reducible repeat (first | refine blk_drewN ?_ _ | refine blk_drew ?_ | refine blk_alloc ?_ _)); refine blk_far ?_ NB675_682.out _; (with_reducible repeat (first | refine blk_drewN ?_ _ | refine blk_drew ?_ | refine blk_alloc ?_ _)); refine blk_far ?_ NB675_682.out _; (with_reducible repeat (first | refine blk_drewN ?_ _ | refine blk_drew ?_ | refine blk_alloc ?_ _)); refine blk_far ?_ NB675_682.out _; (with_reducible repeat (first | refine blk_drewN ?_ _ | refine blk_drew ?_ | refine blk_alloc ?_ _)); refine blk_far ?_ NB675_682.out _; (with_reducible repeat (first | refine blk_drewN ?_ _ | refine blk_drew ?_ | refine blk_alloc ?_ _)); refine blk_far ?_ NB675_682.out _; (with_reducible repeat (first | refine blk_drewN ?_ _ | refine blk_drew ?_ | refine blk_alloc ?_ _)); refine blk_far ?_ NB675_682.out _; (with_reducible repeat (first | refine blk_drewN ?_ _ | refine blk_drew ?_ | refine blk_alloc ?_ _)); exact BK675.out) hb); replace BK682 := blp BK682 hb; replace HB := Aside0.mk (below_step q33t hb); (try clear hb); (try clear hb2); (try clear hk); (try clear hi); (try clear ho0)) | ((with_reducible refine gate_callee (f := 10) rfl ?_); refine goesL_ (some 44) rfl rfl Try.func10 (by kernel_rfl) rfl #[.slice A0 l0.length c0] rfl q51t ?_; (with_reducible refine (spec_DrawSameTable.calls k _ _ l0 t687 t688 _ ?side1 ?side2 A9.out).mono ?_); (case side1 => exact sC (Kd.C_below HR0.out HB.out)); (case side2 => exact HC0.out); rintro e w23 ⟨v689, v691, rfl, ho0, ho1, hb⟩; refine ⟨_, rfl, ?_⟩; have HO690 := Aside0.mk (Kd.S_lower (Kd.S_new' (Kd.S_new' (Kd.S_new' (Kd.S_new' ho0 (Kd.S_lt q60t)) (Kd.S_lt q61t)) (Kd.S_lt q62t)) (Kd.S_lt q63t)) (below_size q33t)); have HO692 := Aside0.mk (Kd.S_lower (Kd.S_new' (Kd.S_new' (Kd.S_new' (Kd.S_new' ho1 (Kd.S_lt q60t)) (Kd.S_lt q61t)) (Kd.S_lt q62t)) (Kd.S_lt q63t)) (below_size q33t)); replace HO666 := Aside0.mk (Kd.S_mono (Kd.S_told (Kd.S_told (Kd.S_old q60t hb) (Kd.S_base ho0)) (Kd.S_base ho1)) (fun _ h_ => h_.1)); replace HO669 := Aside0.mk (Kd.S_mono (Kd.S_told (Kd.S_told (Kd.S_old q61t hb) (Kd.S_base ho0)) (Kd.S_base ho1)) (fun _ h_ => h_.1)); replace HO672 := Aside0.mk (Kd.S_mono (Kd.S_told (Kd.S_told (Kd.S_old q62t hb) (Kd.S_base ho0)) (Kd.S_base ho1)) (fun _ h_ => h_.1)); replace HO686 := Aside0.mk (Kd.S_mono (Kd.S_told (Kd.S_told (Kd.S_old q63t hb) (Kd.S_base ho0)) (Kd.S_base ho1)) (fun _ h_ => h_.1)); replace BK675 := blb BK675 hb; replace BK682 := blb BK682 hb; replace HB := Aside0.mk (below_step q33t hb); (try clear hb); (try clear hb2); (try clear hk); (try clear hi); (try clear ho0); (try clear ho1)) | ((with_reducible refine gate_callee (f := 11) rfl ?_); refine goesL_ (some 49) rfl rfl Try.func11 (by kernel_rfl) rfl #[.slice A0 l0.length c0] rfl q51t ?_; (with_reducible refine (spec_DrawHandleAt.calls k _ _ l0 t693 t694 _ ?side1 ?side2 A10.out).mono ?_); (case side1 => exact sC (Kd.C_below HR0.out HB.out)); (case side2 => exact HC0.out); rintro e w24 ⟨v695, rfl, ho0, hb⟩; refine ⟨_, rfl, ?_⟩; have HO696 := Aside0.mk (Kd.S_lower (Kd.S_new' (Kd.S_new' (Kd.S_new' (Kd.S_new' (Kd.S_new' (Kd.S_new' ho0 (Kd.S_lt q60t)) (Kd.S_lt q61t)) (Kd.S_lt q62t)) (Kd.S_lt q63t)) (Kd.S_lt q64t)) (Kd.S_lt q65t)) (below_size q33t)); replace HO666 := Aside0.mk (Kd.S_elder' q60t (Kd.S_base ho0) hb); replace HO669 := Aside0.mk (Kd.S_elder' q61t (Kd.S_base ho0) hb); replace HO672 := Aside0.mk (Kd.S_elder' q62t (Kd.S_base ho0) hb); replace HO686 := Aside0.mk (Kd.S_elder' q63t (Kd.S_base ho0) hb); replace HO690 := Aside0.mk (Kd.S_elder' q64t (Kd.S_base ho0) hb); replace HO692 := Aside0.mk (Kd.S_elder' q65t (Kd.S_base ho0) hb); replace BK675 := blb BK675 hb; replace BK682 := blb BK682 hb; replace HB := Aside0.mk (below_step q33t hb); (try clear hb); (try clear hb2); (try clear hk); (try clear hi); (try clear ho0)))
 (try simp only [Act.put, List.setIfInBounds_toArray, List.set_cons_zero, List.set_cons_succ])
 go_cut [109] (fun v109 wc => ∃ (kq : Nat) (x109_10 : Bool), v109 = .bool x109_10 ∧ Aside0 (laws_FnTables.j0 kq t662 t663 t664 t667 t670 x109_10 t673 t674 = some r) ∧ Aside0 (kq ≤ k) ∧ Aside0 (Kd.S k48 48 wc w.heap.size (fun k_ => some k_ ≠ (v668 : Value).ownBlock ∧ some k_ ≠ (v671 : Value).ownBlock) (.slice Ao13 t662.length co13) t662) ∧ Aside0 (Kd.S k48 48 wc w.heap.size (fun k_ => some k_ ≠ ((.slice Ao13 t662.length co13) : Value).ownBlock ∧ some k_ ≠ (v671 : Value).ownBlock) v668 t667) ∧ Aside0 (Kd.S k48 48 wc w.heap.size (fun k_ => some k_ ≠ ((.slice Ao13 t662.length co13) : Value).ownBlock ∧ some k_ ≠ (v668 : Value).ownBlock) v671 t670) ∧ Aside0 (wc.heap[gb675]? = some (.cells #[.int .i64 t673, .int .i64 t674] 29 (0, 0))) ∧ Aside0 (wc.heap[gb682]? = some (.cells #[.int .i64 t676, .int .i64 t677, .int .i64 t678, .int .i64 t679, .int .i64 t680, .int .i64 t681] 33 (0, 0))) ∧ Aside0 (Below w.heap.size w wc))
 case first =>
  have H := HC11.out
  clear HC11
  replace H := Option.bind_eq_some_iff.mp H
  obtain ⟨t697, A250, H⟩ := H
  try dsimp only at H
  have A25 := Aside0.mk A250
  clear A250
  replace H := Option.bind_eq_some_iff.mp H
  obtain ⟨t700, A260, H⟩ := H
  try dsimp only at H
  have A26 := Aside0.mk A260
  clear A260
  by_cases c27 : t700 = true
  rotate_left
  ·replace c27 := Bool.eq_false_iff.mpr c27
   subst c27
   rw [if_neg (show ¬ (false = true) by decide)] at H
   exact absurd H q87t
  subst c27
  rw [if_pos rfl] at H
  replace H := Option.bind_eq_some_iff.mp H
  obtain ⟨t701, A280, H⟩ := H
  try dsimp only at H
  have A28 := Aside0.mk A280
  clear A280
  replace H := Option.bind_eq_some_iff.mp H
  obtain ⟨t702, A290, H⟩ := H
  try dsimp only at H
  have A29 := Aside0.mk A290
  clear A290
  by_cases c30 : t701 = t702
  rotate_left
  ·rw [if_neg c30] at H
   have c30b0 : (t701 == t702) = false := beq_eq_false_iff_ne.mpr c30
   have c30b1 : (t701 != t702) = true := bne_iff_ne.mpr c30
   (first | rw [c30b0] | (simp only [i64_w, i32_w]; rw [c30b0]) | skip)
   exact absurd H q87t
  rw [if_pos c30] at H
  have c30b0 : (t701 == t702) = true := beq_iff_eq.mpr c30
  have c30b1 : (t701 != t702) = false := bne_eq_false_iff_eq.mpr c30
  clear c30
  (first | rw [c30b0] | (simp only [i64_w, i32_w]; rw [c30b0]) | skip)
  replace H := Option.bind_eq_some_iff.mp H
  obtain ⟨t703, A310, H⟩ := H
  try dsimp only at H
  have A31 := Aside0.mk A310
  clear A310
  replace H := Option.bind_eq_some_iff.mp H
  obtain ⟨t706, A320, H⟩ := H
  try dsimp only at H
  have A32 := Aside0.mk A320
  clear A320
  replace H := Option.bind_eq_some_iff.mp H
  obtain ⟨t709, A330, H⟩ := H
  try dsimp only at H
  have A33 := Aside0.mk A330
  clear A330
  by_cases c34 : t709 = true
  rotate_left
  ·replace c34 := Bool.eq_false_iff.mpr c34
   subst c34
   rw [if_neg (show ¬ (false = true) by decide)] at H
   exact absurd H q87t
  subst c34
  rw [if_pos rfl] at H
  replace H := Option.bind_eq_some_iff.mp H
  obtain ⟨t710, A350, H⟩ := H
  try dsimp only at H
  have A35 := Aside0.mk A350
  clear A350
  replace H := Option.bind_eq_some_iff.mp H
  obtain ⟨t711, A360, H⟩ := H
  try dsimp only at H
  have A36 := Aside0.mk A360
  clear A360
  by_cases c37 : t710 = t711
  rotate_left
  ·rw [if_neg c37] at H
   have c37b0 : (t710 == t711) = false := beq_eq_false_iff_ne.mpr c37
   have c37b1 : (t710 != t711) = true := bne_iff_ne.mpr c37
   exact absurd H q87t
  rw [if_pos c37] at H
  have c37b0 : (t710 == t711) = true := beq_iff_eq.mpr c37
  have c37b1 : (t710 != t711) = false := bne_eq_false_iff_eq.mpr c37
  clear c37
  replace H := Option.bind_eq_some_iff.mp H
  obtain ⟨t712, A380, H⟩ := H
  try dsimp only at H
  have A38 := Aside0.mk A380
  clear A380
  replace H := Option.bind_eq_some_iff.mp H
  obtain ⟨t713, A390, H⟩ := H
  try dsimp only at H
  have A39 := Aside0.mk A390
  clear A390
  by_cases c40 : t712 = t713
  rotate_left
  ·rw [if_neg c40] at H
   have c40b0 : (t712 == t713) = false := beq_eq_false_iff_ne.mpr c40
   have c40b1 : (t712 != t713) = true := bne_iff_ne.mpr c40
   exact absurd H q87t
  rw [if_pos c40] at H
  have c40b0 : (t712 == t713) = true := beq_iff_eq.mpr c40
  have c40b1 : (t712 != t713) = false := bne_eq_false_iff_eq.mpr c40
  clear c40
  replace H := Option.bind_eq_some_iff.mp H
  obtain ⟨t714, A410, H⟩ := H
  try dsimp only at H
  have A41 := Aside0.mk A410
  clear A410
  replace H := Option.bind_eq_some_iff.mp H
  obtain ⟨t715, A420, H⟩ := H
  try dsimp only at H
  have A42 := Aside0.mk A420
  clear A420
  by_cases c43 : (t714 != t715) = true
  ·rw [if_pos c43] at H
   have c43b0 : (t714 != t715) = true := c43
   (try (have c43b1 : decide (t714 = t715) = false := by simpa using c43))
   (try (have c43b2 : (t714 == t715) = false := by simpa using c43))
   (try (have c43b3 : ¬ (t714 = t715) := by simpa using c43))
   clear c43
   exact absurd H q87t
  rw [if_neg c43] at H
  have c43b0 : (t714 != t715) = false := by simpa using c43
  (try (have c43b1 : decide (t714 = t715) = true := by simpa using c43))
  (try (have c43b2 : (t714 == t715) = true := by simpa using c43))
  clear c43
  replace H := Option.bind_eq_some_iff.mp H
  obtain ⟨⟨t716, t717⟩, A440, H⟩ := H
  try dsimp only at H
  have A44 := Aside0.mk A440
  clear A440
  replace H := Option.bind_eq_some_iff.mp H
  obtain ⟨⟨t718, t719⟩, A450, H⟩ := H
  try dsimp only at H
  have A45 := Aside0.mk A450
  clear A450
  have H' := Aside0.mk H
  clear H
  try go_wp2
  replace HO666 := Aside0.mk (Kd.S_drew HO666.out)
  replace HO669 := Aside0.mk (Kd.S_drew HO669.out)
  replace HO672 := Aside0.mk (Kd.S_drew HO672.out)
  replace HO686 := Aside0.mk (Kd.S_drew HO686.out)
  replace HO690 := Aside0.mk (Kd.S_drew HO690.out)
  replace HO692 := Aside0.mk (Kd.S_drew HO692.out)
  replace HO696 := Aside0.mk (Kd.S_drew HO696.out)
  replace BK675 := Aside0.mk (blk_drew BK675.out)
  replace BK682 := Aside0.mk (blk_drew BK682.out)
  replace HB := Aside0.mk (below_drew1 HB.out)
  refine start_ (n := 58) (S := fun w' => w'.cell? ⟨gb675, 0, none⟩ = some (.int .i64 t673) ∧ w'.cell? ⟨gb675, 1, none⟩ = some (.int .i64 t674) ∧ w'.cell? ⟨gb682, 0, none⟩ = some (.int .i64 t676) ∧ w'.cell? ⟨gb682, 1, none⟩ = some (.int .i64 t677) ∧ w'.cell? ⟨gb682, 2, none⟩ = some (.int .i64 t678) ∧ w'.cell? ⟨gb682, 3, none⟩ = some (.int .i64 t679) ∧ w'.cell? ⟨gb682, 4, none⟩ = some (.int .i64 t680) ∧ w'.cell? ⟨gb682, 5, none⟩ = some (.int .i64 t681)) (ds := []) (bm 58 0) (by kernel_rfl) rfl (by kernel_rfl) ⟨(blk_cell BK675.out 0).trans rfl, (blk_cell BK675.out 1).trans rfl, (blk_cell BK682.out 0).trans rfl, (blk_cell BK682.out 1).trans rfl, (blk_cell BK682.out 2).trans rfl, (blk_cell BK682.out 3).trans rfl, (blk_cell BK682.out 4).trans rfl, (blk_cell BK682.out 5).trans rfl⟩ (fun hHeld => ?_); refine with_tabW laws_FnTables.tab10 laws_FnTables.bits10 (fun HT_ HW_ => ?_)
  generalize w24.drew = w46 at HO666 HO669 HO672 HO686 HO690 HO692 HO696 BK675 BK682 HB hHeld ⊢
  refine pu_ 0 (some 52) (bm 58 1) (any_of HT_.out (by kernel_rfl)) ?_
  refine pu_ 1 (some 53) (bm 58 3) (any_of HT_.out (by kernel_rfl)) ?_
  refine pu_ 2 (some 54) (bm 58 7) (any_of HT_.out (by kernel_rfl)) ?_
  refine pu_ 3 (some 55) (bm 58 15) (any_of HT_.out (by kernel_rfl)) ?_
  refine one_ (i := 4) (N := some 56) (bm 58 31) rfl rfl (one_of HT_.out (by kernel_rfl)) q85t (fun K hK => ?_)
  refine goes_ Try.func13 (by kernel_rfl) rfl #[.slice Ao13 t662.length co13, .int .i64 t663, .int .i64 t664] (by rfl) rfl rfl q51t ?_
  with_reducible refine (spec_Clear.calls k _ _ t662 t663 t664 t697 _ ?side1 ?side2 A25.out).mono ?_
  (case side1 => repeat (first | exact (Kd.S_reads' HO666.out).2.2 | (with_reducible refine Kd.C_alloc ?_ _) | (with_reducible refine Kd.C_drewN ?_ _) | (with_reducible refine Kd.C_drew ?_)))
  (case side2 => exact (Kd.S_reads' HO666.out).2.1)
  rintro e w47 ⟨v698, rfl, ho0, hb⟩
  refine ⟨_, rfl, ?_⟩
  have HO699 := Aside0.mk (Kd.S_lower (Kd.S_new' (Kd.S_new' (Kd.S_new' (Kd.S_new' (Kd.S_new' (Kd.S_new' (Kd.S_new' ho0 (Kd.S_lt q60t)) (Kd.S_lt q61t)) (Kd.S_lt q62t)) (Kd.S_lt q63t)) (Kd.S_lt q64t)) (Kd.S_lt q65t)) (Kd.S_lt q66t)) (below_size q33t))
  replace HO666 := Aside0.mk (Kd.S_elder' q60t (Kd.S_base ho0) hb)
  replace HO669 := Aside0.mk (Kd.S_elder' q61t (Kd.S_base ho0) hb)
  replace HO672 := Aside0.mk (Kd.S_elder' q62t (Kd.S_base ho0) hb)
  replace HO686 := Aside0.mk (Kd.S_elder' q63t (Kd.S_base ho0) hb)
  replace HO690 := Aside0.mk (Kd.S_elder' q64t (Kd.S_base ho0) hb)
  replace HO692 := Aside0.mk (Kd.S_elder' q65t (Kd.S_base ho0) hb)
  replace HO696 := Aside0.mk (Kd.S_elder' q66t (Kd.S_base ho0) hb)
  replace BK675 := blb BK675 hb
  replace BK682 := blb BK682 hb
  replace HB := Aside0.mk (below_step q33t hb)
  (try clear hb)
  (try clear hb2)
  (try clear hk)
  (try clear hi)
  (try clear ho0)
  obtain ⟨Ao48, co48, eo48⟩ := Kd.S_slice HO669.out
  (first | subst eo48 | (injection eo48 with f1_ f2_ f3_; have f4_ := f1_.symm; have f5_ := f3_.symm; clear f1_ f2_ f3_; subst f4_; subst f5_))
  obtain ⟨Ao49, co49, eo49⟩ := Kd.S_slice HO699.out
  (first | subst eo49 | (injection eo49 with f1_ f2_ f3_; have f4_ := f1_.symm; have f5_ := f3_.symm; clear f1_ f2_ f3_; subst f4_; subst f5_))
  refine hK.out _ _ q9t (fun hHeld => ?_)
  clear hK K
  refine norm_ (a' := ?_) ?_ ?_
  rotate_left
  ·show Act.put _ (some 56) _ = _
   simp only [Act.put, List.setIfInBounds_toArray, List.set_cons_zero, List.set_cons_succ, i64_w, i32_w]
   rfl
  refine one_ (i := 5) (N := some 57) (bm 58 63) rfl rfl (one_of HT_.out (by kernel_rfl)) q85t (fun K hK => ?_)
  refine goes_ Try.func12 (by kernel_rfl) rfl #[.slice Ao48 t667.length co48, .slice Ao49 t697.length co49] (by rfl) rfl rfl q51t ?_
  with_reducible refine (laws_sameTable.calls k _ _ t667 _ _ t697 true _ ?side1 ?side2 ?side3 ?side4 A26.out).mono ?_
  (case side1 => repeat (first | exact (Kd.S_reads' HO669.out).2.2 | (with_reducible refine Kd.C_alloc ?_ _) | (with_reducible refine Kd.C_drewN ?_ _) | (with_reducible refine Kd.C_drew ?_)))
  (case side2 => exact (Kd.S_reads' HO669.out).2.1)
  (case side3 => repeat (first | exact (Kd.S_reads' HO699.out).2.2 | (with_reducible refine Kd.C_alloc ?_ _) | (with_reducible refine Kd.C_drewN ?_ _) | (with_reducible refine Kd.C_drew ?_)))
  (case side4 => exact (Kd.S_reads' HO699.out).2.1)
  rintro e w50 ⟨rfl, hb⟩
  refine ⟨_, rfl, ?_⟩
  replace HO666 := Aside0.mk (Kd.S_below q60t hb)
  replace HO669 := Aside0.mk (Kd.S_below q61t hb)
  replace HO672 := Aside0.mk (Kd.S_below q62t hb)
  replace HO686 := Aside0.mk (Kd.S_below q63t hb)
  replace HO690 := Aside0.mk (Kd.S_below q64t hb)
  replace HO692 := Aside0.mk (Kd.S_below q65t hb)
  replace HO696 := Aside0.mk (Kd.S_below q66t hb)
  replace HO699 := Aside0.mk (Kd.S_below q67t hb)
  replace BK675 := blb BK675 hb
  replace BK682 := blb BK682 hb
  replace HB := Aside0.mk (below_step q33t hb)
  (try clear hb)
  (try clear hb2)
  (try clear hk)
  (try clear hi)
  obtain ⟨Ao51, co51, eo51⟩ := Kd.S_slice HO672.out
  (first | subst eo51 | (injection eo51 with f1_ f2_ f3_; have f4_ := f1_.symm; have f5_ := f3_.symm; clear f1_ f2_ f3_; subst f4_; subst f5_))
  refine hK.out _ _ q9t (fun hHeld => ?_)
  clear hK K
  refine norm_ (a' := ?_) ?_ ?_
  rotate_left
  ·show Act.put _ (some 57) _ = _
   simp only [Act.put, List.setIfInBounds_toArray, List.set_cons_zero, List.set_cons_succ, i64_w, i32_w]
   rfl
  refine pu_ 6 (some 58) (bm 58 127) (any_of HT_.out (by kernel_rfl)) ?_
  refine pu_ 7 (some 59) (bm 58 255) (any_of HT_.out (by kernel_rfl)) ?_
  refine pu_ 8 (some 60) (bm 58 511) (any_of HT_.out (by kernel_rfl)) ?_
  refine pu_ 11 (some 63) (bm 58 2559) (any_of HT_.out (by kernel_rfl)) ?_
  refine tk_ 9 (some 61) (bm 58 3071) (take_ofW HT_.out HW_.out (by kernel_rfl)) hHeld ?_
  refine tk_ 12 (some 64) (bm 58 7167) (take_ofW HT_.out HW_.out (by kernel_rfl)) hHeld ?_
  refine one_ (i := 10) (N := some 62) (bm 58 8191) rfl rfl (one_of HT_.out (by kernel_rfl)) q85t (fun K hK => ?_)
  refine goes_ Try.func14 (by kernel_rfl) rfl #[.slice Ao51 t670.length co51, .agg #[.int .i64 t673, .int .i64 t674]] (by rfl) rfl rfl q51t ?_
  with_reducible refine (impl_PlaceOf.calls k _ _ t670 t673 t674 t701 _ ?side1 ?side2 A28.out).mono ?_
  (case side1 => repeat (first | exact (Kd.S_reads' HO672.out).2.2 | (with_reducible refine Kd.C_alloc ?_ _) | (with_reducible refine Kd.C_drewN ?_ _) | (with_reducible refine Kd.C_drew ?_)))
  (case side2 => exact (Kd.S_reads' HO672.out).2.1)
  rintro e w52 ⟨rfl, hb⟩
  refine ⟨_, rfl, ?_⟩
  replace HO666 := Aside0.mk (Kd.S_below q60t hb)
  replace HO669 := Aside0.mk (Kd.S_below q61t hb)
  replace HO672 := Aside0.mk (Kd.S_below q62t hb)
  replace HO686 := Aside0.mk (Kd.S_below q63t hb)
  replace HO690 := Aside0.mk (Kd.S_below q64t hb)
  replace HO692 := Aside0.mk (Kd.S_below q65t hb)
  replace HO696 := Aside0.mk (Kd.S_below q66t hb)
  replace HO699 := Aside0.mk (Kd.S_below q67t hb)
  replace BK675 := blb BK675 hb
  replace BK682 := blb BK682 hb
  replace HB := Aside0.mk (below_step q33t hb)
  (try clear hb)
  (try clear hb2)
  (try clear hk)
  (try clear hi)
  refine hK.out _ _ q9t (fun hHeld => ?_)
  clear hK K
  refine norm_ (a' := ?_) ?_ ?_
  rotate_left
  ·show Act.put _ (some 62) _ = _
   simp only [Act.put, List.setIfInBounds_toArray, List.set_cons_zero, List.set_cons_succ, i64_w, i32_w]
   rfl
  refine one_ (i := 13) (N := some 65) (bm 58 16383) rfl rfl (one_of HT_.out (by kernel_rfl)) q85t (fun K hK => ?_)
  refine goes_ Try.func15 (by kernel_rfl) rfl #[.slice Ao51 t670.length co51, .agg #[.int .i64 t673, .int .i64 t674]] (by rfl) rfl rfl q51t ?_
  with_reducible refine (spec_PlaceOf.calls k _ _ t670 t673 t674 t702 _ ?side1 ?side2 A29.out).mono ?_
  (case side1 => repeat (first | exact (Kd.S_reads' HO672.out).2.2 | (with_reducible refine Kd.C_alloc ?_ _) | (with_reducible refine Kd.C_drewN ?_ _) | (with_reducible refine Kd.C_drew ?_)))
  (case side2 => exact (Kd.S_reads' HO672.out).2.1)
  rintro e w53 ⟨rfl, hb⟩
  refine ⟨_, rfl, ?_⟩
  replace HO666 := Aside0.mk (Kd.S_below q60t hb)
  replace HO669 := Aside0.mk (Kd.S_below q61t hb)
  replace HO672 := Aside0.mk (Kd.S_below q62t hb)
  replace HO686 := Aside0.mk (Kd.S_below q63t hb)
  replace HO690 := Aside0.mk (Kd.S_below q64t hb)
  replace HO692 := Aside0.mk (Kd.S_below q65t hb)
  replace HO696 := Aside0.mk (Kd.S_below q66t hb)
  replace HO699 := Aside0.mk (Kd.S_below q67t hb)
  replace BK675 := blb BK675 hb
  replace BK682 := blb BK682 hb
  replace HB := Aside0.mk (below_step q33t hb)
  (try clear hb)
  (try clear hb2)
  (try clear hk)
  (try clear hi)
  refine hK.out _ _ q9t (fun hHeld => ?_)
  clear hK K
  refine norm_ (a' := ?_) ?_ ?_
  rotate_left
  ·show Act.put _ (some 65) _ = _
   simp only [Act.put, List.setIfInBounds_toArray, List.set_cons_zero, List.set_cons_succ, i64_w, i32_w]
   rfl
  refine pu_ 14 (some 66) (bm 58 32767) (any_of HT_.out (by kernel_rfl)) ?_
  refine pu_ 15 (some 67) (bm 58 65535) (any_of HT_.out (by kernel_rfl)) ?_
  refine pu_ 16 (some 68) (bm 58 131071) (any_of HT_.out (by kernel_rfl)) ?_
  refine tk_ 17 (some 69) (bm 58 262143) (take_ofW HT_.out HW_.out (by kernel_rfl)) hHeld ?_
  refine tk_ 19 (some 71) (bm 58 786431) (take_ofW HT_.out HW_.out (by kernel_rfl)) hHeld ?_
  refine one_ (i := 18) (N := some 70) (bm 58 1048575) rfl rfl (one_of HT_.out (by kernel_rfl)) q85t (fun K hK => ?_)
  refine goes_ Try.func16 (by kernel_rfl) rfl #[.agg #[.int .i64 t676, .int .i64 t677, .int .i64 t678, .int .i64 t679, .int .i64 t680, .int .i64 t681]] (by rfl) rfl rfl q51t ?_
  with_reducible refine (impl_TableNew.calls t676 t677 t678 t679 t680 t681 t703 _ A31.out).mono ?_
  rintro e w54 ⟨v704, rfl, ho0, hb⟩
  refine ⟨_, rfl, ?_⟩
  have HO705 := Aside0.mk (Kd.S_lower (Kd.S_new' (Kd.S_new' (Kd.S_new' (Kd.S_new' (Kd.S_new' (Kd.S_new' (Kd.S_new' (Kd.S_new' ho0 (Kd.S_lt q60t)) (Kd.S_lt q61t)) (Kd.S_lt q62t)) (Kd.S_lt q63t)) (Kd.S_lt q64t)) (Kd.S_lt q65t)) (Kd.S_lt q66t)) (Kd.S_lt q67t)) (below_size q33t))
  replace HO666 := Aside0.mk (Kd.S_elder' q60t (Kd.S_base ho0) hb)
  replace HO669 := Aside0.mk (Kd.S_elder' q61t (Kd.S_base ho0) hb)
  replace HO672 := Aside0.mk (Kd.S_elder' q62t (Kd.S_base ho0) hb)
  replace HO686 := Aside0.mk (Kd.S_elder' q63t (Kd.S_base ho0) hb)
  replace HO690 := Aside0.mk (Kd.S_elder' q64t (Kd.S_base ho0) hb)
  replace HO692 := Aside0.mk (Kd.S_elder' q65t (Kd.S_base ho0) hb)
  replace HO696 := Aside0.mk (Kd.S_elder' q66t (Kd.S_base ho0) hb)
  replace HO699 := Aside0.mk (Kd.S_elder' q67t (Kd.S_base ho0) hb)
  replace BK675 := blb BK675 hb
  replace BK682 := blb BK682 hb
  replace HB := Aside0.mk (below_step q33t hb)
  (try clear hb)
  (try clear hb2)
  (try clear hk)
  (try clear hi)
  (try clear ho0)
  refine hK.out _ _ q9t (fun hHeld => ?_)
  clear hK K
  refine norm_ (a' := ?_) ?_ ?_
  rotate_left
  ·show Act.put _ (some 70) _ = _
   simp only [Act.put, List.setIfInBounds_toArray, List.set_cons_zero, List.set_cons_succ, i64_w, i32_w]
   rfl
  refine one_ (i := 20) (N := some 72) (bm 58 2097151) rfl rfl (one_of HT_.out (by kernel_rfl)) q85t (fun K hK => ?_)
  refine goes_ Try.func17 (by kernel_rfl) rfl #[.agg #[.int .i64 t676, .int .i64 t677, .int .i64 t678, .int .i64 t679, .int .i64 t680, .int .i64 t681]] (by rfl) rfl rfl q51t ?_
  with_reducible refine (spec_TableNew.calls k t676 t677 t678 t679 t680 t681 t706 _ A32.out).mono ?_
  rintro e w55 ⟨v707, rfl, ho0, hb⟩
  refine ⟨_, rfl, ?_⟩
  have HO708 := Aside0.mk (Kd.S_lower (Kd.S_new' (Kd.S_new' (Kd.S_new' (Kd.S_new' (Kd.S_new' (Kd.S_new' (Kd.S_new' (Kd.S_new' (Kd.S_new' ho0 (Kd.S_lt q60t)) (Kd.S_lt q61t)) (Kd.S_lt q62t)) (Kd.S_lt q63t)) (Kd.S_lt q64t)) (Kd.S_lt q65t)) (Kd.S_lt q66t)) (Kd.S_lt q67t)) (Kd.S_lt q68t)) (below_size q33t))
  replace HO666 := Aside0.mk (Kd.S_elder' q60t (Kd.S_base ho0) hb)
  replace HO669 := Aside0.mk (Kd.S_elder' q61t (Kd.S_base ho0) hb)
  replace HO672 := Aside0.mk (Kd.S_elder' q62t (Kd.S_base ho0) hb)
  replace HO686 := Aside0.mk (Kd.S_elder' q63t (Kd.S_base ho0) hb)
  replace HO690 := Aside0.mk (Kd.S_elder' q64t (Kd.S_base ho0) hb)
  replace HO692 := Aside0.mk (Kd.S_elder' q65t (Kd.S_base ho0) hb)
  replace HO696 := Aside0.mk (Kd.S_elder' q66t (Kd.S_base ho0) hb)
  replace HO699 := Aside0.mk (Kd.S_elder' q67t (Kd.S_base ho0) hb)
  replace HO705 := Aside0.mk (Kd.S_elder' q68t (Kd.S_base ho0) hb)
  replace BK675 := blb BK675 hb
  replace BK682 := blb BK682 hb
  replace HB := Aside0.mk (below_step q33t hb)
  (try clear hb)
  (try clear hb2)
  (try clear hk)
  (try clear hi)
  (try clear ho0)
  obtain ⟨Ao56, co56, eo56⟩ := Kd.S_slice HO705.out
  (first | subst eo56 | (injection eo56 with f1_ f2_ f3_; have f4_ := f1_.symm; have f5_ := f3_.symm; clear f1_ f2_ f3_; subst f4_; subst f5_))
  obtain ⟨Ao57, co57, eo57⟩ := Kd.S_slice HO708.out
  (first | subst eo57 | (injection eo57 with f1_ f2_ f3_; have f4_ := f1_.symm; have f5_ := f3_.symm; clear f1_ f2_ f3_; subst f4_; subst f5_))
  refine hK.out _ _ q9t (fun hHeld => ?_)
  clear hK K
  refine norm_ (a' := ?_) ?_ ?_
  rotate_left
  ·show Act.put _ (some 72) _ = _
   simp only [Act.put, List.setIfInBounds_toArray, List.set_cons_zero, List.set_cons_succ, i64_w, i32_w]
   rfl
  refine one_ (i := 21) (N := some 73) (bm 58 4194303) rfl rfl (one_of HT_.out (by kernel_rfl)) q85t (fun K hK => ?_)
  refine goes_ Try.func12 (by kernel_rfl) rfl #[.slice Ao56 t703.length co56, .slice Ao57 t706.length co57] (by rfl) rfl rfl q51t ?_
  with_reducible refine (laws_sameTable.calls k _ _ t703 _ _ t706 true _ ?side1 ?side2 ?side3 ?side4 A33.out).mono ?_
  (case side1 => repeat (first | exact (Kd.S_reads' HO705.out).2.2 | (with_reducible refine Kd.C_alloc ?_ _) | (with_reducible refine Kd.C_drewN ?_ _) | (with_reducible refine Kd.C_drew ?_)))
  (case side2 => exact (Kd.S_reads' HO705.out).2.1)
  (case side3 => repeat (first | exact (Kd.S_reads' HO708.out).2.2 | (with_reducible refine Kd.C_alloc ?_ _) | (with_reducible refine Kd.C_drewN ?_ _) | (with_reducible refine Kd.C_drew ?_)))
  (case side4 => exact (Kd.S_reads' HO708.out).2.1)
  rintro e w58 ⟨rfl, hb⟩
  refine ⟨_, rfl, ?_⟩
  replace HO666 := Aside0.mk (Kd.S_below q60t hb)
  replace HO669 := Aside0.mk (Kd.S_below q61t hb)
  replace HO672 := Aside0.mk (Kd.S_below q62t hb)
  replace HO686 := Aside0.mk (Kd.S_below q63t hb)
  replace HO690 := Aside0.mk (Kd.S_below q64t hb)
  replace HO692 := Aside0.mk (Kd.S_below q65t hb)
  replace HO696 := Aside0.mk (Kd.S_below q66t hb)
  replace HO699 := Aside0.mk (Kd.S_below q67t hb)
  replace HO705 := Aside0.mk (Kd.S_below q68t hb)
  replace HO708 := Aside0.mk (Kd.S_below q69t hb)
  replace BK675 := blb BK675 hb
  replace BK682 := blb BK682 hb
  replace HB := Aside0.mk (below_step q33t hb)
  (try clear hb)
  (try clear hb2)
  (try clear hk)
  (try clear hi)
  obtain ⟨Ao59, co59, eo59⟩ := Kd.S_slice HO686.out
  (first | subst eo59 | (injection eo59 with f1_ f2_ f3_; have f4_ := f1_.symm; have f5_ := f3_.symm; clear f1_ f2_ f3_; subst f4_; subst f5_))
  refine hK.out _ _ q9t (fun hHeld => ?_)
  clear hK K
  refine norm_ (a' := ?_) ?_ ?_
  rotate_left
  ·show Act.put _ (some 73) _ = _
   simp only [Act.put, List.setIfInBounds_toArray, List.set_cons_zero, List.set_cons_succ, i64_w, i32_w]
   rfl
  refine pu_ 22 (some 74) (bm 58 8388607) (any_of HT_.out (by kernel_rfl)) ?_
  refine pu_ 23 (some 75) (bm 58 16777215) (any_of HT_.out (by kernel_rfl)) ?_
  refine pu_ 24 (some 76) (bm 58 33554431) (any_of HT_.out (by kernel_rfl)) ?_
  refine pu_ 25 (some 77) (bm 58 67108863) (any_of HT_.out (by kernel_rfl)) ?_
  refine pu_ 26 (some 78) (bm 58 134217727) (any_of HT_.out (by kernel_rfl)) ?_
  refine pu_ 28 (some 80) (bm 58 402653183) (any_of HT_.out (by kernel_rfl)) ?_
  refine pu_ 29 (some 81) (bm 58 939524095) (any_of HT_.out (by kernel_rfl)) ?_
  refine one_ (i := 27) (N := some 79) (bm 58 1073741823) rfl rfl (one_of HT_.out (by kernel_rfl)) q85t (fun K hK => ?_)
  refine goes_ Try.func18 (by kernel_rfl) rfl #[.slice Ao59 t683.length co59, .int .i64 t684] (by rfl) rfl rfl q51t ?_
  with_reducible refine (impl_CountNodes.calls k _ _ t683 t684 t710 _ ?side1 ?side2 A35.out).mono ?_
  (case side1 => repeat (first | exact (Kd.S_reads' HO686.out).2.2 | (with_reducible refine Kd.C_alloc ?_ _) | (with_reducible refine Kd.C_drewN ?_ _) | (with_reducible refine Kd.C_drew ?_)))
  (case side2 => exact (Kd.S_reads' HO686.out).2.1)
  rintro e w60 ⟨rfl, hb⟩
  refine ⟨_, rfl, ?_⟩
  replace HO666 := Aside0.mk (Kd.S_below q60t hb)
  replace HO669 := Aside0.mk (Kd.S_below q61t hb)
  replace HO672 := Aside0.mk (Kd.S_below q62t hb)
  replace HO686 := Aside0.mk (Kd.S_below q63t hb)
  replace HO690 := Aside0.mk (Kd.S_below q64t hb)
  replace HO692 := Aside0.mk (Kd.S_below q65t hb)
  replace HO696 := Aside0.mk (Kd.S_below q66t hb)
  replace HO699 := Aside0.mk (Kd.S_below q67t hb)
  replace HO705 := Aside0.mk (Kd.S_below q68t hb)
  replace HO708 := Aside0.mk (Kd.S_below q69t hb)
  replace BK675 := blb BK675 hb
  replace BK682 := blb BK682 hb
  replace HB := Aside0.mk (below_step q33t hb)
  (try clear hb)
  (try clear hb2)
  (try clear hk)
  (try clear hi)
  refine hK.out _ _ q9t (fun hHeld => ?_)
  clear hK K
  refine norm_ (a' := ?_) ?_ ?_
  rotate_left
  ·show Act.put _ (some 79) _ = _
   simp only [Act.put, List.setIfInBounds_toArray, List.set_cons_zero, List.set_cons_succ, i64_w, i32_w]
   rfl
  refine one_ (i := 30) (N := some 82) (bm 58 2147483647) rfl rfl (one_of HT_.out (by kernel_rfl)) q85t (fun K hK => ?_)
  refine goes_ Try.func19 (by kernel_rfl) rfl #[.slice Ao59 t683.length co59, .int .i64 t684] (by rfl) rfl rfl q51t ?_
  with_reducible refine (spec_CountNodes.calls k _ _ t683 t684 t711 _ ?side1 ?side2 A36.out).mono ?_
  (case side1 => repeat (first | exact (Kd.S_reads' HO686.out).2.2 | (with_reducible refine Kd.C_alloc ?_ _) | (with_reducible refine Kd.C_drewN ?_ _) | (with_reducible refine Kd.C_drew ?_)))
  (case side2 => exact (Kd.S_reads' HO686.out).2.1)
  rintro e w' ⟨rfl, ⟨nd, rfl⟩⟩
  refine ⟨_, rfl, ?_⟩
  refine hK.out _ _ q9t (fun hHeld => ?_)
  clear hK K
  refine norm_ (a' := ?_) ?_ ?_
  rotate_left
  ·show Act.put _ (some 82) _ = _
   simp only [Act.put, List.setIfInBounds_toArray, List.set_cons_zero, List.set_cons_succ, i64_w, i32_w]
   rfl
  refine pu_ 31 (some 83) (bm 58 4294967295) (any_of HT_.out (by kernel_rfl)) ?_
  refine pu_ 32 (some 84) (bm 58 8589934591) (any_of HT_.out (by kernel_rfl)) ?_
  refine pu_ 33 (some 85) (bm 58 17179869183) (any_of HT_.out (by kernel_rfl)) ?_
  refine pu_ 34 (some 86) (bm 58 34359738367) (any_of HT_.out (by kernel_rfl)) ?_
  refine pu_ 36 (some 88) (bm 58 103079215103) (any_of HT_.out (by kernel_rfl)) ?_
  refine one_ (i := 35) (N := some 87) (bm 58 137438953471) rfl rfl (one_of HT_.out (by kernel_rfl)) q85t (fun K hK => ?_)
  refine goes_ Try.func20 (by kernel_rfl) rfl #[.slice Ao59 t683.length co59] (by rfl) rfl rfl q51t ?_
  with_reducible refine (impl_FreePlace.calls k _ _ t683 t712 _ ?side1 ?side2 A38.out).mono ?_
  (case side1 => repeat (first | exact (Kd.S_reads' HO686.out).2.2 | (with_reducible refine Kd.C_alloc ?_ _) | (with_reducible refine Kd.C_drewN ?_ _) | (with_reducible refine Kd.C_drew ?_)))
  (case side2 => exact (Kd.S_reads' HO686.out).2.1)
  rintro e w61 ⟨rfl, hb⟩
  refine ⟨_, rfl, ?_⟩
  replace HO666 := Aside0.mk (Kd.S_below q60t hb)
  replace HO669 := Aside0.mk (Kd.S_below q61t hb)
  replace HO672 := Aside0.mk (Kd.S_below q62t hb)
  replace HO686 := Aside0.mk (Kd.S_below q63t hb)
  replace HO690 := Aside0.mk (Kd.S_below q64t hb)
  replace HO692 := Aside0.mk (Kd.S_below q65t hb)
  replace HO696 := Aside0.mk (Kd.S_below q66t hb)
  replace HO699 := Aside0.mk (Kd.S_below q67t hb)
  replace HO705 := Aside0.mk (Kd.S_below q68t hb)
  replace HO708 := Aside0.mk (Kd.S_below q69t hb)
  replace BK675 := blb BK675 hb
  replace BK682 := blb BK682 hb
  replace HB := Aside0.mk (below_step q33t hb)
  (try clear hb)
  (try clear hb2)
  (try clear hk)
  (try clear hi)
  refine hK.out _ _ q9t (fun hHeld => ?_)
  clear hK K
  refine norm_ (a' := ?_) ?_ ?_
  rotate_left
  ·show Act.put _ (some 87) _ = _
   simp only [Act.put, List.setIfInBounds_toArray, List.set_cons_zero, List.set_cons_succ, i64_w, i32_w]
   rfl
  refine one_ (i := 37) (N := some 89) (bm 58 274877906943) rfl rfl (one_of HT_.out (by kernel_rfl)) q85t (fun K hK => ?_)
  refine goes_ Try.func21 (by kernel_rfl) rfl #[.slice Ao59 t683.length co59] (by rfl) rfl rfl q51t ?_
  with_reducible refine (spec_FreePlace.calls k _ _ t683 t713 _ ?side1 ?side2 A39.out).mono ?_
  (case side1 => repeat (first | exact (Kd.S_reads' HO686.out).2.2 | (with_reducible refine Kd.C_alloc ?_ _) | (with_reducible refine Kd.C_drewN ?_ _) | (with_reducible refine Kd.C_drew ?_)))
  (case side2 => exact (Kd.S_reads' HO686.out).2.1)
  rintro e w' ⟨rfl, ⟨nd, rfl⟩⟩
  refine ⟨_, rfl, ?_⟩
  obtain ⟨Ao62, co62, eo62⟩ := Kd.S_slice HO690.out
  (first | subst eo62 | (injection eo62 with f1_ f2_ f3_; have f4_ := f1_.symm; have f5_ := f3_.symm; clear f1_ f2_ f3_; subst f4_; subst f5_))
  obtain ⟨Ao63, co63, eo63⟩ := Kd.S_slice HO692.out
  (first | subst eo63 | (injection eo63 with f1_ f2_ f3_; have f4_ := f1_.symm; have f5_ := f3_.symm; clear f1_ f2_ f3_; subst f4_; subst f5_))
  refine hK.out _ _ q9t (fun hHeld => ?_)
  clear hK K
  refine norm_ (a' := ?_) ?_ ?_
  rotate_left
  ·show Act.put _ (some 89) _ = _
   simp only [Act.put, List.setIfInBounds_toArray, List.set_cons_zero, List.set_cons_succ, i64_w, i32_w]
   rfl
  refine pu_ 38 (some 90) (bm 58 549755813887) (any_of HT_.out (by kernel_rfl)) ?_
  refine pu_ 39 (some 91) (bm 58 1099511627775) (any_of HT_.out (by kernel_rfl)) ?_
  refine pu_ 40 (some 92) (bm 58 2199023255551) (any_of HT_.out (by kernel_rfl)) ?_
  refine pu_ 41 (some 93) (bm 58 4398046511103) (any_of HT_.out (by kernel_rfl)) ?_
  refine pu_ 42 (some 94) (bm 58 8796093022207) (any_of HT_.out (by kernel_rfl)) ?_
  refine pu_ 44 (some 96) (bm 58 26388279066623) (any_of HT_.out (by kernel_rfl)) ?_
  refine pu_ 45 (some 97) (bm 58 61572651155455) (any_of HT_.out (by kernel_rfl)) ?_
  refine one_ (i := 43) (N := some 95) (bm 58 70368744177663) rfl rfl (one_of HT_.out (by kernel_rfl)) q85t (fun K hK => ?_)
  refine goes_ Try.func22 (by kernel_rfl) rfl #[.slice Ao62 t687.length co62, .slice Ao63 t688.length co63] (by rfl) rfl rfl q51t ?_
  with_reducible refine (impl_SameTable.calls k _ _ t687 _ _ t688 t714 _ ?side1 ?side2 ?side3 ?side4 A41.out).mono ?_
  (case side1 => repeat (first | exact (Kd.S_reads' HO690.out).2.2 | (with_reducible refine Kd.C_alloc ?_ _) | (with_reducible refine Kd.C_drewN ?_ _) | (with_reducible refine Kd.C_drew ?_)))
  (case side2 => exact (Kd.S_reads' HO690.out).2.1)
  (case side3 => repeat (first | exact (Kd.S_reads' HO692.out).2.2 | (with_reducible refine Kd.C_alloc ?_ _) | (with_reducible refine Kd.C_drewN ?_ _) | (with_reducible refine Kd.C_drew ?_)))
  (case side4 => exact (Kd.S_reads' HO692.out).2.1)
  rintro e w64 ⟨rfl, hb⟩
  refine ⟨_, rfl, ?_⟩
  replace HO666 := Aside0.mk (Kd.S_below q60t hb)
  replace HO669 := Aside0.mk (Kd.S_below q61t hb)
  replace HO672 := Aside0.mk (Kd.S_below q62t hb)
  replace HO686 := Aside0.mk (Kd.S_below q63t hb)
  replace HO690 := Aside0.mk (Kd.S_below q64t hb)
  replace HO692 := Aside0.mk (Kd.S_below q65t hb)
  replace HO696 := Aside0.mk (Kd.S_below q66t hb)
  replace HO699 := Aside0.mk (Kd.S_below q67t hb)
  replace HO705 := Aside0.mk (Kd.S_below q68t hb)
  replace HO708 := Aside0.mk (Kd.S_below q69t hb)
  replace BK675 := blb BK675 hb
  replace BK682 := blb BK682 hb
  replace HB := Aside0.mk (below_step q33t hb)
  (try clear hb)
  (try clear hb2)
  (try clear hk)
  (try clear hi)
  refine hK.out _ _ q9t (fun hHeld => ?_)
  clear hK K
  refine norm_ (a' := ?_) ?_ ?_
  rotate_left
  ·show Act.put _ (some 95) _ = _
   simp only [Act.put, List.setIfInBounds_toArray, List.set_cons_zero, List.set_cons_succ, i64_w, i32_w]
   rfl
  refine one_ (i := 46) (N := some 98) (bm 58 140737488355327) rfl rfl (one_of HT_.out (by kernel_rfl)) q85t (fun K hK => ?_)
  refine goes_ Try.func12 (by kernel_rfl) rfl #[.slice Ao62 t687.length co62, .slice Ao63 t688.length co63] (by rfl) rfl rfl q51t ?_
  with_reducible refine (laws_sameTable.calls k _ _ t687 _ _ t688 t715 _ ?side1 ?side2 ?side3 ?side4 A42.out).mono ?_
  (case side1 => repeat (first | exact (Kd.S_reads' HO690.out).2.2 | (with_reducible refine Kd.C_alloc ?_ _) | (with_reducible refine Kd.C_drewN ?_ _) | (with_reducible refine Kd.C_drew ?_)))
  (case side2 => exact (Kd.S_reads' HO690.out).2.1)
  (case side3 => repeat (first | exact (Kd.S_reads' HO692.out).2.2 | (with_reducible refine Kd.C_alloc ?_ _) | (with_reducible refine Kd.C_drewN ?_ _) | (with_reducible refine Kd.C_drew ?_)))
  (case side4 => exact (Kd.S_reads' HO692.out).2.1)
  rintro e w65 ⟨rfl, hb⟩
  refine ⟨_, rfl, ?_⟩
  replace HO666 := Aside0.mk (Kd.S_below q60t hb)
  replace HO669 := Aside0.mk (Kd.S_below q61t hb)
  replace HO672 := Aside0.mk (Kd.S_below q62t hb)
  replace HO686 := Aside0.mk (Kd.S_below q63t hb)
  replace HO690 := Aside0.mk (Kd.S_below q64t hb)
  replace HO692 := Aside0.mk (Kd.S_below q65t hb)
  replace HO696 := Aside0.mk (Kd.S_below q66t hb)
  replace HO699 := Aside0.mk (Kd.S_below q67t hb)
  replace HO705 := Aside0.mk (Kd.S_below q68t hb)
  replace HO708 := Aside0.mk (Kd.S_below q69t hb)
  replace BK675 := blb BK675 hb
  replace BK682 := blb BK682 hb
  replace HB := Aside0.mk (below_step q33t hb)
  (try clear hb)
  (try clear hb2)
  (try clear hk)
  (try clear hi)
  obtain ⟨Ao66, co66, eo66⟩ := Kd.S_slice HO696.out
  (first | subst eo66 | (injection eo66 with f1_ f2_ f3_; have f4_ := f1_.symm; have f5_ := f3_.symm; clear f1_ f2_ f3_; subst f4_; subst f5_))
  refine hK.out _ _ q9t (fun hHeld => ?_)
  clear hK K
  refine norm_ (a' := ?_) ?_ ?_
  rotate_left
  ·show Act.put _ (some 98) _ = _
   simp only [Act.put, List.setIfInBounds_toArray, List.set_cons_zero, List.set_cons_succ, i64_w, i32_w]
   rfl
  refine pu_ 47 (some 99) (bm 58 281474976710655) (any_of HT_.out (by kernel_rfl)) ?_
  refine pu_ 48 (some 100) (bm 58 562949953421311) (any_of HT_.out (by kernel_rfl)) ?_
  refine pu_ 49 (some 101) (bm 58 1125899906842623) (any_of HT_.out (by kernel_rfl)) ?_
  refine pu_ 50 (some 102) (bm 58 2251799813685247) (any_of HT_.out (by kernel_rfl)) ?_
  refine pu_ 51 (some 103) (bm 58 4503599627370495) (any_of HT_.out (by kernel_rfl)) ?_
  refine pu_ 53 (some 105) (bm 58 13510798882111487) (any_of HT_.out (by kernel_rfl)) ?_
  refine pu_ 54 (some 106) (bm 58 31525197391593471) (any_of HT_.out (by kernel_rfl)) ?_
  refine one_ (i := 52) (N := some 104) (bm 58 36028797018963967) rfl rfl (one_of HT_.out (by kernel_rfl)) q85t (fun K hK => ?_)
  refine goes_ Try.func23 (by kernel_rfl) rfl #[.slice Ao66 t693.length co66, .int .i64 t694] (by rfl) rfl rfl q51t ?_
  with_reducible refine (impl_HandleAt.calls _ _ t693 t694 t716 t717 _ ?side1 ?side2 A44.out).mono ?_
  (case side1 => repeat (first | exact (Kd.S_reads' HO696.out).2.2 | (with_reducible refine Kd.C_alloc ?_ _) | (with_reducible refine Kd.C_drewN ?_ _) | (with_reducible refine Kd.C_drew ?_)))
  (case side2 => exact (Kd.S_reads' HO696.out).2.1)
  rintro e w67 ⟨rfl, hb⟩
  refine ⟨_, rfl, ?_⟩
  replace HO666 := Aside0.mk (Kd.S_below q60t hb)
  replace HO669 := Aside0.mk (Kd.S_below q61t hb)
  replace HO672 := Aside0.mk (Kd.S_below q62t hb)
  replace HO686 := Aside0.mk (Kd.S_below q63t hb)
  replace HO690 := Aside0.mk (Kd.S_below q64t hb)
  replace HO692 := Aside0.mk (Kd.S_below q65t hb)
  replace HO696 := Aside0.mk (Kd.S_below q66t hb)
  replace HO699 := Aside0.mk (Kd.S_below q67t hb)
  replace HO705 := Aside0.mk (Kd.S_below q68t hb)
  replace HO708 := Aside0.mk (Kd.S_below q69t hb)
  replace BK675 := blb BK675 hb
  replace BK682 := blb BK682 hb
  replace HB := Aside0.mk (below_step q33t hb)
  (try clear hb)
  (try clear hb2)
  (try clear hk)
  (try clear hi)
  refine hK.out _ _ q9t (fun hHeld => ?_)
  clear hK K
  refine norm_ (a' := ?_) ?_ ?_
  rotate_left
  ·show Act.put _ (some 104) _ = _
   simp only [Act.put, List.setIfInBounds_toArray, List.set_cons_zero, List.set_cons_succ, i64_w, i32_w]
   rfl
  refine one_ (i := 55) (N := some 107) (bm 58 72057594037927935) rfl rfl (one_of HT_.out (by kernel_rfl)) q85t (fun K hK => ?_)
  refine goes_ Try.func24 (by kernel_rfl) rfl #[.slice Ao66 t693.length co66, .int .i64 t694] (by rfl) rfl rfl q51t ?_
  with_reducible refine (spec_HandleAt.calls _ _ t693 t694 t718 t719 _ ?side1 ?side2 A45.out).mono ?_
  (case side1 => repeat (first | exact (Kd.S_reads' HO696.out).2.2 | (with_reducible refine Kd.C_alloc ?_ _) | (with_reducible refine Kd.C_drewN ?_ _) | (with_reducible refine Kd.C_drew ?_)))
  (case side2 => exact (Kd.S_reads' HO696.out).2.1)
  rintro e w68 ⟨rfl, hb⟩
  refine ⟨_, rfl, ?_⟩
  replace HO666 := Aside0.mk (Kd.S_below q60t hb)
  replace HO669 := Aside0.mk (Kd.S_below q61t hb)
  replace HO672 := Aside0.mk (Kd.S_below q62t hb)
  replace HO686 := Aside0.mk (Kd.S_below q63t hb)
  replace HO690 := Aside0.mk (Kd.S_below q64t hb)
  replace HO692 := Aside0.mk (Kd.S_below q65t hb)
  replace HO696 := Aside0.mk (Kd.S_below q66t hb)
  replace HO699 := Aside0.mk (Kd.S_below q67t hb)
  replace HO705 := Aside0.mk (Kd.S_below q68t hb)
  replace HO708 := Aside0.mk (Kd.S_below q69t hb)
  replace BK675 := blb BK675 hb
  replace BK682 := blb BK682 hb
  replace HB := Aside0.mk (below_step q33t hb)
  (try clear hb)
  (try clear hb2)
  (try clear hk)
  (try clear hi)
  refine hK.out _ _ q9t (fun hHeld => ?_)
  clear hK K
  refine norm_ (a' := ?_) ?_ ?_
  rotate_left
  ·show Act.put _ (some 107) _ = _
   simp only [Act.put, List.setIfInBounds_toArray, List.set_cons_zero, List.set_cons_succ, i64_w, i32_w]
   rfl
  refine pu_ 56 (some 108) (bm 58 144115188075855871) (any_of HT_.out (by kernel_rfl)) ?_
  refine pu_ 57 (some 109) (bm 58 288230376151711743) (any_of HT_.out (by kernel_rfl)) ?_
  refine done_ (done_of HT_.out (by kernel_rfl)) ?_
  try go_wp2
  go_meet
  case rel => exact ⟨_, ((!(t716 == t718) || (!(t717 == t719)))), q81t, H', ⟨q82t⟩, ⟨(by (with_reducible repeat (first | apply Kd.S_alloc | apply Kd.S_drewN | apply Kd.S_drew)); exact Kd.S_mono HO666.out (fun _ hk => ⟨hk.1.1.1.1.1.1.1.1.2, hk.1.1.1.1.1.1.1.2⟩))⟩, ⟨(by (with_reducible repeat (first | apply Kd.S_alloc | apply Kd.S_drewN | apply Kd.S_drew)); exact Kd.S_mono HO669.out (fun _ hk => ⟨hk.1.1.1.1.1.1.1.1.2, hk.1.1.1.1.1.1.1.2⟩))⟩, ⟨(by (with_reducible repeat (first | apply Kd.S_alloc | apply Kd.S_drewN | apply Kd.S_drew)); exact Kd.S_mono HO672.out (fun _ hk => ⟨hk.1.1.1.1.1.1.1.1.2, hk.1.1.1.1.1.1.1.2⟩))⟩, ⟨qbk BK675⟩, ⟨qbk BK682⟩, ⟨q33t⟩⟩
 case rest =>
  clear HC11
  try clear c1
  try clear c2
  try clear p2
  try clear c3
  try clear c4
  try clear c12
  try clear c18
  try clear c19
  try clear c20
  try clear c21
  try clear c22
  try clear c23
  try clear c24
  try clear c27
  try clear c30
  try clear c30b0
  try clear c30b1
  try clear c34
  try clear c37
  try clear c37b0
  try clear c37b1
  try clear c40
  try clear c40b0
  try clear c40b1
  obtain ⟨kq, x109_10, rfl, HA, HJ10, HO_3, HO_6, HO_7, BK675, BK682, HB⟩ := hcut
  cases kq with
  | zero => exact absurd HA.out (by simp [laws_FnTables.j0])
  | succ kj10 =>
   have H := HA.out
   clear HA
   simp only [laws_FnTables.j0] at H
   by_cases c69 : x109_10 = true
   ·subst c69
    rw [if_pos rfl] at H
    exact absurd H q87t
   replace c69 := Bool.eq_false_iff.mpr c69
   subst c69
   rw [if_neg (show ¬ (false = true) by decide)] at H
   replace H := Option.bind_eq_some_iff.mp H
   obtain ⟨t720, A700, H⟩ := H
   try dsimp only at H
   have A70 := Aside0.mk A700
   clear A700
   have HC71 := Aside0.mk H
   clear H
   have hnb72 := NB675_682.out
   have hnc72 := NB682_675.out
   obtain ⟨hcz73_0, hcz73_1⟩ := qc2 BK675.out
   obtain ⟨hfz73_0, hfz73_1⟩ := qf2 BK675.out
   obtain ⟨Ao74, co74, eo74⟩ := Kd.S_slice HO_7.out
   subst eo74
   go_upto_region 13 with (first | ((with_reducible refine gate_callee (f := 14) rfl ?_); refine goesL_ (some 112) rfl rfl Try.func14 (by kernel_rfl) rfl #[.slice Ao74 t670.length co74, .agg #[.int .i64 t673, .int .i64 t674]] rfl q51t ?_; (with_reducible refine (impl_PlaceOf.calls kj10 _ _ t670 t673 t674 t720 _ ?side1 ?side2 A70.out).mono ?_); (case side1 => repeat (first | exact (Kd.S_reads' HO_7.out).2.2 | (with_reducible refine Kd.C_alloc ?_ _) | (with_reducible refine Kd.C_drewN ?_ _) | (with_reducible refine Kd.C_drew ?_))); (case side2 => exact (Kd.S_reads' HO_7.out).2.1); rintro e w75 ⟨rfl, hb⟩; refine ⟨_, rfl, ?_⟩; replace HO_3 := Aside0.mk (Kd.S_below q70t hb); replace HO_6 := Aside0.mk (Kd.S_below q72t hb); replace HO_7 := Aside0.mk (Kd.S_below (by (with_reducible repeat (first | apply Kd.S_alloc | apply Kd.S_drewN | apply Kd.S_drew)); exact HO_7.out) hb); replace BK675 := blb BK675 hb; replace BK682 := blb BK682 hb; replace HB := Aside0.mk (below_step q33t hb); (try clear hb); (try clear hb2); (try clear hk); (try clear hi)))
   (try simp only [Act.put, List.setIfInBounds_toArray, List.set_cons_zero, List.set_cons_succ])
   go_cut [129] (fun v129 wc => ∃ (kq : Nat) (x129_70 : Bool), v129 = .bool x129_70 ∧ Aside0 (laws_FnTables.j1 kq t662 t663 t664 t667 x129_70 = some r) ∧ Aside0 (kq ≤ kj10) ∧ Aside0 (Kd.S k48 48 wc w.heap.size (fun k_ => some k_ ≠ (v668 : Value).ownBlock) (.slice Ao13 t662.length co13) t662) ∧ Aside0 (Kd.S k48 48 wc w.heap.size (fun k_ => some k_ ≠ ((.slice Ao13 t662.length co13) : Value).ownBlock) v668 t667) ∧ Aside0 (wc.heap[gb675]? = some (.cells #[.int .i64 t673, .int .i64 t674] 29 (0, 0))) ∧ Aside0 (wc.heap[gb682]? = some (.cells #[.int .i64 t676, .int .i64 t677, .int .i64 t678, .int .i64 t679, .int .i64 t680, .int .i64 t681] 33 (0, 0))) ∧ Aside0 (Below w.heap.size w wc))
   case first =>
    have H := HC71.out
    clear HC71
    by_cases c76 : t720 ≥ 0
    rotate_left
    ·rw [if_neg c76] at H
     have c76b0 : decide (0 ≤ t720) = false := decide_eq_false c76
     clear c76
     (first | rw [c76b0] | (simp only [i64_w, i32_w]; rw [c76b0]) | skip)
     have H' := Aside0.mk H
     clear H
     try go_wp2
     replace HO_3 := Aside0.mk (Kd.S_drew HO_3.out)
     replace HO_6 := Aside0.mk (Kd.S_drew HO_6.out)
     replace HO_7 := Aside0.mk (Kd.S_drew HO_7.out)
     replace BK675 := Aside0.mk (blk_drew BK675.out)
     replace BK682 := Aside0.mk (blk_drew BK682.out)
     replace HB := Aside0.mk (below_drew1 HB.out)
     refine start_ (n := 17) (S := fun w' => True) (ds := []) (bm 17 0) (by kernel_rfl) rfl (by kernel_rfl) trivial (fun hHeld => ?_); refine with_tabW laws_FnTables.tab13 laws_FnTables.bits13 (fun HT_ HW_ => ?_)
     generalize w75.drew = w83 at HO_3 HO_6 HO_7 BK675 BK682 HB hHeld ⊢
     refine pu_ 0 (some 113) (bm 17 1) (any_of HT_.out (by kernel_rfl)) ?_
     refine pu_ 1 (some 114) (bm 17 3) (any_of HT_.out (by kernel_rfl)) ?_
     refine pu_ 2 (some 115) (bm 17 7) (any_of HT_.out (by kernel_rfl)) ?_
     refine pn_ 3 (some 116) (bm 17 15) (any_of HT_.out (by kernel_rfl)) ?_
     refine pn_ 4 (some 117) (bm 17 31) (any_of HT_.out (by kernel_rfl)) ?_
     refine pn_ 5 (some 118) (bm 17 63) (any_of HT_.out (by kernel_rfl)) ?_
     refine pn_ 6 (some 119) (bm 17 127) (any_of HT_.out (by kernel_rfl)) ?_
     refine pn_ 7 (some 120) (bm 17 255) (any_of HT_.out (by kernel_rfl)) ?_
     refine pn_ 8 (some 121) (bm 17 511) (any_of HT_.out (by kernel_rfl)) ?_
     refine pn_ 9 (some 122) (bm 17 1023) (any_of HT_.out (by kernel_rfl)) ?_
     refine pn_ 10 (some 123) (bm 17 2047) (any_of HT_.out (by kernel_rfl)) ?_
     refine pn_ 11 (some 124) (bm 17 4095) (any_of HT_.out (by kernel_rfl)) ?_
     refine pn_ 12 (some 125) (bm 17 8191) (any_of HT_.out (by kernel_rfl)) ?_
     refine pn_ 13 (some 126) (bm 17 16383) (any_of HT_.out (by kernel_rfl)) ?_
     refine pn_ 14 (some 127) (bm 17 32767) (any_of HT_.out (by kernel_rfl)) ?_
     refine pn_ 15 (some 128) (bm 17 65535) (any_of HT_.out (by kernel_rfl)) ?_
     refine pu_ 16 (some 129) (bm 17 131071) (any_of HT_.out (by kernel_rfl)) ?_
     refine done_ (done_of HT_.out (by kernel_rfl)) ?_
     try go_wp2
     go_meet
     case rel => exact ⟨_, (false), q81t, H', ⟨(by have := HJ10.out; first | omega | exact Nat.le_refl _)⟩, ⟨(by (with_reducible repeat (first | apply Kd.S_alloc | apply Kd.S_drewN | apply Kd.S_drew)); exact Kd.S_mono HO_3.out (fun _ hk => hk.1))⟩, ⟨(by (with_reducible repeat (first | apply Kd.S_alloc | apply Kd.S_drewN | apply Kd.S_drew)); exact Kd.S_mono HO_6.out (fun _ hk => hk.1))⟩, ⟨qbk BK675⟩, ⟨qbk BK682⟩, ⟨q33t⟩⟩
    rw [if_pos c76] at H
    have c76b0 : decide (0 ≤ t720) = true := decide_eq_true c76
    clear c76
    (first | rw [c76b0] | (simp only [i64_w, i32_w]; rw [c76b0]) | skip)
    by_cases c77 : 0 ≤ t720
    rotate_left
    ·rw [if_neg c77] at H
     exact absurd H q87t
    rw [if_pos c77] at H
    have c77b0 : decide (0 ≤ t720) = true := decide_eq_true c77
    clear c77
    by_cases c78 : t720 < (t670.length : Int)
    rotate_left
    ·rw [if_neg c78] at H
     exact absurd H q87t
    rw [if_pos c78] at H
    have c78b0 : decide (t720 < (t670.length : Int)) = true := decide_eq_true c78
    clear c78
    by_cases c79 : ((rd_T48 t670 t720).f0) = 1
    rotate_left
    ·rw [if_neg c79] at H
     have c79b0 : (((rd_T48 t670 t720).f0) == 1) = false := beq_eq_false_iff_ne.mpr c79
     have c79b1 : (((rd_T48 t670 t720).f0) != 1) = true := bne_iff_ne.mpr c79
     exact absurd H q87t
    rw [if_pos c79] at H
    have c79b0 : (((rd_T48 t670 t720).f0) == 1) = true := beq_iff_eq.mpr c79
    have c79b1 : (((rd_T48 t670 t720).f0) != 1) = false := bne_eq_false_iff_eq.mpr c79
    clear c79
    replace H := Option.bind_eq_some_iff.mp H
    obtain ⟨⟨t722, t723⟩, A800, H⟩ := H
    try dsimp only at H
    have A80 := Aside0.mk A800
    clear A800
    have H' := Aside0.mk H
    clear H
    try go_wp2
    replace HO_3 := Aside0.mk (Kd.S_drew HO_3.out)
    replace HO_6 := Aside0.mk (Kd.S_drew HO_6.out)
    replace HO_7 := Aside0.mk (Kd.S_drew HO_7.out)
    replace BK675 := Aside0.mk (blk_drew BK675.out)
    replace BK682 := Aside0.mk (blk_drew BK682.out)
    replace HB := Aside0.mk (below_drew1 HB.out)
    have p721 : 0 ≤ (t720 : Int) := of_decide_eq_true q76t
    have q721 : t720 < (t670.length : Int) := of_decide_eq_true q76t
    obtain ⟨ad721, A721_8, c721_8, A721_11, c721_11, A721_12, c721_12, e721, hx721_0, hx721_1, hx721_2, hx721_3, hx721_4, hx721_5, hx721_6, hx721_7, hx721_8, hx721_9, hx721_10, hx721_11, hx721_12, hl721_8, hi721_8, hl721_11, hi721_11, hl721_12, hi721_12⟩ := at_T48 (Kd.S_reads' HO_7.out).2.2 t720 p721 q721
    cases e721
    obtain ⟨ce721, hce721, hMe721, hcc721⟩ := Kd.S_get HO_7.out z48 t720 p721 (by first | exact q721 | exact of_decide_eq_true q76t | (have e_ := (Kd.S_reads' HO_7.out).1; omega))
    obtain ⟨ve721_8, ve721_11, ve721_12, rfl, ge721_8, ge721_11, ge721_12⟩ := k48_openM hMe721
    have hv721_8 := hcc721 8 _ rfl
    rw [add_field _ _ 8 q86t] at hv721_8
    replace hv721_8 := Option.some.inj (hv721_8.symm.trans hx721_8)
    rw [hv721_8] at ge721_8
    have HL721_8 := Aside0.mk (show Kd.R (Kd.int .i64) 3 _ _ _ _ ((rd_T48 t670 t720).f8) from ge721_8)
    clear hv721_8 ge721_8
    have hv721_11 := hcc721 11 _ rfl
    rw [add_field _ _ 11 q86t] at hv721_11
    replace hv721_11 := Option.some.inj (hv721_11.symm.trans hx721_11)
    rw [hv721_11] at ge721_11
    have HL721_11 := Aside0.mk (show Kd.R k74 74 _ _ _ _ ((rd_T48 t670 t720).f11) from ge721_11)
    clear hv721_11 ge721_11
    have hv721_12 := hcc721 12 _ rfl
    rw [add_field _ _ 12 q86t] at hv721_12
    replace hv721_12 := Option.some.inj (hv721_12.symm.trans hx721_12)
    rw [hv721_12] at ge721_12
    have HL721_12 := Aside0.mk (show Kd.R (Kd.int .i64) 3 _ _ _ _ ((rd_T48 t670 t720).f12) from ge721_12)
    clear hv721_12 ge721_12
    clear hcc721 hce721
    have HR721_8 := Aside0.mk hi721_8
    have HC721_8 := Aside0.mk hl721_8
    clear hi721_8 hl721_8
    have HR721_11 := Aside0.mk hi721_11
    have HC721_11 := Aside0.mk hl721_11
    clear hi721_11 hl721_11
    have HR721_12 := Aside0.mk hi721_12
    have HC721_12 := Aside0.mk hl721_12
    clear hi721_12 hl721_12
    replace p721 := eq_true p721
    replace q721 := eq_true q721
    refine start_ (n := 17) (S := fun w' => w'.cell? ⟨gb675, 0, none⟩ = some (.int .i64 t673) ∧ w'.cell? ⟨gb675, 1, none⟩ = some (.int .i64 t674) ∧ w'.cell? (ad721.add ((t720).toNat * 13)) = some (.int .i64 ((rd_T48 t670 t720).f0)) ∧ w'.cell? ⟨(ad721.add ((t720).toNat * 13)).block, (ad721.add ((t720).toNat * 13)).off + 1, none⟩ = some (.int .i64 ((rd_T48 t670 t720).f1)) ∧ w'.cell? ⟨(ad721.add ((t720).toNat * 13)).block, (ad721.add ((t720).toNat * 13)).off + 2, none⟩ = some (.int .i64 ((rd_T48 t670 t720).f2)) ∧ w'.cell? ⟨(ad721.add ((t720).toNat * 13)).block, (ad721.add ((t720).toNat * 13)).off + 3, none⟩ = some (.int .i64 ((rd_T48 t670 t720).f3)) ∧ w'.cell? ⟨(ad721.add ((t720).toNat * 13)).block, (ad721.add ((t720).toNat * 13)).off + 4, none⟩ = some (.int .i64 ((rd_T48 t670 t720).f4)) ∧ w'.cell? ⟨(ad721.add ((t720).toNat * 13)).block, (ad721.add ((t720).toNat * 13)).off + 5, none⟩ = some (.int .i64 ((rd_T48 t670 t720).f5)) ∧ w'.cell? ⟨(ad721.add ((t720).toNat * 13)).block, (ad721.add ((t720).toNat * 13)).off + 6, none⟩ = some (.int .i64 ((rd_T48 t670 t720).f6)) ∧ w'.cell? ⟨(ad721.add ((t720).toNat * 13)).block, (ad721.add ((t720).toNat * 13)).off + 7, none⟩ = some (.int .i64 ((rd_T48 t670 t720).f7)) ∧ w'.cell? ⟨(ad721.add ((t720).toNat * 13)).block, (ad721.add ((t720).toNat * 13)).off + 8, none⟩ = some (.slice A721_8 ((rd_T48 t670 t720).f8).length c721_8) ∧ w'.cell? ⟨(ad721.add ((t720).toNat * 13)).block, (ad721.add ((t720).toNat * 13)).off + 9, none⟩ = some (.int .i64 ((rd_T48 t670 t720).f9)) ∧ w'.cell? ⟨(ad721.add ((t720).toNat * 13)).block, (ad721.add ((t720).toNat * 13)).off + 10, none⟩ = some (.int .i64 ((rd_T48 t670 t720).f10)) ∧ w'.cell? ⟨(ad721.add ((t720).toNat * 13)).block, (ad721.add ((t720).toNat * 13)).off + 11, none⟩ = some (.slice A721_11 ((rd_T48 t670 t720).f11).length c721_11) ∧ w'.cell? ⟨(ad721.add ((t720).toNat * 13)).block, (ad721.add ((t720).toNat * 13)).off + 12, none⟩ = some (.slice A721_12 ((rd_T48 t670 t720).f12).length c721_12)) (ds := []) (bm 17 0) (by kernel_rfl) rfl (by kernel_rfl) ⟨(blk_cell BK675.out 0).trans rfl, (blk_cell BK675.out 1).trans rfl, hx721_0, hx721_1, hx721_2, hx721_3, hx721_4, hx721_5, hx721_6, hx721_7, hx721_8, hx721_9, hx721_10, hx721_11, hx721_12⟩ (fun hHeld => ?_); refine with_tabW laws_FnTables.tab13 laws_FnTables.bits13 (fun HT_ HW_ => ?_)
    generalize w75.drew = w81 at HO_3 HO_6 HO_7 BK675 BK682 HB HL721_11 HL721_12 HL721_8 HR721_11 HR721_12 HR721_8 hx721_0 hx721_1 hx721_10 hx721_11 hx721_12 hx721_2 hx721_3 hx721_4 hx721_5 hx721_6 hx721_7 hx721_8 hx721_9 hHeld ⊢
    refine pu_ 0 (some 113) (bm 17 1) (any_of HT_.out (by kernel_rfl)) ?_
    refine pu_ 1 (some 114) (bm 17 3) (any_of HT_.out (by kernel_rfl)) ?_
    refine pu_ 2 (some 115) (bm 17 7) (any_of HT_.out (by kernel_rfl)) ?_
    refine pu_ 3 (some 116) (bm 17 15) (any_of HT_.out (by kernel_rfl)) ?_
    refine pu_ 4 (some 117) (bm 17 31) (any_of HT_.out (by kernel_rfl)) ?_
    refine pu_ 5 (some 118) (bm 17 63) (any_of HT_.out (by kernel_rfl)) ?_
    refine pu_ 6 (some 119) (bm 17 127) (any_of HT_.out (by kernel_rfl)) ?_
    refine tk_ 7 (some 120) (bm 17 255) (take_ofW HT_.out HW_.out (by kernel_rfl)) hHeld ?_
    refine pu_ 8 (some 121) (bm 17 511) (any_of HT_.out (by kernel_rfl)) ?_
    refine pu_ 9 (some 122) (bm 17 1023) (any_of HT_.out (by kernel_rfl)) ?_
    refine pu_ 10 (some 123) (bm 17 2047) (any_of HT_.out (by kernel_rfl)) ?_
    refine pu_ 11 (some 124) (bm 17 4095) (any_of HT_.out (by kernel_rfl)) ?_
    refine tk_ 13 (some 126) (bm 17 12287) (take_ofW HT_.out HW_.out (by kernel_rfl)) hHeld ?_
    refine one_ (i := 12) (N := some 125) (bm 17 16383) rfl rfl (one_of HT_.out (by kernel_rfl)) q85t (fun K hK => ?_)
    refine goes_ Try.func23 (by kernel_rfl) rfl #[.slice (some ad721) t670.length co74, .int .i64 t720] (by rfl) rfl rfl q51t ?_
    with_reducible refine (impl_HandleAt.calls _ _ t670 t720 t722 t723 _ ?side1 ?side2 A80.out).mono ?_
    (case side1 => repeat (first | exact (Kd.S_reads' HO_7.out).2.2 | (with_reducible refine Kd.C_alloc ?_ _) | (with_reducible refine Kd.C_drewN ?_ _) | (with_reducible refine Kd.C_drew ?_)))
    (case side2 => exact (Kd.S_reads' HO_7.out).2.1)
    rintro e w82 ⟨rfl, hb⟩
    have HS2_ := hbc hb hHeld.2.2.1
    have HS3_ := hbc hb hHeld.2.2.2.1
    have HS4_ := hbc hb hHeld.2.2.2.2.1
    have HS5_ := hbc hb hHeld.2.2.2.2.2.1
    have HS6_ := hbc hb hHeld.2.2.2.2.2.2.1
    have HS7_ := hbc hb hHeld.2.2.2.2.2.2.2.1
    have HS8_ := hbc hb hHeld.2.2.2.2.2.2.2.2.1
    have HS9_ := hbc hb hHeld.2.2.2.2.2.2.2.2.2.1
    have HS10_ := hbc hb hHeld.2.2.2.2.2.2.2.2.2.2.1
    have HS11_ := hbc hb hHeld.2.2.2.2.2.2.2.2.2.2.2.1
    have HS12_ := hbc hb hHeld.2.2.2.2.2.2.2.2.2.2.2.2.1
    have HS13_ := hbc hb hHeld.2.2.2.2.2.2.2.2.2.2.2.2.2.1
    have HS14_ := hbc hb hHeld.2.2.2.2.2.2.2.2.2.2.2.2.2.2
    refine ⟨_, rfl, ?_⟩
    replace HO_3 := Aside0.mk (Kd.S_below q70t hb)
    replace HO_6 := Aside0.mk (Kd.S_below q72t hb)
    replace HO_7 := Aside0.mk (Kd.S_below (by (with_reducible repeat (first | apply Kd.S_alloc | apply Kd.S_drewN | apply Kd.S_drew)); exact HO_7.out) hb)
    replace HL721_8 := Aside0.mk (Kd.R_below (by (with_reducible repeat (first | apply Kd.R_alloc | apply Kd.R_drewN | apply Kd.R_drew)); exact HL721_8.out) hb)
    replace HL721_11 := Aside0.mk (Kd.R_below (by (with_reducible repeat (first | apply Kd.R_alloc | apply Kd.R_drewN | apply Kd.R_drew)); exact HL721_11.out) hb)
    replace HL721_12 := Aside0.mk (Kd.R_below (by (with_reducible repeat (first | apply Kd.R_alloc | apply Kd.R_drewN | apply Kd.R_drew)); exact HL721_12.out) hb)
    replace BK675 := blb BK675 hb
    replace BK682 := blb BK682 hb
    replace HR721_8 := Aside0.mk (Kd.C_below (by repeat (first | (with_reducible exact HR721_8.out) | (with_reducible refine Kd.C_alloc ?_ _) | (with_reducible refine Kd.C_drewN ?_ _) | (with_reducible refine Kd.C_drew ?_) | exact HR721_8.out)) hb)
    replace HR721_11 := Aside0.mk (Kd.C_below (by repeat (first | (with_reducible exact HR721_11.out) | (with_reducible refine Kd.C_alloc ?_ _) | (with_reducible refine Kd.C_drewN ?_ _) | (with_reducible refine Kd.C_drew ?_) | exact HR721_11.out)) hb)
    replace HR721_12 := Aside0.mk (Kd.C_below (by repeat (first | (with_reducible exact HR721_12.out) | (with_reducible refine Kd.C_alloc ?_ _) | (with_reducible refine Kd.C_drewN ?_ _) | (with_reducible refine Kd.C_drew ?_) | exact HR721_12.out)) hb)
    replace HB := Aside0.mk (below_step q33t hb)
    (try clear hb)
    (try clear hb2)
    (try clear hk)
    (try clear hi)
    refine hK.out _ _ (by first | exact ⟨(blk_cell BK675.out 0).trans rfl, (blk_cell BK675.out 1).trans rfl, HS2_, HS3_, HS4_, HS5_, HS6_, HS7_, HS8_, HS9_, HS10_, HS11_, HS12_, HS13_, HS14_⟩ | exact hHeld) (fun hHeld => ?_)
    clear hK K
    refine norm_ (a' := ?_) ?_ ?_
    rotate_left
    ·show Act.put _ (some 125) _ = _
     simp only [Act.put, List.setIfInBounds_toArray, List.set_cons_zero, List.set_cons_succ, i64_w, i32_w]
     rfl
    refine pu_ 14 (some 127) (bm 17 32767) (any_of HT_.out (by kernel_rfl)) ?_
    refine pu_ 15 (some 128) (bm 17 65535) (any_of HT_.out (by kernel_rfl)) ?_
    refine pu_ 16 (some 129) (bm 17 131071) (any_of HT_.out (by kernel_rfl)) ?_
    refine done_ (done_of HT_.out (by kernel_rfl)) ?_
    try go_wp2
    go_meet
    case rel => exact ⟨_, ((!(t722 == t673) || (!(t723 == t674)))), q81t, H', ⟨(by have := HJ10.out; first | omega | exact Nat.le_refl _)⟩, ⟨(by (with_reducible repeat (first | apply Kd.S_alloc | apply Kd.S_drewN | apply Kd.S_drew)); exact Kd.S_mono HO_3.out (fun _ hk => hk.1))⟩, ⟨(by (with_reducible repeat (first | apply Kd.S_alloc | apply Kd.S_drewN | apply Kd.S_drew)); exact Kd.S_mono HO_6.out (fun _ hk => hk.1))⟩, ⟨qbk BK675⟩, ⟨qbk BK682⟩, ⟨q33t⟩⟩
   case rest =>
    clear HC71
    try clear c1
    try clear c2
    try clear p2
    try clear p2
    try clear c3
    try clear c4
    try clear c6
    try clear c7
    try clear p7
    try clear q7
    try clear hx7
    try clear c12
    try clear c14
    try clear c18
    try clear c19
    try clear c20
    try clear c21
    try clear c22
    try clear c23
    try clear c24
    try clear c27
    try clear c30
    try clear c30b0
    try clear c30b1
    try clear c34
    try clear c37
    try clear c37b0
    try clear c37b1
    try clear c40
    try clear c40b0
    try clear c40b1
    try clear c69
    try clear c72
    try clear p72
    try clear q72
    try clear hx72
    try clear c76
    try clear c76b0
    try clear c77
    try clear c77b0
    try clear c78
    try clear c78b0
    try clear c79
    try clear c79b0
    try clear c79b1
    try clear hcz73_0 hcz73_1
    try clear hfz73_0 hfz73_1
    try clear hx721_0
    try clear hx721_1
    try clear hx721_10
    try clear hx721_11
    try clear hx721_12
    try clear hx721_2
    try clear hx721_3
    try clear hx721_4
    try clear hx721_5
    try clear hx721_6
    try clear hx721_7
    try clear hx721_8
    try clear hx721_9
    try clear p721
    try clear q721
    obtain ⟨kq, x129_70, rfl, HA, HJ70, HO_3, HO_6, BK675, BK682, HB⟩ := hcut
    cases kq with
    | zero => exact absurd HA.out (by simp [laws_FnTables.j1])
    | succ kj70 =>
     have H := HA.out
     clear HA
     simp only [laws_FnTables.j1] at H
     by_cases c84 : x129_70 = true
     ·subst c84
      rw [if_pos rfl] at H
      exact absurd H q87t
     replace c84 := Bool.eq_false_iff.mpr c84
     subst c84
     rw [if_neg (show ¬ (false = true) by decide)] at H
     have HC85 := Aside0.mk H
     clear H
     go_upto_region 15 with (fail)
     go_cut [137] (fun v137 wc => ∃ (kq : Nat) (x137_84 : Bool), v137 = .bool x137_84 ∧ Aside0 (laws_FnTables.j2 kq t662 t663 t664 t667 x137_84 = some r) ∧ Aside0 (kq ≤ kj70) ∧ Aside0 (Kd.S k48 48 wc w.heap.size (fun k_ => some k_ ≠ (v668 : Value).ownBlock) (.slice Ao13 t662.length co13) t662) ∧ Aside0 (Kd.S k48 48 wc w.heap.size (fun k_ => some k_ ≠ ((.slice Ao13 t662.length co13) : Value).ownBlock) v668 t667) ∧ Aside0 (wc.heap[gb675]? = some (.cells #[.int .i64 t673, .int .i64 t674] 29 (0, 0))) ∧ Aside0 (wc.heap[gb682]? = some (.cells #[.int .i64 t676, .int .i64 t677, .int .i64 t678, .int .i64 t679, .int .i64 t680, .int .i64 t681] 33 (0, 0))) ∧ Aside0 (Below w.heap.size w wc))
     case first =>
      have H := HC85.out
      clear HC85
      by_cases c86 : t663 < 0
      ·rw [if_pos c86] at H
       have c86b0 : decide (t663 < 0) = true := decide_eq_true c86
       clear c86
       (first | rw [c86b0] | (simp only [i64_w, i32_w]; rw [c86b0]) | skip)
       have H' := Aside0.mk H
       clear H
       go_wp2
       go_meet
       case rel => exact ⟨_, (true), q81t, H', ⟨(by have := HJ10.out; have := HJ70.out; first | omega | exact Nat.le_refl _)⟩, ⟨q70t⟩, ⟨q72t⟩, ⟨qbk BK675⟩, ⟨qbk BK682⟩, ⟨q33t⟩⟩
      rw [if_neg c86] at H
      have c86b0 : decide (t663 < 0) = false := decide_eq_false c86
      clear c86
      (first | rw [c86b0] | (simp only [i64_w, i32_w]; rw [c86b0]) | skip)
      have H' := Aside0.mk H
      clear H
      go_wp2
      go_meet
      case rel => exact ⟨_, (decide (t663 ≥ (t662.length : Int))), q81t, H', ⟨(by have := HJ10.out; have := HJ70.out; first | omega | exact Nat.le_refl _)⟩, ⟨q70t⟩, ⟨q72t⟩, ⟨qbk BK675⟩, ⟨qbk BK682⟩, ⟨q33t⟩⟩
     case rest =>
      clear HC85
      try clear c1
      try clear c2
      try clear p2
      try clear p2
      try clear c3
      try clear c4
      try clear c6
      try clear c7
      try clear p7
      try clear p7
      try clear q7
      try clear q7
      try clear hx7
      try clear c8
      try clear c12
      try clear c14
      try clear c18
      try clear c19
      try clear c20
      try clear c21
      try clear c22
      try clear c23
      try clear c24
      try clear c27
      try clear c30
      try clear c30b0
      try clear c30b1
      try clear c34
      try clear c37
      try clear c37b0
      try clear c37b1
      try clear c40
      try clear c40b0
      try clear c40b1
      try clear c69
      try clear c72
      try clear p72
      try clear p72
      try clear q72
      try clear q72
      try clear hx72
      try clear c76
      try clear c76b0
      try clear c77
      try clear c77b0
      try clear c78
      try clear c78b0
      try clear c79
      try clear c79b0
      try clear c79b1
      try clear c84
      try clear c86
      try clear c86b0
      try clear hcz73_0 hcz73_1
      try clear hfz73_0 hfz73_1
      try clear hx721_0
      try clear hx721_1
      try clear hx721_10
      try clear hx721_11
      try clear hx721_12
      try clear hx721_2
      try clear hx721_3
      try clear hx721_4
      try clear hx721_5
      try clear hx721_6
      try clear hx721_7
      try clear hx721_8
      try clear hx721_9
      try clear p721
      try clear q721
      obtain ⟨kq, x137_84, rfl, HA, HJ84, HO_3, HO_6, BK675, BK682, HB⟩ := hcut
      cases kq with
      | zero => exact absurd HA.out (by simp [laws_FnTables.j2])
      | succ kj84 =>
       have H := HA.out
       clear HA
       simp only [laws_FnTables.j2] at H
       by_cases c87 : x137_84 = true
       ·subst c87
        rw [if_pos rfl] at H
        replace H := Option.bind_eq_some_iff.mp H
        obtain ⟨t724, A880, H⟩ := H
        try dsimp only at H
        have A88 := Aside0.mk A880
        clear A880
        obtain rfl := Option.some.inj H
        obtain ⟨Ao89, co89, eo89⟩ := Kd.S_slice HO_6.out
        subst eo89
        go_wp2_with (first | ((with_reducible refine gate_callee (f := 12) rfl ?_); refine goesL_ (some 140) rfl rfl Try.func12 (by kernel_rfl) rfl #[.slice Ao89 t667.length co89, .slice Ao13 t662.length co13] rfl q51t ?_; (with_reducible refine (laws_sameTable.calls kj84 _ _ t667 _ _ t662 t724 _ ?side1 ?side2 ?side3 ?side4 A88.out).mono ?_); (case side1 => repeat (first | exact (Kd.S_reads' HO_6.out).2.2 | (with_reducible refine Kd.C_alloc ?_ _) | (with_reducible refine Kd.C_drewN ?_ _) | (with_reducible refine Kd.C_drew ?_))); (case side2 => exact (Kd.S_reads' HO_6.out).2.1); (case side3 => repeat (first | exact (Kd.S_reads' HO_3.out).2.2 | (with_reducible refine Kd.C_alloc ?_ _) | (with_reducible refine Kd.C_drewN ?_ _) | (with_reducible refine Kd.C_drew ?_))); (case side4 => exact (Kd.S_reads' HO_3.out).2.1); rintro e w90 ⟨rfl, hb⟩; refine ⟨_, rfl, ?_⟩; replace HO_3 := Aside0.mk (Kd.S_below q70t hb); replace HO_6 := Aside0.mk (Kd.S_below q72t hb); replace BK675 := blb BK675 hb; replace BK682 := blb BK682 hb; replace HB := Aside0.mk (below_step q33t hb); (try clear hb); (try clear hb2); (try clear hk); (try clear hi)))
        go_ret
        exact ⟨q73t, q33t⟩
       replace c87 := Bool.eq_false_iff.mpr c87
       subst c87
       rw [if_neg (show ¬ (false = true) by decide)] at H
       replace H := Option.bind_eq_some_iff.mp H
       obtain ⟨⟨t725, t726⟩, A910, H⟩ := H
       try dsimp only at H
       have A91 := Aside0.mk A910
       clear A910
       replace H := Option.bind_eq_some_iff.mp H
       obtain ⟨t728, A920, H⟩ := H
       try dsimp only at H
       have A92 := Aside0.mk A920
       clear A920
       by_cases c93 : t728 < 0
       rotate_left
       ·rw [if_neg c93] at H
        have c93b0 : decide (t728 < 0) = false := decide_eq_false c93
        clear c93
        exact absurd H q87t
       rw [if_pos c93] at H
       have c93b0 : decide (t728 < 0) = true := decide_eq_true c93
       clear c93
       by_cases c94 : 0 ≤ t663
       rotate_left
       ·rw [if_neg c94] at H
        exact absurd H q87t
       rw [if_pos c94] at H
       have c94b0 : decide (0 ≤ t663) = true := decide_eq_true c94
       clear c94
       by_cases c95 : t663 < (t667.length : Int)
       rotate_left
       ·rw [if_neg c95] at H
        exact absurd H q87t
       rw [if_pos c95] at H
       have c95b0 : decide (t663 < (t667.length : Int)) = true := decide_eq_true c95
       clear c95
       by_cases c96 : t663 < (t662.length : Int)
       rotate_left
       ·rw [if_neg c96] at H
        exact absurd H q87t
       rw [if_pos c96] at H
       have c96b0 : decide (t663 < (t662.length : Int)) = true := decide_eq_true c96
       clear c96
       by_cases c97 : ((((rd_T48 t667 t663).f0) == 3) == (decide (((rd_T48 t662 t663).f1) ≥ t664))) = true
       rotate_left
       ·rw [if_neg c97] at H
        have c97b0 : ((((rd_T48 t667 t663).f0) == 3) == (decide (((rd_T48 t662 t663).f1) ≥ t664))) = false := by simpa using c97
        (try (have c97b1 : decide ((((rd_T48 t667 t663).f0) == 3) = (decide (((rd_T48 t662 t663).f1) ≥ t664))) = false := by simpa using c97))
        (try (have c97b2 : ((((rd_T48 t667 t663).f0) == 3) == (decide (((rd_T48 t662 t663).f1) ≥ t664))) = false := by simpa using c97))
        (try (have c97b3 : ¬ ((((rd_T48 t667 t663).f0) == 3) = (decide (((rd_T48 t662 t663).f1) ≥ t664))) := by simpa using c97))
        clear c97
        exact absurd H q87t
       rw [if_pos c97] at H
       have c97b0 : ((((rd_T48 t667 t663).f0) == 3) == (decide (((rd_T48 t662 t663).f1) ≥ t664))) = true := c97
       (try (have c97b1 : decide ((((rd_T48 t667 t663).f0) == 3) = (decide (((rd_T48 t662 t663).f1) ≥ t664))) = true := by simpa using c97))
       (try (have c97b2 : ((((rd_T48 t667 t663).f0) == 3) == (decide (((rd_T48 t662 t663).f1) ≥ t664))) = true := by simpa using c97))
       clear c97
       by_cases c98 : ((rd_T48 t667 t663).f0) = 3
       ·rw [if_pos c98] at H
        have c98b0 : (((rd_T48 t667 t663).f0) == 3) = true := beq_iff_eq.mpr c98
        have c98b1 : (((rd_T48 t667 t663).f0) != 3) = false := bne_eq_false_iff_eq.mpr c98
        have c99 : decide (t664 ≤ (rd_T48 t662 t663).f1) = true := (eq_of_beq c97b0).symm.trans c98b0
        clear c98
        obtain rfl := Option.some.inj H
        try go_wp2_with (first | ((with_reducible refine gate_callee (f := 23) rfl ?_); refine goesL_ (some 143) rfl rfl Try.func23 (by kernel_rfl) rfl #[.slice Ao13 t662.length co13, .int .i64 t663] rfl q51t ?_; (with_reducible refine (impl_HandleAt.calls _ _ t662 t663 t725 t726 _ ?side1 ?side2 A91.out).mono ?_); (case side1 => repeat (first | exact (Kd.S_reads' HO_3.out).2.2 | (with_reducible refine Kd.C_alloc ?_ _) | (with_reducible refine Kd.C_drewN ?_ _) | (with_reducible refine Kd.C_drew ?_))); (case side2 => exact (Kd.S_reads' HO_3.out).2.1); rintro e w99 ⟨rfl, hb⟩; refine ⟨_, rfl, ?_⟩; replace HO_3 := Aside0.mk (Kd.S_below q70t hb); replace HO_6 := Aside0.mk (Kd.S_below q72t hb); replace BK675 := blb BK675 hb; replace BK682 := blb BK682 hb; replace HB := Aside0.mk (below_step q33t hb); (try clear hb); (try clear hb2); (try clear hk); (try clear hi)) | ((with_reducible refine gate_dst (N := 17) rfl ?_); (try (refine gate_guard (by rfl) ?_; dsimp only)); refine box_ev 17 #[.int .i64 0, .int .i64 0] 29 ?_; intro gb727 hg w100 hbox hb; replace HO_3 := Aside0.mk (Kd.S_below q70t hb); replace HO_6 := Aside0.mk (Kd.S_below q72t hb); have BK727 := Aside0.mk (hbox); have GW727 := Aside0.mk ((q26t : w.heap.size ≤ gb727)); have GE727 := Aside0.mk ((q26t : w.heap.size ≤ gb727)); replace HB := Aside0.mk (below_step q33t hb); have NB675_727 := Aside0.mk ((by rw [hg]; exact Nat.ne_of_lt (blk_lt (qbk BK675)) : gb675 ≠ gb727)); have NB727_675 := Aside0.mk ((by rw [hg]; exact Nat.ne_of_gt (blk_lt (qbk BK675)) : gb727 ≠ gb675)); replace BK675 := blb BK675 hb; have NB682_727 := Aside0.mk ((by rw [hg]; exact Nat.ne_of_lt (blk_lt (qbk BK682)) : gb682 ≠ gb727)); have NB727_682 := Aside0.mk ((by rw [hg]; exact Nat.ne_of_gt (blk_lt (qbk BK682)) : gb727 ≠ gb682)); replace BK682 := blb BK682 hb; clear hb hbox hg; have hnb101 := NB727_675.out; have hnc101 := NB675_727.out; have hnb102 := NB727_682.out; have hnc102 := NB682_727.out; obtain ⟨hcz103_0, hcz103_1⟩ := qc2 BK727.out; obtain ⟨hfz103_0, hfz103_1⟩ := qf2 BK727.out))
        have n0_ : Aside0 (Kd.S k48 48 ((w100.setCell ⟨gb727, 0, none⟩ (.int .i64 t725)).setCell ⟨gb727, 1, none⟩ (.int .i64 t726)) w.heap.size (fun k_ => some k_ ≠ (v668 : Value).ownBlock) (.slice Ao13 t662.length co13) t662) := ⟨by (with_reducible repeat (first | apply Kd.S_alloc | apply Kd.S_drewN | apply Kd.S_drew)); exact Kd.S_mono (skf (skf (Kd.S_types HO_3.out BK727.out q85t))) (fun _ hk => hk.1)⟩
        have n1_ : Aside0 (Kd.S k48 48 ((w100.setCell ⟨gb727, 0, none⟩ (.int .i64 t725)).setCell ⟨gb727, 1, none⟩ (.int .i64 t726)) w.heap.size (fun k_ => some k_ ≠ (.slice Ao13 t662.length co13 : Value).ownBlock) v668 t667) := ⟨by (with_reducible repeat (first | apply Kd.S_alloc | apply Kd.S_drewN | apply Kd.S_drew)); exact Kd.S_mono (skf (skf (Kd.S_types HO_6.out BK727.out q85t))) (fun _ hk => hk.1)⟩
        have n2_ : Aside0 (((w100.setCell ⟨gb727, 0, none⟩ (.int .i64 t725)).setCell ⟨gb727, 1, none⟩ (.int .i64 t726)).heap[gb675]? = some (.cells #[.int .i64 t673, .int .i64 t674] 29 (0, 0))) := ⟨by (with_reducible repeat (first | refine blk_drewN ?_ _ | refine blk_drew ?_ | refine blk_alloc ?_ _)); refine blk_far ?_ NB675_727.out _; (with_reducible repeat (first | refine blk_drewN ?_ _ | refine blk_drew ?_ | refine blk_alloc ?_ _)); refine blk_far ?_ NB675_727.out _; (with_reducible repeat (first | refine blk_drewN ?_ _ | refine blk_drew ?_ | refine blk_alloc ?_ _)); exact BK675.out⟩
        have n3_ : Aside0 (((w100.setCell ⟨gb727, 0, none⟩ (.int .i64 t725)).setCell ⟨gb727, 1, none⟩ (.int .i64 t726)).heap[gb682]? = some (.cells #[.int .i64 t676, .int .i64 t677, .int .i64 t678, .int .i64 t679, .int .i64 t680, .int .i64 t681] 33 (0, 0))) := ⟨by (with_reducible repeat (first | refine blk_drewN ?_ _ | refine blk_drew ?_ | refine blk_alloc ?_ _)); refine blk_far ?_ NB682_727.out _; (with_reducible repeat (first | refine blk_drewN ?_ _ | refine blk_drew ?_ | refine blk_alloc ?_ _)); refine blk_far ?_ NB682_727.out _; (with_reducible repeat (first | refine blk_drewN ?_ _ | refine blk_drew ?_ | refine blk_alloc ?_ _)); exact BK682.out⟩
        have n4_ : Aside0 (((w100.setCell ⟨gb727, 0, none⟩ (.int .i64 t725)).setCell ⟨gb727, 1, none⟩ (.int .i64 t726)).heap[gb727]? = some (.cells #[.int .i64 t725, .int .i64 t726] 29 (0, 0))) := ⟨qbp BK727⟩
        have n5_ : Aside0 (Below w.heap.size w ((w100.setCell ⟨gb727, 0, none⟩ (.int .i64 t725)).setCell ⟨gb727, 1, none⟩ (.int .i64 t726))) := ⟨by repeat (first | (with_reducible first | exact HB.out | apply below_alloc | apply pw_below_drewN | apply below_drew1 | refine below_set ?_ (Aside0.out q83t)) | exact HB.out)⟩
        (try clear HO_3)
        (try clear HO_6)
        (try clear BK675)
        (try clear BK682)
        (try clear BK727)
        (try clear HB)
        generalize ((w100.setCell ⟨gb727, 0, none⟩ (.int .i64 t725)).setCell ⟨gb727, 1, none⟩ (.int .i64 t726)) = w104 at n0_ n1_ n2_ n3_ n4_ n5_ ⊢
        have HO_3 := n0_
        have HO_6 := n1_
        have BK675 := n2_
        have BK682 := n3_
        have BK727 := n4_
        have HB := n5_
        clear n0_ n1_ n2_ n3_ n4_ n5_
        replace HO_3 := Aside0.mk (Kd.S_drew HO_3.out)
        replace HO_6 := Aside0.mk (Kd.S_drew HO_6.out)
        replace BK675 := Aside0.mk (blk_drew BK675.out)
        replace BK682 := Aside0.mk (blk_drew BK682.out)
        replace BK727 := Aside0.mk (blk_drew BK727.out)
        replace HB := Aside0.mk (below_drew1 HB.out)
        obtain ⟨Ao106, co106, eo106⟩ := Kd.S_slice HO_6.out
        (first | subst eo106 | (injection eo106 with f1_ f2_ f3_; have f4_ := f1_.symm; have f5_ := f3_.symm; clear f1_ f2_ f3_; subst f4_; subst f5_))
        have p729 : 0 ≤ (t663 : Int) := of_decide_eq_true q76t
        have q729 : t663 < (t667.length : Int) := of_decide_eq_true q76t
        obtain ⟨ad729, A729_8, c729_8, A729_11, c729_11, A729_12, c729_12, e729, hx729_0, hx729_1, hx729_2, hx729_3, hx729_4, hx729_5, hx729_6, hx729_7, hx729_8, hx729_9, hx729_10, hx729_11, hx729_12, hl729_8, hi729_8, hl729_11, hi729_11, hl729_12, hi729_12⟩ := at_T48 (Kd.S_reads' HO_6.out).2.2 t663 p729 q729
        cases e729
        obtain ⟨ce729, hce729, hMe729, hcc729⟩ := Kd.S_get HO_6.out z48 t663 p729 (by first | exact q729 | exact of_decide_eq_true q76t | (have e_ := (Kd.S_reads' HO_6.out).1; omega))
        obtain ⟨ve729_8, ve729_11, ve729_12, rfl, ge729_8, ge729_11, ge729_12⟩ := k48_openM hMe729
        have hv729_8 := hcc729 8 _ rfl
        rw [add_field _ _ 8 q86t] at hv729_8
        replace hv729_8 := Option.some.inj (hv729_8.symm.trans hx729_8)
        rw [hv729_8] at ge729_8
        have HL729_8 := Aside0.mk (show Kd.R (Kd.int .i64) 3 _ _ _ _ ((rd_T48 t667 t663).f8) from ge729_8)
        clear hv729_8 ge729_8
        have hv729_11 := hcc729 11 _ rfl
        rw [add_field _ _ 11 q86t] at hv729_11
        replace hv729_11 := Option.some.inj (hv729_11.symm.trans hx729_11)
        rw [hv729_11] at ge729_11
        have HL729_11 := Aside0.mk (show Kd.R k74 74 _ _ _ _ ((rd_T48 t667 t663).f11) from ge729_11)
        clear hv729_11 ge729_11
        have hv729_12 := hcc729 12 _ rfl
        rw [add_field _ _ 12 q86t] at hv729_12
        replace hv729_12 := Option.some.inj (hv729_12.symm.trans hx729_12)
        rw [hv729_12] at ge729_12
        have HL729_12 := Aside0.mk (show Kd.R (Kd.int .i64) 3 _ _ _ _ ((rd_T48 t667 t663).f12) from ge729_12)
        clear hv729_12 ge729_12
        clear hcc729 hce729
        have HR729_8 := Aside0.mk hi729_8
        have HC729_8 := Aside0.mk hl729_8
        clear hi729_8 hl729_8
        have HR729_11 := Aside0.mk hi729_11
        have HC729_11 := Aside0.mk hl729_11
        clear hi729_11 hl729_11
        have HR729_12 := Aside0.mk hi729_12
        have HC729_12 := Aside0.mk hl729_12
        clear hi729_12 hl729_12
        replace p729 := eq_true p729
        replace q729 := eq_true q729
        have p730 : 0 ≤ (t663 : Int) := of_decide_eq_true q76t
        have q730 : t663 < (t662.length : Int) := of_decide_eq_true q76t
        obtain ⟨ad730, A730_8, c730_8, A730_11, c730_11, A730_12, c730_12, e730, hx730_0, hx730_1, hx730_2, hx730_3, hx730_4, hx730_5, hx730_6, hx730_7, hx730_8, hx730_9, hx730_10, hx730_11, hx730_12, hl730_8, hi730_8, hl730_11, hi730_11, hl730_12, hi730_12⟩ := at_T48 (Kd.S_reads' HO_3.out).2.2 t663 p730 q730
        cases e730
        obtain ⟨ce730, hce730, hMe730, hcc730⟩ := Kd.S_get HO_3.out z48 t663 p730 (by first | exact q730 | exact of_decide_eq_true q76t | (have e_ := (Kd.S_reads' HO_3.out).1; omega))
        obtain ⟨ve730_8, ve730_11, ve730_12, rfl, ge730_8, ge730_11, ge730_12⟩ := k48_openM hMe730
        have hv730_8 := hcc730 8 _ rfl
        rw [add_field _ _ 8 q86t] at hv730_8
        replace hv730_8 := Option.some.inj (hv730_8.symm.trans hx730_8)
        rw [hv730_8] at ge730_8
        have HL730_8 := Aside0.mk (show Kd.R (Kd.int .i64) 3 _ _ _ _ ((rd_T48 t662 t663).f8) from ge730_8)
        clear hv730_8 ge730_8
        have hv730_11 := hcc730 11 _ rfl
        rw [add_field _ _ 11 q86t] at hv730_11
        replace hv730_11 := Option.some.inj (hv730_11.symm.trans hx730_11)
        rw [hv730_11] at ge730_11
        have HL730_11 := Aside0.mk (show Kd.R k74 74 _ _ _ _ ((rd_T48 t662 t663).f11) from ge730_11)
        clear hv730_11 ge730_11
        have hv730_12 := hcc730 12 _ rfl
        rw [add_field _ _ 12 q86t] at hv730_12
        replace hv730_12 := Option.some.inj (hv730_12.symm.trans hx730_12)
        rw [hv730_12] at ge730_12
        have HL730_12 := Aside0.mk (show Kd.R (Kd.int .i64) 3 _ _ _ _ ((rd_T48 t662 t663).f12) from ge730_12)
        clear hv730_12 ge730_12
        clear hcc730 hce730
        have HR730_8 := Aside0.mk hi730_8
        have HC730_8 := Aside0.mk hl730_8
        clear hi730_8 hl730_8
        have HR730_11 := Aside0.mk hi730_11
        have HC730_11 := Aside0.mk hl730_11
        clear hi730_11 hl730_11
        have HR730_12 := Aside0.mk hi730_12
        have HC730_12 := Aside0.mk hl730_12
        clear hi730_12 hl730_12
        replace p730 := eq_true p730
        replace q730 := eq_true q730
        have p731 : 0 ≤ (t663 : Int) := of_decide_eq_true q76t
        have q731 : t663 < (t667.length : Int) := of_decide_eq_true q76t
        obtain ⟨ad731, A731_8, c731_8, A731_11, c731_11, A731_12, c731_12, e731, hx731_0, hx731_1, hx731_2, hx731_3, hx731_4, hx731_5, hx731_6, hx731_7, hx731_8, hx731_9, hx731_10, hx731_11, hx731_12, hl731_8, hi731_8, hl731_11, hi731_11, hl731_12, hi731_12⟩ := at_T48 (Kd.S_reads' HO_6.out).2.2 t663 p731 q731
        obtain rfl : ad729 = ad731 := (by injection e731)
        obtain ⟨ce731, hce731, hMe731, hcc731⟩ := Kd.S_get HO_6.out z48 t663 p731 (by first | exact q731 | exact of_decide_eq_true q76t | (have e_ := (Kd.S_reads' HO_6.out).1; omega))
        obtain ⟨ve731_8, ve731_11, ve731_12, rfl, ge731_8, ge731_11, ge731_12⟩ := k48_openM hMe731
        have hv731_8 := hcc731 8 _ rfl
        rw [add_field _ _ 8 q86t] at hv731_8
        replace hv731_8 := Option.some.inj (hv731_8.symm.trans hx731_8)
        rw [hv731_8] at ge731_8
        have HL731_8 := Aside0.mk (show Kd.R (Kd.int .i64) 3 _ _ _ _ ((rd_T48 t667 t663).f8) from ge731_8)
        clear hv731_8 ge731_8
        have hv731_11 := hcc731 11 _ rfl
        rw [add_field _ _ 11 q86t] at hv731_11
        replace hv731_11 := Option.some.inj (hv731_11.symm.trans hx731_11)
        rw [hv731_11] at ge731_11
        have HL731_11 := Aside0.mk (show Kd.R k74 74 _ _ _ _ ((rd_T48 t667 t663).f11) from ge731_11)
        clear hv731_11 ge731_11
        have hv731_12 := hcc731 12 _ rfl
        rw [add_field _ _ 12 q86t] at hv731_12
        replace hv731_12 := Option.some.inj (hv731_12.symm.trans hx731_12)
        rw [hv731_12] at ge731_12
        have HL731_12 := Aside0.mk (show Kd.R (Kd.int .i64) 3 _ _ _ _ ((rd_T48 t667 t663).f12) from ge731_12)
        clear hv731_12 ge731_12
        clear hcc731 hce731
        have HR731_8 := Aside0.mk hi731_8
        have HC731_8 := Aside0.mk hl731_8
        clear hi731_8 hl731_8
        have HR731_11 := Aside0.mk hi731_11
        have HC731_11 := Aside0.mk hl731_11
        clear hi731_11 hl731_11
        have HR731_12 := Aside0.mk hi731_12
        have HC731_12 := Aside0.mk hl731_12
        clear hi731_12 hl731_12
        replace p731 := eq_true p731
        replace q731 := eq_true q731
        have ea_ := Option.some.inj (hx729_8.symm.trans hx731_8)
        injection ea_ with ea_ en_ ec_
        subst ea_
        subst ec_
        clear en_
        have ea_ := Option.some.inj (hx729_11.symm.trans hx731_11)
        injection ea_ with ea_ en_ ec_
        subst ea_
        subst ec_
        clear en_
        have ea_ := Option.some.inj (hx729_12.symm.trans hx731_12)
        injection ea_ with ea_ en_ ec_
        subst ea_
        subst ec_
        clear en_
        refine start_ (n := 43) (S := fun w' => w'.cell? ⟨gb727, 0, none⟩ = some (.int .i64 t725) ∧ w'.cell? ⟨gb727, 1, none⟩ = some (.int .i64 t726) ∧ w'.cell? (ad729.add ((t663).toNat * 13)) = some (.int .i64 ((rd_T48 t667 t663).f0)) ∧ w'.cell? ⟨(ad729.add ((t663).toNat * 13)).block, (ad729.add ((t663).toNat * 13)).off + 1, none⟩ = some (.int .i64 ((rd_T48 t667 t663).f1)) ∧ w'.cell? ⟨(ad729.add ((t663).toNat * 13)).block, (ad729.add ((t663).toNat * 13)).off + 2, none⟩ = some (.int .i64 ((rd_T48 t667 t663).f2)) ∧ w'.cell? ⟨(ad729.add ((t663).toNat * 13)).block, (ad729.add ((t663).toNat * 13)).off + 3, none⟩ = some (.int .i64 ((rd_T48 t667 t663).f3)) ∧ w'.cell? ⟨(ad729.add ((t663).toNat * 13)).block, (ad729.add ((t663).toNat * 13)).off + 4, none⟩ = some (.int .i64 ((rd_T48 t667 t663).f4)) ∧ w'.cell? ⟨(ad729.add ((t663).toNat * 13)).block, (ad729.add ((t663).toNat * 13)).off + 5, none⟩ = some (.int .i64 ((rd_T48 t667 t663).f5)) ∧ w'.cell? ⟨(ad729.add ((t663).toNat * 13)).block, (ad729.add ((t663).toNat * 13)).off + 6, none⟩ = some (.int .i64 ((rd_T48 t667 t663).f6)) ∧ w'.cell? ⟨(ad729.add ((t663).toNat * 13)).block, (ad729.add ((t663).toNat * 13)).off + 7, none⟩ = some (.int .i64 ((rd_T48 t667 t663).f7)) ∧ w'.cell? ⟨(ad729.add ((t663).toNat * 13)).block, (ad729.add ((t663).toNat * 13)).off + 8, none⟩ = some (.slice A729_8 ((rd_T48 t667 t663).f8).length c729_8) ∧ w'.cell? ⟨(ad729.add ((t663).toNat * 13)).block, (ad729.add ((t663).toNat * 13)).off + 9, none⟩ = some (.int .i64 ((rd_T48 t667 t663).f9)) ∧ w'.cell? ⟨(ad729.add ((t663).toNat * 13)).block, (ad729.add ((t663).toNat * 13)).off + 10, none⟩ = some (.int .i64 ((rd_T48 t667 t663).f10)) ∧ w'.cell? ⟨(ad729.add ((t663).toNat * 13)).block, (ad729.add ((t663).toNat * 13)).off + 11, none⟩ = some (.slice A729_11 ((rd_T48 t667 t663).f11).length c729_11) ∧ w'.cell? ⟨(ad729.add ((t663).toNat * 13)).block, (ad729.add ((t663).toNat * 13)).off + 12, none⟩ = some (.slice A729_12 ((rd_T48 t667 t663).f12).length c729_12) ∧ w'.cell? (ad730.add ((t663).toNat * 13)) = some (.int .i64 ((rd_T48 t662 t663).f0)) ∧ w'.cell? ⟨(ad730.add ((t663).toNat * 13)).block, (ad730.add ((t663).toNat * 13)).off + 1, none⟩ = some (.int .i64 ((rd_T48 t662 t663).f1)) ∧ w'.cell? ⟨(ad730.add ((t663).toNat * 13)).block, (ad730.add ((t663).toNat * 13)).off + 2, none⟩ = some (.int .i64 ((rd_T48 t662 t663).f2)) ∧ w'.cell? ⟨(ad730.add ((t663).toNat * 13)).block, (ad730.add ((t663).toNat * 13)).off + 3, none⟩ = some (.int .i64 ((rd_T48 t662 t663).f3)) ∧ w'.cell? ⟨(ad730.add ((t663).toNat * 13)).block, (ad730.add ((t663).toNat * 13)).off + 4, none⟩ = some (.int .i64 ((rd_T48 t662 t663).f4)) ∧ w'.cell? ⟨(ad730.add ((t663).toNat * 13)).block, (ad730.add ((t663).toNat * 13)).off + 5, none⟩ = some (.int .i64 ((rd_T48 t662 t663).f5)) ∧ w'.cell? ⟨(ad730.add ((t663).toNat * 13)).block, (ad730.add ((t663).toNat * 13)).off + 6, none⟩ = some (.int .i64 ((rd_T48 t662 t663).f6)) ∧ w'.cell? ⟨(ad730.add ((t663).toNat * 13)).block, (ad730.add ((t663).toNat * 13)).off + 7, none⟩ = some (.int .i64 ((rd_T48 t662 t663).f7)) ∧ w'.cell? ⟨(ad730.add ((t663).toNat * 13)).block, (ad730.add ((t663).toNat * 13)).off + 8, none⟩ = some (.slice A730_8 ((rd_T48 t662 t663).f8).length c730_8) ∧ w'.cell? ⟨(ad730.add ((t663).toNat * 13)).block, (ad730.add ((t663).toNat * 13)).off + 9, none⟩ = some (.int .i64 ((rd_T48 t662 t663).f9)) ∧ w'.cell? ⟨(ad730.add ((t663).toNat * 13)).block, (ad730.add ((t663).toNat * 13)).off + 10, none⟩ = some (.int .i64 ((rd_T48 t662 t663).f10)) ∧ w'.cell? ⟨(ad730.add ((t663).toNat * 13)).block, (ad730.add ((t663).toNat * 13)).off + 11, none⟩ = some (.slice A730_11 ((rd_T48 t662 t663).f11).length c730_11) ∧ w'.cell? ⟨(ad730.add ((t663).toNat * 13)).block, (ad730.add ((t663).toNat * 13)).off + 12, none⟩ = some (.slice A730_12 ((rd_T48 t662 t663).f12).length c730_12) ∧ w'.cell? (ad729.add ((t663).toNat * 13)) = some (.int .i64 ((rd_T48 t667 t663).f0)) ∧ w'.cell? ⟨(ad729.add ((t663).toNat * 13)).block, (ad729.add ((t663).toNat * 13)).off + 1, none⟩ = some (.int .i64 ((rd_T48 t667 t663).f1)) ∧ w'.cell? ⟨(ad729.add ((t663).toNat * 13)).block, (ad729.add ((t663).toNat * 13)).off + 2, none⟩ = some (.int .i64 ((rd_T48 t667 t663).f2)) ∧ w'.cell? ⟨(ad729.add ((t663).toNat * 13)).block, (ad729.add ((t663).toNat * 13)).off + 3, none⟩ = some (.int .i64 ((rd_T48 t667 t663).f3)) ∧ w'.cell? ⟨(ad729.add ((t663).toNat * 13)).block, (ad729.add ((t663).toNat * 13)).off + 4, none⟩ = some (.int .i64 ((rd_T48 t667 t663).f4)) ∧ w'.cell? ⟨(ad729.add ((t663).toNat * 13)).block, (ad729.add ((t663).toNat * 13)).off + 5, none⟩ = some (.int .i64 ((rd_T48 t667 t663).f5)) ∧ w'.cell? ⟨(ad729.add ((t663).toNat * 13)).block, (ad729.add ((t663).toNat * 13)).off + 6, none⟩ = some (.int .i64 ((rd_T48 t667 t663).f6)) ∧ w'.cell? ⟨(ad729.add ((t663).toNat * 13)).block, (ad729.add ((t663).toNat * 13)).off + 7, none⟩ = some (.int .i64 ((rd_T48 t667 t663).f7)) ∧ w'.cell? ⟨(ad729.add ((t663).toNat * 13)).block, (ad729.add ((t663).toNat * 13)).off + 8, none⟩ = some (.slice A729_8 ((rd_T48 t667 t663).f8).length c729_8) ∧ w'.cell? ⟨(ad729.add ((t663).toNat * 13)).block, (ad729.add ((t663).toNat * 13)).off + 9, none⟩ = some (.int .i64 ((rd_T48 t667 t663).f9)) ∧ w'.cell? ⟨(ad729.add ((t663).toNat * 13)).block, (ad729.add ((t663).toNat * 13)).off + 10, none⟩ = some (.int .i64 ((rd_T48 t667 t663).f10)) ∧ w'.cell? ⟨(ad729.add ((t663).toNat * 13)).block, (ad729.add ((t663).toNat * 13)).off + 11, none⟩ = some (.slice A729_11 ((rd_T48 t667 t663).f11).length c729_11) ∧ w'.cell? ⟨(ad729.add ((t663).toNat * 13)).block, (ad729.add ((t663).toNat * 13)).off + 12, none⟩ = some (.slice A729_12 ((rd_T48 t667 t663).f12).length c729_12)) (ds := []) (bm 43 0) (by kernel_rfl) rfl (by kernel_rfl) ⟨(blk_cell BK727.out 0).trans rfl, (blk_cell BK727.out 1).trans rfl, hx729_0, hx729_1, hx729_2, hx729_3, hx729_4, hx729_5, hx729_6, hx729_7, hx729_8, hx729_9, hx729_10, hx729_11, hx729_12, hx730_0, hx730_1, hx730_2, hx730_3, hx730_4, hx730_5, hx730_6, hx730_7, hx730_8, hx730_9, hx730_10, hx730_11, hx730_12, hx731_0, hx731_1, hx731_2, hx731_3, hx731_4, hx731_5, hx731_6, hx731_7, hx731_8, hx731_9, hx731_10, hx731_11, hx731_12⟩ (fun hHeld => ?_); refine with_tabW laws_FnTables.tab18 laws_FnTables.bits18 (fun HT_ HW_ => ?_)
        generalize w104.drew = w105 at HO_3 HO_6 BK675 BK682 BK727 HB HL729_11 HL729_12 HL729_8 HL730_11 HL730_12 HL730_8 HL731_11 HL731_12 HL731_8 HR729_11 HR729_12 HR729_8 HR730_11 HR730_12 HR730_8 HR731_11 HR731_12 HR731_8 hx729_0 hx729_1 hx729_10 hx729_11 hx729_12 hx729_2 hx729_3 hx729_4 hx729_5 hx729_6 hx729_7 hx729_8 hx729_9 hx730_0 hx730_1 hx730_10 hx730_11 hx730_12 hx730_2 hx730_3 hx730_4 hx730_5 hx730_6 hx730_7 hx730_8 hx730_9 hx731_0 hx731_1 hx731_10 hx731_11 hx731_12 hx731_2 hx731_3 hx731_4 hx731_5 hx731_6 hx731_7 hx731_8 hx731_9 hHeld ⊢
        refine pu_ 0 (some 144) (bm 43 1) (any_of HT_.out (by kernel_rfl)) ?_
        refine tk_ 1 (some 145) (bm 43 3) (take_ofW HT_.out HW_.out (by kernel_rfl)) hHeld ?_
        refine one_ (i := 2) (N := some 146) (bm 43 7) rfl rfl (one_of HT_.out (by kernel_rfl)) q85t (fun K hK => ?_)
        refine goes_ Try.func14 (by kernel_rfl) rfl #[.slice _ t667.length co106, .agg #[.int .i64 t725, .int .i64 t726]] (by rfl) rfl rfl q51t ?_
        with_reducible refine (impl_PlaceOf.calls kj84 _ _ t667 t725 t726 t728 _ ?side1 ?side2 A92.out).mono ?_
        (case side1 => repeat (first | exact (Kd.S_reads' HO_6.out).2.2 | (with_reducible refine Kd.C_alloc ?_ _) | (with_reducible refine Kd.C_drewN ?_ _) | (with_reducible refine Kd.C_drew ?_)))
        (case side2 => exact (Kd.S_reads' HO_6.out).2.1)
        rintro e w107 ⟨rfl, hb⟩
        have HS2_ := hbc hb hHeld.2.2.1
        have HS3_ := hbc hb hHeld.2.2.2.1
        have HS4_ := hbc hb hHeld.2.2.2.2.1
        have HS5_ := hbc hb hHeld.2.2.2.2.2.1
        have HS6_ := hbc hb hHeld.2.2.2.2.2.2.1
        have HS7_ := hbc hb hHeld.2.2.2.2.2.2.2.1
        have HS8_ := hbc hb hHeld.2.2.2.2.2.2.2.2.1
        have HS9_ := hbc hb hHeld.2.2.2.2.2.2.2.2.2.1
        have HS10_ := hbc hb hHeld.2.2.2.2.2.2.2.2.2.2.1
        have HS11_ := hbc hb hHeld.2.2.2.2.2.2.2.2.2.2.2.1
        have HS12_ := hbc hb hHeld.2.2.2.2.2.2.2.2.2.2.2.2.1
        have HS13_ := hbc hb hHeld.2.2.2.2.2.2.2.2.2.2.2.2.2.1
        have HS14_ := hbc hb hHeld.2.2.2.2.2.2.2.2.2.2.2.2.2.2.1
        have HS15_ := hbc hb hHeld.2.2.2.2.2.2.2.2.2.2.2.2.2.2.2.1
        have HS16_ := hbc hb hHeld.2.2.2.2.2.2.2.2.2.2.2.2.2.2.2.2.1
        have HS17_ := hbc hb hHeld.2.2.2.2.2.2.2.2.2.2.2.2.2.2.2.2.2.1
        have HS18_ := hbc hb hHeld.2.2.2.2.2.2.2.2.2.2.2.2.2.2.2.2.2.2.1
        have HS19_ := hbc hb hHeld.2.2.2.2.2.2.2.2.2.2.2.2.2.2.2.2.2.2.2.1
        have HS20_ := hbc hb hHeld.2.2.2.2.2.2.2.2.2.2.2.2.2.2.2.2.2.2.2.2.1
        have HS21_ := hbc hb hHeld.2.2.2.2.2.2.2.2.2.2.2.2.2.2.2.2.2.2.2.2.2.1
        have HS22_ := hbc hb hHeld.2.2.2.2.2.2.2.2.2.2.2.2.2.2.2.2.2.2.2.2.2.2.1
        have HS23_ := hbc hb hHeld.2.2.2.2.2.2.2.2.2.2.2.2.2.2.2.2.2.2.2.2.2.2.2.1
        have HS24_ := hbc hb hHeld.2.2.2.2.2.2.2.2.2.2.2.2.2.2.2.2.2.2.2.2.2.2.2.2.1
        have HS25_ := hbc hb hHeld.2.2.2.2.2.2.2.2.2.2.2.2.2.2.2.2.2.2.2.2.2.2.2.2.2.1
        have HS26_ := hbc hb hHeld.2.2.2.2.2.2.2.2.2.2.2.2.2.2.2.2.2.2.2.2.2.2.2.2.2.2.1
        have HS27_ := hbc hb hHeld.2.2.2.2.2.2.2.2.2.2.2.2.2.2.2.2.2.2.2.2.2.2.2.2.2.2.2.1
        have HS28_ := hbc hb hHeld.2.2.2.2.2.2.2.2.2.2.2.2.2.2.2.2.2.2.2.2.2.2.2.2.2.2.2.2.1
        have HS29_ := hbc hb hHeld.2.2.2.2.2.2.2.2.2.2.2.2.2.2.2.2.2.2.2.2.2.2.2.2.2.2.2.2.2.1
        have HS30_ := hbc hb hHeld.2.2.2.2.2.2.2.2.2.2.2.2.2.2.2.2.2.2.2.2.2.2.2.2.2.2.2.2.2.2.1
        have HS31_ := hbc hb hHeld.2.2.2.2.2.2.2.2.2.2.2.2.2.2.2.2.2.2.2.2.2.2.2.2.2.2.2.2.2.2.2.1
        have HS32_ := hbc hb hHeld.2.2.2.2.2.2.2.2.2.2.2.2.2.2.2.2.2.2.2.2.2.2.2.2.2.2.2.2.2.2.2.2.1
        have HS33_ := hbc hb hHeld.2.2.2.2.2.2.2.2.2.2.2.2.2.2.2.2.2.2.2.2.2.2.2.2.2.2.2.2.2.2.2.2.2.1
        have HS34_ := hbc hb hHeld.2.2.2.2.2.2.2.2.2.2.2.2.2.2.2.2.2.2.2.2.2.2.2.2.2.2.2.2.2.2.2.2.2.2.1
        have HS35_ := hbc hb hHeld.2.2.2.2.2.2.2.2.2.2.2.2.2.2.2.2.2.2.2.2.2.2.2.2.2.2.2.2.2.2.2.2.2.2.2.1
        have HS36_ := hbc hb hHeld.2.2.2.2.2.2.2.2.2.2.2.2.2.2.2.2.2.2.2.2.2.2.2.2.2.2.2.2.2.2.2.2.2.2.2.2.1
        have HS37_ := hbc hb hHeld.2.2.2.2.2.2.2.2.2.2.2.2.2.2.2.2.2.2.2.2.2.2.2.2.2.2.2.2.2.2.2.2.2.2.2.2.2.1
        have HS38_ := hbc hb hHeld.2.2.2.2.2.2.2.2.2.2.2.2.2.2.2.2.2.2.2.2.2.2.2.2.2.2.2.2.2.2.2.2.2.2.2.2.2.2.1
        have HS39_ := hbc hb hHeld.2.2.2.2.2.2.2.2.2.2.2.2.2.2.2.2.2.2.2.2.2.2.2.2.2.2.2.2.2.2.2.2.2.2.2.2.2.2.2.1
        have HS40_ := hbc hb hHeld.2.2.2.2.2.2.2.2.2.2.2.2.2.2.2.2.2.2.2.2.2.2.2.2.2.2.2.2.2.2.2.2.2.2.2.2.2.2.2.2
        refine ⟨_, rfl, ?_⟩
        replace HO_3 := Aside0.mk (Kd.S_below q70t hb)
        replace HO_6 := Aside0.mk (Kd.S_below q72t hb)
        replace BK675 := blb BK675 hb
        replace BK682 := blb BK682 hb
        replace BK727 := blb BK727 hb
        replace HB := Aside0.mk (below_step q33t hb)
        (try clear hb)
        (try clear hb2)
        (try clear hk)
        (try clear hi)
        refine hK.out _ _ (by first | exact ⟨(blk_cell BK727.out 0).trans rfl, (blk_cell BK727.out 1).trans rfl, HS2_, HS3_, HS4_, HS5_, HS6_, HS7_, HS8_, HS9_, HS10_, HS11_, HS12_, HS13_, HS14_, HS15_, HS16_, HS17_, HS18_, HS19_, HS20_, HS21_, HS22_, HS23_, HS24_, HS25_, HS26_, HS27_, HS28_, HS29_, HS30_, HS31_, HS32_, HS33_, HS34_, HS35_, HS36_, HS37_, HS38_, HS39_, HS40_⟩ | exact hHeld) (fun hHeld => ?_)
        clear hK K
        refine norm_ (a' := ?_) ?_ ?_
        rotate_left
        ·show Act.put _ (some 146) _ = _
         simp only [Act.put, List.setIfInBounds_toArray, List.set_cons_zero, List.set_cons_succ, i64_w, i32_w]
         rfl
        refine pu_ 3 (some 147) (bm 43 15) (any_of HT_.out (by kernel_rfl)) ?_
        refine pu_ 4 (some 148) (bm 43 31) (any_of HT_.out (by kernel_rfl)) ?_
        refine pu_ 5 (some 149) (bm 43 63) (any_of HT_.out (by kernel_rfl)) ?_
        refine pu_ 6 (some 150) (bm 43 127) (any_of HT_.out (by kernel_rfl)) ?_
        refine pu_ 7 (some 151) (bm 43 255) (any_of HT_.out (by kernel_rfl)) ?_
        refine pu_ 8 (some 152) (bm 43 511) (any_of HT_.out (by kernel_rfl)) ?_
        refine pu_ 11 (some 155) (bm 43 2559) (any_of HT_.out (by kernel_rfl)) ?_
        refine pu_ 12 (some 156) (bm 43 6655) (any_of HT_.out (by kernel_rfl)) ?_
        refine pu_ 13 (some 157) (bm 43 14847) (any_of HT_.out (by kernel_rfl)) ?_
        refine pu_ 14 (some 158) (bm 43 31231) (any_of HT_.out (by kernel_rfl)) ?_
        refine pu_ 16 (some 160) (bm 43 96767) (any_of HT_.out (by kernel_rfl)) ?_
        refine tk_ 9 (some 153) (bm 43 97279) (take_ofW HT_.out HW_.out (by kernel_rfl)) hHeld ?_
        refine pu_ 10 (some 154) (bm 43 98303) (any_of HT_.out (by kernel_rfl)) ?_
        refine tk_ 15 (some 159) (bm 43 131071) (take_ofW HT_.out HW_.out (by kernel_rfl)) hHeld ?_
        refine pu_ 17 (some 161) (bm 43 262143) (any_of HT_.out (by kernel_rfl)) ?_
        refine pu_ 18 (some 162) (bm 43 524287) (any_of HT_.out (by kernel_rfl)) ?_
        refine pu_ 19 (some 163) (bm 43 1048575) (any_of HT_.out (by kernel_rfl)) ?_
        refine pu_ 20 (some 164) (bm 43 2097151) (any_of HT_.out (by kernel_rfl)) ?_
        refine pu_ 21 (some 165) (bm 43 4194303) (any_of HT_.out (by kernel_rfl)) ?_
        refine pu_ 22 (some 166) (bm 43 8388607) (any_of HT_.out (by kernel_rfl)) ?_
        refine pu_ 23 (some 167) (bm 43 16777215) (any_of HT_.out (by kernel_rfl)) ?_
        refine pu_ 24 (some 168) (bm 43 33554431) (any_of HT_.out (by kernel_rfl)) ?_
        refine tk_ 25 (some 169) (bm 43 67108863) (take_ofW HT_.out HW_.out (by kernel_rfl)) hHeld ?_
        refine pu_ 26 (some 170) (bm 43 134217727) (any_of HT_.out (by kernel_rfl)) ?_
        refine pu_ 27 (some 171) (bm 43 268435455) (any_of HT_.out (by kernel_rfl)) ?_
        refine pn_ 28 (some 172) (bm 43 536870911) (any_of HT_.out (by kernel_rfl)) ?_
        refine pn_ 29 (some 173) (bm 43 1073741823) (any_of HT_.out (by kernel_rfl)) ?_
        refine pn_ 30 (some 174) (bm 43 2147483647) (any_of HT_.out (by kernel_rfl)) ?_
        refine pn_ 31 (some 175) (bm 43 4294967295) (any_of HT_.out (by kernel_rfl)) ?_
        refine pn_ 32 (some 176) (bm 43 8589934591) (any_of HT_.out (by kernel_rfl)) ?_
        refine pn_ 33 (some 177) (bm 43 17179869183) (any_of HT_.out (by kernel_rfl)) ?_
        refine pn_ 34 (some 178) (bm 43 34359738367) (any_of HT_.out (by kernel_rfl)) ?_
        refine pn_ 35 (some 179) (bm 43 68719476735) (any_of HT_.out (by kernel_rfl)) ?_
        refine pn_ 36 (some 180) (bm 43 137438953471) (any_of HT_.out (by kernel_rfl)) ?_
        refine pn_ 37 (some 181) (bm 43 274877906943) (any_of HT_.out (by kernel_rfl)) ?_
        refine pn_ 38 (some 182) (bm 43 549755813887) (any_of HT_.out (by kernel_rfl)) ?_
        refine pn_ 39 (some 183) (bm 43 1099511627775) (any_of HT_.out (by kernel_rfl)) ?_
        refine pu_ 40 (some 184) (bm 43 2199023255551) (any_of HT_.out (by kernel_rfl)) ?_
        refine pu_ 41 (some 185) (bm 43 4398046511103) (any_of HT_.out (by kernel_rfl)) ?_
        refine pu_ 42 (some 2) (bm 43 8796093022207) (any_of HT_.out (by kernel_rfl)) ?_
        refine done_ (done_of HT_.out (by kernel_rfl)) ?_
        try go_wp2
        go_ret
        exact ⟨q73t, q33t⟩
       rw [if_neg c98] at H
       have c98b0 : (((rd_T48 t667 t663).f0) == 3) = false := beq_eq_false_iff_ne.mpr c98
       have c98b1 : (((rd_T48 t667 t663).f0) != 3) = true := bne_iff_ne.mpr c98
       have c99 : decide (t664 ≤ (rd_T48 t662 t663).f1) = false := (eq_of_beq c97b0).symm.trans c98b0
       obtain rfl := Option.some.inj H
       try go_wp2_with (first | ((with_reducible refine gate_callee (f := 23) rfl ?_); refine goesL_ (some 143) rfl rfl Try.func23 (by kernel_rfl) rfl #[.slice Ao13 t662.length co13, .int .i64 t663] rfl q51t ?_; (with_reducible refine (impl_HandleAt.calls _ _ t662 t663 t725 t726 _ ?side1 ?side2 A91.out).mono ?_); (case side1 => repeat (first | exact (Kd.S_reads' HO_3.out).2.2 | (with_reducible refine Kd.C_alloc ?_ _) | (with_reducible refine Kd.C_drewN ?_ _) | (with_reducible refine Kd.C_drew ?_))); (case side2 => exact (Kd.S_reads' HO_3.out).2.1); rintro e w108 ⟨rfl, hb⟩; refine ⟨_, rfl, ?_⟩; replace HO_3 := Aside0.mk (Kd.S_below q70t hb); replace HO_6 := Aside0.mk (Kd.S_below q72t hb); replace BK675 := blb BK675 hb; replace BK682 := blb BK682 hb; replace HB := Aside0.mk (below_step q33t hb); (try clear hb); (try clear hb2); (try clear hk); (try clear hi)) | ((with_reducible refine gate_dst (N := 17) rfl ?_); (try (refine gate_guard (by rfl) ?_; dsimp only)); refine box_ev 17 #[.int .i64 0, .int .i64 0] 29 ?_; intro gb727 hg w109 hbox hb; replace HO_3 := Aside0.mk (Kd.S_below q70t hb); replace HO_6 := Aside0.mk (Kd.S_below q72t hb); have BK727 := Aside0.mk (hbox); have GW727 := Aside0.mk ((q26t : w.heap.size ≤ gb727)); have GE727 := Aside0.mk ((q26t : w.heap.size ≤ gb727)); replace HB := Aside0.mk (below_step q33t hb); have NB675_727 := Aside0.mk ((by rw [hg]; exact Nat.ne_of_lt (blk_lt (qbk BK675)) : gb675 ≠ gb727)); have NB727_675 := Aside0.mk ((by rw [hg]; exact Nat.ne_of_gt (blk_lt (qbk BK675)) : gb727 ≠ gb675)); replace BK675 := blb BK675 hb; have NB682_727 := Aside0.mk ((by rw [hg]; exact Nat.ne_of_lt (blk_lt (qbk BK682)) : gb682 ≠ gb727)); have NB727_682 := Aside0.mk ((by rw [hg]; exact Nat.ne_of_gt (blk_lt (qbk BK682)) : gb727 ≠ gb682)); replace BK682 := blb BK682 hb; clear hb hbox hg; have hnb110 := NB727_675.out; have hnc110 := NB675_727.out; have hnb111 := NB727_682.out; have hnc111 := NB682_727.out; obtain ⟨hcz112_0, hcz112_1⟩ := qc2 BK727.out; obtain ⟨hfz112_0, hfz112_1⟩ := qf2 BK727.out))
       have n0_ : Aside0 (Kd.S k48 48 ((w109.setCell ⟨gb727, 0, none⟩ (.int .i64 t725)).setCell ⟨gb727, 1, none⟩ (.int .i64 t726)) w.heap.size (fun k_ => some k_ ≠ (v668 : Value).ownBlock) (.slice Ao13 t662.length co13) t662) := ⟨by (with_reducible repeat (first | apply Kd.S_alloc | apply Kd.S_drewN | apply Kd.S_drew)); exact Kd.S_mono (skf (skf (Kd.S_types HO_3.out BK727.out q85t))) (fun _ hk => hk.1)⟩
       have n1_ : Aside0 (Kd.S k48 48 ((w109.setCell ⟨gb727, 0, none⟩ (.int .i64 t725)).setCell ⟨gb727, 1, none⟩ (.int .i64 t726)) w.heap.size (fun k_ => some k_ ≠ (.slice Ao13 t662.length co13 : Value).ownBlock) v668 t667) := ⟨by (with_reducible repeat (first | apply Kd.S_alloc | apply Kd.S_drewN | apply Kd.S_drew)); exact Kd.S_mono (skf (skf (Kd.S_types HO_6.out BK727.out q85t))) (fun _ hk => hk.1)⟩
       have n2_ : Aside0 (((w109.setCell ⟨gb727, 0, none⟩ (.int .i64 t725)).setCell ⟨gb727, 1, none⟩ (.int .i64 t726)).heap[gb675]? = some (.cells #[.int .i64 t673, .int .i64 t674] 29 (0, 0))) := ⟨by (with_reducible repeat (first | refine blk_drewN ?_ _ | refine blk_drew ?_ | refine blk_alloc ?_ _)); refine blk_far ?_ NB675_727.out _; (with_reducible repeat (first | refine blk_drewN ?_ _ | refine blk_drew ?_ | refine blk_alloc ?_ _)); refine blk_far ?_ NB675_727.out _; (with_reducible repeat (first | refine blk_drewN ?_ _ | refine blk_drew ?_ | refine blk_alloc ?_ _)); exact BK675.out⟩
       have n3_ : Aside0 (((w109.setCell ⟨gb727, 0, none⟩ (.int .i64 t725)).setCell ⟨gb727, 1, none⟩ (.int .i64 t726)).heap[gb682]? = some (.cells #[.int .i64 t676, .int .i64 t677, .int .i64 t678, .int .i64 t679, .int .i64 t680, .int .i64 t681] 33 (0, 0))) := ⟨by (with_reducible repeat (first | refine blk_drewN ?_ _ | refine blk_drew ?_ | refine blk_alloc ?_ _)); refine blk_far ?_ NB682_727.out _; (with_reducible repeat (first | refine blk_drewN ?_ _ | refine blk_drew ?_ | refine blk_alloc ?_ _)); refine blk_far ?_ NB682_727.out _; (with_reducible repeat (first | refine blk_drewN ?_ _ | refine blk_drew ?_ | refine blk_alloc ?_ _)); exact BK682.out⟩
       have n4_ : Aside0 (((w109.setCell ⟨gb727, 0, none⟩ (.int .i64 t725)).setCell ⟨gb727, 1, none⟩ (.int .i64 t726)).heap[gb727]? = some (.cells #[.int .i64 t725, .int .i64 t726] 29 (0, 0))) := ⟨qbp BK727⟩
       have n5_ : Aside0 (Below w.heap.size w ((w109.setCell ⟨gb727, 0, none⟩ (.int .i64 t725)).setCell ⟨gb727, 1, none⟩ (.int .i64 t726))) := ⟨by repeat (first | (with_reducible first | exact HB.out | apply below_alloc | apply pw_below_drewN | apply below_drew1 | refine below_set ?_ (Aside0.out q83t)) | exact HB.out)⟩
       (try clear HO_3)
       (try clear HO_6)
       (try clear BK675)
       (try clear BK682)
       (try clear BK727)
       (try clear HB)
       generalize ((w109.setCell ⟨gb727, 0, none⟩ (.int .i64 t725)).setCell ⟨gb727, 1, none⟩ (.int .i64 t726)) = w113 at n0_ n1_ n2_ n3_ n4_ n5_ ⊢
       have HO_3 := n0_
       have HO_6 := n1_
       have BK675 := n2_
       have BK682 := n3_
       have BK727 := n4_
       have HB := n5_
       clear n0_ n1_ n2_ n3_ n4_ n5_
       replace HO_3 := Aside0.mk (Kd.S_drew HO_3.out)
       replace HO_6 := Aside0.mk (Kd.S_drew HO_6.out)
       replace BK675 := Aside0.mk (blk_drew BK675.out)
       replace BK682 := Aside0.mk (blk_drew BK682.out)
       replace BK727 := Aside0.mk (blk_drew BK727.out)
       replace HB := Aside0.mk (below_drew1 HB.out)
       obtain ⟨Ao115, co115, eo115⟩ := Kd.S_slice HO_6.out
       (first | subst eo115 | (injection eo115 with f1_ f2_ f3_; have f4_ := f1_.symm; have f5_ := f3_.symm; clear f1_ f2_ f3_; subst f4_; subst f5_))
       have p729 : 0 ≤ (t663 : Int) := of_decide_eq_true q76t
       have q729 : t663 < (t667.length : Int) := of_decide_eq_true q76t
       obtain ⟨ad729, A729_8, c729_8, A729_11, c729_11, A729_12, c729_12, e729, hx729_0, hx729_1, hx729_2, hx729_3, hx729_4, hx729_5, hx729_6, hx729_7, hx729_8, hx729_9, hx729_10, hx729_11, hx729_12, hl729_8, hi729_8, hl729_11, hi729_11, hl729_12, hi729_12⟩ := at_T48 (Kd.S_reads' HO_6.out).2.2 t663 p729 q729
       cases e729
       obtain ⟨ce729, hce729, hMe729, hcc729⟩ := Kd.S_get HO_6.out z48 t663 p729 (by first | exact q729 | exact of_decide_eq_true q76t | (have e_ := (Kd.S_reads' HO_6.out).1; omega))
       obtain ⟨ve729_8, ve729_11, ve729_12, rfl, ge729_8, ge729_11, ge729_12⟩ := k48_openM hMe729
       have hv729_8 := hcc729 8 _ rfl
       rw [add_field _ _ 8 q86t] at hv729_8
       replace hv729_8 := Option.some.inj (hv729_8.symm.trans hx729_8)
       rw [hv729_8] at ge729_8
       have HL729_8 := Aside0.mk (show Kd.R (Kd.int .i64) 3 _ _ _ _ ((rd_T48 t667 t663).f8) from ge729_8)
       clear hv729_8 ge729_8
       have hv729_11 := hcc729 11 _ rfl
       rw [add_field _ _ 11 q86t] at hv729_11
       replace hv729_11 := Option.some.inj (hv729_11.symm.trans hx729_11)
       rw [hv729_11] at ge729_11
       have HL729_11 := Aside0.mk (show Kd.R k74 74 _ _ _ _ ((rd_T48 t667 t663).f11) from ge729_11)
       clear hv729_11 ge729_11
       have hv729_12 := hcc729 12 _ rfl
       rw [add_field _ _ 12 q86t] at hv729_12
       replace hv729_12 := Option.some.inj (hv729_12.symm.trans hx729_12)
       rw [hv729_12] at ge729_12
       have HL729_12 := Aside0.mk (show Kd.R (Kd.int .i64) 3 _ _ _ _ ((rd_T48 t667 t663).f12) from ge729_12)
       clear hv729_12 ge729_12
       clear hcc729 hce729
       have HR729_8 := Aside0.mk hi729_8
       have HC729_8 := Aside0.mk hl729_8
       clear hi729_8 hl729_8
       have HR729_11 := Aside0.mk hi729_11
       have HC729_11 := Aside0.mk hl729_11
       clear hi729_11 hl729_11
       have HR729_12 := Aside0.mk hi729_12
       have HC729_12 := Aside0.mk hl729_12
       clear hi729_12 hl729_12
       replace p729 := eq_true p729
       replace q729 := eq_true q729
       have p730 : 0 ≤ (t663 : Int) := of_decide_eq_true q76t
       have q730 : t663 < (t662.length : Int) := of_decide_eq_true q76t
       obtain ⟨ad730, A730_8, c730_8, A730_11, c730_11, A730_12, c730_12, e730, hx730_0, hx730_1, hx730_2, hx730_3, hx730_4, hx730_5, hx730_6, hx730_7, hx730_8, hx730_9, hx730_10, hx730_11, hx730_12, hl730_8, hi730_8, hl730_11, hi730_11, hl730_12, hi730_12⟩ := at_T48 (Kd.S_reads' HO_3.out).2.2 t663 p730 q730
       cases e730
       obtain ⟨ce730, hce730, hMe730, hcc730⟩ := Kd.S_get HO_3.out z48 t663 p730 (by first | exact q730 | exact of_decide_eq_true q76t | (have e_ := (Kd.S_reads' HO_3.out).1; omega))
       obtain ⟨ve730_8, ve730_11, ve730_12, rfl, ge730_8, ge730_11, ge730_12⟩ := k48_openM hMe730
       have hv730_8 := hcc730 8 _ rfl
       rw [add_field _ _ 8 q86t] at hv730_8
       replace hv730_8 := Option.some.inj (hv730_8.symm.trans hx730_8)
       rw [hv730_8] at ge730_8
       have HL730_8 := Aside0.mk (show Kd.R (Kd.int .i64) 3 _ _ _ _ ((rd_T48 t662 t663).f8) from ge730_8)
       clear hv730_8 ge730_8
       have hv730_11 := hcc730 11 _ rfl
       rw [add_field _ _ 11 q86t] at hv730_11
       replace hv730_11 := Option.some.inj (hv730_11.symm.trans hx730_11)
       rw [hv730_11] at ge730_11
       have HL730_11 := Aside0.mk (show Kd.R k74 74 _ _ _ _ ((rd_T48 t662 t663).f11) from ge730_11)
       clear hv730_11 ge730_11
       have hv730_12 := hcc730 12 _ rfl
       rw [add_field _ _ 12 q86t] at hv730_12
       replace hv730_12 := Option.some.inj (hv730_12.symm.trans hx730_12)
       rw [hv730_12] at ge730_12
       have HL730_12 := Aside0.mk (show Kd.R (Kd.int .i64) 3 _ _ _ _ ((rd_T48 t662 t663).f12) from ge730_12)
       clear hv730_12 ge730_12
       clear hcc730 hce730
       have HR730_8 := Aside0.mk hi730_8
       have HC730_8 := Aside0.mk hl730_8
       clear hi730_8 hl730_8
       have HR730_11 := Aside0.mk hi730_11
       have HC730_11 := Aside0.mk hl730_11
       clear hi730_11 hl730_11
       have HR730_12 := Aside0.mk hi730_12
       have HC730_12 := Aside0.mk hl730_12
       clear hi730_12 hl730_12
       replace p730 := eq_true p730
       replace q730 := eq_true q730
       have p731 : 0 ≤ (t663 : Int) := of_decide_eq_true q76t
       have q731 : t663 < (t667.length : Int) := of_decide_eq_true q76t
       obtain ⟨ad731, A731_8, c731_8, A731_11, c731_11, A731_12, c731_12, e731, hx731_0, hx731_1, hx731_2, hx731_3, hx731_4, hx731_5, hx731_6, hx731_7, hx731_8, hx731_9, hx731_10, hx731_11, hx731_12, hl731_8, hi731_8, hl731_11, hi731_11, hl731_12, hi731_12⟩ := at_T48 (Kd.S_reads' HO_6.out).2.2 t663 p731 q731
       obtain rfl : ad729 = ad731 := (by injection e731)
       obtain ⟨ce731, hce731, hMe731, hcc731⟩ := Kd.S_get HO_6.out z48 t663 p731 (by first | exact q731 | exact of_decide_eq_true q76t | (have e_ := (Kd.S_reads' HO_6.out).1; omega))
       obtain ⟨ve731_8, ve731_11, ve731_12, rfl, ge731_8, ge731_11, ge731_12⟩ := k48_openM hMe731
       have hv731_8 := hcc731 8 _ rfl
       rw [add_field _ _ 8 q86t] at hv731_8
       replace hv731_8 := Option.some.inj (hv731_8.symm.trans hx731_8)
       rw [hv731_8] at ge731_8
       have HL731_8 := Aside0.mk (show Kd.R (Kd.int .i64) 3 _ _ _ _ ((rd_T48 t667 t663).f8) from ge731_8)
       clear hv731_8 ge731_8
       have hv731_11 := hcc731 11 _ rfl
       rw [add_field _ _ 11 q86t] at hv731_11
       replace hv731_11 := Option.some.inj (hv731_11.symm.trans hx731_11)
       rw [hv731_11] at ge731_11
       have HL731_11 := Aside0.mk (show Kd.R k74 74 _ _ _ _ ((rd_T48 t667 t663).f11) from ge731_11)
       clear hv731_11 ge731_11
       have hv731_12 := hcc731 12 _ rfl
       rw [add_field _ _ 12 q86t] at hv731_12
       replace hv731_12 := Option.some.inj (hv731_12.symm.trans hx731_12)
       rw [hv731_12] at ge731_12
       have HL731_12 := Aside0.mk (show Kd.R (Kd.int .i64) 3 _ _ _ _ ((rd_T48 t667 t663).f12) from ge731_12)
       clear hv731_12 ge731_12
       clear hcc731 hce731
       have HR731_8 := Aside0.mk hi731_8
       have HC731_8 := Aside0.mk hl731_8
       clear hi731_8 hl731_8
       have HR731_11 := Aside0.mk hi731_11
       have HC731_11 := Aside0.mk hl731_11
       clear hi731_11 hl731_11
       have HR731_12 := Aside0.mk hi731_12
       have HC731_12 := Aside0.mk hl731_12
       clear hi731_12 hl731_12
       replace p731 := eq_true p731
       replace q731 := eq_true q731
       have ea_ := Option.some.inj (hx729_8.symm.trans hx731_8)
       injection ea_ with ea_ en_ ec_
       subst ea_
       subst ec_
       clear en_
       have ea_ := Option.some.inj (hx729_11.symm.trans hx731_11)
       injection ea_ with ea_ en_ ec_
       subst ea_
       subst ec_
       clear en_
       have ea_ := Option.some.inj (hx729_12.symm.trans hx731_12)
       injection ea_ with ea_ en_ ec_
       subst ea_
       subst ec_
       clear en_
       have p732 : 0 ≤ (t663 : Int) := of_decide_eq_true q76t
       have q732 : t663 < (t667.length : Int) := of_decide_eq_true q76t
       obtain ⟨ad732, A732_8, c732_8, A732_11, c732_11, A732_12, c732_12, e732, hx732_0, hx732_1, hx732_2, hx732_3, hx732_4, hx732_5, hx732_6, hx732_7, hx732_8, hx732_9, hx732_10, hx732_11, hx732_12, hl732_8, hi732_8, hl732_11, hi732_11, hl732_12, hi732_12⟩ := at_T48 (Kd.S_reads' HO_6.out).2.2 t663 p732 q732
       obtain rfl : ad729 = ad732 := (by injection e732)
       obtain ⟨ce732, hce732, hMe732, hcc732⟩ := Kd.S_get HO_6.out z48 t663 p732 (by first | exact q732 | exact of_decide_eq_true q76t | (have e_ := (Kd.S_reads' HO_6.out).1; omega))
       obtain ⟨ve732_8, ve732_11, ve732_12, rfl, ge732_8, ge732_11, ge732_12⟩ := k48_openM hMe732
       have hv732_8 := hcc732 8 _ rfl
       rw [add_field _ _ 8 q86t] at hv732_8
       replace hv732_8 := Option.some.inj (hv732_8.symm.trans hx732_8)
       rw [hv732_8] at ge732_8
       have HL732_8 := Aside0.mk (show Kd.R (Kd.int .i64) 3 _ _ _ _ ((rd_T48 t667 t663).f8) from ge732_8)
       clear hv732_8 ge732_8
       have hv732_11 := hcc732 11 _ rfl
       rw [add_field _ _ 11 q86t] at hv732_11
       replace hv732_11 := Option.some.inj (hv732_11.symm.trans hx732_11)
       rw [hv732_11] at ge732_11
       have HL732_11 := Aside0.mk (show Kd.R k74 74 _ _ _ _ ((rd_T48 t667 t663).f11) from ge732_11)
       clear hv732_11 ge732_11
       have hv732_12 := hcc732 12 _ rfl
       rw [add_field _ _ 12 q86t] at hv732_12
       replace hv732_12 := Option.some.inj (hv732_12.symm.trans hx732_12)
       rw [hv732_12] at ge732_12
       have HL732_12 := Aside0.mk (show Kd.R (Kd.int .i64) 3 _ _ _ _ ((rd_T48 t667 t663).f12) from ge732_12)
       clear hv732_12 ge732_12
       clear hcc732 hce732
       have HR732_8 := Aside0.mk hi732_8
       have HC732_8 := Aside0.mk hl732_8
       clear hi732_8 hl732_8
       have HR732_11 := Aside0.mk hi732_11
       have HC732_11 := Aside0.mk hl732_11
       clear hi732_11 hl732_11
       have HR732_12 := Aside0.mk hi732_12
       have HC732_12 := Aside0.mk hl732_12
       clear hi732_12 hl732_12
       replace p732 := eq_true p732
       replace q732 := eq_true q732
       have ea_ := Option.some.inj (hx729_8.symm.trans hx732_8)
       injection ea_ with ea_ en_ ec_
       subst ea_
       subst ec_
       clear en_
       have ea_ := Option.some.inj (hx729_11.symm.trans hx732_11)
       injection ea_ with ea_ en_ ec_
       subst ea_
       subst ec_
       clear en_
       have ea_ := Option.some.inj (hx729_12.symm.trans hx732_12)
       injection ea_ with ea_ en_ ec_
       subst ea_
       subst ec_
       clear en_
       have p733 : 0 ≤ (t663 : Int) := of_decide_eq_true q76t
       have q733 : t663 < (t662.length : Int) := of_decide_eq_true q76t
       obtain ⟨ad733, A733_8, c733_8, A733_11, c733_11, A733_12, c733_12, e733, hx733_0, hx733_1, hx733_2, hx733_3, hx733_4, hx733_5, hx733_6, hx733_7, hx733_8, hx733_9, hx733_10, hx733_11, hx733_12, hl733_8, hi733_8, hl733_11, hi733_11, hl733_12, hi733_12⟩ := at_T48 (Kd.S_reads' HO_3.out).2.2 t663 p733 q733
       obtain rfl : ad730 = ad733 := (by injection e733)
       obtain ⟨ce733, hce733, hMe733, hcc733⟩ := Kd.S_get HO_3.out z48 t663 p733 (by first | exact q733 | exact of_decide_eq_true q76t | (have e_ := (Kd.S_reads' HO_3.out).1; omega))
       obtain ⟨ve733_8, ve733_11, ve733_12, rfl, ge733_8, ge733_11, ge733_12⟩ := k48_openM hMe733
       have hv733_8 := hcc733 8 _ rfl
       rw [add_field _ _ 8 q86t] at hv733_8
       replace hv733_8 := Option.some.inj (hv733_8.symm.trans hx733_8)
       rw [hv733_8] at ge733_8
       have HL733_8 := Aside0.mk (show Kd.R (Kd.int .i64) 3 _ _ _ _ ((rd_T48 t662 t663).f8) from ge733_8)
       clear hv733_8 ge733_8
       have hv733_11 := hcc733 11 _ rfl
       rw [add_field _ _ 11 q86t] at hv733_11
       replace hv733_11 := Option.some.inj (hv733_11.symm.trans hx733_11)
       rw [hv733_11] at ge733_11
       have HL733_11 := Aside0.mk (show Kd.R k74 74 _ _ _ _ ((rd_T48 t662 t663).f11) from ge733_11)
       clear hv733_11 ge733_11
       have hv733_12 := hcc733 12 _ rfl
       rw [add_field _ _ 12 q86t] at hv733_12
       replace hv733_12 := Option.some.inj (hv733_12.symm.trans hx733_12)
       rw [hv733_12] at ge733_12
       have HL733_12 := Aside0.mk (show Kd.R (Kd.int .i64) 3 _ _ _ _ ((rd_T48 t662 t663).f12) from ge733_12)
       clear hv733_12 ge733_12
       clear hcc733 hce733
       have HR733_8 := Aside0.mk hi733_8
       have HC733_8 := Aside0.mk hl733_8
       clear hi733_8 hl733_8
       have HR733_11 := Aside0.mk hi733_11
       have HC733_11 := Aside0.mk hl733_11
       clear hi733_11 hl733_11
       have HR733_12 := Aside0.mk hi733_12
       have HC733_12 := Aside0.mk hl733_12
       clear hi733_12 hl733_12
       replace p733 := eq_true p733
       replace q733 := eq_true q733
       have ea_ := Option.some.inj (hx730_8.symm.trans hx733_8)
       injection ea_ with ea_ en_ ec_
       subst ea_
       subst ec_
       clear en_
       have ea_ := Option.some.inj (hx730_11.symm.trans hx733_11)
       injection ea_ with ea_ en_ ec_
       subst ea_
       subst ec_
       clear en_
       have ea_ := Option.some.inj (hx730_12.symm.trans hx733_12)
       injection ea_ with ea_ en_ ec_
       subst ea_
       subst ec_
       clear en_
       refine start_ (n := 43) (S := fun w' => w'.cell? ⟨gb727, 0, none⟩ = some (.int .i64 t725) ∧ w'.cell? ⟨gb727, 1, none⟩ = some (.int .i64 t726) ∧ w'.cell? (ad729.add ((t663).toNat * 13)) = some (.int .i64 ((rd_T48 t667 t663).f0)) ∧ w'.cell? ⟨(ad729.add ((t663).toNat * 13)).block, (ad729.add ((t663).toNat * 13)).off + 1, none⟩ = some (.int .i64 ((rd_T48 t667 t663).f1)) ∧ w'.cell? ⟨(ad729.add ((t663).toNat * 13)).block, (ad729.add ((t663).toNat * 13)).off + 2, none⟩ = some (.int .i64 ((rd_T48 t667 t663).f2)) ∧ w'.cell? ⟨(ad729.add ((t663).toNat * 13)).block, (ad729.add ((t663).toNat * 13)).off + 3, none⟩ = some (.int .i64 ((rd_T48 t667 t663).f3)) ∧ w'.cell? ⟨(ad729.add ((t663).toNat * 13)).block, (ad729.add ((t663).toNat * 13)).off + 4, none⟩ = some (.int .i64 ((rd_T48 t667 t663).f4)) ∧ w'.cell? ⟨(ad729.add ((t663).toNat * 13)).block, (ad729.add ((t663).toNat * 13)).off + 5, none⟩ = some (.int .i64 ((rd_T48 t667 t663).f5)) ∧ w'.cell? ⟨(ad729.add ((t663).toNat * 13)).block, (ad729.add ((t663).toNat * 13)).off + 6, none⟩ = some (.int .i64 ((rd_T48 t667 t663).f6)) ∧ w'.cell? ⟨(ad729.add ((t663).toNat * 13)).block, (ad729.add ((t663).toNat * 13)).off + 7, none⟩ = some (.int .i64 ((rd_T48 t667 t663).f7)) ∧ w'.cell? ⟨(ad729.add ((t663).toNat * 13)).block, (ad729.add ((t663).toNat * 13)).off + 8, none⟩ = some (.slice A729_8 ((rd_T48 t667 t663).f8).length c729_8) ∧ w'.cell? ⟨(ad729.add ((t663).toNat * 13)).block, (ad729.add ((t663).toNat * 13)).off + 9, none⟩ = some (.int .i64 ((rd_T48 t667 t663).f9)) ∧ w'.cell? ⟨(ad729.add ((t663).toNat * 13)).block, (ad729.add ((t663).toNat * 13)).off + 10, none⟩ = some (.int .i64 ((rd_T48 t667 t663).f10)) ∧ w'.cell? ⟨(ad729.add ((t663).toNat * 13)).block, (ad729.add ((t663).toNat * 13)).off + 11, none⟩ = some (.slice A729_11 ((rd_T48 t667 t663).f11).length c729_11) ∧ w'.cell? ⟨(ad729.add ((t663).toNat * 13)).block, (ad729.add ((t663).toNat * 13)).off + 12, none⟩ = some (.slice A729_12 ((rd_T48 t667 t663).f12).length c729_12) ∧ w'.cell? (ad730.add ((t663).toNat * 13)) = some (.int .i64 ((rd_T48 t662 t663).f0)) ∧ w'.cell? ⟨(ad730.add ((t663).toNat * 13)).block, (ad730.add ((t663).toNat * 13)).off + 1, none⟩ = some (.int .i64 ((rd_T48 t662 t663).f1)) ∧ w'.cell? ⟨(ad730.add ((t663).toNat * 13)).block, (ad730.add ((t663).toNat * 13)).off + 2, none⟩ = some (.int .i64 ((rd_T48 t662 t663).f2)) ∧ w'.cell? ⟨(ad730.add ((t663).toNat * 13)).block, (ad730.add ((t663).toNat * 13)).off + 3, none⟩ = some (.int .i64 ((rd_T48 t662 t663).f3)) ∧ w'.cell? ⟨(ad730.add ((t663).toNat * 13)).block, (ad730.add ((t663).toNat * 13)).off + 4, none⟩ = some (.int .i64 ((rd_T48 t662 t663).f4)) ∧ w'.cell? ⟨(ad730.add ((t663).toNat * 13)).block, (ad730.add ((t663).toNat * 13)).off + 5, none⟩ = some (.int .i64 ((rd_T48 t662 t663).f5)) ∧ w'.cell? ⟨(ad730.add ((t663).toNat * 13)).block, (ad730.add ((t663).toNat * 13)).off + 6, none⟩ = some (.int .i64 ((rd_T48 t662 t663).f6)) ∧ w'.cell? ⟨(ad730.add ((t663).toNat * 13)).block, (ad730.add ((t663).toNat * 13)).off + 7, none⟩ = some (.int .i64 ((rd_T48 t662 t663).f7)) ∧ w'.cell? ⟨(ad730.add ((t663).toNat * 13)).block, (ad730.add ((t663).toNat * 13)).off + 8, none⟩ = some (.slice A730_8 ((rd_T48 t662 t663).f8).length c730_8) ∧ w'.cell? ⟨(ad730.add ((t663).toNat * 13)).block, (ad730.add ((t663).toNat * 13)).off + 9, none⟩ = some (.int .i64 ((rd_T48 t662 t663).f9)) ∧ w'.cell? ⟨(ad730.add ((t663).toNat * 13)).block, (ad730.add ((t663).toNat * 13)).off + 10, none⟩ = some (.int .i64 ((rd_T48 t662 t663).f10)) ∧ w'.cell? ⟨(ad730.add ((t663).toNat * 13)).block, (ad730.add ((t663).toNat * 13)).off + 11, none⟩ = some (.slice A730_11 ((rd_T48 t662 t663).f11).length c730_11) ∧ w'.cell? ⟨(ad730.add ((t663).toNat * 13)).block, (ad730.add ((t663).toNat * 13)).off + 12, none⟩ = some (.slice A730_12 ((rd_T48 t662 t663).f12).length c730_12) ∧ w'.cell? (ad729.add ((t663).toNat * 13)) = some (.int .i64 ((rd_T48 t667 t663).f0)) ∧ w'.cell? ⟨(ad729.add ((t663).toNat * 13)).block, (ad729.add ((t663).toNat * 13)).off + 1, none⟩ = some (.int .i64 ((rd_T48 t667 t663).f1)) ∧ w'.cell? ⟨(ad729.add ((t663).toNat * 13)).block, (ad729.add ((t663).toNat * 13)).off + 2, none⟩ = some (.int .i64 ((rd_T48 t667 t663).f2)) ∧ w'.cell? ⟨(ad729.add ((t663).toNat * 13)).block, (ad729.add ((t663).toNat * 13)).off + 3, none⟩ = some (.int .i64 ((rd_T48 t667 t663).f3)) ∧ w'.cell? ⟨(ad729.add ((t663).toNat * 13)).block, (ad729.add ((t663).toNat * 13)).off + 4, none⟩ = some (.int .i64 ((rd_T48 t667 t663).f4)) ∧ w'.cell? ⟨(ad729.add ((t663).toNat * 13)).block, (ad729.add ((t663).toNat * 13)).off + 5, none⟩ = some (.int .i64 ((rd_T48 t667 t663).f5)) ∧ w'.cell? ⟨(ad729.add ((t663).toNat * 13)).block, (ad729.add ((t663).toNat * 13)).off + 6, none⟩ = some (.int .i64 ((rd_T48 t667 t663).f6)) ∧ w'.cell? ⟨(ad729.add ((t663).toNat * 13)).block, (ad729.add ((t663).toNat * 13)).off + 7, none⟩ = some (.int .i64 ((rd_T48 t667 t663).f7)) ∧ w'.cell? ⟨(ad729.add ((t663).toNat * 13)).block, (ad729.add ((t663).toNat * 13)).off + 8, none⟩ = some (.slice A729_8 ((rd_T48 t667 t663).f8).length c729_8) ∧ w'.cell? ⟨(ad729.add ((t663).toNat * 13)).block, (ad729.add ((t663).toNat * 13)).off + 9, none⟩ = some (.int .i64 ((rd_T48 t667 t663).f9)) ∧ w'.cell? ⟨(ad729.add ((t663).toNat * 13)).block, (ad729.add ((t663).toNat * 13)).off + 10, none⟩ = some (.int .i64 ((rd_T48 t667 t663).f10)) ∧ w'.cell? ⟨(ad729.add ((t663).toNat * 13)).block, (ad729.add ((t663).toNat * 13)).off + 11, none⟩ = some (.slice A729_11 ((rd_T48 t667 t663).f11).length c729_11) ∧ w'.cell? ⟨(ad729.add ((t663).toNat * 13)).block, (ad729.add ((t663).toNat * 13)).off + 12, none⟩ = some (.slice A729_12 ((rd_T48 t667 t663).f12).length c729_12) ∧ w'.cell? (ad729.add ((t663).toNat * 13)) = some (.int .i64 ((rd_T48 t667 t663).f0)) ∧ w'.cell? ⟨(ad729.add ((t663).toNat * 13)).block, (ad729.add ((t663).toNat * 13)).off + 1, none⟩ = some (.int .i64 ((rd_T48 t667 t663).f1)) ∧ w'.cell? ⟨(ad729.add ((t663).toNat * 13)).block, (ad729.add ((t663).toNat * 13)).off + 2, none⟩ = some (.int .i64 ((rd_T48 t667 t663).f2)) ∧ w'.cell? ⟨(ad729.add ((t663).toNat * 13)).block, (ad729.add ((t663).toNat * 13)).off + 3, none⟩ = some (.int .i64 ((rd_T48 t667 t663).f3)) ∧ w'.cell? ⟨(ad729.add ((t663).toNat * 13)).block, (ad729.add ((t663).toNat * 13)).off + 4, none⟩ = some (.int .i64 ((rd_T48 t667 t663).f4)) ∧ w'.cell? ⟨(ad729.add ((t663).toNat * 13)).block, (ad729.add ((t663).toNat * 13)).off + 5, none⟩ = some (.int .i64 ((rd_T48 t667 t663).f5)) ∧ w'.cell? ⟨(ad729.add ((t663).toNat * 13)).block, (ad729.add ((t663).toNat * 13)).off + 6, none⟩ = some (.int .i64 ((rd_T48 t667 t663).f6)) ∧ w'.cell? ⟨(ad729.add ((t663).toNat * 13)).block, (ad729.add ((t663).toNat * 13)).off + 7, none⟩ = some (.int .i64 ((rd_T48 t667 t663).f7)) ∧ w'.cell? ⟨(ad729.add ((t663).toNat * 13)).block, (ad729.add ((t663).toNat * 13)).off + 8, none⟩ = some (.slice A729_8 ((rd_T48 t667 t663).f8).length c729_8) ∧ w'.cell? ⟨(ad729.add ((t663).toNat * 13)).block, (ad729.add ((t663).toNat * 13)).off + 9, none⟩ = some (.int .i64 ((rd_T48 t667 t663).f9)) ∧ w'.cell? ⟨(ad729.add ((t663).toNat * 13)).block, (ad729.add ((t663).toNat * 13)).off + 10, none⟩ = some (.int .i64 ((rd_T48 t667 t663).f10)) ∧ w'.cell? ⟨(ad729.add ((t663).toNat * 13)).block, (ad729.add ((t663).toNat * 13)).off + 11, none⟩ = some (.slice A729_11 ((rd_T48 t667 t663).f11).length c729_11) ∧ w'.cell? ⟨(ad729.add ((t663).toNat * 13)).block, (ad729.add ((t663).toNat * 13)).off + 12, none⟩ = some (.slice A729_12 ((rd_T48 t667 t663).f12).length c729_12) ∧ w'.cell? (ad730.add ((t663).toNat * 13)) = some (.int .i64 ((rd_T48 t662 t663).f0)) ∧ w'.cell? ⟨(ad730.add ((t663).toNat * 13)).block, (ad730.add ((t663).toNat * 13)).off + 1, none⟩ = some (.int .i64 ((rd_T48 t662 t663).f1)) ∧ w'.cell? ⟨(ad730.add ((t663).toNat * 13)).block, (ad730.add ((t663).toNat * 13)).off + 2, none⟩ = some (.int .i64 ((rd_T48 t662 t663).f2)) ∧ w'.cell? ⟨(ad730.add ((t663).toNat * 13)).block, (ad730.add ((t663).toNat * 13)).off + 3, none⟩ = some (.int .i64 ((rd_T48 t662 t663).f3)) ∧ w'.cell? ⟨(ad730.add ((t663).toNat * 13)).block, (ad730.add ((t663).toNat * 13)).off + 4, none⟩ = some (.int .i64 ((rd_T48 t662 t663).f4)) ∧ w'.cell? ⟨(ad730.add ((t663).toNat * 13)).block, (ad730.add ((t663).toNat * 13)).off + 5, none⟩ = some (.int .i64 ((rd_T48 t662 t663).f5)) ∧ w'.cell? ⟨(ad730.add ((t663).toNat * 13)).block, (ad730.add ((t663).toNat * 13)).off + 6, none⟩ = some (.int .i64 ((rd_T48 t662 t663).f6)) ∧ w'.cell? ⟨(ad730.add ((t663).toNat * 13)).block, (ad730.add ((t663).toNat * 13)).off + 7, none⟩ = some (.int .i64 ((rd_T48 t662 t663).f7)) ∧ w'.cell? ⟨(ad730.add ((t663).toNat * 13)).block, (ad730.add ((t663).toNat * 13)).off + 8, none⟩ = some (.slice A730_8 ((rd_T48 t662 t663).f8).length c730_8) ∧ w'.cell? ⟨(ad730.add ((t663).toNat * 13)).block, (ad730.add ((t663).toNat * 13)).off + 9, none⟩ = some (.int .i64 ((rd_T48 t662 t663).f9)) ∧ w'.cell? ⟨(ad730.add ((t663).toNat * 13)).block, (ad730.add ((t663).toNat * 13)).off + 10, none⟩ = some (.int .i64 ((rd_T48 t662 t663).f10)) ∧ w'.cell? ⟨(ad730.add ((t663).toNat * 13)).block, (ad730.add ((t663).toNat * 13)).off + 11, none⟩ = some (.slice A730_11 ((rd_T48 t662 t663).f11).length c730_11) ∧ w'.cell? ⟨(ad730.add ((t663).toNat * 13)).block, (ad730.add ((t663).toNat * 13)).off + 12, none⟩ = some (.slice A730_12 ((rd_T48 t662 t663).f12).length c730_12)) (ds := []) (bm 43 0) (by kernel_rfl) rfl (by kernel_rfl) ⟨(blk_cell BK727.out 0).trans rfl, (blk_cell BK727.out 1).trans rfl, hx729_0, hx729_1, hx729_2, hx729_3, hx729_4, hx729_5, hx729_6, hx729_7, hx729_8, hx729_9, hx729_10, hx729_11, hx729_12, hx730_0, hx730_1, hx730_2, hx730_3, hx730_4, hx730_5, hx730_6, hx730_7, hx730_8, hx730_9, hx730_10, hx730_11, hx730_12, hx731_0, hx731_1, hx731_2, hx731_3, hx731_4, hx731_5, hx731_6, hx731_7, hx731_8, hx731_9, hx731_10, hx731_11, hx731_12, hx732_0, hx732_1, hx732_2, hx732_3, hx732_4, hx732_5, hx732_6, hx732_7, hx732_8, hx732_9, hx732_10, hx732_11, hx732_12, hx733_0, hx733_1, hx733_2, hx733_3, hx733_4, hx733_5, hx733_6, hx733_7, hx733_8, hx733_9, hx733_10, hx733_11, hx733_12⟩ (fun hHeld => ?_); refine with_tabW laws_FnTables.tab18 laws_FnTables.bits18 (fun HT_ HW_ => ?_)
       generalize w113.drew = w114 at HO_3 HO_6 BK675 BK682 BK727 HB HL729_11 HL729_12 HL729_8 HL730_11 HL730_12 HL730_8 HL731_11 HL731_12 HL731_8 HL732_11 HL732_12 HL732_8 HL733_11 HL733_12 HL733_8 HR729_11 HR729_12 HR729_8 HR730_11 HR730_12 HR730_8 HR731_11 HR731_12 HR731_8 HR732_11 HR732_12 HR732_8 HR733_11 HR733_12 HR733_8 hx729_0 hx729_1 hx729_10 hx729_11 hx729_12 hx729_2 hx729_3 hx729_4 hx729_5 hx729_6 hx729_7 hx729_8 hx729_9 hx730_0 hx730_1 hx730_10 hx730_11 hx730_12 hx730_2 hx730_3 hx730_4 hx730_5 hx730_6 hx730_7 hx730_8 hx730_9 hx731_0 hx731_1 hx731_10 hx731_11 hx731_12 hx731_2 hx731_3 hx731_4 hx731_5 hx731_6 hx731_7 hx731_8 hx731_9 hx732_0 hx732_1 hx732_10 hx732_11 hx732_12 hx732_2 hx732_3 hx732_4 hx732_5 hx732_6 hx732_7 hx732_8 hx732_9 hx733_0 hx733_1 hx733_10 hx733_11 hx733_12 hx733_2 hx733_3 hx733_4 hx733_5 hx733_6 hx733_7 hx733_8 hx733_9 hHeld ⊢
       refine pu_ 0 (some 144) (bm 43 1) (any_of HT_.out (by kernel_rfl)) ?_
       refine tk_ 1 (some 145) (bm 43 3) (take_ofW HT_.out HW_.out (by kernel_rfl)) hHeld ?_
       refine one_ (i := 2) (N := some 146) (bm 43 7) rfl rfl (one_of HT_.out (by kernel_rfl)) q85t (fun K hK => ?_)
       refine goes_ Try.func14 (by kernel_rfl) rfl #[.slice _ t667.length co115, .agg #[.int .i64 t725, .int .i64 t726]] (by rfl) rfl rfl q51t ?_
       with_reducible refine (impl_PlaceOf.calls kj84 _ _ t667 t725 t726 t728 _ ?side1 ?side2 A92.out).mono ?_
       (case side1 => repeat (first | exact (Kd.S_reads' HO_6.out).2.2 | (with_reducible refine Kd.C_alloc ?_ _) | (with_reducible refine Kd.C_drewN ?_ _) | (with_reducible refine Kd.C_drew ?_)))
       (case side2 => exact (Kd.S_reads' HO_6.out).2.1)
       rintro e w116 ⟨rfl, hb⟩
       have HS2_ := hbc hb hHeld.2.2.1
       have HS3_ := hbc hb hHeld.2.2.2.1
       have HS4_ := hbc hb hHeld.2.2.2.2.1
       have HS5_ := hbc hb hHeld.2.2.2.2.2.1
       have HS6_ := hbc hb hHeld.2.2.2.2.2.2.1
       have HS7_ := hbc hb hHeld.2.2.2.2.2.2.2.1
       have HS8_ := hbc hb hHeld.2.2.2.2.2.2.2.2.1
       have HS9_ := hbc hb hHeld.2.2.2.2.2.2.2.2.2.1
       have HS10_ := hbc hb hHeld.2.2.2.2.2.2.2.2.2.2.1
       have HS11_ := hbc hb hHeld.2.2.2.2.2.2.2.2.2.2.2.1
       have HS12_ := hbc hb hHeld.2.2.2.2.2.2.2.2.2.2.2.2.1
       have HS13_ := hbc hb hHeld.2.2.2.2.2.2.2.2.2.2.2.2.2.1
       have HS14_ := hbc hb hHeld.2.2.2.2.2.2.2.2.2.2.2.2.2.2.1
       have HS15_ := hbc hb hHeld.2.2.2.2.2.2.2.2.2.2.2.2.2.2.2.1
       have HS16_ := hbc hb hHeld.2.2.2.2.2.2.2.2.2.2.2.2.2.2.2.2.1
       have HS17_ := hbc hb hHeld.2.2.2.2.2.2.2.2.2.2.2.2.2.2.2.2.2.1
       have HS18_ := hbc hb hHeld.2.2.2.2.2.2.2.2.2.2.2.2.2.2.2.2.2.2.1
       have HS19_ := hbc hb hHeld.2.2.2.2.2.2.2.2.2.2.2.2.2.2.2.2.2.2.2.1
       have HS20_ := hbc hb hHeld.2.2.2.2.2.2.2.2.2.2.2.2.2.2.2.2.2.2.2.2.1
       have HS21_ := hbc hb hHeld.2.2.2.2.2.2.2.2.2.2.2.2.2.2.2.2.2.2.2.2.2.1
       have HS22_ := hbc hb hHeld.2.2.2.2.2.2.2.2.2.2.2.2.2.2.2.2.2.2.2.2.2.2.1
       have HS23_ := hbc hb hHeld.2.2.2.2.2.2.2.2.2.2.2.2.2.2.2.2.2.2.2.2.2.2.2.1
       have HS24_ := hbc hb hHeld.2.2.2.2.2.2.2.2.2.2.2.2.2.2.2.2.2.2.2.2.2.2.2.2.1
       have HS25_ := hbc hb hHeld.2.2.2.2.2.2.2.2.2.2.2.2.2.2.2.2.2.2.2.2.2.2.2.2.2.1
       have HS26_ := hbc hb hHeld.2.2.2.2.2.2.2.2.2.2.2.2.2.2.2.2.2.2.2.2.2.2.2.2.2.2.1
       have HS27_ := hbc hb hHeld.2.2.2.2.2.2.2.2.2.2.2.2.2.2.2.2.2.2.2.2.2.2.2.2.2.2.2.1
       have HS28_ := hbc hb hHeld.2.2.2.2.2.2.2.2.2.2.2.2.2.2.2.2.2.2.2.2.2.2.2.2.2.2.2.2.1
       have HS29_ := hbc hb hHeld.2.2.2.2.2.2.2.2.2.2.2.2.2.2.2.2.2.2.2.2.2.2.2.2.2.2.2.2.2.1
       have HS30_ := hbc hb hHeld.2.2.2.2.2.2.2.2.2.2.2.2.2.2.2.2.2.2.2.2.2.2.2.2.2.2.2.2.2.2.1
       have HS31_ := hbc hb hHeld.2.2.2.2.2.2.2.2.2.2.2.2.2.2.2.2.2.2.2.2.2.2.2.2.2.2.2.2.2.2.2.1
       have HS32_ := hbc hb hHeld.2.2.2.2.2.2.2.2.2.2.2.2.2.2.2.2.2.2.2.2.2.2.2.2.2.2.2.2.2.2.2.2.1
       have HS33_ := hbc hb hHeld.2.2.2.2.2.2.2.2.2.2.2.2.2.2.2.2.2.2.2.2.2.2.2.2.2.2.2.2.2.2.2.2.2.1
       have HS34_ := hbc hb hHeld.2.2.2.2.2.2.2.2.2.2.2.2.2.2.2.2.2.2.2.2.2.2.2.2.2.2.2.2.2.2.2.2.2.2.1
       have HS35_ := hbc hb hHeld.2.2.2.2.2.2.2.2.2.2.2.2.2.2.2.2.2.2.2.2.2.2.2.2.2.2.2.2.2.2.2.2.2.2.2.1
       have HS36_ := hbc hb hHeld.2.2.2.2.2.2.2.2.2.2.2.2.2.2.2.2.2.2.2.2.2.2.2.2.2.2.2.2.2.2.2.2.2.2.2.2.1
       have HS37_ := hbc hb hHeld.2.2.2.2.2.2.2.2.2.2.2.2.2.2.2.2.2.2.2.2.2.2.2.2.2.2.2.2.2.2.2.2.2.2.2.2.2.1
       have HS38_ := hbc hb hHeld.2.2.2.2.2.2.2.2.2.2.2.2.2.2.2.2.2.2.2.2.2.2.2.2.2.2.2.2.2.2.2.2.2.2.2.2.2.2.1
       have HS39_ := hbc hb hHeld.2.2.2.2.2.2.2.2.2.2.2.2.2.2.2.2.2.2.2.2.2.2.2.2.2.2.2.2.2.2.2.2.2.2.2.2.2.2.2.1
       have HS40_ := hbc hb hHeld.2.2.2.2.2.2.2.2.2.2.2.2.2.2.2.2.2.2.2.2.2.2.2.2.2.2.2.2.2.2.2.2.2.2.2.2.2.2.2.2.1
       have HS41_ := hbc hb hHeld.2.2.2.2.2.2.2.2.2.2.2.2.2.2.2.2.2.2.2.2.2.2.2.2.2.2.2.2.2.2.2.2.2.2.2.2.2.2.2.2.2.1
       have HS42_ := hbc hb hHeld.2.2.2.2.2.2.2.2.2.2.2.2.2.2.2.2.2.2.2.2.2.2.2.2.2.2.2.2.2.2.2.2.2.2.2.2.2.2.2.2.2.2.1
       have HS43_ := hbc hb hHeld.2.2.2.2.2.2.2.2.2.2.2.2.2.2.2.2.2.2.2.2.2.2.2.2.2.2.2.2.2.2.2.2.2.2.2.2.2.2.2.2.2.2.2.1
       have HS44_ := hbc hb hHeld.2.2.2.2.2.2.2.2.2.2.2.2.2.2.2.2.2.2.2.2.2.2.2.2.2.2.2.2.2.2.2.2.2.2.2.2.2.2.2.2.2.2.2.2.1
       have HS45_ := hbc hb hHeld.2.2.2.2.2.2.2.2.2.2.2.2.2.2.2.2.2.2.2.2.2.2.2.2.2.2.2.2.2.2.2.2.2.2.2.2.2.2.2.2.2.2.2.2.2.1
       have HS46_ := hbc hb hHeld.2.2.2.2.2.2.2.2.2.2.2.2.2.2.2.2.2.2.2.2.2.2.2.2.2.2.2.2.2.2.2.2.2.2.2.2.2.2.2.2.2.2.2.2.2.2.1
       have HS47_ := hbc hb hHeld.2.2.2.2.2.2.2.2.2.2.2.2.2.2.2.2.2.2.2.2.2.2.2.2.2.2.2.2.2.2.2.2.2.2.2.2.2.2.2.2.2.2.2.2.2.2.2.1
       have HS48_ := hbc hb hHeld.2.2.2.2.2.2.2.2.2.2.2.2.2.2.2.2.2.2.2.2.2.2.2.2.2.2.2.2.2.2.2.2.2.2.2.2.2.2.2.2.2.2.2.2.2.2.2.2.1
       have HS49_ := hbc hb hHeld.2.2.2.2.2.2.2.2.2.2.2.2.2.2.2.2.2.2.2.2.2.2.2.2.2.2.2.2.2.2.2.2.2.2.2.2.2.2.2.2.2.2.2.2.2.2.2.2.2.1
       have HS50_ := hbc hb hHeld.2.2.2.2.2.2.2.2.2.2.2.2.2.2.2.2.2.2.2.2.2.2.2.2.2.2.2.2.2.2.2.2.2.2.2.2.2.2.2.2.2.2.2.2.2.2.2.2.2.2.1
       have HS51_ := hbc hb hHeld.2.2.2.2.2.2.2.2.2.2.2.2.2.2.2.2.2.2.2.2.2.2.2.2.2.2.2.2.2.2.2.2.2.2.2.2.2.2.2.2.2.2.2.2.2.2.2.2.2.2.2.1
       have HS52_ := hbc hb hHeld.2.2.2.2.2.2.2.2.2.2.2.2.2.2.2.2.2.2.2.2.2.2.2.2.2.2.2.2.2.2.2.2.2.2.2.2.2.2.2.2.2.2.2.2.2.2.2.2.2.2.2.2.1
       have HS53_ := hbc hb hHeld.2.2.2.2.2.2.2.2.2.2.2.2.2.2.2.2.2.2.2.2.2.2.2.2.2.2.2.2.2.2.2.2.2.2.2.2.2.2.2.2.2.2.2.2.2.2.2.2.2.2.2.2.2.1
       have HS54_ := hbc hb hHeld.2.2.2.2.2.2.2.2.2.2.2.2.2.2.2.2.2.2.2.2.2.2.2.2.2.2.2.2.2.2.2.2.2.2.2.2.2.2.2.2.2.2.2.2.2.2.2.2.2.2.2.2.2.2.1
       have HS55_ := hbc hb hHeld.2.2.2.2.2.2.2.2.2.2.2.2.2.2.2.2.2.2.2.2.2.2.2.2.2.2.2.2.2.2.2.2.2.2.2.2.2.2.2.2.2.2.2.2.2.2.2.2.2.2.2.2.2.2.2.1
       have HS56_ := hbc hb hHeld.2.2.2.2.2.2.2.2.2.2.2.2.2.2.2.2.2.2.2.2.2.2.2.2.2.2.2.2.2.2.2.2.2.2.2.2.2.2.2.2.2.2.2.2.2.2.2.2.2.2.2.2.2.2.2.2.1
       have HS57_ := hbc hb hHeld.2.2.2.2.2.2.2.2.2.2.2.2.2.2.2.2.2.2.2.2.2.2.2.2.2.2.2.2.2.2.2.2.2.2.2.2.2.2.2.2.2.2.2.2.2.2.2.2.2.2.2.2.2.2.2.2.2.1
       have HS58_ := hbc hb hHeld.2.2.2.2.2.2.2.2.2.2.2.2.2.2.2.2.2.2.2.2.2.2.2.2.2.2.2.2.2.2.2.2.2.2.2.2.2.2.2.2.2.2.2.2.2.2.2.2.2.2.2.2.2.2.2.2.2.2.1
       have HS59_ := hbc hb hHeld.2.2.2.2.2.2.2.2.2.2.2.2.2.2.2.2.2.2.2.2.2.2.2.2.2.2.2.2.2.2.2.2.2.2.2.2.2.2.2.2.2.2.2.2.2.2.2.2.2.2.2.2.2.2.2.2.2.2.2.1
       have HS60_ := hbc hb hHeld.2.2.2.2.2.2.2.2.2.2.2.2.2.2.2.2.2.2.2.2.2.2.2.2.2.2.2.2.2.2.2.2.2.2.2.2.2.2.2.2.2.2.2.2.2.2.2.2.2.2.2.2.2.2.2.2.2.2.2.2.1
       have HS61_ := hbc hb hHeld.2.2.2.2.2.2.2.2.2.2.2.2.2.2.2.2.2.2.2.2.2.2.2.2.2.2.2.2.2.2.2.2.2.2.2.2.2.2.2.2.2.2.2.2.2.2.2.2.2.2.2.2.2.2.2.2.2.2.2.2.2.1
       have HS62_ := hbc hb hHeld.2.2.2.2.2.2.2.2.2.2.2.2.2.2.2.2.2.2.2.2.2.2.2.2.2.2.2.2.2.2.2.2.2.2.2.2.2.2.2.2.2.2.2.2.2.2.2.2.2.2.2.2.2.2.2.2.2.2.2.2.2.2.1
       have HS63_ := hbc hb hHeld.2.2.2.2.2.2.2.2.2.2.2.2.2.2.2.2.2.2.2.2.2.2.2.2.2.2.2.2.2.2.2.2.2.2.2.2.2.2.2.2.2.2.2.2.2.2.2.2.2.2.2.2.2.2.2.2.2.2.2.2.2.2.2.1
       have HS64_ := hbc hb hHeld.2.2.2.2.2.2.2.2.2.2.2.2.2.2.2.2.2.2.2.2.2.2.2.2.2.2.2.2.2.2.2.2.2.2.2.2.2.2.2.2.2.2.2.2.2.2.2.2.2.2.2.2.2.2.2.2.2.2.2.2.2.2.2.2.1
       have HS65_ := hbc hb hHeld.2.2.2.2.2.2.2.2.2.2.2.2.2.2.2.2.2.2.2.2.2.2.2.2.2.2.2.2.2.2.2.2.2.2.2.2.2.2.2.2.2.2.2.2.2.2.2.2.2.2.2.2.2.2.2.2.2.2.2.2.2.2.2.2.2.1
       have HS66_ := hbc hb hHeld.2.2.2.2.2.2.2.2.2.2.2.2.2.2.2.2.2.2.2.2.2.2.2.2.2.2.2.2.2.2.2.2.2.2.2.2.2.2.2.2.2.2.2.2.2.2.2.2.2.2.2.2.2.2.2.2.2.2.2.2.2.2.2.2.2.2
       refine ⟨_, rfl, ?_⟩
       replace HO_3 := Aside0.mk (Kd.S_below q70t hb)
       replace HO_6 := Aside0.mk (Kd.S_below q72t hb)
       replace BK675 := blb BK675 hb
       replace BK682 := blb BK682 hb
       replace BK727 := blb BK727 hb
       replace HB := Aside0.mk (below_step q33t hb)
       (try clear hb)
       (try clear hb2)
       (try clear hk)
       (try clear hi)
       refine hK.out _ _ (by first | exact ⟨(blk_cell BK727.out 0).trans rfl, (blk_cell BK727.out 1).trans rfl, HS2_, HS3_, HS4_, HS5_, HS6_, HS7_, HS8_, HS9_, HS10_, HS11_, HS12_, HS13_, HS14_, HS15_, HS16_, HS17_, HS18_, HS19_, HS20_, HS21_, HS22_, HS23_, HS24_, HS25_, HS26_, HS27_, HS28_, HS29_, HS30_, HS31_, HS32_, HS33_, HS34_, HS35_, HS36_, HS37_, HS38_, HS39_, HS40_, HS41_, HS42_, HS43_, HS44_, HS45_, HS46_, HS47_, HS48_, HS49_, HS50_, HS51_, HS52_, HS53_, HS54_, HS55_, HS56_, HS57_, HS58_, HS59_, HS60_, HS61_, HS62_, HS63_, HS64_, HS65_, HS66_⟩ | exact hHeld) (fun hHeld => ?_)
       clear hK K
       clear HS2_ HS3_ HS4_ HS5_ HS6_ HS7_ HS8_ HS9_ HS10_ HS11_ HS12_ HS13_ HS14_ HS15_ HS16_ HS17_ HS18_ HS19_ HS20_ HS21_ HS22_ HS23_ HS24_ HS25_ HS26_ HS27_ HS28_ HS29_ HS30_ HS31_ HS32_ HS33_ HS34_ HS35_ HS36_ HS37_ HS38_ HS39_ HS40_ HS41_ HS42_ HS43_ HS44_ HS45_ HS46_ HS47_ HS48_ HS49_ HS50_ HS51_ HS52_ HS53_ HS54_ HS55_ HS56_ HS57_ HS58_ HS59_ HS60_ HS61_ HS62_ HS63_ HS64_ HS65_ HS66_
       clear hx729_0 hx729_1 hx729_2 hx729_3 hx729_4 hx729_5 hx729_6 hx729_7 hx729_8 hx729_9 hx729_10 hx729_11 hx729_12 hx730_0 hx730_1 hx730_2 hx730_3 hx730_4 hx730_5 hx730_6 hx730_7 hx730_8 hx730_9 hx730_10 hx730_11 hx730_12 hx731_0 hx731_1 hx731_2 hx731_3 hx731_4 hx731_5 hx731_6 hx731_7 hx731_8 hx731_9 hx731_10 hx731_11 hx731_12 hx732_0 hx732_1 hx732_2 hx732_3 hx732_4 hx732_5 hx732_6 hx732_7 hx732_8 hx732_9 hx732_10 hx732_11 hx732_12 hx733_0 hx733_1 hx733_2 hx733_3 hx733_4 hx733_5 hx733_6 hx733_7 hx733_8 hx733_9 hx733_10 hx733_11 hx733_12
       refine norm_ (a' := ?_) ?_ ?_
       rotate_left
       ·show Act.put _ (some 146) _ = _
        simp only [Act.put, List.setIfInBounds_toArray, List.set_cons_zero, List.set_cons_succ, i64_w, i32_w]
        rfl
       refine pu_ 3 (some 147) (bm 43 15) (any_of HT_.out (by kernel_rfl)) ?_
       refine pu_ 4 (some 148) (bm 43 31) (any_of HT_.out (by kernel_rfl)) ?_
       refine pu_ 5 (some 149) (bm 43 63) (any_of HT_.out (by kernel_rfl)) ?_
       refine pu_ 6 (some 150) (bm 43 127) (any_of HT_.out (by kernel_rfl)) ?_
       refine pu_ 7 (some 151) (bm 43 255) (any_of HT_.out (by kernel_rfl)) ?_
       refine pu_ 8 (some 152) (bm 43 511) (any_of HT_.out (by kernel_rfl)) ?_
       refine pu_ 11 (some 155) (bm 43 2559) (any_of HT_.out (by kernel_rfl)) ?_
       refine pu_ 12 (some 156) (bm 43 6655) (any_of HT_.out (by kernel_rfl)) ?_
       refine pu_ 13 (some 157) (bm 43 14847) (any_of HT_.out (by kernel_rfl)) ?_
       refine pu_ 14 (some 158) (bm 43 31231) (any_of HT_.out (by kernel_rfl)) ?_
       refine pu_ 16 (some 160) (bm 43 96767) (any_of HT_.out (by kernel_rfl)) ?_
       refine tk_ 9 (some 153) (bm 43 97279) (take_ofW HT_.out HW_.out (by kernel_rfl)) hHeld ?_
       refine pu_ 10 (some 154) (bm 43 98303) (any_of HT_.out (by kernel_rfl)) ?_
       refine tk_ 15 (some 159) (bm 43 131071) (take_ofW HT_.out HW_.out (by kernel_rfl)) hHeld ?_
       refine pu_ 17 (some 161) (bm 43 262143) (any_of HT_.out (by kernel_rfl)) ?_
       refine pu_ 18 (some 162) (bm 43 524287) (any_of HT_.out (by kernel_rfl)) ?_
       refine pu_ 19 (some 163) (bm 43 1048575) (any_of HT_.out (by kernel_rfl)) ?_
       refine pu_ 20 (some 164) (bm 43 2097151) (any_of HT_.out (by kernel_rfl)) ?_
       refine pu_ 21 (some 165) (bm 43 4194303) (any_of HT_.out (by kernel_rfl)) ?_
       refine pu_ 22 (some 166) (bm 43 8388607) (any_of HT_.out (by kernel_rfl)) ?_
       refine pu_ 23 (some 167) (bm 43 16777215) (any_of HT_.out (by kernel_rfl)) ?_
       refine pu_ 24 (some 168) (bm 43 33554431) (any_of HT_.out (by kernel_rfl)) ?_
       refine tk_ 25 (some 169) (bm 43 67108863) (take_ofW HT_.out HW_.out (by kernel_rfl)) hHeld ?_
       refine pu_ 26 (some 170) (bm 43 134217727) (any_of HT_.out (by kernel_rfl)) ?_
       refine pu_ 27 (some 171) (bm 43 268435455) (any_of HT_.out (by kernel_rfl)) ?_
       refine pu_ 28 (some 172) (bm 43 536870911) (any_of HT_.out (by kernel_rfl)) ?_
       refine pu_ 29 (some 173) (bm 43 1073741823) (any_of HT_.out (by kernel_rfl)) ?_
       refine pu_ 30 (some 174) (bm 43 2147483647) (any_of HT_.out (by kernel_rfl)) ?_
       refine pu_ 31 (some 175) (bm 43 4294967295) (any_of HT_.out (by kernel_rfl)) ?_
       refine pu_ 33 (some 177) (bm 43 12884901887) (any_of HT_.out (by kernel_rfl)) ?_
       refine pu_ 34 (some 178) (bm 43 30064771071) (any_of HT_.out (by kernel_rfl)) ?_
       refine pu_ 35 (some 179) (bm 43 64424509439) (any_of HT_.out (by kernel_rfl)) ?_
       refine pu_ 36 (some 180) (bm 43 133143986175) (any_of HT_.out (by kernel_rfl)) ?_
       refine tk_ 32 (some 176) (bm 43 137438953471) (take_ofW HT_.out HW_.out (by kernel_rfl)) hHeld ?_
       refine tk_ 37 (some 181) (bm 43 274877906943) (take_ofW HT_.out HW_.out (by kernel_rfl)) hHeld ?_
       refine pu_ 38 (some 182) (bm 43 549755813887) (any_of HT_.out (by kernel_rfl)) ?_
       refine pu_ 39 (some 183) (bm 43 1099511627775) (any_of HT_.out (by kernel_rfl)) ?_
       refine pu_ 40 (some 184) (bm 43 2199023255551) (any_of HT_.out (by kernel_rfl)) ?_
       refine pu_ 41 (some 185) (bm 43 4398046511103) (any_of HT_.out (by kernel_rfl)) ?_
       refine pu_ 42 (some 2) (bm 43 8796093022207) (any_of HT_.out (by kernel_rfl)) ?_
       refine done_ (done_of HT_.out (by kernel_rfl)) ?_
       try go_wp2
       go_ret
       exact ⟨q73t, q33t⟩

/-- THE ONE PURE STATEMENT of laws_FnTables: yours. -/
def laws_FnTables.Pure : Prop := ∀ (l0 : List Int), l0.length ≤ maxLen → l0.length * 1 ≤ 140737488351232 → (∀ x ∈ l0, (Lit.int .u8 x).wf = true) → ∃ k, laws_FnTables.f k l0 = some true
theorem laws_FnTables.walk (P : laws_FnTables.Pure) (a0 : Option Addr) (len0 cap0 : Nat) (z0 : List Int) (w : World) (w0 : (a0 = none ∧ len0 = 0 ∧ cap0 = 0 ∧ z0 = []) ∨ ∃ x, a0 = some x ∧ len0 ≤ cap0 ∧ cap0 ≤ maxLen ∧ z0.length = cap0 ∧ (∀ i, i < z0.length → w.cell? (x.add i) = some (.int .u8 (z0.getD i 0))) ∧ ∀ n ∈ z0, (Lit.int .u8 n).wf = true) (y0 : len0 * 1 ≤ 140737488351232) :
  Calls Try.prog 3 #[.slice a0 len0 cap0] w fun e w' => e = .returned (.bool true) ∧ Below w.heap.size w w' := by
 obtain ⟨l0, rfl, hr0, hm0, hw0, hc0⟩ := ReadsInt.ofRowC w0
 obtain ⟨k, h⟩ := P l0 hm0 y0 hw0
 refine (laws_FnTables.calls k _ _ l0 true w (Kd.C_of_reads (d := (0 : Int)) (h1 := fun _ => rfl) hr0) hc0 h).mono ?_
 rintro e w' ⟨rfl, hd⟩
 exact ⟨rfl, hd⟩

end Go.Proofs.Ytofpmdgndegalab.QFnTables
