/- What the functions that the law FnTables reaches compute, as plain functions, and that the code computes just that (by a program of this session's; the library's functions by hand). No condition. -/
import Derived.Test.YtofpmdgndegalabQFnTablesx0
import Derived.Test.YtofpmdgndegalabQFnTablesx3
import Derived.Test.YtofpmdgndegalabQFnTablesx4
namespace Go.Proofs.Ytofpmdgndegalab.QFnTables
open Go.RowKit Go.Proofs.YtofpmdgndegalabW.PrintWords Go.Proofs.YtofpmdgndegalabW.PrintLast Go.Proofs.YtofpmdgndegalabW.PrintMore
attribute [local go_sem] max2_int min2_int max_two min_two max_three min_three max_four min_four   -- for this text's walks alone
set_option linter.unusedVariables false
set_option linter.unusedSimpArgs false

/-! ### spec_l7Draw: function 46 -/
mutual
def spec_l7Draw.l0 : Nat → Int → List Int → Int → Int → Int → Int → Int → Int → Int → Int → Int → Int → Int → Int → Int → Int → Int → Int → List Int → Int → Int → List (S74) → List Int → Option (Int × Int × Int × Int × Int × Int × Int × Int × List Int × Int × Int × (List (S74)) × List Int × Int × Int)
 | 0, _, _, _, _, _, _, _, _, _, _, _, _, _, _, _, _, _, _, _, _, _, _, _ => none
 | k + 1, x6, x1000, x1001, x1002, x171000, x171001, x171002, x171003, x171004, x171005, x195000, x195001, x195002, x195003, x195004, x195005, x195006, x195007, x195008, x195009, x195010, x195011, x195012 => if x6 > 0 then (if x195008.length < 17592186044416 then (spec_l7Draw.l0 k (wrap64 (x6 - 1)) x1000 x1001 x1002 x171000 x171001 x171002 x171003 x171004 x171005 x195000 x195001 x195002 x195003 x195004 x195005 x195006 x195007 (x195008 ++ [wrap64 (x6 - 1)]) x195009 x195010 x195011 x195012) else (none)) else (if (x195008.length : Int) > 0 then (if 0 < (x195008.length : Int) then ((spec_l1Below.f x1000 x1001 x1002 (wrap64 (x171001 + 1))).bind fun bt208 => (spec_l7Draw.j1 k x1000 bt208.2.1 bt208.2.2 x171000 x171001 x171002 x171003 x171004 x171005 x195000 x195001 x195002 x195003 x195004 x195005 x195006 x195007 x195008 (wrap64 ((rd x195008 0) + 1)) bt208.1 x195011 x195012)) else (none)) else (spec_l7Draw.j1 k x1000 x1001 x1002 x171000 x171001 x171002 x171003 x171004 x171005 x195000 x195001 x195002 x195003 x195004 x195005 x195006 x195007 x195008 x195009 x195010 x195011 x195012))
def spec_l7Draw.j1 : Nat → List Int → Int → Int → Int → Int → Int → Int → Int → Int → Int → Int → Int → Int → Int → Int → Int → Int → List Int → Int → Int → List (S74) → List Int → Option (Int × Int × Int × Int × Int × Int × Int × Int × List Int × Int × Int × (List (S74)) × List Int × Int × Int)
 | 0, _, _, _, _, _, _, _, _, _, _, _, _, _, _, _, _, _, _, _, _, _, _ => none
 | k + 1, x1000, x1001, x1002, x171000, x171001, x171002, x171003, x171004, x171005, x195000, x195001, x195002, x195003, x195004, x195005, x195006, x195007, x195008, x195009, x195010, x195011, x195012 => (spec_l1Below.f x1000 x1001 x1002 3).bind fun bt211 => (spec_l7Draw.l1 k bt211.1 x1000 bt211.2.1 bt211.2.2 x171000 x171001 x171002 x171003 x171004 x171005 x195000 x195001 x195002 x195003 x195004 x195005 x195006 x195007 x195008 x195009 x195010 x195011 x195012)
def spec_l7Draw.l1 : Nat → Int → List Int → Int → Int → Int → Int → Int → Int → Int → Int → Int → Int → Int → Int → Int → Int → Int → Int → List Int → Int → Int → List (S74) → List Int → Option (Int × Int × Int × Int × Int × Int × Int × Int × List Int × Int × Int × (List (S74)) × List Int × Int × Int)
 | 0, _, _, _, _, _, _, _, _, _, _, _, _, _, _, _, _, _, _, _, _, _, _, _ => none
 | k + 1, x7, x1000, x1001, x1002, x171000, x171001, x171002, x171003, x171004, x171005, x195000, x195001, x195002, x195003, x195004, x195005, x195006, x195007, x195008, x195009, x195010, x195011, x195012 => if x7 > 0 then ((spec_l7Thing.f k x1000 x1001 x1002 x171000 x171001 x171002 x171003 x171004 x171005).bind fun bt214 => (if x195011.length < 5864062014805 then (spec_l7Draw.l1 k (wrap64 (x7 - 1)) x1000 bt214.2.2.2.1 bt214.2.2.2.2 x171000 x171001 x171002 x171003 x171004 x171005 x195000 x195001 x195002 x195003 x195004 x195005 x195006 x195007 x195008 x195009 x195010 (x195011 ++ [(⟨bt214.1, bt214.2.1, bt214.2.2.1⟩ : S74)]) x195012) else (none))) else ((spec_l1Below.f x1000 x1001 x1002 3).bind fun bt223 => (spec_l7Draw.l2 k bt223.1 x1000 bt223.2.1 bt223.2.2 x195000 x195001 x195002 x195003 x195004 x195005 x195006 x195007 x195008 x195009 x195010 x195011 x195012))
def spec_l7Draw.l2 : Nat → Int → List Int → Int → Int → Int → Int → Int → Int → Int → Int → Int → Int → List Int → Int → Int → List (S74) → List Int → Option (Int × Int × Int × Int × Int × Int × Int × Int × List Int × Int × Int × (List (S74)) × List Int × Int × Int)
 | 0, _, _, _, _, _, _, _, _, _, _, _, _, _, _, _, _, _ => none
 | k + 1, x9, x1000, x1001, x1002, x195000, x195001, x195002, x195003, x195004, x195005, x195006, x195007, x195008, x195009, x195010, x195011, x195012 => if x9 > 0 then ((spec_l1Below.f x1000 x1001 x1002 256).bind fun bt226 => (if x195012.length < 17592186044416 then (spec_l7Draw.l2 k (wrap64 (x9 - 1)) x1000 bt226.2.1 bt226.2.2 x195000 x195001 x195002 x195003 x195004 x195005 x195006 x195007 x195008 x195009 x195010 x195011 (x195012 ++ [bt226.1])) else (none))) else (some (x195000, x195001, x195002, x195003, x195004, x195005, x195006, x195007, x195008, x195009, x195010, x195011, x195012, x1001, x1002))
end
def spec_l7Draw.f (k : Nat) (s0_0 : List Int) (s0_1 : Int) (s0_2 : Int) (a1_0 : Int) (a1_1 : Int) (a1_2 : Int) (a1_3 : Int) (a1_4 : Int) (a1_5 : Int) : Option (Int × Int × Int × Int × Int × Int × Int × Int × List Int × Int × Int × (List (S74)) × List Int × Int × Int) := (spec_l1Below.f s0_0 s0_1 s0_2 a1_5).bind fun bt172 => ((spec_NodeNew.f (wrap64 (1 + bt172.1))).bind fun bt175 => ((spec_l1Below.f s0_0 bt172.2.1 bt172.2.2 4).bind fun bt195 => (if bt195.1 = 1 then ((spec_l1Below.f s0_0 bt195.2.1 bt195.2.2 3).bind fun bt198 => ((spec_l1Below.f s0_0 bt198.2.1 bt198.2.2 3).bind fun bt201 => (spec_l7Draw.l0 k bt201.1 s0_0 bt201.2.1 bt201.2.2 a1_0 a1_1 a1_2 a1_3 a1_4 a1_5 bt195.1 bt175.2.1 bt198.1 bt175.2.2.2.1 bt175.2.2.2.2.1 bt175.2.2.2.2.2.1 bt175.2.2.2.2.2.2.1 bt175.2.2.2.2.2.2.2.1 bt175.2.2.2.2.2.2.2.2.1 bt175.2.2.2.2.2.2.2.2.2.1 bt175.2.2.2.2.2.2.2.2.2.2.1 bt175.2.2.2.2.2.2.2.2.2.2.2.1 bt175.2.2.2.2.2.2.2.2.2.2.2.2))) else (some (bt195.1, bt175.2.1, bt175.2.2.1, bt175.2.2.2.1, bt175.2.2.2.2.1, bt175.2.2.2.2.2.1, bt175.2.2.2.2.2.2.1, bt175.2.2.2.2.2.2.2.1, bt175.2.2.2.2.2.2.2.2.1, bt175.2.2.2.2.2.2.2.2.2.1, bt175.2.2.2.2.2.2.2.2.2.2.1, bt175.2.2.2.2.2.2.2.2.2.2.2.1, bt175.2.2.2.2.2.2.2.2.2.2.2.2, bt195.2.1, bt195.2.2)))))
theorem spec_l7Draw.mono_l : ∀ k, (∀ y0 y1 y2 y3 y4 y5 y6 y7 y8 y9 y10 y11 y12 y13 y14 y15 y16 y17 y18 y19 y20 y21 y22, LeO (spec_l7Draw.l0 k y0 y1 y2 y3 y4 y5 y6 y7 y8 y9 y10 y11 y12 y13 y14 y15 y16 y17 y18 y19 y20 y21 y22) (spec_l7Draw.l0 (k + 1) y0 y1 y2 y3 y4 y5 y6 y7 y8 y9 y10 y11 y12 y13 y14 y15 y16 y17 y18 y19 y20 y21 y22)) ∧ (∀ y0 y1 y2 y3 y4 y5 y6 y7 y8 y9 y10 y11 y12 y13 y14 y15 y16 y17 y18 y19 y20 y21, LeO (spec_l7Draw.j1 k y0 y1 y2 y3 y4 y5 y6 y7 y8 y9 y10 y11 y12 y13 y14 y15 y16 y17 y18 y19 y20 y21) (spec_l7Draw.j1 (k + 1) y0 y1 y2 y3 y4 y5 y6 y7 y8 y9 y10 y11 y12 y13 y14 y15 y16 y17 y18 y19 y20 y21)) ∧ (∀ y0 y1 y2 y3 y4 y5 y6 y7 y8 y9 y10 y11 y12 y13 y14 y15 y16 y17 y18 y19 y20 y21 y22, LeO (spec_l7Draw.l1 k y0 y1 y2 y3 y4 y5 y6 y7 y8 y9 y10 y11 y12 y13 y14 y15 y16 y17 y18 y19 y20 y21 y22) (spec_l7Draw.l1 (k + 1) y0 y1 y2 y3 y4 y5 y6 y7 y8 y9 y10 y11 y12 y13 y14 y15 y16 y17 y18 y19 y20 y21 y22)) ∧ (∀ y0 y1 y2 y3 y4 y5 y6 y7 y8 y9 y10 y11 y12 y13 y14 y15 y16, LeO (spec_l7Draw.l2 k y0 y1 y2 y3 y4 y5 y6 y7 y8 y9 y10 y11 y12 y13 y14 y15 y16) (spec_l7Draw.l2 (k + 1) y0 y1 y2 y3 y4 y5 y6 y7 y8 y9 y10 y11 y12 y13 y14 y15 y16))
 | 0 => ⟨fun _ _ _ _ _ _ _ _ _ _ _ _ _ _ _ _ _ _ _ _ _ _ _ r h => by simp [spec_l7Draw.l0] at h, fun _ _ _ _ _ _ _ _ _ _ _ _ _ _ _ _ _ _ _ _ _ _ r h => by simp [spec_l7Draw.j1] at h, fun _ _ _ _ _ _ _ _ _ _ _ _ _ _ _ _ _ _ _ _ _ _ _ r h => by simp [spec_l7Draw.l1] at h, fun _ _ _ _ _ _ _ _ _ _ _ _ _ _ _ _ _ r h => by simp [spec_l7Draw.l2] at h⟩
 | k + 1 => by
  obtain ⟨ih0, ih1, ih2, ih3⟩ := spec_l7Draw.mono_l k
  refine ⟨?_, ?_, ?_, ?_⟩
  ·intro y0 y1 y2 y3 y4 y5 y6 y7 y8 y9 y10 y11 y12 y13 y14 y15 y16 y17 y18 y19 y20 y21 y22
   unfold spec_l7Draw.l0
   repeat' first
   | (with_reducible exact ih0 _ _ _ _ _ _ _ _ _ _ _ _ _ _ _ _ _ _ _ _ _ _ _)
   | (with_reducible exact ih1 _ _ _ _ _ _ _ _ _ _ _ _ _ _ _ _ _ _ _ _ _ _)
   | (with_reducible exact ih2 _ _ _ _ _ _ _ _ _ _ _ _ _ _ _ _ _ _ _ _ _ _ _)
   | (with_reducible exact ih3 _ _ _ _ _ _ _ _ _ _ _ _ _ _ _ _ _)
   | (with_reducible exact spec_l7Thing.mono _ _ _ _ _ _ _ _ _ _)
   | (with_reducible exact LeO.refl _)
   | (with_reducible exact LeO.none _)
   | (with_reducible refine LeO.ite ?_ ?_)
   | (with_reducible refine LeO.bind ?_ (fun _ => ?_))
   | exact ih0 _ _ _ _ _ _ _ _ _ _ _ _ _ _ _ _ _ _ _ _ _ _ _
   | exact ih1 _ _ _ _ _ _ _ _ _ _ _ _ _ _ _ _ _ _ _ _ _ _
   | exact ih2 _ _ _ _ _ _ _ _ _ _ _ _ _ _ _ _ _ _ _ _ _ _ _
   | exact ih3 _ _ _ _ _ _ _ _ _ _ _ _ _ _ _ _ _
   | exact spec_l7Thing.mono _ _ _ _ _ _ _ _ _ _
   | exact LeO.none _
   | refine LeO.ite ?_ ?_
   | refine LeO.bind ?_ (fun _ => ?_)
  ·intro y0 y1 y2 y3 y4 y5 y6 y7 y8 y9 y10 y11 y12 y13 y14 y15 y16 y17 y18 y19 y20 y21
   unfold spec_l7Draw.j1
   repeat' first
   | (with_reducible exact ih0 _ _ _ _ _ _ _ _ _ _ _ _ _ _ _ _ _ _ _ _ _ _ _)
   | (with_reducible exact ih1 _ _ _ _ _ _ _ _ _ _ _ _ _ _ _ _ _ _ _ _ _ _)
   | (with_reducible exact ih2 _ _ _ _ _ _ _ _ _ _ _ _ _ _ _ _ _ _ _ _ _ _ _)
   | (with_reducible exact ih3 _ _ _ _ _ _ _ _ _ _ _ _ _ _ _ _ _)
   | (with_reducible exact spec_l7Thing.mono _ _ _ _ _ _ _ _ _ _)
   | (with_reducible exact LeO.refl _)
   | (with_reducible exact LeO.none _)
   | (with_reducible refine LeO.ite ?_ ?_)
   | (with_reducible refine LeO.bind ?_ (fun _ => ?_))
   | exact ih0 _ _ _ _ _ _ _ _ _ _ _ _ _ _ _ _ _ _ _ _ _ _ _
   | exact ih1 _ _ _ _ _ _ _ _ _ _ _ _ _ _ _ _ _ _ _ _ _ _
   | exact ih2 _ _ _ _ _ _ _ _ _ _ _ _ _ _ _ _ _ _ _ _ _ _ _
   | exact ih3 _ _ _ _ _ _ _ _ _ _ _ _ _ _ _ _ _
   | exact spec_l7Thing.mono _ _ _ _ _ _ _ _ _ _
   | exact LeO.none _
   | refine LeO.ite ?_ ?_
   | refine LeO.bind ?_ (fun _ => ?_)
  ·intro y0 y1 y2 y3 y4 y5 y6 y7 y8 y9 y10 y11 y12 y13 y14 y15 y16 y17 y18 y19 y20 y21 y22
   unfold spec_l7Draw.l1
   repeat' first
   | (with_reducible exact ih0 _ _ _ _ _ _ _ _ _ _ _ _ _ _ _ _ _ _ _ _ _ _ _)
   | (with_reducible exact ih1 _ _ _ _ _ _ _ _ _ _ _ _ _ _ _ _ _ _ _ _ _ _)
   | (with_reducible exact ih2 _ _ _ _ _ _ _ _ _ _ _ _ _ _ _ _ _ _ _ _ _ _ _)
   | (with_reducible exact ih3 _ _ _ _ _ _ _ _ _ _ _ _ _ _ _ _ _)
   | (with_reducible exact spec_l7Thing.mono _ _ _ _ _ _ _ _ _ _)
   | (with_reducible exact LeO.refl _)
   | (with_reducible exact LeO.none _)
   | (with_reducible refine LeO.ite ?_ ?_)
   | (with_reducible refine LeO.bind ?_ (fun _ => ?_))
   | exact ih0 _ _ _ _ _ _ _ _ _ _ _ _ _ _ _ _ _ _ _ _ _ _ _
   | exact ih1 _ _ _ _ _ _ _ _ _ _ _ _ _ _ _ _ _ _ _ _ _ _
   | exact ih2 _ _ _ _ _ _ _ _ _ _ _ _ _ _ _ _ _ _ _ _ _ _ _
   | exact ih3 _ _ _ _ _ _ _ _ _ _ _ _ _ _ _ _ _
   | exact spec_l7Thing.mono _ _ _ _ _ _ _ _ _ _
   | exact LeO.none _
   | refine LeO.ite ?_ ?_
   | refine LeO.bind ?_ (fun _ => ?_)
  ·intro y0 y1 y2 y3 y4 y5 y6 y7 y8 y9 y10 y11 y12 y13 y14 y15 y16
   unfold spec_l7Draw.l2
   repeat' first
   | (with_reducible exact ih0 _ _ _ _ _ _ _ _ _ _ _ _ _ _ _ _ _ _ _ _ _ _ _)
   | (with_reducible exact ih1 _ _ _ _ _ _ _ _ _ _ _ _ _ _ _ _ _ _ _ _ _ _)
   | (with_reducible exact ih2 _ _ _ _ _ _ _ _ _ _ _ _ _ _ _ _ _ _ _ _ _ _ _)
   | (with_reducible exact ih3 _ _ _ _ _ _ _ _ _ _ _ _ _ _ _ _ _)
   | (with_reducible exact spec_l7Thing.mono _ _ _ _ _ _ _ _ _ _)
   | (with_reducible exact LeO.refl _)
   | (with_reducible exact LeO.none _)
   | (with_reducible refine LeO.ite ?_ ?_)
   | (with_reducible refine LeO.bind ?_ (fun _ => ?_))
   | exact ih0 _ _ _ _ _ _ _ _ _ _ _ _ _ _ _ _ _ _ _ _ _ _ _
   | exact ih1 _ _ _ _ _ _ _ _ _ _ _ _ _ _ _ _ _ _ _ _ _ _
   | exact ih2 _ _ _ _ _ _ _ _ _ _ _ _ _ _ _ _ _ _ _ _ _ _ _
   | exact ih3 _ _ _ _ _ _ _ _ _ _ _ _ _ _ _ _ _
   | exact spec_l7Thing.mono _ _ _ _ _ _ _ _ _ _
   | exact LeO.none _
   | refine LeO.ite ?_ ?_
   | refine LeO.bind ?_ (fun _ => ?_)
theorem spec_l7Draw.mono : ∀ a0 a1 a2 a3 a4 a5 a6 a7 a8 k, LeO (spec_l7Draw.f k a0 a1 a2 a3 a4 a5 a6 a7 a8) (spec_l7Draw.f (k + 1) a0 a1 a2 a3 a4 a5 a6 a7 a8) := by
 intro a0 a1 a2 a3 a4 a5 a6 a7 a8 k
 obtain ⟨ih0, ih1, ih2, ih3⟩ := spec_l7Draw.mono_l k
 unfold spec_l7Draw.f
 repeat' first
   | (with_reducible exact ih0 _ _ _ _ _ _ _ _ _ _ _ _ _ _ _ _ _ _ _ _ _ _ _)
   | (with_reducible exact ih1 _ _ _ _ _ _ _ _ _ _ _ _ _ _ _ _ _ _ _ _ _ _)
   | (with_reducible exact ih2 _ _ _ _ _ _ _ _ _ _ _ _ _ _ _ _ _ _ _ _ _ _ _)
   | (with_reducible exact ih3 _ _ _ _ _ _ _ _ _ _ _ _ _ _ _ _ _)
   | (with_reducible exact spec_l7Thing.mono _ _ _ _ _ _ _ _ _ _)
   | (with_reducible exact LeO.refl _)
   | (with_reducible exact LeO.none _)
   | (with_reducible refine LeO.ite ?_ ?_)
   | (with_reducible refine LeO.bind ?_ (fun _ => ?_))
   | exact ih0 _ _ _ _ _ _ _ _ _ _ _ _ _ _ _ _ _ _ _ _ _ _ _
   | exact ih1 _ _ _ _ _ _ _ _ _ _ _ _ _ _ _ _ _ _ _ _ _ _
   | exact ih2 _ _ _ _ _ _ _ _ _ _ _ _ _ _ _ _ _ _ _ _ _ _ _
   | exact ih3 _ _ _ _ _ _ _ _ _ _ _ _ _ _ _ _ _
   | exact spec_l7Thing.mono _ _ _ _ _ _ _ _ _ _
   | exact LeO.none _
   | refine LeO.ite ?_ ?_
   | refine LeO.bind ?_ (fun _ => ?_)
def spec_l7Draw.T21 : Bool × List (List Nat × List Nat) := (true, [([], []), ([0], [0]), ([], []), ([2], [2]), ([3], [3]), ([1, 4, 3], [1, 4]), ([0, 1, 2, 3, 4, 5], []), ([6, 5, 5, 0, 1, 2, 3, 4, 5], [5, 6])])
def spec_l7Draw.B21 : List Nat := [0, 1, 0, 4, 12, 31, 63, 127]
theorem spec_l7Draw.tab21 : rtab .any (opsOf Try.f46 21) = spec_l7Draw.T21 := by kernel_rfl
theorem spec_l7Draw.bits21 : waitsOk spec_l7Draw.T21.2 spec_l7Draw.B21 = true := by kernel_rfl
set_option maxHeartbeats 8000000 in
set_option maxRecDepth 100000 in
theorem spec_l7Draw.calls (k : Nat) (g : Nat) (s0_0 : List Int) (s0_1 : Int) (s0_2 : Int) (a1_0 : Int) (a1_1 : Int) (a1_2 : Int) (a1_3 : Int) (a1_4 : Int) (a1_5 : Int) (r1 : Int) (r2 : Int) (r3 : Int) (r4 : Int) (r5 : Int) (r6 : Int) (r7 : Int) (r8 : Int) (r9 : List Int) (r10 : Int) (r11 : Int) (r12 : List (S74)) (r13 : List Int) (r14 : Int) (r15 : Int) (w0 w : World) (hI : IsS67 w0 w g s0_0 s0_1 s0_2) (hB : Below w0.heap.size w0 w) (h : spec_l7Draw.f k s0_0 s0_1 s0_2 a1_0 a1_1 a1_2 a1_3 a1_4 a1_5 = some (r1, r2, r3, r4, r5, r6, r7, r8, r9, r10, r11, r12, r13, r14, r15)) :
  Calls Try.prog 46 #[.pointer (some ⟨g, 0, none⟩), .agg #[.int .i64 a1_0, .int .i64 a1_1, .int .i64 a1_2, .int .i64 a1_3, .int .i64 a1_4, .int .i64 a1_5]] w fun e w' => ∃ v8_ v11_ v12_ : Value, e = .returned (.agg #[.int .i64 r1, .int .i64 r2, .int .i64 r3, .int .i64 r4, .int .i64 r5, .int .i64 r6, .int .i64 r7, .int .i64 r8, v8_, .int .i64 r10, .int .i64 r11, v11_, v12_]) ∧ Kd.R (Kd.int .i64) 3 w' w.heap.size (fun k_ => some k_ ≠ (v12_ : Value).ownBlock) v8_ r9 ∧ Kd.R k74 74 w' w.heap.size (fun _ => True) v11_ r12 ∧ Kd.R (Kd.int .i64) 3 w' w.heap.size (fun k_ => some k_ ≠ (v8_ : Value).ownBlock) v12_ r13 ∧ IsS67 w0 w' g s0_0 r14 r15 ∧ Below w0.heap.size w0 w' ∧ KeepBut w w' g none := by
 have hu33 := Try.underlying33
 have hu48 := Try.underlying48
 have hu74 := Try.underlying74
 have HI0 := Aside0.mk hI
 have HK := Aside0.mk (KeepBut.refl w g none)
 have HL := Aside0.mk hB.size
 clear hI
 have HW0 := Aside0.mk hB.size
 have HB := Aside0.mk hB
 clear hB
 have H : ((spec_l1Below.f s0_0 s0_1 s0_2 a1_5).bind fun bt172 => ((spec_NodeNew.f (wrap64 (1 + bt172.1))).bind fun bt175 => ((spec_l1Below.f s0_0 bt172.2.1 bt172.2.2 4).bind fun bt195 => (if bt195.1 = 1 then ((spec_l1Below.f s0_0 bt195.2.1 bt195.2.2 3).bind fun bt198 => ((spec_l1Below.f s0_0 bt198.2.1 bt198.2.2 3).bind fun bt201 => (spec_l7Draw.l0 k bt201.1 s0_0 bt201.2.1 bt201.2.2 a1_0 a1_1 a1_2 a1_3 a1_4 a1_5 bt195.1 bt175.2.1 bt198.1 bt175.2.2.2.1 bt175.2.2.2.2.1 bt175.2.2.2.2.2.1 bt175.2.2.2.2.2.2.1 bt175.2.2.2.2.2.2.2.1 bt175.2.2.2.2.2.2.2.2.1 bt175.2.2.2.2.2.2.2.2.2.1 bt175.2.2.2.2.2.2.2.2.2.2.1 bt175.2.2.2.2.2.2.2.2.2.2.2.1 bt175.2.2.2.2.2.2.2.2.2.2.2.2))) else (some (bt195.1, bt175.2.1, bt175.2.2.1, bt175.2.2.2.1, bt175.2.2.2.2.1, bt175.2.2.2.2.2.1, bt175.2.2.2.2.2.2.1, bt175.2.2.2.2.2.2.2.1, bt175.2.2.2.2.2.2.2.2.1, bt175.2.2.2.2.2.2.2.2.2.1, bt175.2.2.2.2.2.2.2.2.2.2.1, bt175.2.2.2.2.2.2.2.2.2.2.2.1, bt175.2.2.2.2.2.2.2.2.2.2.2.2, bt195.2.1, bt195.2.2)))))) = some (r1, r2, r3, r4, r5, r6, r7, r8, r9, r10, r11, r12, r13, r14, r15) := h
 clear h
 replace H := Option.bind_eq_some_iff.mp H
 obtain ⟨⟨t172, t173, t174⟩, A30, H⟩ := H
 try dsimp only at H
 have A3 := Aside0.mk A30
 clear A30
 replace H := Option.bind_eq_some_iff.mp H
 obtain ⟨⟨t175, t176, t177, t178, t179, t180, t181, t182, t183, t186, t187, t188, t191⟩, A40, H⟩ := H
 try dsimp only at H
 have A4 := Aside0.mk A40
 clear A40
 replace H := Option.bind_eq_some_iff.mp H
 obtain ⟨⟨t195, t196, t197⟩, A50, H⟩ := H
 try dsimp only at H
 have A5 := Aside0.mk A50
 clear A50
 by_cases c6 : t195 = 1
 rotate_left
 ·rw [if_neg c6] at H
  have c6b0 : (t195 == 1) = false := beq_eq_false_iff_ne.mpr c6
  have c6b1 : (t195 != 1) = true := bne_iff_ne.mpr c6
  simp only [Option.some.injEq, Prod.mk.injEq] at H
  obtain ⟨rfl, rfl, rfl, rfl, rfl, rfl, rfl, rfl, rfl, rfl, rfl, rfl, rfl, rfl, rfl⟩ := H
  go_enter Try.func46, Try.ntmps46
  go_wp2_with (first | ((with_reducible refine gate_dst (N := 3) rfl ?_); refine box_ev 3 #[.int .i64 a1_0, .int .i64 a1_1, .int .i64 a1_2, .int .i64 a1_3, .int .i64 a1_4, .int .i64 a1_5] 33 ?_; intro gb170 hg w97 hbox hb; replace HB := Aside0.mk (below_step q45t hb); have BK170 := Aside0.mk (hbox); have GW170 := Aside0.mk ((q32t : w.heap.size ≤ gb170)); have GE170 := Aside0.mk ((Nat.le_trans HW0.out (q32t : w.heap.size ≤ gb170) : w0.heap.size ≤ gb170)); replace HK := Aside0.mk (KeepBut.trans q49t (KeepBut.of_below hb g none) (.inl rfl)); have NB0_170 := Aside0.mk ((q14t : g ≠ gb170)); have NB170_0 := Aside0.mk ((q15t : gb170 ≠ g)); replace HI0 := Aside0.mk (IsS67.below q46t hb); clear hb hbox hg) | ((with_reducible refine gate_dst (N := 4) rfl ?_); refine box_ev 4 #[.int .i64 0, .int .i64 0, .int .i64 0, .int .i64 0, .int .i64 0, .int .i64 0, .int .i64 0, .int .i64 0, .slice none 0 0, .int .i64 0, .int .i64 0, .slice none 0 0, .slice none 0 0] 48 ?_; intro gb171 hg w98 hbox hb; replace HB := Aside0.mk (below_step q22t hb); have BK171 := Aside0.mk (hbox); have GW171 := Aside0.mk ((q17t : w.heap.size ≤ gb171)); have GE171 := Aside0.mk ((Nat.le_trans HW0.out (q17t : w.heap.size ≤ gb171) : w0.heap.size ≤ gb171)); replace HK := Aside0.mk (KeepBut.trans q37t (KeepBut.of_below hb g none) (.inl rfl)); have NB170_171 := Aside0.mk ((by rw [hg]; exact Nat.ne_of_lt (blk_lt (qbk BK170)) : gb170 ≠ gb171)); have NB171_170 := Aside0.mk ((by rw [hg]; exact Nat.ne_of_gt (blk_lt (qbk BK170)) : gb171 ≠ gb170)); replace BK170 := blb BK170 hb; have NB0_171 := Aside0.mk ((q3t : g ≠ gb171)); have NB171_0 := Aside0.mk ((q4t : gb171 ≠ g)); replace HI0 := Aside0.mk (IsS67.below q23t hb); clear hb hbox hg; have hnb99 := NB170_171.out; have hnc99 := NB171_170.out; have hnb100 := NB170_0.out; have hnc100 := NB0_170.out; obtain ⟨hcz101_0, hcz101_1, hcz101_2, hcz101_3, hcz101_4, hcz101_5⟩ := qc6 BK170.out; obtain ⟨hfz101_0, hfz101_1, hfz101_2, hfz101_3, hfz101_4, hfz101_5⟩ := qf6 BK170.out) | ((with_reducible refine gate_callee (f := 27) rfl ?_); refine goesL_ (some 13) rfl rfl Try.func27 (by kernel_rfl) rfl #[.pointer (some ⟨g, 0, none⟩), .int .i64 a1_5] rfl q51t ?_; (with_reducible refine (spec_l1Below.calls g s0_0 s0_1 s0_2 a1_5 t172 t173 t174 w0 _ ?side1 ?side2 A3.out).mono ?_); (case side1 => repeat (first | (with_reducible first | exact HI0.out | apply IsS67.alloc | apply IsS67.drewN | apply IsS67.drew | apply IsS67.set_1 | apply IsS67.set_2 | refine IsS67.far ?_ (Aside0.out q83t) _) | exact HI0.out)); (case side2 => repeat (first | (with_reducible first | exact HB.out | apply below_alloc | apply pw_below_drewN | apply below_drew1 | refine below_set ?_ (IsS67.ge HI0.out) | refine below_set ?_ (Aside0.out q83t)) | exact HB.out)); rintro e w102 ⟨rfl, hi, hb, hk⟩; refine ⟨_, rfl, ?_⟩; replace BK170 := kbb BK170 hk NB170_0.out q87t; replace BK171 := kbb BK171 hk NB171_0.out q87t; replace HK := Aside0.mk (KeepBut.trans q28t hk (.inl rfl)); replace HB := Aside0.mk (hb); replace HI0 := Aside0.mk (hi); (try clear hb); (try clear hb2); (try clear hk); (try clear hi)) | ((with_reducible refine gate_callee (f := 36) rfl ?_); refine goesL_ (some 15) rfl rfl Try.func36 (by kernel_rfl) rfl #[.int .i64 (wrap64 (1 + t172))] rfl q51t ?_; (with_reducible refine (spec_NodeNew.calls (wrap64 (1 + t172)) t175 t176 t177 t178 t179 t180 t181 t182 t183 t186 t187 t188 t191 _ A4.out).mono ?_); rintro e w103 ⟨v184, v189, v192, rfl, ho0, ho1, ho2, hb⟩; refine ⟨_, rfl, ?_⟩; have HO185 := Aside0.mk (Kd.R_lower ho0 (keep_size (w := w) (g := g) (row := none) q28t)); have HO190 := Aside0.mk (Kd.R_lower ho1 (keep_size (w := w) (g := g) (row := none) q28t)); have HO193 := Aside0.mk (Kd.R_lower ho2 (keep_size (w := w) (g := g) (row := none) q28t)); replace BK170 := blb BK170 hb; replace BK171 := blb BK171 hb; replace HK := Aside0.mk (KeepBut.trans q28t (KeepBut.of_below hb g none) (.inl rfl)); replace HB := Aside0.mk (below_step q22t hb); replace HI0 := Aside0.mk (IsS67.below q23t hb); (try clear hb); (try clear hb2); (try clear hk); (try clear hi); (try clear ho0); (try clear ho1); (try clear ho2)) | ((with_reducible refine gate_dst (N := 5) rfl ?_); refine box_ev 5 #[.int .i64 0, .int .i64 0, .int .i64 0, .int .i64 0, .int .i64 0, .int .i64 0, .int .i64 0, .int .i64 0, .slice none 0 0, .int .i64 0, .int .i64 0, .slice none 0 0, .slice none 0 0] 48 ?_; intro gb194 hg w104 hbox hb; replace HO185 := Aside0.mk (Kd.R_below (by (with_reducible repeat (first | apply Kd.R_alloc | apply Kd.R_drewN | apply Kd.R_drew)); exact HO185.out) hb); replace HO190 := Aside0.mk (Kd.R_below (by (with_reducible repeat (first | apply Kd.R_alloc | apply Kd.R_drewN | apply Kd.R_drew)); exact HO190.out) hb); replace HO193 := Aside0.mk (Kd.R_below (by (with_reducible repeat (first | apply Kd.R_alloc | apply Kd.R_drewN | apply Kd.R_drew)); exact HO193.out) hb); replace HB := Aside0.mk (below_step q22t hb); have BK194 := Aside0.mk (hbox); have GW194 := Aside0.mk ((q11t : w.heap.size ≤ gb194)); have GE194 := Aside0.mk ((Nat.le_trans HW0.out (q11t : w.heap.size ≤ gb194) : w0.heap.size ≤ gb194)); replace HK := Aside0.mk (KeepBut.trans q28t (KeepBut.of_below hb g none) (.inl rfl)); have NB170_194 := Aside0.mk ((by rw [hg]; exact Nat.ne_of_lt (blk_lt (qbk BK170)) : gb170 ≠ gb194)); have NB194_170 := Aside0.mk ((by rw [hg]; exact Nat.ne_of_gt (blk_lt (qbk BK170)) : gb194 ≠ gb170)); replace BK170 := blb BK170 hb; have NB171_194 := Aside0.mk ((by rw [hg]; exact Nat.ne_of_lt (blk_lt (qbk BK171)) : gb171 ≠ gb194)); have NB194_171 := Aside0.mk ((by rw [hg]; exact Nat.ne_of_gt (blk_lt (qbk BK171)) : gb194 ≠ gb171)); replace BK171 := blb BK171 hb; have NB0_194 := Aside0.mk ((by rw [hg]; exact Nat.ne_of_lt (IsS67.lt (show IsS67 w0 _ g s0_0 t173 t174 from by repeat (first | (with_reducible first | exact HI0.out | apply IsS67.alloc | apply IsS67.drewN | apply IsS67.drew | apply IsS67.set_1 | apply IsS67.set_2 | refine IsS67.far ?_ (Aside0.out q83t) _) | exact HI0.out))) : g ≠ gb194)); have NB194_0 := Aside0.mk ((by rw [hg]; exact Nat.ne_of_gt (IsS67.lt (show IsS67 w0 _ g s0_0 t173 t174 from by repeat (first | (with_reducible first | exact HI0.out | apply IsS67.alloc | apply IsS67.drewN | apply IsS67.drew | apply IsS67.set_1 | apply IsS67.set_2 | refine IsS67.far ?_ (Aside0.out q83t) _) | exact HI0.out))) : gb194 ≠ g)); replace HI0 := Aside0.mk (IsS67.below q23t hb); clear hb hbox hg; have hnb105 := NB194_170.out; have hnc105 := NB170_194.out; have hnb106 := NB194_171.out; have hnc106 := NB171_194.out; have hnb107 := NB194_0.out; have hnc107 := NB0_194.out; obtain ⟨hcz108_0, hcz108_1, hcz108_2, hcz108_3, hcz108_4, hcz108_5, hcz108_6, hcz108_7, hcz108_8, hcz108_9, hcz108_10, hcz108_11, hcz108_12⟩ := qc13 BK194.out; obtain ⟨hfz108_0, hfz108_1, hfz108_2, hfz108_3, hfz108_4, hfz108_5, hfz108_6, hfz108_7, hfz108_8, hfz108_9, hfz108_10, hfz108_11, hfz108_12⟩ := qf13 BK194.out; obtain ⟨Ao109, co109, eo109⟩ := Kd.R_slice HO185.out; subst eo109; obtain ⟨Ao110, co110, eo110⟩ := Kd.R_slice HO190.out; subst eo110; obtain ⟨Ao111, co111, eo111⟩ := Kd.R_slice HO193.out; subst eo111) | ((with_reducible refine gate_callee (f := 27) rfl ?_); refine goesL_ (some 17) rfl rfl Try.func27 (by kernel_rfl) rfl #[.pointer (some ⟨g, 0, none⟩), .int .i64 4] rfl q51t ?_; (with_reducible refine (spec_l1Below.calls g s0_0 t173 t174 4 t195 t196 t197 w0 _ ?side1 ?side2 A5.out).mono ?_); (case side1 => repeat (first | (with_reducible first | exact HI0.out | apply IsS67.alloc | apply IsS67.drewN | apply IsS67.drew | apply IsS67.set_1 | apply IsS67.set_2 | refine IsS67.far ?_ (Aside0.out q83t) _) | exact HI0.out)); (case side2 => repeat (first | (with_reducible first | exact HB.out | apply below_alloc | apply pw_below_drewN | apply below_drew1 | refine below_set ?_ (IsS67.ge HI0.out) | refine below_set ?_ (Aside0.out q83t)) | exact HB.out)); rintro e w112 ⟨rfl, hi, hb, hk⟩; refine ⟨_, rfl, ?_⟩; replace BK170 := Aside0.mk (KeepBut.blk hk (g' := gb170) (o := .cells #[.int .i64 a1_0, .int .i64 a1_1, .int .i64 a1_2, .int .i64 a1_3, .int .i64 a1_4, .int .i64 a1_5] 33 (0, 0)) (by (with_reducible repeat (first | refine blk_drewN ?_ _ | refine blk_drew ?_ | refine blk_alloc ?_ _)); refine blk_far ?_ NB170_194.out _; (with_reducible repeat (first | refine blk_drewN ?_ _ | refine blk_drew ?_ | refine blk_alloc ?_ _)); refine blk_far ?_ NB170_194.out _; (with_reducible repeat (first | refine blk_drewN ?_ _ | refine blk_drew ?_ | refine blk_alloc ?_ _)); refine blk_far ?_ NB170_194.out _; (with_reducible repeat (first | refine blk_drewN ?_ _ | refine blk_drew ?_ | refine blk_alloc ?_ _)); refine blk_far ?_ NB170_194.out _; (with_reducible repeat (first | refine blk_drewN ?_ _ | refine blk_drew ?_ | refine blk_alloc ?_ _)); refine blk_far ?_ NB170_194.out _; (with_reducible repeat (first | refine blk_drewN ?_ _ | refine blk_drew ?_ | refine blk_alloc ?_ _)); refine blk_far ?_ NB170_194.out _; (with_reducible repeat (first | refine blk_drewN ?_ _ | refine blk_drew ?_ | refine blk_alloc ?_ _)); refine blk_far ?_ NB170_194.out _; (with_reducible repeat (first | refine blk_drewN ?_ _ | refine blk_drew ?_ | refine blk_alloc ?_ _)); refine blk_far ?_ NB170_194.out _; (with_reducible repeat (first | refine blk_drewN ?_ _ | refine blk_drew ?_ | refine blk_alloc ?_ _)); refine blk_far ?_ NB170_194.out _; (with_reducible repeat (first | refine blk_drewN ?_ _ | refine blk_drew ?_ | refine blk_alloc ?_ _)); refine blk_far ?_ NB170_194.out _; (with_reducible repeat (first | refine blk_drewN ?_ _ | refine blk_drew ?_ | refine blk_alloc ?_ _)); refine blk_far ?_ NB170_194.out _; (with_reducible repeat (first | refine blk_drewN ?_ _ | refine blk_drew ?_ | refine blk_alloc ?_ _)); refine blk_far ?_ NB170_194.out _; (with_reducible repeat (first | refine blk_drewN ?_ _ | refine blk_drew ?_ | refine blk_alloc ?_ _)); refine blk_far ?_ NB170_194.out _; (with_reducible repeat (first | refine blk_drewN ?_ _ | refine blk_drew ?_ | refine blk_alloc ?_ _)); exact BK170.out) NB170_0.out q87t); replace BK171 := Aside0.mk (KeepBut.blk hk (g' := gb171) (o := .cells #[.int .i64 0, .int .i64 0, .int .i64 0, .int .i64 0, .int .i64 0, .int .i64 0, .int .i64 0, .int .i64 0, .slice none 0 0, .int .i64 0, .int .i64 0, .slice none 0 0, .slice none 0 0] 48 (0, 0)) (by (with_reducible repeat (first | refine blk_drewN ?_ _ | refine blk_drew ?_ | refine blk_alloc ?_ _)); refine blk_far ?_ NB171_194.out _; (with_reducible repeat (first | refine blk_drewN ?_ _ | refine blk_drew ?_ | refine blk_alloc ?_ _)); refine blk_far ?_ NB171_194.out _; (with_reducible repeat (first | refine blk_drewN ?_ _ | refine blk_drew ?_ | refine blk_alloc ?_ _)); refine blk_far ?_ NB171_194.out _; (with_reducible repeat (first | refine blk_drewN ?_ _ | refine blk_drew ?_ | refine blk_alloc ?_ _)); refine blk_far ?_ NB171_194.out _; (with_reducible repeat (first | refine blk_drewN ?_ _ | refine blk_drew ?_ | refine blk_alloc ?_ _)); refine blk_far ?_ NB171_194.out _; (with_reducible repeat (first | refine blk_drewN ?_ _ | refine blk_drew ?_ | refine blk_alloc ?_ _)); refine blk_far ?_ NB171_194.out _; (with_reducible repeat (first | refine blk_drewN ?_ _ | refine blk_drew ?_ | refine blk_alloc ?_ _)); refine blk_far ?_ NB171_194.out _; (with_reducible repeat (first | refine blk_drewN ?_ _ | refine blk_drew ?_ | refine blk_alloc ?_ _)); refine blk_far ?_ NB171_194.out _; (with_reducible repeat (first | refine blk_drewN ?_ _ | refine blk_drew ?_ | refine blk_alloc ?_ _)); refine blk_far ?_ NB171_194.out _; (with_reducible repeat (first | refine blk_drewN ?_ _ | refine blk_drew ?_ | refine blk_alloc ?_ _)); refine blk_far ?_ NB171_194.out _; (with_reducible repeat (first | refine blk_drewN ?_ _ | refine blk_drew ?_ | refine blk_alloc ?_ _)); refine blk_far ?_ NB171_194.out _; (with_reducible repeat (first | refine blk_drewN ?_ _ | refine blk_drew ?_ | refine blk_alloc ?_ _)); refine blk_far ?_ NB171_194.out _; (with_reducible repeat (first | refine blk_drewN ?_ _ | refine blk_drew ?_ | refine blk_alloc ?_ _)); refine blk_far ?_ NB171_194.out _; (with_reducible repeat (first | refine blk_drewN ?_ _ | refine blk_drew ?_ | refine blk_alloc ?_ _)); exact BK171.out) NB171_0.out q87t); replace HO185 := Aside0.mk (Kd.R_mono (Kd.R_keep (IsS67.apart (show IsS67 w0 _ g s0_0 t173 t174 from by repeat (first | (with_reducible first | exact HI0.out | apply IsS67.alloc | apply IsS67.drewN | apply IsS67.drew | apply IsS67.set_1 | apply IsS67.set_2 | refine IsS67.far ?_ (Aside0.out q83t) _) | exact HI0.out)) (by (with_reducible repeat (first | apply Kd.R_alloc | apply Kd.R_drewN | apply Kd.R_drew)); exact (Kd.R_mono (rkf (rkf (rkf (rkf (rkf (rkf (rkf (rkf (rkf (rkf (rkf (rkf (rkf (Kd.R_types HO185.out BK194.out q85t)))))))))))))) (fun _ h_ => h_.1))) q85t) hk (fun _ h => h.2)) (fun _ h => h.1)); replace HO190 := Aside0.mk (Kd.R_mono (Kd.R_keep (IsS67.apart (show IsS67 w0 _ g s0_0 t173 t174 from by repeat (first | (with_reducible first | exact HI0.out | apply IsS67.alloc | apply IsS67.drewN | apply IsS67.drew | apply IsS67.set_1 | apply IsS67.set_2 | refine IsS67.far ?_ (Aside0.out q83t) _) | exact HI0.out)) (by (with_reducible repeat (first | apply Kd.R_alloc | apply Kd.R_drewN | apply Kd.R_drew)); exact (Kd.R_mono (rkf (rkf (rkf (rkf (rkf (rkf (rkf (rkf (rkf (rkf (rkf (rkf (rkf (Kd.R_types HO190.out BK194.out q85t)))))))))))))) (fun _ h_ => h_.1))) q85t) hk (fun _ h => h.2)) (fun _ h => h.1)); replace HO193 := Aside0.mk (Kd.R_mono (Kd.R_keep (IsS67.apart (show IsS67 w0 _ g s0_0 t173 t174 from by repeat (first | (with_reducible first | exact HI0.out | apply IsS67.alloc | apply IsS67.drewN | apply IsS67.drew | apply IsS67.set_1 | apply IsS67.set_2 | refine IsS67.far ?_ (Aside0.out q83t) _) | exact HI0.out)) (by (with_reducible repeat (first | apply Kd.R_alloc | apply Kd.R_drewN | apply Kd.R_drew)); exact (Kd.R_mono (rkf (rkf (rkf (rkf (rkf (rkf (rkf (rkf (rkf (rkf (rkf (rkf (rkf (Kd.R_types HO193.out BK194.out q85t)))))))))))))) (fun _ h_ => h_.1))) q85t) hk (fun _ h => h.2)) (fun _ h => h.1)); replace BK194 := kbp BK194 hk NB194_0.out q87t; replace HK := Aside0.mk (KeepBut.trans q16t hk (.inl rfl)); replace HB := Aside0.mk (hb); replace HI0 := Aside0.mk (hi); (try clear hb); (try clear hb2); (try clear hk); (try clear hi); obtain ⟨hcz113_0, hcz113_1, hcz113_2, hcz113_3, hcz113_4, hcz113_5, hcz113_6, hcz113_7, hcz113_8, hcz113_9, hcz113_10, hcz113_11, hcz113_12⟩ := qc13 BK194.out; obtain ⟨hfz113_0, hfz113_1, hfz113_2, hfz113_3, hfz113_4, hfz113_5, hfz113_6, hfz113_7, hfz113_8, hfz113_9, hfz113_10, hfz113_11, hfz113_12⟩ := qf13 BK194.out; have hnb114 := NB171_0.out; have hnc114 := NB0_171.out; obtain ⟨hcz115_0, hcz115_1, hcz115_2, hcz115_3, hcz115_4, hcz115_5, hcz115_6, hcz115_7, hcz115_8, hcz115_9, hcz115_10, hcz115_11, hcz115_12⟩ := qc13 BK171.out; obtain ⟨hfz115_0, hfz115_1, hfz115_2, hfz115_3, hfz115_4, hfz115_5, hfz115_6, hfz115_7, hfz115_8, hfz115_9, hfz115_10, hfz115_11, hfz115_12⟩ := qf13 BK171.out))
  refine bodyPost_ret (results_cell_row rfl _ _ gb171 48 #[.int .i64 t195, .int .i64 t176, .int .i64 t177, .int .i64 t178, .int .i64 t179, .int .i64 t180, .int .i64 t181, .int .i64 t182, .slice Ao109 t183.length co109, .int .i64 t186, .int .i64 t187, .slice Ao110 t188.length co110, .slice Ao111 t191.length co111] (0, 0) _ rfl (by (with_reducible repeat (first | refine blk_drewN ?_ _ | refine blk_drew ?_ | refine blk_alloc ?_ _)); refine blk_put (cs := #[.int .i64 t195, .int .i64 t176, .int .i64 t177, .int .i64 t178, .int .i64 t179, .int .i64 t180, .int .i64 t181, .int .i64 t182, .slice Ao109 t183.length co109, .int .i64 t186, .int .i64 t187, .slice Ao110 t188.length co110, .slice none 0 0]) ?_ 12 _ rfl; (with_reducible repeat (first | refine blk_drewN ?_ _ | refine blk_drew ?_ | refine blk_alloc ?_ _)); refine blk_put (cs := #[.int .i64 t195, .int .i64 t176, .int .i64 t177, .int .i64 t178, .int .i64 t179, .int .i64 t180, .int .i64 t181, .int .i64 t182, .slice Ao109 t183.length co109, .int .i64 t186, .int .i64 t187, .slice none 0 0, .slice none 0 0]) ?_ 11 _ rfl; (with_reducible repeat (first | refine blk_drewN ?_ _ | refine blk_drew ?_ | refine blk_alloc ?_ _)); refine blk_put (cs := #[.int .i64 t195, .int .i64 t176, .int .i64 t177, .int .i64 t178, .int .i64 t179, .int .i64 t180, .int .i64 t181, .int .i64 t182, .slice Ao109 t183.length co109, .int .i64 t186, .int .i64 0, .slice none 0 0, .slice none 0 0]) ?_ 10 _ rfl; (with_reducible repeat (first | refine blk_drewN ?_ _ | refine blk_drew ?_ | refine blk_alloc ?_ _)); refine blk_put (cs := #[.int .i64 t195, .int .i64 t176, .int .i64 t177, .int .i64 t178, .int .i64 t179, .int .i64 t180, .int .i64 t181, .int .i64 t182, .slice Ao109 t183.length co109, .int .i64 0, .int .i64 0, .slice none 0 0, .slice none 0 0]) ?_ 9 _ rfl; (with_reducible repeat (first | refine blk_drewN ?_ _ | refine blk_drew ?_ | refine blk_alloc ?_ _)); refine blk_put (cs := #[.int .i64 t195, .int .i64 t176, .int .i64 t177, .int .i64 t178, .int .i64 t179, .int .i64 t180, .int .i64 t181, .int .i64 t182, .slice none 0 0, .int .i64 0, .int .i64 0, .slice none 0 0, .slice none 0 0]) ?_ 8 _ rfl; (with_reducible repeat (first | refine blk_drewN ?_ _ | refine blk_drew ?_ | refine blk_alloc ?_ _)); refine blk_put (cs := #[.int .i64 t195, .int .i64 t176, .int .i64 t177, .int .i64 t178, .int .i64 t179, .int .i64 t180, .int .i64 t181, .int .i64 0, .slice none 0 0, .int .i64 0, .int .i64 0, .slice none 0 0, .slice none 0 0]) ?_ 7 _ rfl; (with_reducible repeat (first | refine blk_drewN ?_ _ | refine blk_drew ?_ | refine blk_alloc ?_ _)); refine blk_put (cs := #[.int .i64 t195, .int .i64 t176, .int .i64 t177, .int .i64 t178, .int .i64 t179, .int .i64 t180, .int .i64 0, .int .i64 0, .slice none 0 0, .int .i64 0, .int .i64 0, .slice none 0 0, .slice none 0 0]) ?_ 6 _ rfl; (with_reducible repeat (first | refine blk_drewN ?_ _ | refine blk_drew ?_ | refine blk_alloc ?_ _)); refine blk_put (cs := #[.int .i64 t195, .int .i64 t176, .int .i64 t177, .int .i64 t178, .int .i64 t179, .int .i64 0, .int .i64 0, .int .i64 0, .slice none 0 0, .int .i64 0, .int .i64 0, .slice none 0 0, .slice none 0 0]) ?_ 5 _ rfl; (with_reducible repeat (first | refine blk_drewN ?_ _ | refine blk_drew ?_ | refine blk_alloc ?_ _)); refine blk_put (cs := #[.int .i64 t195, .int .i64 t176, .int .i64 t177, .int .i64 t178, .int .i64 0, .int .i64 0, .int .i64 0, .int .i64 0, .slice none 0 0, .int .i64 0, .int .i64 0, .slice none 0 0, .slice none 0 0]) ?_ 4 _ rfl; (with_reducible repeat (first | refine blk_drewN ?_ _ | refine blk_drew ?_ | refine blk_alloc ?_ _)); refine blk_put (cs := #[.int .i64 t195, .int .i64 t176, .int .i64 t177, .int .i64 0, .int .i64 0, .int .i64 0, .int .i64 0, .int .i64 0, .slice none 0 0, .int .i64 0, .int .i64 0, .slice none 0 0, .slice none 0 0]) ?_ 3 _ rfl; (with_reducible repeat (first | refine blk_drewN ?_ _ | refine blk_drew ?_ | refine blk_alloc ?_ _)); refine blk_put (cs := #[.int .i64 t195, .int .i64 t176, .int .i64 0, .int .i64 0, .int .i64 0, .int .i64 0, .int .i64 0, .int .i64 0, .slice none 0 0, .int .i64 0, .int .i64 0, .slice none 0 0, .slice none 0 0]) ?_ 2 _ rfl; (with_reducible repeat (first | refine blk_drewN ?_ _ | refine blk_drew ?_ | refine blk_alloc ?_ _)); refine blk_put (cs := #[.int .i64 t195, .int .i64 0, .int .i64 0, .int .i64 0, .int .i64 0, .int .i64 0, .int .i64 0, .int .i64 0, .slice none 0 0, .int .i64 0, .int .i64 0, .slice none 0 0, .slice none 0 0]) ?_ 1 _ rfl; (with_reducible repeat (first | refine blk_drewN ?_ _ | refine blk_drew ?_ | refine blk_alloc ?_ _)); refine blk_put (cs := #[.int .i64 0, .int .i64 0, .int .i64 0, .int .i64 0, .int .i64 0, .int .i64 0, .int .i64 0, .int .i64 0, .slice none 0 0, .int .i64 0, .int .i64 0, .slice none 0 0, .slice none 0 0]) ?_ 0 _ rfl; (with_reducible repeat (first | refine blk_drewN ?_ _ | refine blk_drew ?_ | refine blk_alloc ?_ _)); refine blk_far ?_ NB171_194.out _; (with_reducible repeat (first | refine blk_drewN ?_ _ | refine blk_drew ?_ | refine blk_alloc ?_ _)); exact BK171.out) Try.underlying48 rfl (by kernel_rfl)) rfl ?_
  exact ⟨_, _, _, q73t, (by (with_reducible repeat (first | apply Kd.R_alloc | apply Kd.R_drewN | apply Kd.R_drew)); exact Kd.R_mono (rkf (rkf (rkf (rkf (rkf (rkf (rkf (rkf (rkf (rkf (rkf (rkf (rkf (Kd.R_far (Kd.R_types (Kd.R_types HO185.out BK194.out q85t) BK171.out q85t) (fun _ hk => hk.1.2) _)))))))))))))) (fun _ hk => hk.1.1)), (by (with_reducible repeat (first | apply Kd.R_alloc | apply Kd.R_drewN | apply Kd.R_drew)); exact Kd.R_mono (rkf (rkf (rkf (rkf (rkf (rkf (rkf (rkf (rkf (rkf (rkf (rkf (rkf (Kd.R_far (Kd.R_types (Kd.R_types HO190.out BK194.out q85t) BK171.out q85t) (fun _ hk => hk.1.2) _)))))))))))))) (fun _ hk => trivial)), (by (with_reducible repeat (first | apply Kd.R_alloc | apply Kd.R_drewN | apply Kd.R_drew)); exact Kd.R_mono (rkf (rkf (rkf (rkf (rkf (rkf (rkf (rkf (rkf (rkf (rkf (rkf (rkf (Kd.R_far (Kd.R_types (Kd.R_types HO193.out BK194.out q85t) BK171.out q85t) (fun _ hk => hk.1.2) _)))))))))))))) (fun _ hk => hk.1.1)), q23t, q22t, q16t⟩
 rw [if_pos c6] at H
 have c6b0 : (t195 == 1) = true := beq_iff_eq.mpr c6
 have c6b1 : (t195 != 1) = false := bne_eq_false_iff_eq.mpr c6
 clear c6
 replace H := Option.bind_eq_some_iff.mp H
 obtain ⟨⟨t198, t199, t200⟩, A70, H⟩ := H
 try dsimp only at H
 have A7 := Aside0.mk A70
 clear A70
 replace H := Option.bind_eq_some_iff.mp H
 obtain ⟨⟨t201, t202, t203⟩, A80, H⟩ := H
 try dsimp only at H
 have A8 := Aside0.mk A80
 clear A80
 have H' := Aside0.mk H
 clear H
 go_enter Try.func46, Try.ntmps46
 go_wp2_with (first | ((with_reducible refine gate_dst (N := 3) rfl ?_); refine box_ev 3 #[.int .i64 a1_0, .int .i64 a1_1, .int .i64 a1_2, .int .i64 a1_3, .int .i64 a1_4, .int .i64 a1_5] 33 ?_; intro gb170 hg w9 hbox hb; replace HB := Aside0.mk (below_step q45t hb); have BK170 := Aside0.mk (hbox); have GW170 := Aside0.mk ((q32t : w.heap.size ≤ gb170)); have GE170 := Aside0.mk ((Nat.le_trans HW0.out (q32t : w.heap.size ≤ gb170) : w0.heap.size ≤ gb170)); replace HK := Aside0.mk (KeepBut.trans q49t (KeepBut.of_below hb g none) (.inl rfl)); have NB0_170 := Aside0.mk ((q14t : g ≠ gb170)); have NB170_0 := Aside0.mk ((q15t : gb170 ≠ g)); replace HI0 := Aside0.mk (IsS67.below q46t hb); clear hb hbox hg) | ((with_reducible refine gate_dst (N := 4) rfl ?_); refine box_ev 4 #[.int .i64 0, .int .i64 0, .int .i64 0, .int .i64 0, .int .i64 0, .int .i64 0, .int .i64 0, .int .i64 0, .slice none 0 0, .int .i64 0, .int .i64 0, .slice none 0 0, .slice none 0 0] 48 ?_; intro gb171 hg w10 hbox hb; replace HB := Aside0.mk (below_step q22t hb); have BK171 := Aside0.mk (hbox); have GW171 := Aside0.mk ((q17t : w.heap.size ≤ gb171)); have GE171 := Aside0.mk ((Nat.le_trans HW0.out (q17t : w.heap.size ≤ gb171) : w0.heap.size ≤ gb171)); replace HK := Aside0.mk (KeepBut.trans q37t (KeepBut.of_below hb g none) (.inl rfl)); have NB170_171 := Aside0.mk ((by rw [hg]; exact Nat.ne_of_lt (blk_lt (qbk BK170)) : gb170 ≠ gb171)); have NB171_170 := Aside0.mk ((by rw [hg]; exact Nat.ne_of_gt (blk_lt (qbk BK170)) : gb171 ≠ gb170)); replace BK170 := blb BK170 hb; have NB0_171 := Aside0.mk ((q3t : g ≠ gb171)); have NB171_0 := Aside0.mk ((q4t : gb171 ≠ g)); replace HI0 := Aside0.mk (IsS67.below q23t hb); clear hb hbox hg; have hnb11 := NB170_171.out; have hnc11 := NB171_170.out; have hnb12 := NB170_0.out; have hnc12 := NB0_170.out; obtain ⟨hcz13_0, hcz13_1, hcz13_2, hcz13_3, hcz13_4, hcz13_5⟩ := qc6 BK170.out; obtain ⟨hfz13_0, hfz13_1, hfz13_2, hfz13_3, hfz13_4, hfz13_5⟩ := qf6 BK170.out) | ((with_reducible refine gate_callee (f := 27) rfl ?_); refine goesL_ (some 13) rfl rfl Try.func27 (by kernel_rfl) rfl #[.pointer (some ⟨g, 0, none⟩), .int .i64 a1_5] rfl q51t ?_; (with_reducible refine (spec_l1Below.calls g s0_0 s0_1 s0_2 a1_5 t172 t173 t174 w0 _ ?side1 ?side2 A3.out).mono ?_); (case side1 => repeat (first | (with_reducible first | exact HI0.out | apply IsS67.alloc | apply IsS67.drewN | apply IsS67.drew | apply IsS67.set_1 | apply IsS67.set_2 | refine IsS67.far ?_ (Aside0.out q83t) _) | exact HI0.out)); (case side2 => repeat (first | (with_reducible first | exact HB.out | apply below_alloc | apply pw_below_drewN | apply below_drew1 | refine below_set ?_ (IsS67.ge HI0.out) | refine below_set ?_ (Aside0.out q83t)) | exact HB.out)); rintro e w14 ⟨rfl, hi, hb, hk⟩; refine ⟨_, rfl, ?_⟩; replace BK170 := kbb BK170 hk NB170_0.out q87t; replace BK171 := kbb BK171 hk NB171_0.out q87t; replace HK := Aside0.mk (KeepBut.trans q28t hk (.inl rfl)); replace HB := Aside0.mk (hb); replace HI0 := Aside0.mk (hi); (try clear hb); (try clear hb2); (try clear hk); (try clear hi)) | ((with_reducible refine gate_callee (f := 36) rfl ?_); refine goesL_ (some 15) rfl rfl Try.func36 (by kernel_rfl) rfl #[.int .i64 (wrap64 (1 + t172))] rfl q51t ?_; (with_reducible refine (spec_NodeNew.calls (wrap64 (1 + t172)) t175 t176 t177 t178 t179 t180 t181 t182 t183 t186 t187 t188 t191 _ A4.out).mono ?_); rintro e w15 ⟨v184, v189, v192, rfl, ho0, ho1, ho2, hb⟩; refine ⟨_, rfl, ?_⟩; have HO185 := Aside0.mk (Kd.R_lower ho0 (keep_size (w := w) (g := g) (row := none) q28t)); have HO190 := Aside0.mk (Kd.R_lower ho1 (keep_size (w := w) (g := g) (row := none) q28t)); have HO193 := Aside0.mk (Kd.R_lower ho2 (keep_size (w := w) (g := g) (row := none) q28t)); replace BK170 := blb BK170 hb; replace BK171 := blb BK171 hb; replace HK := Aside0.mk (KeepBut.trans q28t (KeepBut.of_below hb g none) (.inl rfl)); replace HB := Aside0.mk (below_step q22t hb); replace HI0 := Aside0.mk (IsS67.below q23t hb); (try clear hb); (try clear hb2); (try clear hk); (try clear hi); (try clear ho0); (try clear ho1); (try clear ho2)) | ((with_reducible refine gate_dst (N := 5) rfl ?_); refine box_ev 5 #[.int .i64 0, .int .i64 0, .int .i64 0, .int .i64 0, .int .i64 0, .int .i64 0, .int .i64 0, .int .i64 0, .slice none 0 0, .int .i64 0, .int .i64 0, .slice none 0 0, .slice none 0 0] 48 ?_; intro gb194 hg w16 hbox hb; replace HO185 := Aside0.mk (Kd.R_below (by (with_reducible repeat (first | apply Kd.R_alloc | apply Kd.R_drewN | apply Kd.R_drew)); exact HO185.out) hb); replace HO190 := Aside0.mk (Kd.R_below (by (with_reducible repeat (first | apply Kd.R_alloc | apply Kd.R_drewN | apply Kd.R_drew)); exact HO190.out) hb); replace HO193 := Aside0.mk (Kd.R_below (by (with_reducible repeat (first | apply Kd.R_alloc | apply Kd.R_drewN | apply Kd.R_drew)); exact HO193.out) hb); replace HB := Aside0.mk (below_step q22t hb); have BK194 := Aside0.mk (hbox); have GW194 := Aside0.mk ((q11t : w.heap.size ≤ gb194)); have GE194 := Aside0.mk ((Nat.le_trans HW0.out (q11t : w.heap.size ≤ gb194) : w0.heap.size ≤ gb194)); replace HK := Aside0.mk (KeepBut.trans q28t (KeepBut.of_below hb g none) (.inl rfl)); have NB170_194 := Aside0.mk ((by rw [hg]; exact Nat.ne_of_lt (blk_lt (qbk BK170)) : gb170 ≠ gb194)); have NB194_170 := Aside0.mk ((by rw [hg]; exact Nat.ne_of_gt (blk_lt (qbk BK170)) : gb194 ≠ gb170)); replace BK170 := blb BK170 hb; have NB171_194 := Aside0.mk ((by rw [hg]; exact Nat.ne_of_lt (blk_lt (qbk BK171)) : gb171 ≠ gb194)); have NB194_171 := Aside0.mk ((by rw [hg]; exact Nat.ne_of_gt (blk_lt (qbk BK171)) : gb194 ≠ gb171)); replace BK171 := blb BK171 hb; have NB0_194 := Aside0.mk ((by rw [hg]; exact Nat.ne_of_lt (IsS67.lt (show IsS67 w0 _ g s0_0 t173 t174 from by repeat (first | (with_reducible first | exact HI0.out | apply IsS67.alloc | apply IsS67.drewN | apply IsS67.drew | apply IsS67.set_1 | apply IsS67.set_2 | refine IsS67.far ?_ (Aside0.out q83t) _) | exact HI0.out))) : g ≠ gb194)); have NB194_0 := Aside0.mk ((by rw [hg]; exact Nat.ne_of_gt (IsS67.lt (show IsS67 w0 _ g s0_0 t173 t174 from by repeat (first | (with_reducible first | exact HI0.out | apply IsS67.alloc | apply IsS67.drewN | apply IsS67.drew | apply IsS67.set_1 | apply IsS67.set_2 | refine IsS67.far ?_ (Aside0.out q83t) _) | exact HI0.out))) : gb194 ≠ g)); replace HI0 := Aside0.mk (IsS67.below q23t hb); clear hb hbox hg; have hnb17 := NB194_170.out; have hnc17 := NB170_194.out; have hnb18 := NB194_171.out; have hnc18 := NB171_194.out; have hnb19 := NB194_0.out; have hnc19 := NB0_194.out; obtain ⟨hcz20_0, hcz20_1, hcz20_2, hcz20_3, hcz20_4, hcz20_5, hcz20_6, hcz20_7, hcz20_8, hcz20_9, hcz20_10, hcz20_11, hcz20_12⟩ := qc13 BK194.out; obtain ⟨hfz20_0, hfz20_1, hfz20_2, hfz20_3, hfz20_4, hfz20_5, hfz20_6, hfz20_7, hfz20_8, hfz20_9, hfz20_10, hfz20_11, hfz20_12⟩ := qf13 BK194.out; obtain ⟨Ao21, co21, eo21⟩ := Kd.R_slice HO185.out; subst eo21; obtain ⟨Ao22, co22, eo22⟩ := Kd.R_slice HO190.out; subst eo22; obtain ⟨Ao23, co23, eo23⟩ := Kd.R_slice HO193.out; subst eo23) | ((with_reducible refine gate_callee (f := 27) rfl ?_); refine goesL_ (some 17) rfl rfl Try.func27 (by kernel_rfl) rfl #[.pointer (some ⟨g, 0, none⟩), .int .i64 4] rfl q51t ?_; (with_reducible refine (spec_l1Below.calls g s0_0 t173 t174 4 t195 t196 t197 w0 _ ?side1 ?side2 A5.out).mono ?_); (case side1 => repeat (first | (with_reducible first | exact HI0.out | apply IsS67.alloc | apply IsS67.drewN | apply IsS67.drew | apply IsS67.set_1 | apply IsS67.set_2 | refine IsS67.far ?_ (Aside0.out q83t) _) | exact HI0.out)); (case side2 => repeat (first | (with_reducible first | exact HB.out | apply below_alloc | apply pw_below_drewN | apply below_drew1 | refine below_set ?_ (IsS67.ge HI0.out) | refine below_set ?_ (Aside0.out q83t)) | exact HB.out)); rintro e w24 ⟨rfl, hi, hb, hk⟩; refine ⟨_, rfl, ?_⟩; replace BK170 := Aside0.mk (KeepBut.blk hk (g' := gb170) (o := .cells #[.int .i64 a1_0, .int .i64 a1_1, .int .i64 a1_2, .int .i64 a1_3, .int .i64 a1_4, .int .i64 a1_5] 33 (0, 0)) (by (with_reducible repeat (first | refine blk_drewN ?_ _ | refine blk_drew ?_ | refine blk_alloc ?_ _)); refine blk_far ?_ NB170_194.out _; (with_reducible repeat (first | refine blk_drewN ?_ _ | refine blk_drew ?_ | refine blk_alloc ?_ _)); refine blk_far ?_ NB170_194.out _; (with_reducible repeat (first | refine blk_drewN ?_ _ | refine blk_drew ?_ | refine blk_alloc ?_ _)); refine blk_far ?_ NB170_194.out _; (with_reducible repeat (first | refine blk_drewN ?_ _ | refine blk_drew ?_ | refine blk_alloc ?_ _)); refine blk_far ?_ NB170_194.out _; (with_reducible repeat (first | refine blk_drewN ?_ _ | refine blk_drew ?_ | refine blk_alloc ?_ _)); refine blk_far ?_ NB170_194.out _; (with_reducible repeat (first | refine blk_drewN ?_ _ | refine blk_drew ?_ | refine blk_alloc ?_ _)); refine blk_far ?_ NB170_194.out _; (with_reducible repeat (first | refine blk_drewN ?_ _ | refine blk_drew ?_ | refine blk_alloc ?_ _)); refine blk_far ?_ NB170_194.out _; (with_reducible repeat (first | refine blk_drewN ?_ _ | refine blk_drew ?_ | refine blk_alloc ?_ _)); refine blk_far ?_ NB170_194.out _; (with_reducible repeat (first | refine blk_drewN ?_ _ | refine blk_drew ?_ | refine blk_alloc ?_ _)); refine blk_far ?_ NB170_194.out _; (with_reducible repeat (first | refine blk_drewN ?_ _ | refine blk_drew ?_ | refine blk_alloc ?_ _)); refine blk_far ?_ NB170_194.out _; (with_reducible repeat (first | refine blk_drewN ?_ _ | refine blk_drew ?_ | refine blk_alloc ?_ _)); refine blk_far ?_ NB170_194.out _; (with_reducible repeat (first | refine blk_drewN ?_ _ | refine blk_drew ?_ | refine blk_alloc ?_ _)); refine blk_far ?_ NB170_194.out _; (with_reducible repeat (first | refine blk_drewN ?_ _ | refine blk_drew ?_ | refine blk_alloc ?_ _)); refine blk_far ?_ NB170_194.out _; (with_reducible repeat (first | refine blk_drewN ?_ _ | refine blk_drew ?_ | refine blk_alloc ?_ _)); exact BK170.out) NB170_0.out q87t); replace BK171 := Aside0.mk (KeepBut.blk hk (g' := gb171) (o := .cells #[.int .i64 0, .int .i64 0, .int .i64 0, .int .i64 0, .int .i64 0, .int .i64 0, .int .i64 0, .int .i64 0, .slice none 0 0, .int .i64 0, .int .i64 0, .slice none 0 0, .slice none 0 0] 48 (0, 0)) (by (with_reducible repeat (first | refine blk_drewN ?_ _ | refine blk_drew ?_ | refine blk_alloc ?_ _)); refine blk_far ?_ NB171_194.out _; (with_reducible repeat (first | refine blk_drewN ?_ _ | refine blk_drew ?_ | refine blk_alloc ?_ _)); refine blk_far ?_ NB171_194.out _; (with_reducible repeat (first | refine blk_drewN ?_ _ | refine blk_drew ?_ | refine blk_alloc ?_ _)); refine blk_far ?_ NB171_194.out _; (with_reducible repeat (first | refine blk_drewN ?_ _ | refine blk_drew ?_ | refine blk_alloc ?_ _)); refine blk_far ?_ NB171_194.out _; (with_reducible repeat (first | refine blk_drewN ?_ _ | refine blk_drew ?_ | refine blk_alloc ?_ _)); refine blk_far ?_ NB171_194.out _; (with_reducible repeat (first | refine blk_drewN ?_ _ | refine blk_drew ?_ | refine blk_alloc ?_ _)); refine blk_far ?_ NB171_194.out _; (with_reducible repeat (first | refine blk_drewN ?_ _ | refine blk_drew ?_ | refine blk_alloc ?_ _)); refine blk_far ?_ NB171_194.out _; (with_reducible repeat (first | refine blk_drewN ?_ _ | refine blk_drew ?_ | refine blk_alloc ?_ _)); refine blk_far ?_ NB171_194.out _; (with_reducible repeat (first | refine blk_drewN ?_ _ | refine blk_drew ?_ | refine blk_alloc ?_ _)); refine blk_far ?_ NB171_194.out _; (with_reducible repeat (first | refine blk_drewN ?_ _ | refine blk_drew ?_ | refine blk_alloc ?_ _)); refine blk_far ?_ NB171_194.out _; (with_reducible repeat (first | refine blk_drewN ?_ _ | refine blk_drew ?_ | refine blk_alloc ?_ _)); refine blk_far ?_ NB171_194.out _; (with_reducible repeat (first | refine blk_drewN ?_ _ | refine blk_drew ?_ | refine blk_alloc ?_ _)); refine blk_far ?_ NB171_194.out _; (with_reducible repeat (first | refine blk_drewN ?_ _ | refine blk_drew ?_ | refine blk_alloc ?_ _)); refine blk_far ?_ NB171_194.out _; (with_reducible repeat (first | refine blk_drewN ?_ _ | refine blk_drew ?_ | refine blk_alloc ?_ _)); exact BK171.out) NB171_0.out q87t); replace HO185 := Aside0.mk (Kd.R_mono (Kd.R_keep (IsS67.apart (show IsS67 w0 _ g s0_0 t173 t174 from by repeat (first | (with_reducible first | exact HI0.out | apply IsS67.alloc | apply IsS67.drewN | apply IsS67.drew | apply IsS67.set_1 | apply IsS67.set_2 | refine IsS67.far ?_ (Aside0.out q83t) _) | exact HI0.out)) (by (with_reducible repeat (first | apply Kd.R_alloc | apply Kd.R_drewN | apply Kd.R_drew)); exact (Kd.R_mono (rkf (rkf (rkf (rkf (rkf (rkf (rkf (rkf (rkf (rkf (rkf (rkf (rkf (Kd.R_types HO185.out BK194.out q85t)))))))))))))) (fun _ h_ => h_.1))) q85t) hk (fun _ h => h.2)) (fun _ h => h.1)); replace HO190 := Aside0.mk (Kd.R_mono (Kd.R_keep (IsS67.apart (show IsS67 w0 _ g s0_0 t173 t174 from by repeat (first | (with_reducible first | exact HI0.out | apply IsS67.alloc | apply IsS67.drewN | apply IsS67.drew | apply IsS67.set_1 | apply IsS67.set_2 | refine IsS67.far ?_ (Aside0.out q83t) _) | exact HI0.out)) (by (with_reducible repeat (first | apply Kd.R_alloc | apply Kd.R_drewN | apply Kd.R_drew)); exact (Kd.R_mono (rkf (rkf (rkf (rkf (rkf (rkf (rkf (rkf (rkf (rkf (rkf (rkf (rkf (Kd.R_types HO190.out BK194.out q85t)))))))))))))) (fun _ h_ => h_.1))) q85t) hk (fun _ h => h.2)) (fun _ h => h.1)); replace HO193 := Aside0.mk (Kd.R_mono (Kd.R_keep (IsS67.apart (show IsS67 w0 _ g s0_0 t173 t174 from by repeat (first | (with_reducible first | exact HI0.out | apply IsS67.alloc | apply IsS67.drewN | apply IsS67.drew | apply IsS67.set_1 | apply IsS67.set_2 | refine IsS67.far ?_ (Aside0.out q83t) _) | exact HI0.out)) (by (with_reducible repeat (first | apply Kd.R_alloc | apply Kd.R_drewN | apply Kd.R_drew)); exact (Kd.R_mono (rkf (rkf (rkf (rkf (rkf (rkf (rkf (rkf (rkf (rkf (rkf (rkf (rkf (Kd.R_types HO193.out BK194.out q85t)))))))))))))) (fun _ h_ => h_.1))) q85t) hk (fun _ h => h.2)) (fun _ h => h.1)); replace BK194 := kbp BK194 hk NB194_0.out q87t; replace HK := Aside0.mk (KeepBut.trans q16t hk (.inl rfl)); replace HB := Aside0.mk (hb); replace HI0 := Aside0.mk (hi); (try clear hb); (try clear hb2); (try clear hk); (try clear hi); obtain ⟨hcz25_0, hcz25_1, hcz25_2, hcz25_3, hcz25_4, hcz25_5, hcz25_6, hcz25_7, hcz25_8, hcz25_9, hcz25_10, hcz25_11, hcz25_12⟩ := qc13 BK194.out; obtain ⟨hfz25_0, hfz25_1, hfz25_2, hfz25_3, hfz25_4, hfz25_5, hfz25_6, hfz25_7, hfz25_8, hfz25_9, hfz25_10, hfz25_11, hfz25_12⟩ := qf13 BK194.out) | ((with_reducible refine gate_callee (f := 27) rfl ?_); refine goesL_ (some 24) rfl rfl Try.func27 (by kernel_rfl) rfl #[.pointer (some ⟨g, 0, none⟩), .int .i64 3] rfl q51t ?_; (with_reducible refine (spec_l1Below.calls g s0_0 t196 t197 3 t198 t199 t200 w0 _ ?side1 ?side2 A7.out).mono ?_); (case side1 => repeat (first | (with_reducible first | exact HI0.out | apply IsS67.alloc | apply IsS67.drewN | apply IsS67.drew | apply IsS67.set_1 | apply IsS67.set_2 | refine IsS67.far ?_ (Aside0.out q83t) _) | exact HI0.out)); (case side2 => repeat (first | (with_reducible first | exact HB.out | apply below_alloc | apply pw_below_drewN | apply below_drew1 | refine below_set ?_ (IsS67.ge HI0.out) | refine below_set ?_ (Aside0.out q83t)) | exact HB.out)); rintro e w26 ⟨rfl, hi, hb, hk⟩; refine ⟨_, rfl, ?_⟩; replace BK170 := Aside0.mk (KeepBut.blk hk (g' := gb170) (o := .cells #[.int .i64 a1_0, .int .i64 a1_1, .int .i64 a1_2, .int .i64 a1_3, .int .i64 a1_4, .int .i64 a1_5] 33 (0, 0)) q12t NB170_0.out q87t); replace BK171 := Aside0.mk (KeepBut.blk hk (g' := gb171) (o := .cells #[.int .i64 0, .int .i64 0, .int .i64 0, .int .i64 0, .int .i64 0, .int .i64 0, .int .i64 0, .int .i64 0, .slice none 0 0, .int .i64 0, .int .i64 0, .slice none 0 0, .slice none 0 0] 48 (0, 0)) q13t NB171_0.out q87t); replace HO185 := Aside0.mk (Kd.R_mono (Kd.R_keep (IsS67.apart (show IsS67 w0 _ g s0_0 t196 t197 from by repeat (first | (with_reducible first | exact HI0.out | apply IsS67.alloc | apply IsS67.drewN | apply IsS67.drew | apply IsS67.set_1 | apply IsS67.set_2 | refine IsS67.far ?_ (Aside0.out q83t) _) | exact HI0.out)) (by (with_reducible repeat (first | apply Kd.R_alloc | apply Kd.R_drewN | apply Kd.R_drew)); exact (Kd.R_mono (rkf (Kd.R_types HO185.out BK194.out q85t)) (fun _ h_ => h_.1))) q85t) hk (fun _ h => h.2)) (fun _ h => h.1)); replace HO190 := Aside0.mk (Kd.R_mono (Kd.R_keep (IsS67.apart (show IsS67 w0 _ g s0_0 t196 t197 from by repeat (first | (with_reducible first | exact HI0.out | apply IsS67.alloc | apply IsS67.drewN | apply IsS67.drew | apply IsS67.set_1 | apply IsS67.set_2 | refine IsS67.far ?_ (Aside0.out q83t) _) | exact HI0.out)) (by (with_reducible repeat (first | apply Kd.R_alloc | apply Kd.R_drewN | apply Kd.R_drew)); exact (Kd.R_mono (rkf (Kd.R_types HO190.out BK194.out q85t)) (fun _ h_ => h_.1))) q85t) hk (fun _ h => h.2)) (fun _ h => h.1)); replace HO193 := Aside0.mk (Kd.R_mono (Kd.R_keep (IsS67.apart (show IsS67 w0 _ g s0_0 t196 t197 from by repeat (first | (with_reducible first | exact HI0.out | apply IsS67.alloc | apply IsS67.drewN | apply IsS67.drew | apply IsS67.set_1 | apply IsS67.set_2 | refine IsS67.far ?_ (Aside0.out q83t) _) | exact HI0.out)) (by (with_reducible repeat (first | apply Kd.R_alloc | apply Kd.R_drewN | apply Kd.R_drew)); exact (Kd.R_mono (rkf (Kd.R_types HO193.out BK194.out q85t)) (fun _ h_ => h_.1))) q85t) hk (fun _ h => h.2)) (fun _ h => h.1)); replace BK194 := kbp BK194 hk NB194_0.out q87t; replace HK := Aside0.mk (KeepBut.trans q16t hk (.inl rfl)); replace HB := Aside0.mk (hb); replace HI0 := Aside0.mk (hi); (try clear hb); (try clear hb2); (try clear hk); (try clear hi); obtain ⟨hcz27_0, hcz27_1, hcz27_2, hcz27_3, hcz27_4, hcz27_5, hcz27_6, hcz27_7, hcz27_8, hcz27_9, hcz27_10, hcz27_11, hcz27_12⟩ := qc13 BK194.out; obtain ⟨hfz27_0, hfz27_1, hfz27_2, hfz27_3, hfz27_4, hfz27_5, hfz27_6, hfz27_7, hfz27_8, hfz27_9, hfz27_10, hfz27_11, hfz27_12⟩ := qf13 BK194.out) | ((with_reducible refine gate_callee (f := 27) rfl ?_); refine goesL_ (some 27) rfl rfl Try.func27 (by kernel_rfl) rfl #[.pointer (some ⟨g, 0, none⟩), .int .i64 3] rfl q51t ?_; (with_reducible refine (spec_l1Below.calls g s0_0 t199 t200 3 t201 t202 t203 w0 _ ?side1 ?side2 A8.out).mono ?_); (case side1 => repeat (first | (with_reducible first | exact HI0.out | apply IsS67.alloc | apply IsS67.drewN | apply IsS67.drew | apply IsS67.set_1 | apply IsS67.set_2 | refine IsS67.far ?_ (Aside0.out q83t) _) | exact HI0.out)); (case side2 => repeat (first | (with_reducible first | exact HB.out | apply below_alloc | apply pw_below_drewN | apply below_drew1 | refine below_set ?_ (IsS67.ge HI0.out) | refine below_set ?_ (Aside0.out q83t)) | exact HB.out)); rintro e w28 ⟨rfl, hi, hb, hk⟩; refine ⟨_, rfl, ?_⟩; replace BK170 := Aside0.mk (KeepBut.blk hk (g' := gb170) (o := .cells #[.int .i64 a1_0, .int .i64 a1_1, .int .i64 a1_2, .int .i64 a1_3, .int .i64 a1_4, .int .i64 a1_5] 33 (0, 0)) q12t NB170_0.out q87t); replace BK171 := Aside0.mk (KeepBut.blk hk (g' := gb171) (o := .cells #[.int .i64 0, .int .i64 0, .int .i64 0, .int .i64 0, .int .i64 0, .int .i64 0, .int .i64 0, .int .i64 0, .slice none 0 0, .int .i64 0, .int .i64 0, .slice none 0 0, .slice none 0 0] 48 (0, 0)) q13t NB171_0.out q87t); replace HO185 := Aside0.mk (Kd.R_mono (Kd.R_keep (IsS67.apart (show IsS67 w0 _ g s0_0 t199 t200 from by repeat (first | (with_reducible first | exact HI0.out | apply IsS67.alloc | apply IsS67.drewN | apply IsS67.drew | apply IsS67.set_1 | apply IsS67.set_2 | refine IsS67.far ?_ (Aside0.out q83t) _) | exact HI0.out)) (by (with_reducible repeat (first | apply Kd.R_alloc | apply Kd.R_drewN | apply Kd.R_drew)); exact (Kd.R_mono (rkf (Kd.R_types HO185.out BK194.out q85t)) (fun _ h_ => h_.1))) q85t) hk (fun _ h => h.2)) (fun _ h => h.1)); replace HO190 := Aside0.mk (Kd.R_mono (Kd.R_keep (IsS67.apart (show IsS67 w0 _ g s0_0 t199 t200 from by repeat (first | (with_reducible first | exact HI0.out | apply IsS67.alloc | apply IsS67.drewN | apply IsS67.drew | apply IsS67.set_1 | apply IsS67.set_2 | refine IsS67.far ?_ (Aside0.out q83t) _) | exact HI0.out)) (by (with_reducible repeat (first | apply Kd.R_alloc | apply Kd.R_drewN | apply Kd.R_drew)); exact (Kd.R_mono (rkf (Kd.R_types HO190.out BK194.out q85t)) (fun _ h_ => h_.1))) q85t) hk (fun _ h => h.2)) (fun _ h => h.1)); replace HO193 := Aside0.mk (Kd.R_mono (Kd.R_keep (IsS67.apart (show IsS67 w0 _ g s0_0 t199 t200 from by repeat (first | (with_reducible first | exact HI0.out | apply IsS67.alloc | apply IsS67.drewN | apply IsS67.drew | apply IsS67.set_1 | apply IsS67.set_2 | refine IsS67.far ?_ (Aside0.out q83t) _) | exact HI0.out)) (by (with_reducible repeat (first | apply Kd.R_alloc | apply Kd.R_drewN | apply Kd.R_drew)); exact (Kd.R_mono (rkf (Kd.R_types HO193.out BK194.out q85t)) (fun _ h_ => h_.1))) q85t) hk (fun _ h => h.2)) (fun _ h => h.1)); replace BK194 := kbp BK194 hk NB194_0.out q87t; replace HK := Aside0.mk (KeepBut.trans q16t hk (.inl rfl)); replace HB := Aside0.mk (hb); replace HI0 := Aside0.mk (hi); (try clear hb); (try clear hb2); (try clear hk); (try clear hi)))
 go_loopg [6] k (fun kq v6 w' => ∃ (x6_1 : Int) (x195008_1 : List Int) (u195008 : Value), v6 = .int .i64 x6_1 ∧ Aside0 (spec_l7Draw.l0 kq x6_1 s0_0 t202 t203 a1_0 a1_1 a1_2 a1_3 a1_4 a1_5 t195 t176 t198 t178 t179 t180 t181 t182 x195008_1 t186 t187 t188 t191 = some (r1, r2, r3, r4, r5, r6, r7, r8, r9, r10, r11, r12, r13, r14, r15)) ∧ Aside0 (kq ≤ k) ∧ Aside0 (Kd.R (Kd.int .i64) 3 w' w.heap.size (fun k_ => some k_ ≠ ((.slice Ao23 t191.length co23) : Value).ownBlock) u195008 x195008_1) ∧ Aside0 (Kd.R k74 74 w' w.heap.size (fun _ => True) (.slice Ao22 t188.length co22) t188) ∧ Aside0 (Kd.R (Kd.int .i64) 3 w' w.heap.size (fun k_ => some k_ ≠ (u195008 : Value).ownBlock) (.slice Ao23 t191.length co23) t191) ∧ Aside0 (w'.heap[gb170]? = some (.cells #[.int .i64 a1_0, .int .i64 a1_1, .int .i64 a1_2, .int .i64 a1_3, .int .i64 a1_4, .int .i64 a1_5] 33 (0, 0))) ∧ Aside0 (w'.heap[gb171]? = some (.cells #[.int .i64 0, .int .i64 0, .int .i64 0, .int .i64 0, .int .i64 0, .int .i64 0, .int .i64 0, .int .i64 0, (.slice none 0 0), .int .i64 0, .int .i64 0, (.slice none 0 0), (.slice none 0 0)] 48 (0, 0))) ∧ Aside0 (w'.heap[gb194]? = some (.cells #[.int .i64 t195, .int .i64 t176, .int .i64 t198, .int .i64 t178, .int .i64 t179, .int .i64 t180, .int .i64 t181, .int .i64 t182, u195008, .int .i64 t186, .int .i64 t187, (.slice Ao22 t188.length co22), (.slice Ao23 t191.length co23)] 48 (0, 0))) ∧ Aside0 (IsS67 w0 w' g s0_0 t202 t203) ∧ Aside0 (KeepBut w w' g none) ∧ Aside0 (Below w0.heap.size w0 w'))
 case atStart => exact ⟨(t201), (t183), (.slice Ao21 t183.length co21), q81t, H', ⟨Nat.le_refl _⟩, ⟨(by (with_reducible repeat (first | apply Kd.R_alloc | apply Kd.R_drewN | apply Kd.R_drew)); exact HO185.out)⟩, ⟨(by (with_reducible repeat (first | apply Kd.R_alloc | apply Kd.R_drewN | apply Kd.R_drew)); exact HO190.out)⟩, ⟨(by (with_reducible repeat (first | apply Kd.R_alloc | apply Kd.R_drewN | apply Kd.R_drew)); exact HO193.out)⟩, ⟨qbk BK170⟩, ⟨qbk BK171⟩, ⟨qbk BK194⟩, ⟨q23t⟩, ⟨q16t⟩, ⟨q22t⟩⟩
 case round =>
  clear H'
  try clear c1
  try clear c2
  try clear p2
  try clear c3
  try clear c4
  try clear c6
  try clear c6b0
  try clear c6b1
  try clear p6
  try clear c11
  try clear c12
  try clear c17
  try clear c18
  try clear c19
  try clear c27
  try clear hcz13_0 hcz13_1 hcz13_2 hcz13_3 hcz13_4 hcz13_5
  try clear hcz20_0 hcz20_1 hcz20_10 hcz20_11 hcz20_12 hcz20_2 hcz20_3 hcz20_4 hcz20_5 hcz20_6 hcz20_7 hcz20_8 hcz20_9
  try clear hcz25_0 hcz25_1 hcz25_10 hcz25_11 hcz25_12 hcz25_2 hcz25_3 hcz25_4 hcz25_5 hcz25_6 hcz25_7 hcz25_8 hcz25_9
  try clear hcz27_0 hcz27_1 hcz27_10 hcz27_11 hcz27_12 hcz27_2 hcz27_3 hcz27_4 hcz27_5 hcz27_6 hcz27_7 hcz27_8 hcz27_9
  try clear hfz13_0 hfz13_1 hfz13_2 hfz13_3 hfz13_4 hfz13_5
  try clear hfz20_0 hfz20_1 hfz20_10 hfz20_11 hfz20_12 hfz20_2 hfz20_3 hfz20_4 hfz20_5 hfz20_6 hfz20_7 hfz20_8 hfz20_9
  try clear hfz25_0 hfz25_1 hfz25_10 hfz25_11 hfz25_12 hfz25_2 hfz25_3 hfz25_4 hfz25_5 hfz25_6 hfz25_7 hfz25_8 hfz25_9
  try clear hfz27_0 hfz27_1 hfz27_10 hfz27_11 hfz27_12 hfz27_2 hfz27_3 hfz27_4 hfz27_5 hfz27_6 hfz27_7 hfz27_8 hfz27_9
  obtain ⟨x6_1, x195008_1, u195008, rfl, HA, HK1, HO_195008, HO_195011, HO_195012, BK170, BK171, BK194, HI0, HK, HB⟩ := hrel
  cases gk with
  | zero => exact absurd HA.out (by simp [spec_l7Draw.l0])
  | succ k1 =>
   have H := HA.out
   clear HA
   simp only [spec_l7Draw.l0] at H
   by_cases c29 : x6_1 > 0
   ·rw [if_pos c29] at H
    have c29b0 : decide (0 < x6_1) = true := decide_eq_true c29
    clear c29
    by_cases c30 : x195008_1.length < 17592186044416
    rotate_left
    ·rw [if_neg c30] at H
     exact absurd H q87t
    rw [if_pos c30] at H
    have LMc30 := Aside0.mk c30
    clear c30
    obtain ⟨y204, hy204⟩ : ∃ y_ : List Int, y_ = (x195008_1 ++ [wrap64 (x6_1 - 1)]) := ⟨_, rfl⟩
    replace H : (spec_l7Draw.l0 k1 (wrap64 (x6_1 - 1)) s0_0 t202 t203 a1_0 a1_1 a1_2 a1_3 a1_4 a1_5 t195 t176 t198 t178 t179 t180 t181 t182 y204 t186 t187 t188 t191) = some (r1, r2, r3, r4, r5, r6, r7, r8, r9, r10, r11, r12, r13, r14, r15) := by first | (rw [hy204]; with_reducible exact H) | (have H2_ := (Option.bind_some _ _).symm.trans H; rw [hy204]; with_reducible exact H2_) | (have H2_ := (Option.bind_some _ _).symm.trans H; with_reducible exact H2_) | with_reducible exact H | (rw [hy204]; exact H) | exact H
    have Ny204 := Aside0.mk hy204
    clear hy204
    have H' := Aside0.mk H
    clear H
    have hnb31 := NB194_170.out
    have hnc31 := NB170_194.out
    have hnb32 := NB194_171.out
    have hnc32 := NB171_194.out
    have hnb33 := NB194_0.out
    have hnc33 := NB0_194.out
    obtain ⟨hcz34_0, hcz34_1, hcz34_2, hcz34_3, hcz34_4, hcz34_5, hcz34_6, hcz34_7, hcz34_8, hcz34_9, hcz34_10, hcz34_11, hcz34_12⟩ := qc13 BK194.out
    obtain ⟨hfz34_0, hfz34_1, hfz34_2, hfz34_3, hfz34_4, hfz34_5, hfz34_6, hfz34_7, hfz34_8, hfz34_9, hfz34_10, hfz34_11, hfz34_12⟩ := qf13 BK194.out
    go_wp2_with (first | ((with_reducible refine gate_builtin (b := .append) (xs := #[.tmp 33, .tmp 36]) rfl ?_); at_builtin; refine Kd.R_append (Kd.int .i64) w.heap.size rfl (.tmp 33) (.tmp 36) 45 3 (.int .i64 0) 8 rfl Try.underlying45 info3 rfl q85t q86t u195008 x195008_1 (wrap64 (x6_1 - 1)) [.int .i64 (wrap64 (x6_1 - 1))] (fun k_ => some k_ ≠ (.slice Ao23 t191.length co23 : Value).ownBlock) (fun _ => False) rfl rfl ?aP (fun _ hk => hk.elim) ?aF ?aO (Below.refl _ _) ?aS ?aL ?_; (case aP => exact rfl); (case aF => exact (fun k_ hk => Kd.fresh' (Kd.R_lt q54t) k_ hk)); (case aO => exact q55t); (case aS => exact (keep_size (w := w) (g := g) (row := none) q16t)); (case aL => have := LMc30.out; omega); intro v205 w35 ho hb hg hat; rw [← Ny204.out] at ho; replace HO_195011 := Aside0.mk (Kd.R_over' q56t (Kd.R_typed q55t) q85t hg); replace HO_195012 := Aside0.mk (Kd.R_after (ok := (fun _ => True)) (by (with_reducible repeat (first | apply Kd.R_alloc | apply Kd.R_drewN | apply Kd.R_drew)); exact Kd.R_mono HO_195012.out (fun _ hk => ⟨trivial, hk⟩)) hg hat); replace BK170 := gbb BK170 hg (Kd.R_ne HO_195008.out BK170.out q85t); replace BK171 := gbb BK171 hg (Kd.R_ne HO_195008.out BK171.out q85t); replace BK194 := gbb BK194 hg (Kd.R_ne HO_195008.out BK194.out q85t); replace HB := Aside0.mk (below_weaken q22t HL.out hb); replace HI0 := Aside0.mk (IsS67.grown q23t hg (IsS67.own_ne HI0.out HO_195008.out q85t)); replace HK := Aside0.mk (KeepBut.trans q16t (KeepBut.of_grown hg g) (Kd.R_base2 HO_195008.out)); have HO206 := Aside0.mk (ho); clear HO_195008; clear ho hb hg hat; obtain ⟨Ao36, co36, eo36⟩ := Kd.R_slice HO206.out; subst eo36; obtain ⟨hcz37_0, hcz37_1, hcz37_2, hcz37_3, hcz37_4, hcz37_5, hcz37_6, hcz37_7, hcz37_8, hcz37_9, hcz37_10, hcz37_11, hcz37_12⟩ := qc13 BK194.out; obtain ⟨hfz37_0, hfz37_1, hfz37_2, hfz37_3, hfz37_4, hfz37_5, hfz37_6, hfz37_7, hfz37_8, hfz37_9, hfz37_10, hfz37_11, hfz37_12⟩ := qf13 BK194.out))
    go_roundg k1
    case measure => have := HK1.out; omega
    case rel => exact ⟨(wrap64 (x6_1 - 1)), (y204), (.slice Ao36 y204.length co36), q81t, H', ⟨q84t⟩, ⟨(by (with_reducible repeat (first | apply Kd.R_alloc | apply Kd.R_drewN | apply Kd.R_drew)); exact Kd.R_mono (rkf (Kd.R_types HO206.out BK194.out q85t)) (fun _ hk => hk.1))⟩, ⟨q34t⟩, ⟨(by (with_reducible repeat (first | apply Kd.R_alloc | apply Kd.R_drewN | apply Kd.R_drew)); exact Kd.R_mono (rkf (Kd.R_types HO_195012.out BK194.out q85t)) (fun _ hk => hk.1.2))⟩, ⟨q12t⟩, ⟨q13t⟩, ⟨qbp BK194⟩, ⟨q23t⟩, ⟨q16t⟩, ⟨q22t⟩⟩
   rw [if_neg c29] at H
   have c29b0 : decide (0 < x6_1) = false := decide_eq_false c29
   clear c29
   have HC38 := Aside0.mk H
   clear H
   have hnb39 := NB194_170.out
   have hnc39 := NB170_194.out
   have hnb40 := NB194_171.out
   have hnc40 := NB171_194.out
   have hnb41 := NB194_0.out
   have hnc41 := NB0_194.out
   obtain ⟨hcz42_0, hcz42_1, hcz42_2, hcz42_3, hcz42_4, hcz42_5, hcz42_6, hcz42_7, hcz42_8, hcz42_9, hcz42_10, hcz42_11, hcz42_12⟩ := qc13 BK194.out
   obtain ⟨hfz42_0, hfz42_1, hfz42_2, hfz42_3, hfz42_4, hfz42_5, hfz42_6, hfz42_7, hfz42_8, hfz42_9, hfz42_10, hfz42_11, hfz42_12⟩ := qf13 BK194.out
   obtain ⟨Ao43, co43, eo43⟩ := Kd.R_slice HO_195008.out
   subst eo43
   go_upto_if 42 with (fail)
   go_cut [] (fun wc => ∃ (kq : Nat) (x1001_37 : Int) (x1002_37 : Int) (x195009_37 : Int) (x195010_37 : Int), Aside0 (spec_l7Draw.j1 kq s0_0 x1001_37 x1002_37 a1_0 a1_1 a1_2 a1_3 a1_4 a1_5 t195 t176 t198 t178 t179 t180 t181 t182 x195008_1 x195009_37 x195010_37 t188 t191 = some (r1, r2, r3, r4, r5, r6, r7, r8, r9, r10, r11, r12, r13, r14, r15)) ∧ Aside0 (kq ≤ k1) ∧ Aside0 (Kd.R (Kd.int .i64) 3 wc w.heap.size (fun k_ => some k_ ≠ ((.slice Ao23 t191.length co23) : Value).ownBlock) (.slice Ao43 x195008_1.length co43) x195008_1) ∧ Aside0 (Kd.R k74 74 wc w.heap.size (fun _ => True) (.slice Ao22 t188.length co22) t188) ∧ Aside0 (Kd.R (Kd.int .i64) 3 wc w.heap.size (fun k_ => some k_ ≠ ((.slice Ao43 x195008_1.length co43) : Value).ownBlock) (.slice Ao23 t191.length co23) t191) ∧ Aside0 (wc.heap[gb170]? = some (.cells #[.int .i64 a1_0, .int .i64 a1_1, .int .i64 a1_2, .int .i64 a1_3, .int .i64 a1_4, .int .i64 a1_5] 33 (0, 0))) ∧ Aside0 (wc.heap[gb171]? = some (.cells #[.int .i64 0, .int .i64 0, .int .i64 0, .int .i64 0, .int .i64 0, .int .i64 0, .int .i64 0, .int .i64 0, (.slice none 0 0), .int .i64 0, .int .i64 0, (.slice none 0 0), (.slice none 0 0)] 48 (0, 0))) ∧ Aside0 (wc.heap[gb194]? = some (.cells #[.int .i64 t195, .int .i64 t176, .int .i64 t198, .int .i64 t178, .int .i64 t179, .int .i64 t180, .int .i64 t181, .int .i64 t182, (.slice Ao43 x195008_1.length co43), .int .i64 x195009_37, .int .i64 x195010_37, (.slice Ao22 t188.length co22), (.slice Ao23 t191.length co23)] 48 (0, 0))) ∧ Aside0 (IsS67 w0 wc g s0_0 x1001_37 x1002_37) ∧ Aside0 (KeepBut w wc g none) ∧ Aside0 (Below w0.heap.size w0 wc))
   case first =>
    have H := HC38.out
    clear HC38
    by_cases c44 : (x195008_1.length : Int) > 0
    rotate_left
    ·rw [if_neg c44] at H
     have c44b0 : decide (0 < (x195008_1.length : Int)) = false := decide_eq_false c44
     have c44b1 : decide (0 < x195008_1.length) = false := decide_eq_false q86t
     clear c44
     (first | rw [c44b0] | (simp only [i64_w, i32_w]; rw [c44b0]) | rw [c44b1] | skip)
     have H' := Aside0.mk H
     clear H
     go_wp2
     go_meet
     case rel => exact ⟨_, (t202), (t203), (t186), (t187), H', ⟨(by have := HK1.out; first | omega | exact Nat.le_refl _)⟩, ⟨q55t⟩, ⟨q56t⟩, ⟨q54t⟩, ⟨qbk BK170⟩, ⟨qbk BK171⟩, ⟨qbk BK194⟩, ⟨q23t⟩, ⟨q16t⟩, ⟨q22t⟩⟩
    rw [if_pos c44] at H
    have c44b0 : decide (0 < (x195008_1.length : Int)) = true := decide_eq_true c44
    have c44b1 : decide (0 < x195008_1.length) = true := decide_eq_true q86t
    clear c44
    (first | rw [c44b0] | (simp only [i64_w, i32_w]; rw [c44b0]) | rw [c44b1] | skip)
    by_cases c45 : 0 < (x195008_1.length : Int)
    rotate_left
    ·rw [if_neg c45] at H
     exact absurd H q87t
    rw [if_pos c45] at H
    have c45b0 : decide (0 < (x195008_1.length : Int)) = true := decide_eq_true c45
    have c45b1 : decide (0 < x195008_1.length) = true := decide_eq_true q86t
    clear c45
    replace H := Option.bind_eq_some_iff.mp H
    obtain ⟨⟨t208, t209, t210⟩, A460, H⟩ := H
    try dsimp only at H
    have A46 := Aside0.mk A460
    clear A460
    have H' := Aside0.mk H
    clear H
    have hnb47 := NB194_170.out
    have hnc47 := NB170_194.out
    have hnb48 := NB194_171.out
    have hnc48 := NB171_194.out
    have hnb49 := NB194_0.out
    have hnc49 := NB0_194.out
    obtain ⟨hcz50_0, hcz50_1, hcz50_2, hcz50_3, hcz50_4, hcz50_5, hcz50_6, hcz50_7, hcz50_8, hcz50_9, hcz50_10, hcz50_11, hcz50_12⟩ := qc13 BK194.out
    obtain ⟨hfz50_0, hfz50_1, hfz50_2, hfz50_3, hfz50_4, hfz50_5, hfz50_6, hfz50_7, hfz50_8, hfz50_9, hfz50_10, hfz50_11, hfz50_12⟩ := qf13 BK194.out
    have p207 : 0 ≤ (0 : Int) := (by omega)
    have q207 : 0 < (x195008_1.length : Int) := of_decide_eq_true q76t
    obtain ⟨ad207, e207, hx207_0⟩ := Kd.at_int (Kd.R_reads' HO_195008.out).2.2 0 p207 q207
    cases e207
    have qi207 : (0 < x195008_1.length) = True := eq_true q86t
    (try rw [show ((0 : Int)).toNat = 0 from rfl] at hx207_0)
    (try rw [Addr.add_zero'] at hx207_0)
    replace p207 := eq_true p207
    replace q207 := eq_true q207
    have hnb51 := NB170_171.out
    have hnc51 := NB171_170.out
    have hnb52 := NB170_0.out
    have hnc52 := NB0_170.out
    obtain ⟨hcz53_0, hcz53_1, hcz53_2, hcz53_3, hcz53_4, hcz53_5⟩ := qc6 BK170.out
    obtain ⟨hfz53_0, hfz53_1, hfz53_2, hfz53_3, hfz53_4, hfz53_5⟩ := qf6 BK170.out
    go_wp2_with (first | ((with_reducible refine gate_callee (f := 27) rfl ?_); refine goesL_ (some 53) rfl rfl Try.func27 (by kernel_rfl) rfl #[.pointer (some ⟨g, 0, none⟩), .int .i64 (wrap64 (a1_1 + 1))] rfl q51t ?_; (with_reducible refine (spec_l1Below.calls g s0_0 t202 t203 (wrap64 (a1_1 + 1)) t208 t209 t210 w0 _ ?side1 ?side2 A46.out).mono ?_); (case side1 => repeat (first | (with_reducible first | exact HI0.out | apply IsS67.alloc | apply IsS67.drewN | apply IsS67.drew | apply IsS67.set_1 | apply IsS67.set_2 | refine IsS67.far ?_ (Aside0.out q83t) _) | exact HI0.out)); (case side2 => repeat (first | (with_reducible first | exact HB.out | apply below_alloc | apply pw_below_drewN | apply below_drew1 | refine below_set ?_ (IsS67.ge HI0.out) | refine below_set ?_ (Aside0.out q83t)) | exact HB.out)); rintro e w54 ⟨rfl, hi, hb, hk⟩; refine ⟨_, rfl, ?_⟩; replace HO_195008 := Aside0.mk (Kd.R_mono (Kd.R_keep (IsS67.apart (show IsS67 w0 _ g s0_0 t202 t203 from by repeat (first | (with_reducible first | exact HI0.out | apply IsS67.alloc | apply IsS67.drewN | apply IsS67.drew | apply IsS67.set_1 | apply IsS67.set_2 | refine IsS67.far ?_ (Aside0.out q83t) _) | exact HI0.out)) (by (with_reducible repeat (first | apply Kd.R_alloc | apply Kd.R_drewN | apply Kd.R_drew)); exact (Kd.R_mono (rkf (Kd.R_types HO_195008.out BK194.out q85t)) (fun _ h_ => h_.1))) q85t) hk (fun _ h => h.2)) (fun _ h => h.1)); replace HO_195011 := Aside0.mk (Kd.R_mono (Kd.R_keep (IsS67.apart (show IsS67 w0 _ g s0_0 t202 t203 from by repeat (first | (with_reducible first | exact HI0.out | apply IsS67.alloc | apply IsS67.drewN | apply IsS67.drew | apply IsS67.set_1 | apply IsS67.set_2 | refine IsS67.far ?_ (Aside0.out q83t) _) | exact HI0.out)) (by (with_reducible repeat (first | apply Kd.R_alloc | apply Kd.R_drewN | apply Kd.R_drew)); exact (Kd.R_mono (rkf (Kd.R_types HO_195011.out BK194.out q85t)) (fun _ h_ => h_.1))) q85t) hk (fun _ h => h.2)) (fun _ h => h.1)); replace HO_195012 := Aside0.mk (Kd.R_mono (Kd.R_keep (IsS67.apart (show IsS67 w0 _ g s0_0 t202 t203 from by repeat (first | (with_reducible first | exact HI0.out | apply IsS67.alloc | apply IsS67.drewN | apply IsS67.drew | apply IsS67.set_1 | apply IsS67.set_2 | refine IsS67.far ?_ (Aside0.out q83t) _) | exact HI0.out)) (by (with_reducible repeat (first | apply Kd.R_alloc | apply Kd.R_drewN | apply Kd.R_drew)); exact (Kd.R_mono (rkf (Kd.R_types HO_195012.out BK194.out q85t)) (fun _ h_ => h_.1))) q85t) hk (fun _ h => h.2)) (fun _ h => h.1)); replace BK170 := Aside0.mk (KeepBut.blk hk (g' := gb170) (o := .cells #[.int .i64 a1_0, .int .i64 a1_1, .int .i64 a1_2, .int .i64 a1_3, .int .i64 a1_4, .int .i64 a1_5] 33 (0, 0)) q12t NB170_0.out q87t); replace BK171 := Aside0.mk (KeepBut.blk hk (g' := gb171) (o := .cells #[.int .i64 0, .int .i64 0, .int .i64 0, .int .i64 0, .int .i64 0, .int .i64 0, .int .i64 0, .int .i64 0, .slice none 0 0, .int .i64 0, .int .i64 0, .slice none 0 0, .slice none 0 0] 48 (0, 0)) q13t NB171_0.out q87t); replace BK194 := kbp BK194 hk NB194_0.out q87t; replace HK := Aside0.mk (KeepBut.trans q16t hk (.inl rfl)); replace HB := Aside0.mk (hb); replace HI0 := Aside0.mk (hi); (try clear hb); (try clear hb2); (try clear hk); (try clear hi); obtain ⟨hcz55_0, hcz55_1, hcz55_2, hcz55_3, hcz55_4, hcz55_5, hcz55_6, hcz55_7, hcz55_8, hcz55_9, hcz55_10, hcz55_11, hcz55_12⟩ := qc13 BK194.out; obtain ⟨hfz55_0, hfz55_1, hfz55_2, hfz55_3, hfz55_4, hfz55_5, hfz55_6, hfz55_7, hfz55_8, hfz55_9, hfz55_10, hfz55_11, hfz55_12⟩ := qf13 BK194.out))
    go_meet
    case rel => exact ⟨_, (t209), (t210), (wrap64 ((rd x195008_1 0) + 1)), (t208), H', ⟨(by have := HK1.out; first | omega | exact Nat.le_refl _)⟩, ⟨(by (with_reducible repeat (first | apply Kd.R_alloc | apply Kd.R_drewN | apply Kd.R_drew)); exact Kd.R_mono (rkf (Kd.R_types HO_195008.out BK194.out q85t)) (fun _ hk => hk.1))⟩, ⟨q34t⟩, ⟨(by (with_reducible repeat (first | apply Kd.R_alloc | apply Kd.R_drewN | apply Kd.R_drew)); exact Kd.R_mono (rkf (Kd.R_types HO_195012.out BK194.out q85t)) (fun _ hk => hk.1))⟩, ⟨q12t⟩, ⟨q13t⟩, ⟨qbp BK194⟩, ⟨q23t⟩, ⟨q16t⟩, ⟨q22t⟩⟩
   case rest =>
    clear HC38
    try clear c1
    try clear c2
    try clear p2
    try clear p2
    try clear q2
    try clear hx2
    try clear qi2
    try clear c3
    try clear c4
    try clear c5
    try clear c6
    try clear c6b0
    try clear c6b1
    try clear p6
    try clear p6
    try clear c11
    try clear c12
    try clear c17
    try clear c18
    try clear c19
    try clear p20
    try clear q20
    try clear hx20
    try clear qi20
    try clear c27
    try clear c29
    try clear c29b0
    try clear c30
    try clear c31
    try clear c32
    try clear c33
    try clear c36
    try clear c39
    try clear c40
    try clear c41
    try clear c44
    try clear c44b0
    try clear c44b1
    try clear c45
    try clear c45b0
    try clear c45b1
    try clear c46
    try clear c47
    try clear c48
    try clear c49
    try clear c51
    try clear c52
    try clear hcz13_0 hcz13_1 hcz13_2 hcz13_3 hcz13_4 hcz13_5
    try clear hcz20_0 hcz20_1 hcz20_10 hcz20_11 hcz20_12 hcz20_2 hcz20_3 hcz20_4 hcz20_5 hcz20_6 hcz20_7 hcz20_8 hcz20_9
    try clear hcz25_0 hcz25_1 hcz25_10 hcz25_11 hcz25_12 hcz25_2 hcz25_3 hcz25_4 hcz25_5 hcz25_6 hcz25_7 hcz25_8 hcz25_9
    try clear hcz27_0 hcz27_1 hcz27_10 hcz27_11 hcz27_12 hcz27_2 hcz27_3 hcz27_4 hcz27_5 hcz27_6 hcz27_7 hcz27_8 hcz27_9
    try clear hcz34_0 hcz34_1 hcz34_10 hcz34_11 hcz34_12 hcz34_2 hcz34_3 hcz34_4 hcz34_5 hcz34_6 hcz34_7 hcz34_8 hcz34_9
    try clear hcz37_0 hcz37_1 hcz37_10 hcz37_11 hcz37_12 hcz37_2 hcz37_3 hcz37_4 hcz37_5 hcz37_6 hcz37_7 hcz37_8 hcz37_9
    try clear hcz42_0 hcz42_1 hcz42_10 hcz42_11 hcz42_12 hcz42_2 hcz42_3 hcz42_4 hcz42_5 hcz42_6 hcz42_7 hcz42_8 hcz42_9
    try clear hcz50_0 hcz50_1 hcz50_10 hcz50_11 hcz50_12 hcz50_2 hcz50_3 hcz50_4 hcz50_5 hcz50_6 hcz50_7 hcz50_8 hcz50_9
    try clear hcz53_0 hcz53_1 hcz53_2 hcz53_3 hcz53_4 hcz53_5
    try clear hcz55_0 hcz55_1 hcz55_10 hcz55_11 hcz55_12 hcz55_2 hcz55_3 hcz55_4 hcz55_5 hcz55_6 hcz55_7 hcz55_8 hcz55_9
    try clear hfz13_0 hfz13_1 hfz13_2 hfz13_3 hfz13_4 hfz13_5
    try clear hfz20_0 hfz20_1 hfz20_10 hfz20_11 hfz20_12 hfz20_2 hfz20_3 hfz20_4 hfz20_5 hfz20_6 hfz20_7 hfz20_8 hfz20_9
    try clear hfz25_0 hfz25_1 hfz25_10 hfz25_11 hfz25_12 hfz25_2 hfz25_3 hfz25_4 hfz25_5 hfz25_6 hfz25_7 hfz25_8 hfz25_9
    try clear hfz27_0 hfz27_1 hfz27_10 hfz27_11 hfz27_12 hfz27_2 hfz27_3 hfz27_4 hfz27_5 hfz27_6 hfz27_7 hfz27_8 hfz27_9
    try clear hfz34_0 hfz34_1 hfz34_10 hfz34_11 hfz34_12 hfz34_2 hfz34_3 hfz34_4 hfz34_5 hfz34_6 hfz34_7 hfz34_8 hfz34_9
    try clear hfz37_0 hfz37_1 hfz37_10 hfz37_11 hfz37_12 hfz37_2 hfz37_3 hfz37_4 hfz37_5 hfz37_6 hfz37_7 hfz37_8 hfz37_9
    try clear hfz42_0 hfz42_1 hfz42_10 hfz42_11 hfz42_12 hfz42_2 hfz42_3 hfz42_4 hfz42_5 hfz42_6 hfz42_7 hfz42_8 hfz42_9
    try clear hfz50_0 hfz50_1 hfz50_10 hfz50_11 hfz50_12 hfz50_2 hfz50_3 hfz50_4 hfz50_5 hfz50_6 hfz50_7 hfz50_8 hfz50_9
    try clear hfz53_0 hfz53_1 hfz53_2 hfz53_3 hfz53_4 hfz53_5
    try clear hfz55_0 hfz55_1 hfz55_10 hfz55_11 hfz55_12 hfz55_2 hfz55_3 hfz55_4 hfz55_5 hfz55_6 hfz55_7 hfz55_8 hfz55_9
    try clear hx207_0
    try clear p207
    try clear q207
    obtain ⟨kq, x1001_37, x1002_37, x195009_37, x195010_37, HA, HJ37, HO_195008, HO_195011, HO_195012, BK170, BK171, BK194, HI0, HK, HB⟩ := hcut
    cases kq with
    | zero => exact absurd HA.out (by simp [spec_l7Draw.j1])
    | succ kj37 =>
     have H := HA.out
     clear HA
     simp only [spec_l7Draw.j1] at H
     replace H := Option.bind_eq_some_iff.mp H
     obtain ⟨⟨t211, t212, t213⟩, A560, H⟩ := H
     try dsimp only at H
     have A56 := Aside0.mk A560
     clear A560
     have H' := Aside0.mk H
     clear H
     go_wp2_with (first | ((with_reducible refine gate_callee (f := 27) rfl ?_); refine goesL_ (some 56) rfl rfl Try.func27 (by kernel_rfl) rfl #[.pointer (some ⟨g, 0, none⟩), .int .i64 3] rfl q51t ?_; (with_reducible refine (spec_l1Below.calls g s0_0 x1001_37 x1002_37 3 t211 t212 t213 w0 _ ?side1 ?side2 A56.out).mono ?_); (case side1 => repeat (first | (with_reducible first | exact HI0.out | apply IsS67.alloc | apply IsS67.drewN | apply IsS67.drew | apply IsS67.set_1 | apply IsS67.set_2 | refine IsS67.far ?_ (Aside0.out q83t) _) | exact HI0.out)); (case side2 => repeat (first | (with_reducible first | exact HB.out | apply below_alloc | apply pw_below_drewN | apply below_drew1 | refine below_set ?_ (IsS67.ge HI0.out) | refine below_set ?_ (Aside0.out q83t)) | exact HB.out)); rintro e w57 ⟨rfl, hi, hb, hk⟩; refine ⟨_, rfl, ?_⟩; replace HO_195008 := Aside0.mk (Kd.R_mono (Kd.R_keep (IsS67.apart (show IsS67 w0 _ g s0_0 x1001_37 x1002_37 from by repeat (first | (with_reducible first | exact HI0.out | apply IsS67.alloc | apply IsS67.drewN | apply IsS67.drew | apply IsS67.set_1 | apply IsS67.set_2 | refine IsS67.far ?_ (Aside0.out q83t) _) | exact HI0.out)) q55t q85t) hk (fun _ h => h.2)) (fun _ h => h.1)); replace HO_195011 := Aside0.mk (Kd.R_mono (Kd.R_keep (IsS67.apart (show IsS67 w0 _ g s0_0 x1001_37 x1002_37 from by repeat (first | (with_reducible first | exact HI0.out | apply IsS67.alloc | apply IsS67.drewN | apply IsS67.drew | apply IsS67.set_1 | apply IsS67.set_2 | refine IsS67.far ?_ (Aside0.out q83t) _) | exact HI0.out)) q56t q85t) hk (fun _ h => h.2)) (fun _ h => h.1)); replace HO_195012 := Aside0.mk (Kd.R_mono (Kd.R_keep (IsS67.apart (show IsS67 w0 _ g s0_0 x1001_37 x1002_37 from by repeat (first | (with_reducible first | exact HI0.out | apply IsS67.alloc | apply IsS67.drewN | apply IsS67.drew | apply IsS67.set_1 | apply IsS67.set_2 | refine IsS67.far ?_ (Aside0.out q83t) _) | exact HI0.out)) q54t q85t) hk (fun _ h => h.2)) (fun _ h => h.1)); replace BK170 := kbb BK170 hk NB170_0.out q87t; replace BK171 := kbb BK171 hk NB171_0.out q87t; replace BK194 := kbb BK194 hk NB194_0.out q87t; replace HK := Aside0.mk (KeepBut.trans q16t hk (.inl rfl)); replace HB := Aside0.mk (hb); replace HI0 := Aside0.mk (hi); (try clear hb); (try clear hb2); (try clear hk); (try clear hi)))
     go_loopg [7] kj37 (fun kq v7 w' => ∃ (x7_3 : Int) (x1001_3 : Int) (x1002_3 : Int) (x195011_3 : List (S74)) (u195011 : Value), v7 = .int .i64 x7_3 ∧ Aside0 (spec_l7Draw.l1 kq x7_3 s0_0 x1001_3 x1002_3 a1_0 a1_1 a1_2 a1_3 a1_4 a1_5 t195 t176 t198 t178 t179 t180 t181 t182 x195008_1 x195009_37 x195010_37 x195011_3 t191 = some (r1, r2, r3, r4, r5, r6, r7, r8, r9, r10, r11, r12, r13, r14, r15)) ∧ Aside0 (kq ≤ kj37) ∧ Aside0 (Kd.R (Kd.int .i64) 3 w' w.heap.size (fun k_ => some k_ ≠ ((.slice Ao23 t191.length co23) : Value).ownBlock) (.slice Ao43 x195008_1.length co43) x195008_1) ∧ Aside0 (Kd.R k74 74 w' w.heap.size (fun _ => True) u195011 x195011_3) ∧ Aside0 (Kd.R (Kd.int .i64) 3 w' w.heap.size (fun k_ => some k_ ≠ ((.slice Ao43 x195008_1.length co43) : Value).ownBlock) (.slice Ao23 t191.length co23) t191) ∧ Aside0 (w'.heap[gb170]? = some (.cells #[.int .i64 a1_0, .int .i64 a1_1, .int .i64 a1_2, .int .i64 a1_3, .int .i64 a1_4, .int .i64 a1_5] 33 (0, 0))) ∧ Aside0 (w'.heap[gb171]? = some (.cells #[.int .i64 0, .int .i64 0, .int .i64 0, .int .i64 0, .int .i64 0, .int .i64 0, .int .i64 0, .int .i64 0, (.slice none 0 0), .int .i64 0, .int .i64 0, (.slice none 0 0), (.slice none 0 0)] 48 (0, 0))) ∧ Aside0 (w'.heap[gb194]? = some (.cells #[.int .i64 t195, .int .i64 t176, .int .i64 t198, .int .i64 t178, .int .i64 t179, .int .i64 t180, .int .i64 t181, .int .i64 t182, (.slice Ao43 x195008_1.length co43), .int .i64 x195009_37, .int .i64 x195010_37, u195011, (.slice Ao23 t191.length co23)] 48 (0, 0))) ∧ Aside0 (IsS67 w0 w' g s0_0 x1001_3 x1002_3) ∧ Aside0 (KeepBut w w' g none) ∧ Aside0 (Below w0.heap.size w0 w'))
     case atStart => exact ⟨(t211), (t212), (t213), (t188), (.slice Ao22 t188.length co22), q81t, H', ⟨Nat.le_refl _⟩, ⟨q55t⟩, ⟨q56t⟩, ⟨q54t⟩, ⟨qbk BK170⟩, ⟨qbk BK171⟩, ⟨qbk BK194⟩, ⟨q23t⟩, ⟨q16t⟩, ⟨q22t⟩⟩
     case round =>
      clear H'
      try clear c1
      try clear c2
      try clear p2
      try clear p2
      try clear q2
      try clear q2
      try clear hx2
      try clear qi2
      try clear c3
      try clear c4
      try clear c5
      try clear c6
      try clear c6b0
      try clear c6b1
      try clear p6
      try clear p6
      try clear c11
      try clear c12
      try clear c17
      try clear c18
      try clear c19
      try clear p20
      try clear p20
      try clear q20
      try clear q20
      try clear hx20
      try clear qi20
      try clear c27
      try clear c29
      try clear c29b0
      try clear c30
      try clear c31
      try clear c32
      try clear c33
      try clear c36
      try clear c39
      try clear c40
      try clear c41
      try clear c44
      try clear c44b0
      try clear c44b1
      try clear c45
      try clear c45b0
      try clear c45b1
      try clear c46
      try clear c47
      try clear c48
      try clear c49
      try clear c51
      try clear c52
      try clear hcz13_0 hcz13_1 hcz13_2 hcz13_3 hcz13_4 hcz13_5
      try clear hcz20_0 hcz20_1 hcz20_10 hcz20_11 hcz20_12 hcz20_2 hcz20_3 hcz20_4 hcz20_5 hcz20_6 hcz20_7 hcz20_8 hcz20_9
      try clear hcz25_0 hcz25_1 hcz25_10 hcz25_11 hcz25_12 hcz25_2 hcz25_3 hcz25_4 hcz25_5 hcz25_6 hcz25_7 hcz25_8 hcz25_9
      try clear hcz27_0 hcz27_1 hcz27_10 hcz27_11 hcz27_12 hcz27_2 hcz27_3 hcz27_4 hcz27_5 hcz27_6 hcz27_7 hcz27_8 hcz27_9
      try clear hcz34_0 hcz34_1 hcz34_10 hcz34_11 hcz34_12 hcz34_2 hcz34_3 hcz34_4 hcz34_5 hcz34_6 hcz34_7 hcz34_8 hcz34_9
      try clear hcz37_0 hcz37_1 hcz37_10 hcz37_11 hcz37_12 hcz37_2 hcz37_3 hcz37_4 hcz37_5 hcz37_6 hcz37_7 hcz37_8 hcz37_9
      try clear hcz42_0 hcz42_1 hcz42_10 hcz42_11 hcz42_12 hcz42_2 hcz42_3 hcz42_4 hcz42_5 hcz42_6 hcz42_7 hcz42_8 hcz42_9
      try clear hcz50_0 hcz50_1 hcz50_10 hcz50_11 hcz50_12 hcz50_2 hcz50_3 hcz50_4 hcz50_5 hcz50_6 hcz50_7 hcz50_8 hcz50_9
      try clear hcz53_0 hcz53_1 hcz53_2 hcz53_3 hcz53_4 hcz53_5
      try clear hcz55_0 hcz55_1 hcz55_10 hcz55_11 hcz55_12 hcz55_2 hcz55_3 hcz55_4 hcz55_5 hcz55_6 hcz55_7 hcz55_8 hcz55_9
      try clear hfz13_0 hfz13_1 hfz13_2 hfz13_3 hfz13_4 hfz13_5
      try clear hfz20_0 hfz20_1 hfz20_10 hfz20_11 hfz20_12 hfz20_2 hfz20_3 hfz20_4 hfz20_5 hfz20_6 hfz20_7 hfz20_8 hfz20_9
      try clear hfz25_0 hfz25_1 hfz25_10 hfz25_11 hfz25_12 hfz25_2 hfz25_3 hfz25_4 hfz25_5 hfz25_6 hfz25_7 hfz25_8 hfz25_9
      try clear hfz27_0 hfz27_1 hfz27_10 hfz27_11 hfz27_12 hfz27_2 hfz27_3 hfz27_4 hfz27_5 hfz27_6 hfz27_7 hfz27_8 hfz27_9
      try clear hfz34_0 hfz34_1 hfz34_10 hfz34_11 hfz34_12 hfz34_2 hfz34_3 hfz34_4 hfz34_5 hfz34_6 hfz34_7 hfz34_8 hfz34_9
      try clear hfz37_0 hfz37_1 hfz37_10 hfz37_11 hfz37_12 hfz37_2 hfz37_3 hfz37_4 hfz37_5 hfz37_6 hfz37_7 hfz37_8 hfz37_9
      try clear hfz42_0 hfz42_1 hfz42_10 hfz42_11 hfz42_12 hfz42_2 hfz42_3 hfz42_4 hfz42_5 hfz42_6 hfz42_7 hfz42_8 hfz42_9
      try clear hfz50_0 hfz50_1 hfz50_10 hfz50_11 hfz50_12 hfz50_2 hfz50_3 hfz50_4 hfz50_5 hfz50_6 hfz50_7 hfz50_8 hfz50_9
      try clear hfz53_0 hfz53_1 hfz53_2 hfz53_3 hfz53_4 hfz53_5
      try clear hfz55_0 hfz55_1 hfz55_10 hfz55_11 hfz55_12 hfz55_2 hfz55_3 hfz55_4 hfz55_5 hfz55_6 hfz55_7 hfz55_8 hfz55_9
      try clear hx207_0
      try clear p207
      try clear q207
      obtain ⟨x7_3, x1001_3, x1002_3, x195011_3, u195011, rfl, HA, HK3, HO_195008, HO_195011, HO_195012, BK170, BK171, BK194, HI0, HK, HB⟩ := hrel
      cases gk with
      | zero => exact absurd HA.out (by simp [spec_l7Draw.l1])
      | succ k3 =>
       have H := HA.out
       clear HA
       simp only [spec_l7Draw.l1] at H
       by_cases c58 : x7_3 > 0
       ·rw [if_pos c58] at H
        have c58b0 : decide (0 < x7_3) = true := decide_eq_true c58
        clear c58
        replace H := Option.bind_eq_some_iff.mp H
        obtain ⟨⟨t214, t215, t216, t217, t218⟩, A590, H⟩ := H
        try dsimp only at H
        have A59 := Aside0.mk A590
        clear A590
        by_cases c60 : x195011_3.length < 5864062014805
        rotate_left
        ·rw [if_neg c60] at H
         exact absurd H q87t
        rw [if_pos c60] at H
        have LMc60 := Aside0.mk c60
        clear c60
        obtain ⟨y220, hy220⟩ : ∃ y_ : List (S74), y_ = (x195011_3 ++ [(⟨t214, t215, t216⟩ : S74)]) := ⟨_, rfl⟩
        replace H : (spec_l7Draw.l1 k3 (wrap64 (x7_3 - 1)) s0_0 t217 t218 a1_0 a1_1 a1_2 a1_3 a1_4 a1_5 t195 t176 t198 t178 t179 t180 t181 t182 x195008_1 x195009_37 x195010_37 y220 t191) = some (r1, r2, r3, r4, r5, r6, r7, r8, r9, r10, r11, r12, r13, r14, r15) := by first | (rw [hy220]; with_reducible exact H) | (have H2_ := (Option.bind_some _ _).symm.trans H; rw [hy220]; with_reducible exact H2_) | (have H2_ := (Option.bind_some _ _).symm.trans H; with_reducible exact H2_) | with_reducible exact H | (rw [hy220]; exact H) | exact H
        have Ny220 := Aside0.mk hy220
        clear hy220
        have H' := Aside0.mk H
        clear H
        have hnb61 := NB170_171.out
        have hnc61 := NB171_170.out
        have hnb62 := NB170_194.out
        have hnc62 := NB194_170.out
        have hnb63 := NB170_0.out
        have hnc63 := NB0_170.out
        obtain ⟨hcz64_0, hcz64_1, hcz64_2, hcz64_3, hcz64_4, hcz64_5⟩ := qc6 BK170.out
        obtain ⟨hfz64_0, hfz64_1, hfz64_2, hfz64_3, hfz64_4, hfz64_5⟩ := qf6 BK170.out
        go_wp2_with (first | ((with_reducible refine gate_callee (f := 57) rfl ?_); refine goesL_ (some 63) rfl rfl Try.func57 (by kernel_rfl) rfl #[.pointer (some ⟨g, 0, none⟩), .agg #[.int .i64 a1_0, .int .i64 a1_1, .int .i64 a1_2, .int .i64 a1_3, .int .i64 a1_4, .int .i64 a1_5]] rfl q51t ?_; (with_reducible refine (spec_l7Thing.calls k3 g s0_0 x1001_3 x1002_3 a1_0 a1_1 a1_2 a1_3 a1_4 a1_5 t214 t215 t216 t217 t218 w0 _ ?side1 ?side2 A59.out).mono ?_); (case side1 => repeat (first | (with_reducible first | exact HI0.out | apply IsS67.alloc | apply IsS67.drewN | apply IsS67.drew | apply IsS67.set_1 | apply IsS67.set_2 | refine IsS67.far ?_ (Aside0.out q83t) _) | exact HI0.out)); (case side2 => repeat (first | (with_reducible first | exact HB.out | apply below_alloc | apply pw_below_drewN | apply below_drew1 | refine below_set ?_ (IsS67.ge HI0.out) | refine below_set ?_ (Aside0.out q83t)) | exact HB.out)); rintro e w65 ⟨rfl, hi, hb, hk⟩; refine ⟨_, rfl, ?_⟩; replace HO_195008 := Aside0.mk (Kd.R_mono (Kd.R_keep (IsS67.apart (show IsS67 w0 _ g s0_0 x1001_3 x1002_3 from by repeat (first | (with_reducible first | exact HI0.out | apply IsS67.alloc | apply IsS67.drewN | apply IsS67.drew | apply IsS67.set_1 | apply IsS67.set_2 | refine IsS67.far ?_ (Aside0.out q83t) _) | exact HI0.out)) q55t q85t) hk (fun _ h => h.2)) (fun _ h => h.1)); replace HO_195011 := Aside0.mk (Kd.R_mono (Kd.R_keep (IsS67.apart (show IsS67 w0 _ g s0_0 x1001_3 x1002_3 from by repeat (first | (with_reducible first | exact HI0.out | apply IsS67.alloc | apply IsS67.drewN | apply IsS67.drew | apply IsS67.set_1 | apply IsS67.set_2 | refine IsS67.far ?_ (Aside0.out q83t) _) | exact HI0.out)) q56t q85t) hk (fun _ h => h.2)) (fun _ h => h.1)); replace HO_195012 := Aside0.mk (Kd.R_mono (Kd.R_keep (IsS67.apart (show IsS67 w0 _ g s0_0 x1001_3 x1002_3 from by repeat (first | (with_reducible first | exact HI0.out | apply IsS67.alloc | apply IsS67.drewN | apply IsS67.drew | apply IsS67.set_1 | apply IsS67.set_2 | refine IsS67.far ?_ (Aside0.out q83t) _) | exact HI0.out)) q54t q85t) hk (fun _ h => h.2)) (fun _ h => h.1)); replace BK170 := kbb BK170 hk NB170_0.out q87t; replace BK171 := kbb BK171 hk NB171_0.out q87t; replace BK194 := kbb BK194 hk NB194_0.out q87t; replace HK := Aside0.mk (KeepBut.trans q16t hk (.inl rfl)); replace HB := Aside0.mk (hb); replace HI0 := Aside0.mk (hi); (try clear hb); (try clear hb2); (try clear hk); (try clear hi)) | ((with_reducible refine gate_dst (N := 8) rfl ?_); refine box_ev 8 #[.int .i64 0, .int .i64 0, .int .i64 0] 74 ?_; intro gb219 hg w66 hbox hb; replace HO_195008 := Aside0.mk (Kd.R_below q55t hb); replace HO_195011 := Aside0.mk (Kd.R_below (Kd.R_elderB q56t gb219 (Nat.le_of_eq hg.symm)) hb); replace HO_195012 := Aside0.mk (Kd.R_below q54t hb); replace HB := Aside0.mk (below_step q22t hb); have BK219 := Aside0.mk (hbox); have GW219 := Aside0.mk ((by rw [hg]; exact (keep_size (w := w) (g := g) (row := none) q16t) : w.heap.size ≤ gb219)); have GE219 := Aside0.mk ((Nat.le_trans HW0.out (by rw [hg]; exact (keep_size (w := w) (g := g) (row := none) q16t) : w.heap.size ≤ gb219) : w0.heap.size ≤ gb219)); replace HK := Aside0.mk (KeepBut.trans q16t (KeepBut.of_below hb g none) (.inl rfl)); have NB170_219 := Aside0.mk ((by rw [hg]; exact Nat.ne_of_lt (blk_lt (qbk BK170)) : gb170 ≠ gb219)); have NB219_170 := Aside0.mk ((by rw [hg]; exact Nat.ne_of_gt (blk_lt (qbk BK170)) : gb219 ≠ gb170)); replace BK170 := blb BK170 hb; have NB171_219 := Aside0.mk ((by rw [hg]; exact Nat.ne_of_lt (blk_lt (qbk BK171)) : gb171 ≠ gb219)); have NB219_171 := Aside0.mk ((by rw [hg]; exact Nat.ne_of_gt (blk_lt (qbk BK171)) : gb219 ≠ gb171)); replace BK171 := blb BK171 hb; have NB194_219 := Aside0.mk ((by rw [hg]; exact Nat.ne_of_lt (blk_lt (qbk BK194)) : gb194 ≠ gb219)); have NB219_194 := Aside0.mk ((by rw [hg]; exact Nat.ne_of_gt (blk_lt (qbk BK194)) : gb219 ≠ gb194)); replace BK194 := blb BK194 hb; have NB0_219 := Aside0.mk ((by rw [hg]; exact Nat.ne_of_lt (IsS67.lt (show IsS67 w0 _ g s0_0 t217 t218 from by repeat (first | (with_reducible first | exact HI0.out | apply IsS67.alloc | apply IsS67.drewN | apply IsS67.drew | apply IsS67.set_1 | apply IsS67.set_2 | refine IsS67.far ?_ (Aside0.out q83t) _) | exact HI0.out))) : g ≠ gb219)); have NB219_0 := Aside0.mk ((by rw [hg]; exact Nat.ne_of_gt (IsS67.lt (show IsS67 w0 _ g s0_0 t217 t218 from by repeat (first | (with_reducible first | exact HI0.out | apply IsS67.alloc | apply IsS67.drewN | apply IsS67.drew | apply IsS67.set_1 | apply IsS67.set_2 | refine IsS67.far ?_ (Aside0.out q83t) _) | exact HI0.out))) : gb219 ≠ g)); replace HI0 := Aside0.mk (IsS67.below q23t hb); clear hb hbox hg; have hnb67 := NB219_170.out; have hnc67 := NB170_219.out; have hnb68 := NB219_171.out; have hnc68 := NB171_219.out; have hnb69 := NB219_194.out; have hnc69 := NB194_219.out; have hnb70 := NB219_0.out; have hnc70 := NB0_219.out; obtain ⟨hcz71_0, hcz71_1, hcz71_2⟩ := qc3 BK219.out; obtain ⟨hfz71_0, hfz71_1, hfz71_2⟩ := qf3 BK219.out; have hnb72 := NB194_171.out; have hnc72 := NB171_194.out; have hnb73 := NB194_0.out; have hnc73 := NB0_194.out; obtain ⟨hcz74_0, hcz74_1, hcz74_2, hcz74_3, hcz74_4, hcz74_5, hcz74_6, hcz74_7, hcz74_8, hcz74_9, hcz74_10, hcz74_11, hcz74_12⟩ := qc13 BK194.out; obtain ⟨hfz74_0, hfz74_1, hfz74_2, hfz74_3, hfz74_4, hfz74_5, hfz74_6, hfz74_7, hfz74_8, hfz74_9, hfz74_10, hfz74_11, hfz74_12⟩ := qf13 BK194.out) | ((with_reducible refine gate_builtin (b := .append) (xs := #[.tmp 65, .tmp 67]) rfl ?_); at_builtin; refine Kd.R_append k74 w.heap.size rfl (.tmp 65) (.tmp 67) 46 74 (.agg #[(.int .i64 0), (.int .i64 0), (.int .i64 0)]) 24 rfl Try.underlying46 info74 rfl q85t q86t u195011 x195011_3 (⟨t214, t215, t216⟩ : S74) [.int .i64 t214, .int .i64 t215, .int .i64 t216] (fun k_ => k_ ≠ gb219) (fun _ => False) rfl (by first | (go_simp; done) | (go_simp; rfl)) ?aP (fun _ hk => hk.elim) ?aF ?aO (Below.refl _ _) ?aS ?aL ?_; (case aP => exact k74_mkM _ _ _ (⟨t214, t215, t216⟩ : S74)); (case aF => exact (fun k_ hk => Kd.freshB (g := gb219) (o := .cells #[.int .i64 t214, .int .i64 t215, .int .i64 t216] 74 (0, 0)) (qbp BK219) k_ hk)); (case aO => exact (by (with_reducible repeat (first | apply Kd.R_alloc | apply Kd.R_drewN | apply Kd.R_drew)); exact Kd.R_mono (rkf (rkf (rkf (Kd.R_mono HO_195011.out (fun k_ hk => (⟨hk, hk.2⟩ : _ ∧ k_ ≠ gb219)))))) (fun _ hk => hk.1.2))); (case aS => exact (keep_size (w := w) (g := g) (row := none) q10t)); (case aL => have := LMc60.out; omega); intro v221 w75 ho hb hg hat; rw [← Ny220.out] at ho; replace HO_195008 := Aside0.mk (Kd.R_over' (by (with_reducible repeat (first | apply Kd.R_alloc | apply Kd.R_drewN | apply Kd.R_drew)); exact (Kd.R_mono (rkf (rkf (rkf (Kd.R_types HO_195008.out BK219.out q85t)))) (fun _ h_ => h_.1))) (Kd.R_typed (by (with_reducible repeat (first | apply Kd.R_alloc | apply Kd.R_drewN | apply Kd.R_drew)); exact (Kd.R_mono (rkf (rkf (rkf (Kd.R_mono HO_195011.out (fun k_ hk => (⟨hk, hk.2⟩ : _ ∧ k_ ≠ gb219)))))) (fun _ h_ => h_.1)))) q85t hg); replace HO_195012 := Aside0.mk (Kd.R_over' (by (with_reducible repeat (first | apply Kd.R_alloc | apply Kd.R_drewN | apply Kd.R_drew)); exact (Kd.R_mono (rkf (rkf (rkf (Kd.R_types HO_195012.out BK219.out q85t)))) (fun _ h_ => h_.1))) (Kd.R_typed (by (with_reducible repeat (first | apply Kd.R_alloc | apply Kd.R_drewN | apply Kd.R_drew)); exact (Kd.R_mono (rkf (rkf (rkf (Kd.R_mono HO_195011.out (fun k_ hk => (⟨hk, hk.2⟩ : _ ∧ k_ ≠ gb219)))))) (fun _ h_ => h_.1)))) q85t hg); replace BK170 := Aside0.mk (blk_grown (g := gb170) (o := .cells #[.int .i64 a1_0, .int .i64 a1_1, .int .i64 a1_2, .int .i64 a1_3, .int .i64 a1_4, .int .i64 a1_5] 33 (0, 0)) (by (with_reducible repeat (first | refine blk_drewN ?_ _ | refine blk_drew ?_ | refine blk_alloc ?_ _)); refine blk_far ?_ NB170_219.out _; (with_reducible repeat (first | refine blk_drewN ?_ _ | refine blk_drew ?_ | refine blk_alloc ?_ _)); refine blk_far ?_ NB170_219.out _; (with_reducible repeat (first | refine blk_drewN ?_ _ | refine blk_drew ?_ | refine blk_alloc ?_ _)); refine blk_far ?_ NB170_219.out _; (with_reducible repeat (first | refine blk_drewN ?_ _ | refine blk_drew ?_ | refine blk_alloc ?_ _)); exact BK170.out) hg (Kd.R_ne HO_195011.out BK170.out q85t)); replace BK171 := Aside0.mk (blk_grown (g := gb171) (o := .cells #[.int .i64 0, .int .i64 0, .int .i64 0, .int .i64 0, .int .i64 0, .int .i64 0, .int .i64 0, .int .i64 0, .slice none 0 0, .int .i64 0, .int .i64 0, .slice none 0 0, .slice none 0 0] 48 (0, 0)) (by (with_reducible repeat (first | refine blk_drewN ?_ _ | refine blk_drew ?_ | refine blk_alloc ?_ _)); refine blk_far ?_ NB171_219.out _; (with_reducible repeat (first | refine blk_drewN ?_ _ | refine blk_drew ?_ | refine blk_alloc ?_ _)); refine blk_far ?_ NB171_219.out _; (with_reducible repeat (first | refine blk_drewN ?_ _ | refine blk_drew ?_ | refine blk_alloc ?_ _)); refine blk_far ?_ NB171_219.out _; (with_reducible repeat (first | refine blk_drewN ?_ _ | refine blk_drew ?_ | refine blk_alloc ?_ _)); exact BK171.out) hg (Kd.R_ne HO_195011.out BK171.out q85t)); replace BK194 := Aside0.mk (blk_grown (g := gb194) (o := .cells #[.int .i64 t195, .int .i64 t176, .int .i64 t198, .int .i64 t178, .int .i64 t179, .int .i64 t180, .int .i64 t181, .int .i64 t182, .slice Ao43 x195008_1.length co43, .int .i64 x195009_37, .int .i64 x195010_37, u195011, .slice Ao23 t191.length co23] 48 (0, 0)) (by (with_reducible repeat (first | refine blk_drewN ?_ _ | refine blk_drew ?_ | refine blk_alloc ?_ _)); refine blk_far ?_ NB194_219.out _; (with_reducible repeat (first | refine blk_drewN ?_ _ | refine blk_drew ?_ | refine blk_alloc ?_ _)); refine blk_far ?_ NB194_219.out _; (with_reducible repeat (first | refine blk_drewN ?_ _ | refine blk_drew ?_ | refine blk_alloc ?_ _)); refine blk_far ?_ NB194_219.out _; (with_reducible repeat (first | refine blk_drewN ?_ _ | refine blk_drew ?_ | refine blk_alloc ?_ _)); exact BK194.out) hg (Kd.R_ne HO_195011.out BK194.out q85t)); replace BK219 := Aside0.mk (blk_grown (qbp BK219) hg (Kd.R_away HO_195011.out (fun _ hk => hk.2))); replace HB := Aside0.mk (below_weaken q22t HL.out hb); replace HI0 : Aside0 (IsS67 w0 _ g s0_0 t217 t218) := Aside0.mk (IsS67.grown q23t hg (IsS67.own_ne HI0.out HO_195011.out q85t)); replace HK := Aside0.mk (KeepBut.trans q10t (KeepBut.of_grown hg g) (Kd.R_base2 HO_195011.out)); have HO222 := Aside0.mk (ho); clear HO_195011; clear ho hb hg hat; obtain ⟨Ao76, co76, eo76⟩ := Kd.R_slice HO222.out; subst eo76; obtain ⟨hcz77_0, hcz77_1, hcz77_2, hcz77_3, hcz77_4, hcz77_5, hcz77_6, hcz77_7, hcz77_8, hcz77_9, hcz77_10, hcz77_11, hcz77_12⟩ := qc13 BK194.out; obtain ⟨hfz77_0, hfz77_1, hfz77_2, hfz77_3, hfz77_4, hfz77_5, hfz77_6, hfz77_7, hfz77_8, hfz77_9, hfz77_10, hfz77_11, hfz77_12⟩ := qf13 BK194.out))
        go_roundg k3
        case measure => have := HK1.out; have := HJ37.out; have := HK3.out; omega
        case rel => exact ⟨(wrap64 (x7_3 - 1)), (t217), (t218), (y220), (.slice Ao76 y220.length co76), q81t, H', ⟨(by have := HK1.out; have := HJ37.out; have := HK3.out; omega)⟩, ⟨(by (with_reducible repeat (first | apply Kd.R_alloc | apply Kd.R_drewN | apply Kd.R_drew)); exact Kd.R_mono (rkf (Kd.R_types HO_195008.out BK194.out q85t)) (fun _ hk => hk.1))⟩, ⟨(by (with_reducible repeat (first | apply Kd.R_alloc | apply Kd.R_drewN | apply Kd.R_drew)); exact Kd.R_mono (rkf (Kd.R_types HO222.out BK194.out q85t)) (fun _ hk => trivial))⟩, ⟨(by (with_reducible repeat (first | apply Kd.R_alloc | apply Kd.R_drewN | apply Kd.R_drew)); exact Kd.R_mono (rkf (Kd.R_types HO_195012.out BK194.out q85t)) (fun _ hk => hk.1))⟩, ⟨q12t⟩, ⟨q13t⟩, ⟨qbp BK194⟩, ⟨q23t⟩, ⟨q10t⟩, ⟨q22t⟩⟩
       rw [if_neg c58] at H
       have c58b0 : decide (0 < x7_3) = false := decide_eq_false c58
       clear c58
       replace H := Option.bind_eq_some_iff.mp H
       obtain ⟨⟨t223, t224, t225⟩, A780, H⟩ := H
       try dsimp only at H
       have A78 := Aside0.mk A780
       clear A780
       have H' := Aside0.mk H
       clear H
       go_wp2_with (first | ((with_reducible refine gate_callee (f := 27) rfl ?_); refine goesL_ (some 71) rfl rfl Try.func27 (by kernel_rfl) rfl #[.pointer (some ⟨g, 0, none⟩), .int .i64 3] rfl q51t ?_; (with_reducible refine (spec_l1Below.calls g s0_0 x1001_3 x1002_3 3 t223 t224 t225 w0 _ ?side1 ?side2 A78.out).mono ?_); (case side1 => repeat (first | (with_reducible first | exact HI0.out | apply IsS67.alloc | apply IsS67.drewN | apply IsS67.drew | apply IsS67.set_1 | apply IsS67.set_2 | refine IsS67.far ?_ (Aside0.out q83t) _) | exact HI0.out)); (case side2 => repeat (first | (with_reducible first | exact HB.out | apply below_alloc | apply pw_below_drewN | apply below_drew1 | refine below_set ?_ (IsS67.ge HI0.out) | refine below_set ?_ (Aside0.out q83t)) | exact HB.out)); rintro e w79 ⟨rfl, hi, hb, hk⟩; refine ⟨_, rfl, ?_⟩; replace HO_195008 := Aside0.mk (Kd.R_mono (Kd.R_keep (IsS67.apart (show IsS67 w0 _ g s0_0 x1001_3 x1002_3 from by repeat (first | (with_reducible first | exact HI0.out | apply IsS67.alloc | apply IsS67.drewN | apply IsS67.drew | apply IsS67.set_1 | apply IsS67.set_2 | refine IsS67.far ?_ (Aside0.out q83t) _) | exact HI0.out)) q55t q85t) hk (fun _ h => h.2)) (fun _ h => h.1)); replace HO_195011 := Aside0.mk (Kd.R_mono (Kd.R_keep (IsS67.apart (show IsS67 w0 _ g s0_0 x1001_3 x1002_3 from by repeat (first | (with_reducible first | exact HI0.out | apply IsS67.alloc | apply IsS67.drewN | apply IsS67.drew | apply IsS67.set_1 | apply IsS67.set_2 | refine IsS67.far ?_ (Aside0.out q83t) _) | exact HI0.out)) q56t q85t) hk (fun _ h => h.2)) (fun _ h => h.1)); replace HO_195012 := Aside0.mk (Kd.R_mono (Kd.R_keep (IsS67.apart (show IsS67 w0 _ g s0_0 x1001_3 x1002_3 from by repeat (first | (with_reducible first | exact HI0.out | apply IsS67.alloc | apply IsS67.drewN | apply IsS67.drew | apply IsS67.set_1 | apply IsS67.set_2 | refine IsS67.far ?_ (Aside0.out q83t) _) | exact HI0.out)) q54t q85t) hk (fun _ h => h.2)) (fun _ h => h.1)); replace BK170 := kbb BK170 hk NB170_0.out q87t; replace BK171 := kbb BK171 hk NB171_0.out q87t; replace BK194 := kbb BK194 hk NB194_0.out q87t; replace HK := Aside0.mk (KeepBut.trans q16t hk (.inl rfl)); replace HB := Aside0.mk (hb); replace HI0 := Aside0.mk (hi); (try clear hb); (try clear hb2); (try clear hk); (try clear hi)))
       go_loopg [9] k3 (fun kq v9 w' => ∃ (x9_4 : Int) (x1001_4 : Int) (x1002_4 : Int) (x195012_4 : List Int) (u195012 : Value), v9 = .int .i64 x9_4 ∧ Aside0 (spec_l7Draw.l2 kq x9_4 s0_0 x1001_4 x1002_4 t195 t176 t198 t178 t179 t180 t181 t182 x195008_1 x195009_37 x195010_37 x195011_3 x195012_4 = some (r1, r2, r3, r4, r5, r6, r7, r8, r9, r10, r11, r12, r13, r14, r15)) ∧ Aside0 (kq ≤ k3) ∧ Aside0 (Kd.R (Kd.int .i64) 3 w' w.heap.size (fun k_ => some k_ ≠ (u195012 : Value).ownBlock) (.slice Ao43 x195008_1.length co43) x195008_1) ∧ Aside0 (Kd.R k74 74 w' w.heap.size (fun _ => True) u195011 x195011_3) ∧ Aside0 (Kd.R (Kd.int .i64) 3 w' w.heap.size (fun k_ => some k_ ≠ ((.slice Ao43 x195008_1.length co43) : Value).ownBlock) u195012 x195012_4) ∧ Aside0 (w'.heap[gb170]? = some (.cells #[.int .i64 a1_0, .int .i64 a1_1, .int .i64 a1_2, .int .i64 a1_3, .int .i64 a1_4, .int .i64 a1_5] 33 (0, 0))) ∧ Aside0 (w'.heap[gb171]? = some (.cells #[.int .i64 0, .int .i64 0, .int .i64 0, .int .i64 0, .int .i64 0, .int .i64 0, .int .i64 0, .int .i64 0, (.slice none 0 0), .int .i64 0, .int .i64 0, (.slice none 0 0), (.slice none 0 0)] 48 (0, 0))) ∧ Aside0 (w'.heap[gb194]? = some (.cells #[.int .i64 t195, .int .i64 t176, .int .i64 t198, .int .i64 t178, .int .i64 t179, .int .i64 t180, .int .i64 t181, .int .i64 t182, (.slice Ao43 x195008_1.length co43), .int .i64 x195009_37, .int .i64 x195010_37, u195011, u195012] 48 (0, 0))) ∧ Aside0 (IsS67 w0 w' g s0_0 x1001_4 x1002_4) ∧ Aside0 (KeepBut w w' g none) ∧ Aside0 (Below w0.heap.size w0 w'))
       case atStart => exact ⟨(t223), (t224), (t225), (t191), (.slice Ao23 t191.length co23), q81t, H', ⟨Nat.le_refl _⟩, ⟨q55t⟩, ⟨q56t⟩, ⟨q54t⟩, ⟨qbk BK170⟩, ⟨qbk BK171⟩, ⟨qbk BK194⟩, ⟨q23t⟩, ⟨q16t⟩, ⟨q22t⟩⟩
       case round =>
        clear H'
        try clear c1
        try clear c2
        try clear p2
        try clear p2
        try clear q2
        try clear q2
        try clear hx2
        try clear qi2
        try clear c3
        try clear c4
        try clear c5
        try clear c6
        try clear c6b0
        try clear c6b1
        try clear p6
        try clear p6
        try clear c7
        try clear c11
        try clear c12
        try clear c17
        try clear c18
        try clear c19
        try clear p20
        try clear p20
        try clear q20
        try clear q20
        try clear hx20
        try clear qi20
        try clear c27
        try clear c29
        try clear c29b0
        try clear c30
        try clear c31
        try clear c32
        try clear c33
        try clear c36
        try clear c39
        try clear c40
        try clear c41
        try clear c44
        try clear c44b0
        try clear c44b1
        try clear c45
        try clear c45b0
        try clear c45b1
        try clear c46
        try clear c47
        try clear c48
        try clear c49
        try clear c51
        try clear c52
        try clear c57
        try clear c58
        try clear c58b0
        try clear c60
        try clear c61
        try clear c62
        try clear c63
        try clear p64
        try clear c67
        try clear c68
        try clear c69
        try clear c70
        try clear c72
        try clear c73
        try clear hcz13_0 hcz13_1 hcz13_2 hcz13_3 hcz13_4 hcz13_5
        try clear hcz20_0 hcz20_1 hcz20_10 hcz20_11 hcz20_12 hcz20_2 hcz20_3 hcz20_4 hcz20_5 hcz20_6 hcz20_7 hcz20_8 hcz20_9
        try clear hcz25_0 hcz25_1 hcz25_10 hcz25_11 hcz25_12 hcz25_2 hcz25_3 hcz25_4 hcz25_5 hcz25_6 hcz25_7 hcz25_8 hcz25_9
        try clear hcz27_0 hcz27_1 hcz27_10 hcz27_11 hcz27_12 hcz27_2 hcz27_3 hcz27_4 hcz27_5 hcz27_6 hcz27_7 hcz27_8 hcz27_9
        try clear hcz34_0 hcz34_1 hcz34_10 hcz34_11 hcz34_12 hcz34_2 hcz34_3 hcz34_4 hcz34_5 hcz34_6 hcz34_7 hcz34_8 hcz34_9
        try clear hcz37_0 hcz37_1 hcz37_10 hcz37_11 hcz37_12 hcz37_2 hcz37_3 hcz37_4 hcz37_5 hcz37_6 hcz37_7 hcz37_8 hcz37_9
        try clear hcz42_0 hcz42_1 hcz42_10 hcz42_11 hcz42_12 hcz42_2 hcz42_3 hcz42_4 hcz42_5 hcz42_6 hcz42_7 hcz42_8 hcz42_9
        try clear hcz50_0 hcz50_1 hcz50_10 hcz50_11 hcz50_12 hcz50_2 hcz50_3 hcz50_4 hcz50_5 hcz50_6 hcz50_7 hcz50_8 hcz50_9
        try clear hcz53_0 hcz53_1 hcz53_2 hcz53_3 hcz53_4 hcz53_5
        try clear hcz55_0 hcz55_1 hcz55_10 hcz55_11 hcz55_12 hcz55_2 hcz55_3 hcz55_4 hcz55_5 hcz55_6 hcz55_7 hcz55_8 hcz55_9
        try clear hcz64_0 hcz64_1 hcz64_2 hcz64_3 hcz64_4 hcz64_5
        try clear hcz71_0 hcz71_1 hcz71_2
        try clear hcz74_0 hcz74_1 hcz74_10 hcz74_11 hcz74_12 hcz74_2 hcz74_3 hcz74_4 hcz74_5 hcz74_6 hcz74_7 hcz74_8 hcz74_9
        try clear hcz77_0 hcz77_1 hcz77_10 hcz77_11 hcz77_12 hcz77_2 hcz77_3 hcz77_4 hcz77_5 hcz77_6 hcz77_7 hcz77_8 hcz77_9
        try clear hfz13_0 hfz13_1 hfz13_2 hfz13_3 hfz13_4 hfz13_5
        try clear hfz20_0 hfz20_1 hfz20_10 hfz20_11 hfz20_12 hfz20_2 hfz20_3 hfz20_4 hfz20_5 hfz20_6 hfz20_7 hfz20_8 hfz20_9
        try clear hfz25_0 hfz25_1 hfz25_10 hfz25_11 hfz25_12 hfz25_2 hfz25_3 hfz25_4 hfz25_5 hfz25_6 hfz25_7 hfz25_8 hfz25_9
        try clear hfz27_0 hfz27_1 hfz27_10 hfz27_11 hfz27_12 hfz27_2 hfz27_3 hfz27_4 hfz27_5 hfz27_6 hfz27_7 hfz27_8 hfz27_9
        try clear hfz34_0 hfz34_1 hfz34_10 hfz34_11 hfz34_12 hfz34_2 hfz34_3 hfz34_4 hfz34_5 hfz34_6 hfz34_7 hfz34_8 hfz34_9
        try clear hfz37_0 hfz37_1 hfz37_10 hfz37_11 hfz37_12 hfz37_2 hfz37_3 hfz37_4 hfz37_5 hfz37_6 hfz37_7 hfz37_8 hfz37_9
        try clear hfz42_0 hfz42_1 hfz42_10 hfz42_11 hfz42_12 hfz42_2 hfz42_3 hfz42_4 hfz42_5 hfz42_6 hfz42_7 hfz42_8 hfz42_9
        try clear hfz50_0 hfz50_1 hfz50_10 hfz50_11 hfz50_12 hfz50_2 hfz50_3 hfz50_4 hfz50_5 hfz50_6 hfz50_7 hfz50_8 hfz50_9
        try clear hfz53_0 hfz53_1 hfz53_2 hfz53_3 hfz53_4 hfz53_5
        try clear hfz55_0 hfz55_1 hfz55_10 hfz55_11 hfz55_12 hfz55_2 hfz55_3 hfz55_4 hfz55_5 hfz55_6 hfz55_7 hfz55_8 hfz55_9
        try clear hfz64_0 hfz64_1 hfz64_2 hfz64_3 hfz64_4 hfz64_5
        try clear hfz71_0 hfz71_1 hfz71_2
        try clear hfz74_0 hfz74_1 hfz74_10 hfz74_11 hfz74_12 hfz74_2 hfz74_3 hfz74_4 hfz74_5 hfz74_6 hfz74_7 hfz74_8 hfz74_9
        try clear hfz77_0 hfz77_1 hfz77_10 hfz77_11 hfz77_12 hfz77_2 hfz77_3 hfz77_4 hfz77_5 hfz77_6 hfz77_7 hfz77_8 hfz77_9
        try clear hx207_0
        try clear p207
        try clear q207
        obtain ⟨x9_4, x1001_4, x1002_4, x195012_4, u195012, rfl, HA, HK4, HO_195008, HO_195011, HO_195012, BK170, BK171, BK194, HI0, HK, HB⟩ := hrel
        cases gk with
        | zero => exact absurd HA.out (by simp [spec_l7Draw.l2])
        | succ k4 =>
         have H := HA.out
         clear HA
         simp only [spec_l7Draw.l2] at H
         by_cases c80 : x9_4 > 0
         rotate_left
         ·rw [if_neg c80] at H
          have c80b0 : decide (0 < x9_4) = false := decide_eq_false c80
          clear c80
          simp only [Option.some.injEq, Prod.mk.injEq] at H
          obtain ⟨rfl, rfl, rfl, rfl, rfl, rfl, rfl, rfl, rfl, rfl, rfl, rfl, rfl, rfl, rfl⟩ := H
          have hnb88 := NB194_170.out
          have hnc88 := NB170_194.out
          have hnb89 := NB194_171.out
          have hnc89 := NB171_194.out
          have hnb90 := NB194_0.out
          have hnc90 := NB0_194.out
          obtain ⟨hcz91_0, hcz91_1, hcz91_2, hcz91_3, hcz91_4, hcz91_5, hcz91_6, hcz91_7, hcz91_8, hcz91_9, hcz91_10, hcz91_11, hcz91_12⟩ := qc13 BK194.out
          obtain ⟨hfz91_0, hfz91_1, hfz91_2, hfz91_3, hfz91_4, hfz91_5, hfz91_6, hfz91_7, hfz91_8, hfz91_9, hfz91_10, hfz91_11, hfz91_12⟩ := qf13 BK194.out
          have hnb92 := NB171_170.out
          have hnc92 := NB170_171.out
          have hnb93 := NB171_0.out
          have hnc93 := NB0_171.out
          obtain ⟨hcz94_0, hcz94_1, hcz94_2, hcz94_3, hcz94_4, hcz94_5, hcz94_6, hcz94_7, hcz94_8, hcz94_9, hcz94_10, hcz94_11, hcz94_12⟩ := qc13 BK171.out
          obtain ⟨hfz94_0, hfz94_1, hfz94_2, hfz94_3, hfz94_4, hfz94_5, hfz94_6, hfz94_7, hfz94_8, hfz94_9, hfz94_10, hfz94_11, hfz94_12⟩ := qf13 BK171.out
          obtain ⟨Ao95, co95, eo95⟩ := Kd.R_slice HO_195011.out
          subst eo95
          obtain ⟨Ao96, co96, eo96⟩ := Kd.R_slice HO_195012.out
          subst eo96
          go_wp2
          refine bodyPost_ret (results_cell_row rfl _ _ gb171 48 #[.int .i64 t195, .int .i64 t176, .int .i64 t198, .int .i64 t178, .int .i64 t179, .int .i64 t180, .int .i64 t181, .int .i64 t182, .slice Ao43 x195008_1.length co43, .int .i64 x195009_37, .int .i64 x195010_37, .slice Ao95 x195011_3.length co95, .slice Ao96 x195012_4.length co96] (0, 0) _ rfl (qbp BK171) Try.underlying48 rfl (by kernel_rfl)) rfl ?_
          exact ⟨_, _, _, q73t, (by (with_reducible repeat (first | apply Kd.R_alloc | apply Kd.R_drewN | apply Kd.R_drew)); exact Kd.R_mono (rkf (rkf (rkf (rkf (rkf (rkf (rkf (rkf (rkf (rkf (rkf (rkf (rkf (Kd.R_types HO_195008.out BK171.out q85t)))))))))))))) (fun _ hk => hk.1)), (by (with_reducible repeat (first | apply Kd.R_alloc | apply Kd.R_drewN | apply Kd.R_drew)); exact Kd.R_mono (rkf (rkf (rkf (rkf (rkf (rkf (rkf (rkf (rkf (rkf (rkf (rkf (rkf (Kd.R_types HO_195011.out BK171.out q85t)))))))))))))) (fun _ hk => trivial)), (by (with_reducible repeat (first | apply Kd.R_alloc | apply Kd.R_drewN | apply Kd.R_drew)); exact Kd.R_mono (rkf (rkf (rkf (rkf (rkf (rkf (rkf (rkf (rkf (rkf (rkf (rkf (rkf (Kd.R_types HO_195012.out BK171.out q85t)))))))))))))) (fun _ hk => hk.1)), q23t, q22t, q16t⟩
         rw [if_pos c80] at H
         have c80b0 : decide (0 < x9_4) = true := decide_eq_true c80
         clear c80
         replace H := Option.bind_eq_some_iff.mp H
         obtain ⟨⟨t226, t227, t228⟩, A810, H⟩ := H
         try dsimp only at H
         have A81 := Aside0.mk A810
         clear A810
         by_cases c82 : x195012_4.length < 17592186044416
         rotate_left
         ·rw [if_neg c82] at H
          exact absurd H q87t
         rw [if_pos c82] at H
         have LMc82 := Aside0.mk c82
         clear c82
         obtain ⟨y229, hy229⟩ : ∃ y_ : List Int, y_ = (x195012_4 ++ [t226]) := ⟨_, rfl⟩
         replace H : (spec_l7Draw.l2 k4 (wrap64 (x9_4 - 1)) s0_0 t227 t228 t195 t176 t198 t178 t179 t180 t181 t182 x195008_1 x195009_37 x195010_37 x195011_3 y229) = some (r1, r2, r3, r4, r5, r6, r7, r8, r9, r10, r11, r12, r13, r14, r15) := by first | (rw [hy229]; with_reducible exact H) | (have H2_ := (Option.bind_some _ _).symm.trans H; rw [hy229]; with_reducible exact H2_) | (have H2_ := (Option.bind_some _ _).symm.trans H; with_reducible exact H2_) | with_reducible exact H | (rw [hy229]; exact H) | exact H
         have Ny229 := Aside0.mk hy229
         clear hy229
         have H' := Aside0.mk H
         clear H
         try go_wp2
         replace HO_195008 := Aside0.mk (Kd.R_drew HO_195008.out)
         replace HO_195011 := Aside0.mk (Kd.R_drew HO_195011.out)
         replace HO_195012 := Aside0.mk (Kd.R_drew HO_195012.out)
         replace BK170 := Aside0.mk (blk_drew BK170.out)
         replace BK171 := Aside0.mk (blk_drew BK171.out)
         replace BK194 := Aside0.mk (blk_drew BK194.out)
         replace HI0 := Aside0.mk (IsS67.drew HI0.out)
         replace HK := Aside0.mk (keep_drew HK.out)
         replace HB := Aside0.mk (below_drew1 HB.out)
         refine start_ (n := 8) (S := fun w' => w'.cell? ⟨gb194, 0, none⟩ = some (.int .i64 t195) ∧ w'.cell? ⟨gb194, 1, none⟩ = some (.int .i64 t176) ∧ w'.cell? ⟨gb194, 2, none⟩ = some (.int .i64 t198) ∧ w'.cell? ⟨gb194, 3, none⟩ = some (.int .i64 t178) ∧ w'.cell? ⟨gb194, 4, none⟩ = some (.int .i64 t179) ∧ w'.cell? ⟨gb194, 5, none⟩ = some (.int .i64 t180) ∧ w'.cell? ⟨gb194, 6, none⟩ = some (.int .i64 t181) ∧ w'.cell? ⟨gb194, 7, none⟩ = some (.int .i64 t182) ∧ w'.cell? ⟨gb194, 8, none⟩ = some (.slice Ao43 x195008_1.length co43) ∧ w'.cell? ⟨gb194, 9, none⟩ = some (.int .i64 x195009_37) ∧ w'.cell? ⟨gb194, 10, none⟩ = some (.int .i64 x195010_37) ∧ w'.cell? ⟨gb194, 11, none⟩ = some (u195011) ∧ w'.cell? ⟨gb194, 12, none⟩ = some (u195012)) (ds := [7]) (bm 8 0) (by kernel_rfl) rfl (by kernel_rfl) ⟨(blk_cell BK194.out 0).trans rfl, (blk_cell BK194.out 1).trans rfl, (blk_cell BK194.out 2).trans rfl, (blk_cell BK194.out 3).trans rfl, (blk_cell BK194.out 4).trans rfl, (blk_cell BK194.out 5).trans rfl, (blk_cell BK194.out 6).trans rfl, (blk_cell BK194.out 7).trans rfl, (blk_cell BK194.out 8).trans rfl, (blk_cell BK194.out 9).trans rfl, (blk_cell BK194.out 10).trans rfl, (blk_cell BK194.out 11).trans rfl, (blk_cell BK194.out 12).trans rfl⟩ (fun hHeld => ?_); refine with_tabW spec_l7Draw.tab21 spec_l7Draw.bits21 (fun HT_ HW_ => ?_)
         generalize wr.drew = w83 at HO_195008 HO_195011 HO_195012 BK170 BK171 BK194 HI0 HK HB hHeld ⊢
         refine pu_ 0 (some 76) (bm 8 1) (any_of HT_.out (by kernel_rfl)) ?_
         refine pu_ 2 (some 78) (bm 8 5) (any_of HT_.out (by kernel_rfl)) ?_
         refine tk_ 1 (some 77) (bm 8 7) (take_ofW HT_.out HW_.out (by kernel_rfl)) hHeld ?_
         refine one_ (i := 3) (N := some 79) (bm 8 15) rfl rfl (one_of HT_.out (by kernel_rfl)) q85t (fun K hK => ?_)
         refine goes_ Try.func27 (by kernel_rfl) rfl #[.pointer (some ⟨g, 0, none⟩), .int .i64 256] (by rfl) rfl rfl q51t ?_
         with_reducible refine (spec_l1Below.calls g s0_0 x1001_4 x1002_4 256 t226 t227 t228 w0 _ ?side1 ?side2 A81.out).mono ?_
         (case side1 => repeat (first | (with_reducible first | exact HI0.out | apply IsS67.alloc | apply IsS67.drewN | apply IsS67.drew | apply IsS67.set_1 | apply IsS67.set_2 | refine IsS67.far ?_ (Aside0.out q83t) _) | exact HI0.out))
         (case side2 => repeat (first | (with_reducible first | exact HB.out | apply below_alloc | apply pw_below_drewN | apply below_drew1 | refine below_set ?_ (IsS67.ge HI0.out) | refine below_set ?_ (Aside0.out q83t)) | exact HB.out))
         rintro e w84 ⟨rfl, hi, hb, hk⟩
         refine ⟨_, rfl, ?_⟩
         replace HO_195008 := Aside0.mk (Kd.R_mono (Kd.R_keep (IsS67.apart (show IsS67 w0 _ g s0_0 x1001_4 x1002_4 from by repeat (first | (with_reducible first | exact HI0.out | apply IsS67.alloc | apply IsS67.drewN | apply IsS67.drew | apply IsS67.set_1 | apply IsS67.set_2 | refine IsS67.far ?_ (Aside0.out q83t) _) | exact HI0.out)) q55t q85t) hk (fun _ h => h.2)) (fun _ h => h.1))
         replace HO_195011 := Aside0.mk (Kd.R_mono (Kd.R_keep (IsS67.apart (show IsS67 w0 _ g s0_0 x1001_4 x1002_4 from by repeat (first | (with_reducible first | exact HI0.out | apply IsS67.alloc | apply IsS67.drewN | apply IsS67.drew | apply IsS67.set_1 | apply IsS67.set_2 | refine IsS67.far ?_ (Aside0.out q83t) _) | exact HI0.out)) q56t q85t) hk (fun _ h => h.2)) (fun _ h => h.1))
         replace HO_195012 := Aside0.mk (Kd.R_mono (Kd.R_keep (IsS67.apart (show IsS67 w0 _ g s0_0 x1001_4 x1002_4 from by repeat (first | (with_reducible first | exact HI0.out | apply IsS67.alloc | apply IsS67.drewN | apply IsS67.drew | apply IsS67.set_1 | apply IsS67.set_2 | refine IsS67.far ?_ (Aside0.out q83t) _) | exact HI0.out)) q54t q85t) hk (fun _ h => h.2)) (fun _ h => h.1))
         replace BK170 := kbb BK170 hk NB170_0.out q87t
         replace BK171 := kbb BK171 hk NB171_0.out q87t
         replace BK194 := kbb BK194 hk NB194_0.out q87t
         replace HK := Aside0.mk (KeepBut.trans q16t hk (.inl rfl))
         replace HB := Aside0.mk (hb)
         replace HI0 := Aside0.mk (hi)
         (try clear hb)
         (try clear hb2)
         (try clear hk)
         (try clear hi)
         refine hK.out _ _ (by first | exact ⟨(blk_cell BK194.out 0).trans rfl, (blk_cell BK194.out 1).trans rfl, (blk_cell BK194.out 2).trans rfl, (blk_cell BK194.out 3).trans rfl, (blk_cell BK194.out 4).trans rfl, (blk_cell BK194.out 5).trans rfl, (blk_cell BK194.out 6).trans rfl, (blk_cell BK194.out 7).trans rfl, (blk_cell BK194.out 8).trans rfl, (blk_cell BK194.out 9).trans rfl, (blk_cell BK194.out 10).trans rfl, (blk_cell BK194.out 11).trans rfl, (blk_cell BK194.out 12).trans rfl⟩ | exact hHeld) (fun hHeld => ?_)
         clear hK K
         refine norm_ (a' := ?_) ?_ ?_
         rotate_left
         ·show Act.put _ (some 79) _ = _
          simp only [Act.put, List.setIfInBounds_toArray, List.set_cons_zero, List.set_cons_succ, i64_w, i32_w]
          rfl
         refine one_ (i := 4) (N := some 80) (bm 8 31) rfl rfl (one_of HT_.out (by kernel_rfl)) q85t (fun K hK => ?_)
         refine value_ (w1 := ?_) (v := ?_) (by rfl) rfl ?_ ?_
         rotate_left 2
         ·go_simp
          constructor
          ·rfl
          rfl
         refine hK.out _ _ (by first | exact ⟨(blk_cell (blk_alloc BK194.out _) 0).trans rfl, (blk_cell (blk_alloc BK194.out _) 1).trans rfl, (blk_cell (blk_alloc BK194.out _) 2).trans rfl, (blk_cell (blk_alloc BK194.out _) 3).trans rfl, (blk_cell (blk_alloc BK194.out _) 4).trans rfl, (blk_cell (blk_alloc BK194.out _) 5).trans rfl, (blk_cell (blk_alloc BK194.out _) 6).trans rfl, (blk_cell (blk_alloc BK194.out _) 7).trans rfl, (blk_cell (blk_alloc BK194.out _) 8).trans rfl, (blk_cell (blk_alloc BK194.out _) 9).trans rfl, (blk_cell (blk_alloc BK194.out _) 10).trans rfl, (blk_cell (blk_alloc BK194.out _) 11).trans rfl, (blk_cell (blk_alloc BK194.out _) 12).trans rfl⟩ | exact hHeld) (fun hHeld => ?_)
         clear hK K
         refine norm_ (a' := ?_) ?_ ?_
         rotate_left
         ·show Act.put _ (some 80) _ = _
          simp only [Act.put, List.setIfInBounds_toArray, List.set_cons_zero, List.set_cons_succ, i64_w, i32_w]
          rfl
         refine one_ (i := 5) (N := some 81) (bm 8 63) rfl rfl (one_of HT_.out (by kernel_rfl)) q85t (fun K hK => ?_)
         refine Kd.R_append_step (Kd.int .i64) w.heap.size (by rfl) (.tmp 77) (.tmp 80) 45 3 (.int .i64 0) 8 rfl Try.underlying45 info3 rfl q85t q86t u195012 x195012_4 t226 [.int .i64 t226] (fun k_ => some k_ ≠ (.slice Ao43 x195008_1.length co43 : Value).ownBlock) (fun _ => False) rfl rfl ?aP (fun _ hk => hk.elim) ?aF ?aO (Below.refl _ _) ?aS ?aL ?_
         (case aP => exact rfl)
         (case aF => exact (fun k_ hk => Kd.fresh' (Kd.R_lt q55t) k_ hk))
         (case aO => exact q54t)
         (case aS => exact (keep_size (w := w) (g := g) (row := none) q16t))
         (case aL => have := LMc82.out; omega)
         intro v230 w85 ho hb hg hat
         rw [← Ny229.out] at ho
         replace HO_195008 := Aside0.mk (Kd.R_after (ok := (fun _ => True)) (by (with_reducible repeat (first | apply Kd.R_alloc | apply Kd.R_drewN | apply Kd.R_drew)); exact Kd.R_mono HO_195008.out (fun _ hk => ⟨trivial, hk⟩)) hg hat)
         replace HO_195011 := Aside0.mk (Kd.R_over' q56t (Kd.R_typed q54t) q85t hg)
         replace BK170 := gbb BK170 hg (Kd.R_ne HO_195012.out BK170.out q85t)
         replace BK171 := gbb BK171 hg (Kd.R_ne HO_195012.out BK171.out q85t)
         replace BK194 := gbb BK194 hg (Kd.R_ne HO_195012.out BK194.out q85t)
         replace HB := Aside0.mk (below_weaken q22t HL.out hb)
         replace HI0 := Aside0.mk (IsS67.grown q23t hg (IsS67.own_ne HI0.out HO_195012.out q85t))
         replace HK := Aside0.mk (KeepBut.trans q16t (KeepBut.of_grown hg g) (Kd.R_base2 HO_195012.out))
         have HO231 := Aside0.mk (ho)
         clear HO_195012
         clear ho hb hg hat
         obtain ⟨Ao86, co86, eo86⟩ := Kd.R_slice HO231.out
         (first | subst eo86 | (injection eo86 with f1_ f2_ f3_; have f4_ := f1_.symm; have f5_ := f3_.symm; clear f1_ f2_ f3_; subst f4_; subst f5_))
         refine hK.out _ _ (by first | exact ⟨(blk_cell BK194.out 0).trans rfl, (blk_cell BK194.out 1).trans rfl, (blk_cell BK194.out 2).trans rfl, (blk_cell BK194.out 3).trans rfl, (blk_cell BK194.out 4).trans rfl, (blk_cell BK194.out 5).trans rfl, (blk_cell BK194.out 6).trans rfl, (blk_cell BK194.out 7).trans rfl, (blk_cell BK194.out 8).trans rfl, (blk_cell BK194.out 9).trans rfl, (blk_cell BK194.out 10).trans rfl, (blk_cell BK194.out 11).trans rfl, (blk_cell BK194.out 12).trans rfl⟩ | exact hHeld) (fun hHeld => ?_)
         clear hK K
         refine norm_ (a' := ?_) ?_ ?_
         rotate_left
         ·show Act.put _ (some 81) _ = _
          simp only [Act.put, List.setIfInBounds_toArray, List.set_cons_zero, List.set_cons_succ, i64_w, i32_w]
          rfl
         refine pu_ 6 (some 82) (bm 8 127) (any_of HT_.out (by kernel_rfl)) ?_
         refine last_ (i := 7) (N := none) #[true, true, true, true, true, true, true, true] rfl rfl (one_of HT_.out (by kernel_rfl)) q85t (fun K hK => ?_)
         have hs87 : w85.cell? ⟨gb194, 12, none⟩ = some (u195012) := (blk_cell BK194.out 12).trans rfl
         have hfs87 := blk_frozen BK194.out 12
         have hns87_0 := NB170_194.out
         have hns87_1 := NB171_194.out
         have hms87_0 := NB194_170.out
         have hms87_1 := NB194_171.out
         refine skip_ (w1 := ?_) (by rfl) rfl ?_ ?_
         rotate_left
         ·go_simp
          rfl
         refine hK.out _ _ ?_
         clear hK K
         refine done_ (done_of HT_.out (by kernel_rfl)) ?_
         try go_wp2
         go_roundg k4
         case measure => have := HK1.out; have := HJ37.out; have := HK3.out; have := HK4.out; omega
         case rel => exact ⟨(wrap64 (x9_4 - 1)), (t227), (t228), (y229), (.slice Ao86 y229.length co86), q81t, H', ⟨(by have := HK1.out; have := HJ37.out; have := HK3.out; have := HK4.out; omega)⟩, ⟨(by (with_reducible repeat (first | apply Kd.R_alloc | apply Kd.R_drewN | apply Kd.R_drew)); exact Kd.R_mono (rkf (Kd.R_types HO_195008.out BK194.out q85t)) (fun _ hk => hk.1.2))⟩, ⟨q34t⟩, ⟨(by (with_reducible repeat (first | apply Kd.R_alloc | apply Kd.R_drewN | apply Kd.R_drew)); exact Kd.R_mono (rkf (Kd.R_types HO231.out BK194.out q85t)) (fun _ hk => hk.1))⟩, ⟨q12t⟩, ⟨q13t⟩, ⟨qbp BK194⟩, ⟨q23t⟩, ⟨q16t⟩, ⟨q22t⟩⟩

end Go.Proofs.Ytofpmdgndegalab.QFnTables
