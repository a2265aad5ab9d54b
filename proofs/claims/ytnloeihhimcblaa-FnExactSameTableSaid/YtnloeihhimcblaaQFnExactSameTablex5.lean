/- What the functions that the law FnExactSameTable reaches compute, as plain functions, and that the code computes just that (by a program of this session's; the library's functions by hand). No condition. -/
import Derived.Test.YtnloeihhimcblaaQFnExactSameTablex0
import Derived.Test.YtnloeihhimcblaaQFnExactSameTablex1
import Derived.Test.YtnloeihhimcblaaQFnExactSameTablex4
namespace Go.Proofs.Ytnloeihhimcblaa.QFnExactSameTable
open Go.RowKit Go.Proofs.YtnloeihhimcblaaW.PrintWords Go.Proofs.YtnloeihhimcblaaW.PrintLast Go.Proofs.YtnloeihhimcblaaW.PrintMore
attribute [local go_sem] max2_int min2_int max_two min_two max_three min_three max_four min_four   -- for this text's walks alone
set_option linter.unusedVariables false
set_option linter.unusedSimpArgs false

attribute [local go_sem high] eqA84
/-! ### spec_SameNode: function 19 -/
mutual
def spec_SameNode.j0 : Nat → Bool → Int → Int → Int → Int → Int → Int → Int → Int → List Int → Int → Int → List (S84) → List Int → Int → Int → Int → Int → Int → Int → Int → Int → List Int → Int → Int → List (S84) → List Int → Option (Bool)
 | 0, _, _, _, _, _, _, _, _, _, _, _, _, _, _, _, _, _, _, _, _, _, _, _, _, _, _, _ => none
 | k + 1, x98, x177000, x177001, x177002, x177003, x177004, x177005, x177006, x177007, x177008, x177009, x177010, x177011, x177012, x178000, x178001, x178002, x178003, x178004, x178005, x178006, x178007, x178008, x178009, x178010, x178011, x178012 => if x98 = true then (some false) else (spec_SameNode.l0 k 0 x177000 x177001 x177002 x177003 x177004 x177005 x177006 x177007 x177008 x177009 x177010 x177011 x177012 x178000 x178001 x178002 x178003 x178004 x178005 x178006 x178007 x178008 x178009 x178010 x178011 x178012)
def spec_SameNode.l0 : Nat → Int → Int → Int → Int → Int → Int → Int → Int → Int → List Int → Int → Int → List (S84) → List Int → Int → Int → Int → Int → Int → Int → Int → Int → List Int → Int → Int → List (S84) → List Int → Option (Bool)
 | 0, _, _, _, _, _, _, _, _, _, _, _, _, _, _, _, _, _, _, _, _, _, _, _, _, _, _, _ => none
 | k + 1, x5, x177000, x177001, x177002, x177003, x177004, x177005, x177006, x177007, x177008, x177009, x177010, x177011, x177012, x178000, x178001, x178002, x178003, x178004, x178005, x178006, x178007, x178008, x178009, x178010, x178011, x178012 => if x5 < (x177011.length : Int) then (if 0 ≤ x5 then (if x5 < (x178011.length : Int) then (if (!(((rd_T84 x177011 x5).f0) == ((rd_T84 x178011 x5).f0)) || (!(((rd_T84 x177011 x5).f1) == ((rd_T84 x178011 x5).f1)) || (!(((rd_T84 x177011 x5).f2) == ((rd_T84 x178011 x5).f2))))) = true then (some false) else (spec_SameNode.l0 k (wrap64 (x5 + 1)) x177000 x177001 x177002 x177003 x177004 x177005 x177006 x177007 x177008 x177009 x177010 x177011 x177012 x178000 x178001 x178002 x178003 x178004 x178005 x178006 x178007 x178008 x178009 x178010 x178011 x178012)) else (none)) else (none)) else (some true)
end
def spec_SameNode.f (k : Nat) (a0_0 : Int) (a0_1 : Int) (a0_2 : Int) (a0_3 : Int) (a0_4 : Int) (a0_5 : Int) (a0_6 : Int) (a0_7 : Int) (l0_8 : List Int) (a0_9 : Int) (a0_10 : Int) (l0_11 : List (S84)) (l0_12 : List Int) (a1_0 : Int) (a1_1 : Int) (a1_2 : Int) (a1_3 : Int) (a1_4 : Int) (a1_5 : Int) (a1_6 : Int) (a1_7 : Int) (l1_8 : List Int) (a1_9 : Int) (a1_10 : Int) (l1_11 : List (S84)) (l1_12 : List Int) : Option (Bool) := if a0_0 = a1_0 then (if a0_1 = a1_1 then (if a0_2 = a1_2 then (if a0_3 = a1_3 then (if a0_4 = a1_4 then (if a0_5 = a1_5 then (if a0_6 = a1_6 then (if a0_7 = a1_7 then ((spec_l7SameInts.f k l0_8 l1_8).bind fun t178 => (if t178 = true then (if a0_9 = a1_9 then (if a0_10 = a1_10 then (if (l0_11.length : Int) = (l1_11.length : Int) then ((spec_l7SameInts.f k l0_12 l1_12).bind fun t179 => (spec_SameNode.j0 k (!t179) a0_0 a0_1 a0_2 a0_3 a0_4 a0_5 a0_6 a0_7 l0_8 a0_9 a0_10 l0_11 l0_12 a1_0 a1_1 a1_2 a1_3 a1_4 a1_5 a1_6 a1_7 l1_8 a1_9 a1_10 l1_11 l1_12)) else (spec_SameNode.j0 k true a0_0 a0_1 a0_2 a0_3 a0_4 a0_5 a0_6 a0_7 l0_8 a0_9 a0_10 l0_11 l0_12 a1_0 a1_1 a1_2 a1_3 a1_4 a1_5 a1_6 a1_7 l1_8 a1_9 a1_10 l1_11 l1_12)) else (spec_SameNode.j0 k true a0_0 a0_1 a0_2 a0_3 a0_4 a0_5 a0_6 a0_7 l0_8 a0_9 a0_10 l0_11 l0_12 a1_0 a1_1 a1_2 a1_3 a1_4 a1_5 a1_6 a1_7 l1_8 a1_9 a1_10 l1_11 l1_12)) else (spec_SameNode.j0 k true a0_0 a0_1 a0_2 a0_3 a0_4 a0_5 a0_6 a0_7 l0_8 a0_9 a0_10 l0_11 l0_12 a1_0 a1_1 a1_2 a1_3 a1_4 a1_5 a1_6 a1_7 l1_8 a1_9 a1_10 l1_11 l1_12)) else (spec_SameNode.j0 k true a0_0 a0_1 a0_2 a0_3 a0_4 a0_5 a0_6 a0_7 l0_8 a0_9 a0_10 l0_11 l0_12 a1_0 a1_1 a1_2 a1_3 a1_4 a1_5 a1_6 a1_7 l1_8 a1_9 a1_10 l1_11 l1_12))) else (spec_SameNode.j0 k true a0_0 a0_1 a0_2 a0_3 a0_4 a0_5 a0_6 a0_7 l0_8 a0_9 a0_10 l0_11 l0_12 a1_0 a1_1 a1_2 a1_3 a1_4 a1_5 a1_6 a1_7 l1_8 a1_9 a1_10 l1_11 l1_12)) else (spec_SameNode.j0 k true a0_0 a0_1 a0_2 a0_3 a0_4 a0_5 a0_6 a0_7 l0_8 a0_9 a0_10 l0_11 l0_12 a1_0 a1_1 a1_2 a1_3 a1_4 a1_5 a1_6 a1_7 l1_8 a1_9 a1_10 l1_11 l1_12)) else (spec_SameNode.j0 k true a0_0 a0_1 a0_2 a0_3 a0_4 a0_5 a0_6 a0_7 l0_8 a0_9 a0_10 l0_11 l0_12 a1_0 a1_1 a1_2 a1_3 a1_4 a1_5 a1_6 a1_7 l1_8 a1_9 a1_10 l1_11 l1_12)) else (spec_SameNode.j0 k true a0_0 a0_1 a0_2 a0_3 a0_4 a0_5 a0_6 a0_7 l0_8 a0_9 a0_10 l0_11 l0_12 a1_0 a1_1 a1_2 a1_3 a1_4 a1_5 a1_6 a1_7 l1_8 a1_9 a1_10 l1_11 l1_12)) else (spec_SameNode.j0 k true a0_0 a0_1 a0_2 a0_3 a0_4 a0_5 a0_6 a0_7 l0_8 a0_9 a0_10 l0_11 l0_12 a1_0 a1_1 a1_2 a1_3 a1_4 a1_5 a1_6 a1_7 l1_8 a1_9 a1_10 l1_11 l1_12)) else (spec_SameNode.j0 k true a0_0 a0_1 a0_2 a0_3 a0_4 a0_5 a0_6 a0_7 l0_8 a0_9 a0_10 l0_11 l0_12 a1_0 a1_1 a1_2 a1_3 a1_4 a1_5 a1_6 a1_7 l1_8 a1_9 a1_10 l1_11 l1_12)) else (spec_SameNode.j0 k true a0_0 a0_1 a0_2 a0_3 a0_4 a0_5 a0_6 a0_7 l0_8 a0_9 a0_10 l0_11 l0_12 a1_0 a1_1 a1_2 a1_3 a1_4 a1_5 a1_6 a1_7 l1_8 a1_9 a1_10 l1_11 l1_12)) else (spec_SameNode.j0 k true a0_0 a0_1 a0_2 a0_3 a0_4 a0_5 a0_6 a0_7 l0_8 a0_9 a0_10 l0_11 l0_12 a1_0 a1_1 a1_2 a1_3 a1_4 a1_5 a1_6 a1_7 l1_8 a1_9 a1_10 l1_11 l1_12)
theorem spec_SameNode.mono_l : ∀ k, (∀ y0 y1 y2 y3 y4 y5 y6 y7 y8 y9 y10 y11 y12 y13 y14 y15 y16 y17 y18 y19 y20 y21 y22 y23 y24 y25 y26, LeO (spec_SameNode.j0 k y0 y1 y2 y3 y4 y5 y6 y7 y8 y9 y10 y11 y12 y13 y14 y15 y16 y17 y18 y19 y20 y21 y22 y23 y24 y25 y26) (spec_SameNode.j0 (k + 1) y0 y1 y2 y3 y4 y5 y6 y7 y8 y9 y10 y11 y12 y13 y14 y15 y16 y17 y18 y19 y20 y21 y22 y23 y24 y25 y26)) ∧ (∀ y0 y1 y2 y3 y4 y5 y6 y7 y8 y9 y10 y11 y12 y13 y14 y15 y16 y17 y18 y19 y20 y21 y22 y23 y24 y25 y26, LeO (spec_SameNode.l0 k y0 y1 y2 y3 y4 y5 y6 y7 y8 y9 y10 y11 y12 y13 y14 y15 y16 y17 y18 y19 y20 y21 y22 y23 y24 y25 y26) (spec_SameNode.l0 (k + 1) y0 y1 y2 y3 y4 y5 y6 y7 y8 y9 y10 y11 y12 y13 y14 y15 y16 y17 y18 y19 y20 y21 y22 y23 y24 y25 y26))
 | 0 => ⟨fun _ _ _ _ _ _ _ _ _ _ _ _ _ _ _ _ _ _ _ _ _ _ _ _ _ _ _ r h => by simp [spec_SameNode.j0] at h, fun _ _ _ _ _ _ _ _ _ _ _ _ _ _ _ _ _ _ _ _ _ _ _ _ _ _ _ r h => by simp [spec_SameNode.l0] at h⟩
 | k + 1 => by
  obtain ⟨ih0, ih1⟩ := spec_SameNode.mono_l k
  refine ⟨?_, ?_⟩
  ·intro y0 y1 y2 y3 y4 y5 y6 y7 y8 y9 y10 y11 y12 y13 y14 y15 y16 y17 y18 y19 y20 y21 y22 y23 y24 y25 y26
   unfold spec_SameNode.j0
   repeat' first
   | (with_reducible exact ih0 _ _ _ _ _ _ _ _ _ _ _ _ _ _ _ _ _ _ _ _ _ _ _ _ _ _ _)
   | (with_reducible exact ih1 _ _ _ _ _ _ _ _ _ _ _ _ _ _ _ _ _ _ _ _ _ _ _ _ _ _ _)
   | (with_reducible exact spec_l7SameInts.mono _ _ _)
   | (with_reducible exact LeO.refl _)
   | (with_reducible exact LeO.none _)
   | (with_reducible refine LeO.ite ?_ ?_)
   | (with_reducible refine LeO.bind ?_ (fun _ => ?_))
   | exact ih0 _ _ _ _ _ _ _ _ _ _ _ _ _ _ _ _ _ _ _ _ _ _ _ _ _ _ _
   | exact ih1 _ _ _ _ _ _ _ _ _ _ _ _ _ _ _ _ _ _ _ _ _ _ _ _ _ _ _
   | exact spec_l7SameInts.mono _ _ _
   | exact LeO.none _
   | refine LeO.ite ?_ ?_
   | refine LeO.bind ?_ (fun _ => ?_)
  ·intro y0 y1 y2 y3 y4 y5 y6 y7 y8 y9 y10 y11 y12 y13 y14 y15 y16 y17 y18 y19 y20 y21 y22 y23 y24 y25 y26
   unfold spec_SameNode.l0
   repeat' first
   | (with_reducible exact ih0 _ _ _ _ _ _ _ _ _ _ _ _ _ _ _ _ _ _ _ _ _ _ _ _ _ _ _)
   | (with_reducible exact ih1 _ _ _ _ _ _ _ _ _ _ _ _ _ _ _ _ _ _ _ _ _ _ _ _ _ _ _)
   | (with_reducible exact spec_l7SameInts.mono _ _ _)
   | (with_reducible exact LeO.refl _)
   | (with_reducible exact LeO.none _)
   | (with_reducible refine LeO.ite ?_ ?_)
   | (with_reducible refine LeO.bind ?_ (fun _ => ?_))
   | exact ih0 _ _ _ _ _ _ _ _ _ _ _ _ _ _ _ _ _ _ _ _ _ _ _ _ _ _ _
   | exact ih1 _ _ _ _ _ _ _ _ _ _ _ _ _ _ _ _ _ _ _ _ _ _ _ _ _ _ _
   | exact spec_l7SameInts.mono _ _ _
   | exact LeO.none _
   | refine LeO.ite ?_ ?_
   | refine LeO.bind ?_ (fun _ => ?_)
theorem spec_SameNode.mono : ∀ a0 a1 a2 a3 a4 a5 a6 a7 a8 a9 a10 a11 a12 a13 a14 a15 a16 a17 a18 a19 a20 a21 a22 a23 a24 a25 k, LeO (spec_SameNode.f k a0 a1 a2 a3 a4 a5 a6 a7 a8 a9 a10 a11 a12 a13 a14 a15 a16 a17 a18 a19 a20 a21 a22 a23 a24 a25) (spec_SameNode.f (k + 1) a0 a1 a2 a3 a4 a5 a6 a7 a8 a9 a10 a11 a12 a13 a14 a15 a16 a17 a18 a19 a20 a21 a22 a23 a24 a25) := by
 intro a0 a1 a2 a3 a4 a5 a6 a7 a8 a9 a10 a11 a12 a13 a14 a15 a16 a17 a18 a19 a20 a21 a22 a23 a24 a25 k
 obtain ⟨ih0, ih1⟩ := spec_SameNode.mono_l k
 unfold spec_SameNode.f
 repeat' first
   | (with_reducible exact ih0 _ _ _ _ _ _ _ _ _ _ _ _ _ _ _ _ _ _ _ _ _ _ _ _ _ _ _)
   | (with_reducible exact ih1 _ _ _ _ _ _ _ _ _ _ _ _ _ _ _ _ _ _ _ _ _ _ _ _ _ _ _)
   | (with_reducible exact spec_l7SameInts.mono _ _ _)
   | (with_reducible exact LeO.refl _)
   | (with_reducible exact LeO.none _)
   | (with_reducible refine LeO.ite ?_ ?_)
   | (with_reducible refine LeO.bind ?_ (fun _ => ?_))
   | exact ih0 _ _ _ _ _ _ _ _ _ _ _ _ _ _ _ _ _ _ _ _ _ _ _ _ _ _ _
   | exact ih1 _ _ _ _ _ _ _ _ _ _ _ _ _ _ _ _ _ _ _ _ _ _ _ _ _ _ _
   | exact spec_l7SameInts.mono _ _ _
   | exact LeO.none _
   | refine LeO.ite ?_ ?_
   | refine LeO.bind ?_ (fun _ => ?_)
set_option maxHeartbeats 8000000 in
set_option maxRecDepth 100000 in
theorem spec_SameNode.calls (k : Nat) (a0_0 : Int) (a0_1 : Int) (a0_2 : Int) (a0_3 : Int) (a0_4 : Int) (a0_5 : Int) (a0_6 : Int) (a0_7 : Int) (A0_8 : Option Addr) (c0_8 : Nat) (l0_8 : List Int) (a0_9 : Int) (a0_10 : Int) (A0_11 : Option Addr) (c0_11 : Nat) (l0_11 : List (S84)) (A0_12 : Option Addr) (c0_12 : Nat) (l0_12 : List Int) (a1_0 : Int) (a1_1 : Int) (a1_2 : Int) (a1_3 : Int) (a1_4 : Int) (a1_5 : Int) (a1_6 : Int) (a1_7 : Int) (A1_8 : Option Addr) (c1_8 : Nat) (l1_8 : List Int) (a1_9 : Int) (a1_10 : Int) (A1_11 : Option Addr) (c1_11 : Nat) (l1_11 : List (S84)) (A1_12 : Option Addr) (c1_12 : Nat) (l1_12 : List Int) (r : Bool) (w : World) (hr0_8 : Kd.C (Kd.int .i64) w A0_8 l0_8.length l0_8) (hc0_8 : l0_8.length ≤ c0_8) (hr0_11 : Kd.C k84 w A0_11 l0_11.length l0_11) (hc0_11 : l0_11.length ≤ c0_11) (hr0_12 : Kd.C (Kd.int .i64) w A0_12 l0_12.length l0_12) (hc0_12 : l0_12.length ≤ c0_12) (hr1_8 : Kd.C (Kd.int .i64) w A1_8 l1_8.length l1_8) (hc1_8 : l1_8.length ≤ c1_8) (hr1_11 : Kd.C k84 w A1_11 l1_11.length l1_11) (hc1_11 : l1_11.length ≤ c1_11) (hr1_12 : Kd.C (Kd.int .i64) w A1_12 l1_12.length l1_12) (hc1_12 : l1_12.length ≤ c1_12) (h : spec_SameNode.f k a0_0 a0_1 a0_2 a0_3 a0_4 a0_5 a0_6 a0_7 l0_8 a0_9 a0_10 l0_11 l0_12 a1_0 a1_1 a1_2 a1_3 a1_4 a1_5 a1_6 a1_7 l1_8 a1_9 a1_10 l1_11 l1_12 = some r) :
  Calls Try.prog 19 #[.agg #[.int .i64 a0_0, .int .i64 a0_1, .int .i64 a0_2, .int .i64 a0_3, .int .i64 a0_4, .int .i64 a0_5, .int .i64 a0_6, .int .i64 a0_7, .slice A0_8 l0_8.length c0_8, .int .i64 a0_9, .int .i64 a0_10, .slice A0_11 l0_11.length c0_11, .slice A0_12 l0_12.length c0_12], .agg #[.int .i64 a1_0, .int .i64 a1_1, .int .i64 a1_2, .int .i64 a1_3, .int .i64 a1_4, .int .i64 a1_5, .int .i64 a1_6, .int .i64 a1_7, .slice A1_8 l1_8.length c1_8, .int .i64 a1_9, .int .i64 a1_10, .slice A1_11 l1_11.length c1_11, .slice A1_12 l1_12.length c1_12]] w fun e w' => e = .returned (.bool r) ∧ Below w.heap.size w w' := by
 have hu37 := Try.underlying37
 have hu84 := Try.underlying84
 have HR0_8 := Aside0.mk hr0_8
 have HC0_8 := Aside0.mk hc0_8
 clear hr0_8 hc0_8
 have HR0_11 := Aside0.mk hr0_11
 have HC0_11 := Aside0.mk hc0_11
 clear hr0_11 hc0_11
 have HR0_12 := Aside0.mk hr0_12
 have HC0_12 := Aside0.mk hc0_12
 clear hr0_12 hc0_12
 have HR1_8 := Aside0.mk hr1_8
 have HC1_8 := Aside0.mk hc1_8
 clear hr1_8 hc1_8
 have HR1_11 := Aside0.mk hr1_11
 have HC1_11 := Aside0.mk hc1_11
 clear hr1_11 hc1_11
 have HR1_12 := Aside0.mk hr1_12
 have HC1_12 := Aside0.mk hc1_12
 clear hr1_12 hc1_12
 have HB := Aside0.mk (Below.refl w.heap.size w)
 have H : (if a0_0 = a1_0 then (if a0_1 = a1_1 then (if a0_2 = a1_2 then (if a0_3 = a1_3 then (if a0_4 = a1_4 then (if a0_5 = a1_5 then (if a0_6 = a1_6 then (if a0_7 = a1_7 then ((spec_l7SameInts.f k l0_8 l1_8).bind fun t178 => (if t178 = true then (if a0_9 = a1_9 then (if a0_10 = a1_10 then (if (l0_11.length : Int) = (l1_11.length : Int) then ((spec_l7SameInts.f k l0_12 l1_12).bind fun t179 => (spec_SameNode.j0 k (!t179) a0_0 a0_1 a0_2 a0_3 a0_4 a0_5 a0_6 a0_7 l0_8 a0_9 a0_10 l0_11 l0_12 a1_0 a1_1 a1_2 a1_3 a1_4 a1_5 a1_6 a1_7 l1_8 a1_9 a1_10 l1_11 l1_12)) else (spec_SameNode.j0 k true a0_0 a0_1 a0_2 a0_3 a0_4 a0_5 a0_6 a0_7 l0_8 a0_9 a0_10 l0_11 l0_12 a1_0 a1_1 a1_2 a1_3 a1_4 a1_5 a1_6 a1_7 l1_8 a1_9 a1_10 l1_11 l1_12)) else (spec_SameNode.j0 k true a0_0 a0_1 a0_2 a0_3 a0_4 a0_5 a0_6 a0_7 l0_8 a0_9 a0_10 l0_11 l0_12 a1_0 a1_1 a1_2 a1_3 a1_4 a1_5 a1_6 a1_7 l1_8 a1_9 a1_10 l1_11 l1_12)) else (spec_SameNode.j0 k true a0_0 a0_1 a0_2 a0_3 a0_4 a0_5 a0_6 a0_7 l0_8 a0_9 a0_10 l0_11 l0_12 a1_0 a1_1 a1_2 a1_3 a1_4 a1_5 a1_6 a1_7 l1_8 a1_9 a1_10 l1_11 l1_12)) else (spec_SameNode.j0 k true a0_0 a0_1 a0_2 a0_3 a0_4 a0_5 a0_6 a0_7 l0_8 a0_9 a0_10 l0_11 l0_12 a1_0 a1_1 a1_2 a1_3 a1_4 a1_5 a1_6 a1_7 l1_8 a1_9 a1_10 l1_11 l1_12))) else (spec_SameNode.j0 k true a0_0 a0_1 a0_2 a0_3 a0_4 a0_5 a0_6 a0_7 l0_8 a0_9 a0_10 l0_11 l0_12 a1_0 a1_1 a1_2 a1_3 a1_4 a1_5 a1_6 a1_7 l1_8 a1_9 a1_10 l1_11 l1_12)) else (spec_SameNode.j0 k true a0_0 a0_1 a0_2 a0_3 a0_4 a0_5 a0_6 a0_7 l0_8 a0_9 a0_10 l0_11 l0_12 a1_0 a1_1 a1_2 a1_3 a1_4 a1_5 a1_6 a1_7 l1_8 a1_9 a1_10 l1_11 l1_12)) else (spec_SameNode.j0 k true a0_0 a0_1 a0_2 a0_3 a0_4 a0_5 a0_6 a0_7 l0_8 a0_9 a0_10 l0_11 l0_12 a1_0 a1_1 a1_2 a1_3 a1_4 a1_5 a1_6 a1_7 l1_8 a1_9 a1_10 l1_11 l1_12)) else (spec_SameNode.j0 k true a0_0 a0_1 a0_2 a0_3 a0_4 a0_5 a0_6 a0_7 l0_8 a0_9 a0_10 l0_11 l0_12 a1_0 a1_1 a1_2 a1_3 a1_4 a1_5 a1_6 a1_7 l1_8 a1_9 a1_10 l1_11 l1_12)) else (spec_SameNode.j0 k true a0_0 a0_1 a0_2 a0_3 a0_4 a0_5 a0_6 a0_7 l0_8 a0_9 a0_10 l0_11 l0_12 a1_0 a1_1 a1_2 a1_3 a1_4 a1_5 a1_6 a1_7 l1_8 a1_9 a1_10 l1_11 l1_12)) else (spec_SameNode.j0 k true a0_0 a0_1 a0_2 a0_3 a0_4 a0_5 a0_6 a0_7 l0_8 a0_9 a0_10 l0_11 l0_12 a1_0 a1_1 a1_2 a1_3 a1_4 a1_5 a1_6 a1_7 l1_8 a1_9 a1_10 l1_11 l1_12)) else (spec_SameNode.j0 k true a0_0 a0_1 a0_2 a0_3 a0_4 a0_5 a0_6 a0_7 l0_8 a0_9 a0_10 l0_11 l0_12 a1_0 a1_1 a1_2 a1_3 a1_4 a1_5 a1_6 a1_7 l1_8 a1_9 a1_10 l1_11 l1_12)) else (spec_SameNode.j0 k true a0_0 a0_1 a0_2 a0_3 a0_4 a0_5 a0_6 a0_7 l0_8 a0_9 a0_10 l0_11 l0_12 a1_0 a1_1 a1_2 a1_3 a1_4 a1_5 a1_6 a1_7 l1_8 a1_9 a1_10 l1_11 l1_12)) = some r := h
 clear h
 have HC3 := Aside0.mk H
 clear H
 go_enter Try.func19, Try.ntmps19
 go_upto_region 1 with (first | ((with_reducible refine gate_dst (N := 2) rfl ?_); (try (refine gate_guard (by rfl) ?_; dsimp only)); refine box_event ?hg (N := 2) ?hd (cs := #[.int .i64 a0_0, .int .i64 a0_1, .int .i64 a0_2, .int .i64 a0_3, .int .i64 a0_4, .int .i64 a0_5, .int .i64 a0_6, .int .i64 a0_7, .slice A0_8 l0_8.length c0_8, .int .i64 a0_9, .int .i64 a0_10, .slice A0_11 l0_11.length c0_11, .slice A0_12 l0_12.length c0_12]) (t := 37) ?hr ?_; (case hd => rfl); (case hg => rfl); (case hr => first | (go_simp; done) | (go_simp; rfl)); intro gb176 hg w4 hbox hb; have n0_ := Aside0.mk (below_step (by repeat (first | (with_reducible first | exact HB.out | apply below_alloc | apply pw_below_drewN | apply below_drew1) | exact HB.out)) hb); have n1_ := Aside0.mk (hbox); have n2_ := Aside0.mk ((by rw [hg]; exact (below_size (by repeat (first | (with_reducible first | exact HB.out | apply below_alloc | apply pw_below_drewN | apply below_drew1) | exact HB.out))) : w.heap.size ≤ gb176)); have n3_ := Aside0.mk ((by rw [hg]; exact (below_size (by repeat (first | (with_reducible first | exact HB.out | apply below_alloc | apply pw_below_drewN | apply below_drew1) | exact HB.out))) : w.heap.size ≤ gb176)); clear HB; have HB := n0_; have BK176 := n1_; have GW176 := n2_; have GE176 := n3_; clear n0_ n1_ n2_ n3_; clear hb hbox hg) | ((with_reducible refine gate_dst (N := 3) rfl ?_); (try (refine gate_guard (by rfl) ?_; dsimp only)); refine box_event ?hg (N := 3) ?hd (cs := #[.int .i64 a1_0, .int .i64 a1_1, .int .i64 a1_2, .int .i64 a1_3, .int .i64 a1_4, .int .i64 a1_5, .int .i64 a1_6, .int .i64 a1_7, .slice A1_8 l1_8.length c1_8, .int .i64 a1_9, .int .i64 a1_10, .slice A1_11 l1_11.length c1_11, .slice A1_12 l1_12.length c1_12]) (t := 37) ?hr ?_; (case hd => rfl); (case hg => rfl); (case hr => first | (go_simp; done) | (go_simp; rfl)); intro gb177 hg w5 hbox hb; have n0_ := Aside0.mk (blk_below (g := gb176) (o := .cells #[.int .i64 a0_0, .int .i64 a0_1, .int .i64 a0_2, .int .i64 a0_3, .int .i64 a0_4, .int .i64 a0_5, .int .i64 a0_6, .int .i64 a0_7, .slice A0_8 l0_8.length c0_8, .int .i64 a0_9, .int .i64 a0_10, .slice A0_11 l0_11.length c0_11, .slice A0_12 l0_12.length c0_12] 37 (0, 0)) (by (with_reducible repeat (first | refine blk_drewN ?_ _ | refine blk_drew ?_ | refine blk_alloc ?_ _)); exact BK176.out) hb); have n1_ := Aside0.mk (below_step (by repeat (first | (with_reducible first | exact HB.out | apply below_alloc | apply pw_below_drewN | apply below_drew1 | refine below_set ?_ GE176.out) | exact HB.out)) hb); have n2_ := Aside0.mk (hbox); have n3_ := Aside0.mk ((by rw [hg]; exact (below_size (by repeat (first | (with_reducible first | exact HB.out | apply below_alloc | apply pw_below_drewN | apply below_drew1 | refine below_set ?_ GE176.out) | exact HB.out))) : w.heap.size ≤ gb177)); have n4_ := Aside0.mk ((by rw [hg]; exact (below_size (by repeat (first | (with_reducible first | exact HB.out | apply below_alloc | apply pw_below_drewN | apply below_drew1 | refine below_set ?_ GE176.out) | exact HB.out))) : w.heap.size ≤ gb177)); have n5_ := Aside0.mk ((by rw [hg]; exact Nat.ne_of_lt (blk_lt (g := gb176) (o := .cells #[.int .i64 a0_0, .int .i64 a0_1, .int .i64 a0_2, .int .i64 a0_3, .int .i64 a0_4, .int .i64 a0_5, .int .i64 a0_6, .int .i64 a0_7, .slice A0_8 l0_8.length c0_8, .int .i64 a0_9, .int .i64 a0_10, .slice A0_11 l0_11.length c0_11, .slice A0_12 l0_12.length c0_12] 37 (0, 0)) (by (with_reducible repeat (first | refine blk_drewN ?_ _ | refine blk_drew ?_ | refine blk_alloc ?_ _)); exact BK176.out)) : gb176 ≠ gb177)); have n6_ := Aside0.mk ((by rw [hg]; exact Nat.ne_of_gt (blk_lt (g := gb176) (o := .cells #[.int .i64 a0_0, .int .i64 a0_1, .int .i64 a0_2, .int .i64 a0_3, .int .i64 a0_4, .int .i64 a0_5, .int .i64 a0_6, .int .i64 a0_7, .slice A0_8 l0_8.length c0_8, .int .i64 a0_9, .int .i64 a0_10, .slice A0_11 l0_11.length c0_11, .slice A0_12 l0_12.length c0_12] 37 (0, 0)) (by (with_reducible repeat (first | refine blk_drewN ?_ _ | refine blk_drew ?_ | refine blk_alloc ?_ _)); exact BK176.out)) : gb177 ≠ gb176)); clear BK176; clear HB; have BK176 := n0_; have HB := n1_; have BK177 := n2_; have GW177 := n3_; have GE177 := n4_; have NB176_177 := n5_; have NB177_176 := n6_; clear n0_ n1_ n2_ n3_ n4_ n5_ n6_; clear hb hbox hg))
 repeat (go_quiet (first | ((with_reducible refine gate_dst (N := 2) rfl ?_); (try (refine gate_guard (by rfl) ?_; dsimp only)); refine box_event ?hg (N := 2) ?hd (cs := #[.int .i64 a0_0, .int .i64 a0_1, .int .i64 a0_2, .int .i64 a0_3, .int .i64 a0_4, .int .i64 a0_5, .int .i64 a0_6, .int .i64 a0_7, .slice A0_8 l0_8.length c0_8, .int .i64 a0_9, .int .i64 a0_10, .slice A0_11 l0_11.length c0_11, .slice A0_12 l0_12.length c0_12]) (t := 37) ?hr ?_; (case hd => rfl); (case hg => rfl); (case hr => first | (go_simp; done) | (go_simp; rfl)); intro gb176 hg w4 hbox hb; have n0_ := Aside0.mk (below_step (by repeat (first | (with_reducible first | exact HB.out | apply below_alloc | apply pw_below_drewN | apply below_drew1) | exact HB.out)) hb); have n1_ := Aside0.mk (hbox); have n2_ := Aside0.mk ((by rw [hg]; exact (below_size (by repeat (first | (with_reducible first | exact HB.out | apply below_alloc | apply pw_below_drewN | apply below_drew1) | exact HB.out))) : w.heap.size ≤ gb176)); have n3_ := Aside0.mk ((by rw [hg]; exact (below_size (by repeat (first | (with_reducible first | exact HB.out | apply below_alloc | apply pw_below_drewN | apply below_drew1) | exact HB.out))) : w.heap.size ≤ gb176)); clear HB; have HB := n0_; have BK176 := n1_; have GW176 := n2_; have GE176 := n3_; clear n0_ n1_ n2_ n3_; clear hb hbox hg) | ((with_reducible refine gate_dst (N := 3) rfl ?_); (try (refine gate_guard (by rfl) ?_; dsimp only)); refine box_event ?hg (N := 3) ?hd (cs := #[.int .i64 a1_0, .int .i64 a1_1, .int .i64 a1_2, .int .i64 a1_3, .int .i64 a1_4, .int .i64 a1_5, .int .i64 a1_6, .int .i64 a1_7, .slice A1_8 l1_8.length c1_8, .int .i64 a1_9, .int .i64 a1_10, .slice A1_11 l1_11.length c1_11, .slice A1_12 l1_12.length c1_12]) (t := 37) ?hr ?_; (case hd => rfl); (case hg => rfl); (case hr => first | (go_simp; done) | (go_simp; rfl)); intro gb177 hg w5 hbox hb; have n0_ := Aside0.mk (blk_below (g := gb176) (o := .cells #[.int .i64 a0_0, .int .i64 a0_1, .int .i64 a0_2, .int .i64 a0_3, .int .i64 a0_4, .int .i64 a0_5, .int .i64 a0_6, .int .i64 a0_7, .slice A0_8 l0_8.length c0_8, .int .i64 a0_9, .int .i64 a0_10, .slice A0_11 l0_11.length c0_11, .slice A0_12 l0_12.length c0_12] 37 (0, 0)) (by (with_reducible repeat (first | refine blk_drewN ?_ _ | refine blk_drew ?_ | refine blk_alloc ?_ _)); exact BK176.out) hb); have n1_ := Aside0.mk (below_step (by repeat (first | (with_reducible first | exact HB.out | apply below_alloc | apply pw_below_drewN | apply below_drew1 | refine below_set ?_ GE176.out) | exact HB.out)) hb); have n2_ := Aside0.mk (hbox); have n3_ := Aside0.mk ((by rw [hg]; exact (below_size (by repeat (first | (with_reducible first | exact HB.out | apply below_alloc | apply pw_below_drewN | apply below_drew1 | refine below_set ?_ GE176.out) | exact HB.out))) : w.heap.size ≤ gb177)); have n4_ := Aside0.mk ((by rw [hg]; exact (below_size (by repeat (first | (with_reducible first | exact HB.out | apply below_alloc | apply pw_below_drewN | apply below_drew1 | refine below_set ?_ GE176.out) | exact HB.out))) : w.heap.size ≤ gb177)); have n5_ := Aside0.mk ((by rw [hg]; exact Nat.ne_of_lt (blk_lt (g := gb176) (o := .cells #[.int .i64 a0_0, .int .i64 a0_1, .int .i64 a0_2, .int .i64 a0_3, .int .i64 a0_4, .int .i64 a0_5, .int .i64 a0_6, .int .i64 a0_7, .slice A0_8 l0_8.length c0_8, .int .i64 a0_9, .int .i64 a0_10, .slice A0_11 l0_11.length c0_11, .slice A0_12 l0_12.length c0_12] 37 (0, 0)) (by (with_reducible repeat (first | refine blk_drewN ?_ _ | refine blk_drew ?_ | refine blk_alloc ?_ _)); exact BK176.out)) : gb176 ≠ gb177)); have n6_ := Aside0.mk ((by rw [hg]; exact Nat.ne_of_gt (blk_lt (g := gb176) (o := .cells #[.int .i64 a0_0, .int .i64 a0_1, .int .i64 a0_2, .int .i64 a0_3, .int .i64 a0_4, .int .i64 a0_5, .int .i64 a0_6, .int .i64 a0_7, .slice A0_8 l0_8.length c0_8, .int .i64 a0_9, .int .i64 a0_10, .slice A0_11 l0_11.length c0_11, .slice A0_12 l0_12.length c0_12] 37 (0, 0)) (by (with_reducible repeat (first | refine blk_drewN ?_ _ | refine blk_drew ?_ | refine blk_alloc ?_ _)); exact BK176.out)) : gb177 ≠ gb176)); clear BK176; clear HB; have BK176 := n0_; have HB := n1_; have BK177 := n2_; have GW177 := n3_; have GE177 := n4_; have NB176_177 := n5_; have NB177_176 := n6_; clear n0_ n1_ n2_ n3_ n4_ n5_ n6_; clear hb hbox hg)); go_upto_region 1 with (first | ((with_reducible refine gate_dst (N := 2) rfl ?_); (try (refine gate_guard (by rfl) ?_; dsimp only)); refine box_event ?hg (N := 2) ?hd (cs := #[.int .i64 a0_0, .int .i64 a0_1, .int .i64 a0_2, .int .i64 a0_3, .int .i64 a0_4, .int .i64 a0_5, .int .i64 a0_6, .int .i64 a0_7, .slice A0_8 l0_8.length c0_8, .int .i64 a0_9, .int .i64 a0_10, .slice A0_11 l0_11.length c0_11, .slice A0_12 l0_12.length c0_12]) (t := 37) ?hr ?_; (case hd => rfl); (case hg => rfl); (case hr => first | (go_simp; done) | (go_simp; rfl)); intro gb176 hg w4 hbox hb; have n0_ := Aside0.mk (below_step (by repeat (first | (with_reducible first | exact HB.out | apply below_alloc | apply pw_below_drewN | apply below_drew1) | exact HB.out)) hb); have n1_ := Aside0.mk (hbox); have n2_ := Aside0.mk ((by rw [hg]; exact (below_size (by repeat (first | (with_reducible first | exact HB.out | apply below_alloc | apply pw_below_drewN | apply below_drew1) | exact HB.out))) : w.heap.size ≤ gb176)); have n3_ := Aside0.mk ((by rw [hg]; exact (below_size (by repeat (first | (with_reducible first | exact HB.out | apply below_alloc | apply pw_below_drewN | apply below_drew1) | exact HB.out))) : w.heap.size ≤ gb176)); clear HB; have HB := n0_; have BK176 := n1_; have GW176 := n2_; have GE176 := n3_; clear n0_ n1_ n2_ n3_; clear hb hbox hg) | ((with_reducible refine gate_dst (N := 3) rfl ?_); (try (refine gate_guard (by rfl) ?_; dsimp only)); refine box_event ?hg (N := 3) ?hd (cs := #[.int .i64 a1_0, .int .i64 a1_1, .int .i64 a1_2, .int .i64 a1_3, .int .i64 a1_4, .int .i64 a1_5, .int .i64 a1_6, .int .i64 a1_7, .slice A1_8 l1_8.length c1_8, .int .i64 a1_9, .int .i64 a1_10, .slice A1_11 l1_11.length c1_11, .slice A1_12 l1_12.length c1_12]) (t := 37) ?hr ?_; (case hd => rfl); (case hg => rfl); (case hr => first | (go_simp; done) | (go_simp; rfl)); intro gb177 hg w5 hbox hb; have n0_ := Aside0.mk (blk_below (g := gb176) (o := .cells #[.int .i64 a0_0, .int .i64 a0_1, .int .i64 a0_2, .int .i64 a0_3, .int .i64 a0_4, .int .i64 a0_5, .int .i64 a0_6, .int .i64 a0_7, .slice A0_8 l0_8.length c0_8, .int .i64 a0_9, .int .i64 a0_10, .slice A0_11 l0_11.length c0_11, .slice A0_12 l0_12.length c0_12] 37 (0, 0)) (by (with_reducible repeat (first | refine blk_drewN ?_ _ | refine blk_drew ?_ | refine blk_alloc ?_ _)); exact BK176.out) hb); have n1_ := Aside0.mk (below_step (by repeat (first | (with_reducible first | exact HB.out | apply below_alloc | apply pw_below_drewN | apply below_drew1 | refine below_set ?_ GE176.out) | exact HB.out)) hb); have n2_ := Aside0.mk (hbox); have n3_ := Aside0.mk ((by rw [hg]; exact (below_size (by repeat (first | (with_reducible first | exact HB.out | apply below_alloc | apply pw_below_drewN | apply below_drew1 | refine below_set ?_ GE176.out) | exact HB.out))) : w.heap.size ≤ gb177)); have n4_ := Aside0.mk ((by rw [hg]; exact (below_size (by repeat (first | (with_reducible first | exact HB.out | apply below_alloc | apply pw_below_drewN | apply below_drew1 | refine below_set ?_ GE176.out) | exact HB.out))) : w.heap.size ≤ gb177)); have n5_ := Aside0.mk ((by rw [hg]; exact Nat.ne_of_lt (blk_lt (g := gb176) (o := .cells #[.int .i64 a0_0, .int .i64 a0_1, .int .i64 a0_2, .int .i64 a0_3, .int .i64 a0_4, .int .i64 a0_5, .int .i64 a0_6, .int .i64 a0_7, .slice A0_8 l0_8.length c0_8, .int .i64 a0_9, .int .i64 a0_10, .slice A0_11 l0_11.length c0_11, .slice A0_12 l0_12.length c0_12] 37 (0, 0)) (by (with_reducible repeat (first | refine blk_drewN ?_ _ | refine blk_drew ?_ | refine blk_alloc ?_ _)); exact BK176.out)) : gb176 ≠ gb177)); have n6_ := Aside0.mk ((by rw [hg]; exact Nat.ne_of_gt (blk_lt (g := gb176) (o := .cells #[.int .i64 a0_0, .int .i64 a0_1, .int .i64 a0_2, .int .i64 a0_3, .int .i64 a0_4, .int .i64 a0_5, .int .i64 a0_6, .int .i64 a0_7, .slice A0_8 l0_8.length c0_8, .int .i64 a0_9, .int .i64 a0_10, .slice A0_11 l0_11.length c0_11, .slice A0_12 l0_12.length c0_12] 37 (0, 0)) (by (with_reducible repeat (first | refine blk_drewN ?_ _ | refine blk_drew ?_ | refine blk_alloc ?_ _)); exact BK176.out)) : gb177 ≠ gb176)); clear BK176; clear HB; have BK176 := n0_; have HB := n1_; have BK177 := n2_; have GW177 := n3_; have GE177 := n4_; have NB176_177 := n5_; have NB177_176 := n6_; clear n0_ n1_ n2_ n3_ n4_ n5_ n6_; clear hb hbox hg)))
 (try simp only [Act.put, List.setIfInBounds_toArray, List.set_cons_zero, List.set_cons_succ])
 go_cut [98] (fun v98 wc => ∃ (kq : Nat) (x98_2 : Bool), v98 = .bool x98_2 ∧ Aside0 (spec_SameNode.j0 kq x98_2 a0_0 a0_1 a0_2 a0_3 a0_4 a0_5 a0_6 a0_7 l0_8 a0_9 a0_10 l0_11 l0_12 a1_0 a1_1 a1_2 a1_3 a1_4 a1_5 a1_6 a1_7 l1_8 a1_9 a1_10 l1_11 l1_12 = some r) ∧ Aside0 (kq ≤ k) ∧ Aside0 (wc.heap[gb176]? = some (.cells #[.int .i64 a0_0, .int .i64 a0_1, .int .i64 a0_2, .int .i64 a0_3, .int .i64 a0_4, .int .i64 a0_5, .int .i64 a0_6, .int .i64 a0_7, (.slice A0_8 l0_8.length c0_8), .int .i64 a0_9, .int .i64 a0_10, (.slice A0_11 l0_11.length c0_11), (.slice A0_12 l0_12.length c0_12)] 37 (0, 0))) ∧ Aside0 (wc.heap[gb177]? = some (.cells #[.int .i64 a1_0, .int .i64 a1_1, .int .i64 a1_2, .int .i64 a1_3, .int .i64 a1_4, .int .i64 a1_5, .int .i64 a1_6, .int .i64 a1_7, (.slice A1_8 l1_8.length c1_8), .int .i64 a1_9, .int .i64 a1_10, (.slice A1_11 l1_11.length c1_11), (.slice A1_12 l1_12.length c1_12)] 37 (0, 0))) ∧ Aside0 (Below w.heap.size w wc))
 case first =>
  have H := HC3.out
  clear HC3
  by_cases c6 : a0_0 = a1_0
  ·rw [if_pos c6] at H
   have c6b0 : (a0_0 == a1_0) = true := beq_iff_eq.mpr c6
   have c6b1 : (a0_0 != a1_0) = false := bne_eq_false_iff_eq.mpr c6
   clear c6
   (first | rw [c6b0] | (simp only [i64_w, i32_w]; rw [c6b0]) | skip)
   by_cases c7 : a0_1 = a1_1
   ·rw [if_pos c7] at H
    have c7b0 : (a0_1 == a1_1) = true := beq_iff_eq.mpr c7
    have c7b1 : (a0_1 != a1_1) = false := bne_eq_false_iff_eq.mpr c7
    clear c7
    by_cases c8 : a0_2 = a1_2
    ·rw [if_pos c8] at H
     have c8b0 : (a0_2 == a1_2) = true := beq_iff_eq.mpr c8
     have c8b1 : (a0_2 != a1_2) = false := bne_eq_false_iff_eq.mpr c8
     clear c8
     by_cases c9 : a0_3 = a1_3
     ·rw [if_pos c9] at H
      have c9b0 : (a0_3 == a1_3) = true := beq_iff_eq.mpr c9
      have c9b1 : (a0_3 != a1_3) = false := bne_eq_false_iff_eq.mpr c9
      clear c9
      by_cases c10 : a0_4 = a1_4
      ·rw [if_pos c10] at H
       have c10b0 : (a0_4 == a1_4) = true := beq_iff_eq.mpr c10
       have c10b1 : (a0_4 != a1_4) = false := bne_eq_false_iff_eq.mpr c10
       clear c10
       by_cases c11 : a0_5 = a1_5
       ·rw [if_pos c11] at H
        have c11b0 : (a0_5 == a1_5) = true := beq_iff_eq.mpr c11
        have c11b1 : (a0_5 != a1_5) = false := bne_eq_false_iff_eq.mpr c11
        clear c11
        by_cases c12 : a0_6 = a1_6
        ·rw [if_pos c12] at H
         have c12b0 : (a0_6 == a1_6) = true := beq_iff_eq.mpr c12
         have c12b1 : (a0_6 != a1_6) = false := bne_eq_false_iff_eq.mpr c12
         clear c12
         by_cases c13 : a0_7 = a1_7
         ·rw [if_pos c13] at H
          have c13b0 : (a0_7 == a1_7) = true := beq_iff_eq.mpr c13
          have c13b1 : (a0_7 != a1_7) = false := bne_eq_false_iff_eq.mpr c13
          clear c13
          replace H := Option.bind_eq_some_iff.mp H
          obtain ⟨t178, A140, H⟩ := H
          replace H : (if t178 = true then (if a0_9 = a1_9 then (if a0_10 = a1_10 then (if (l0_11.length : Int) = (l1_11.length : Int) then ((spec_l7SameInts.f k l0_12 l1_12).bind fun t179 => (spec_SameNode.j0 k (!t179) a0_0 a0_1 a0_2 a0_3 a0_4 a0_5 a0_6 a0_7 l0_8 a0_9 a0_10 l0_11 l0_12 a1_0 a1_1 a1_2 a1_3 a1_4 a1_5 a1_6 a1_7 l1_8 a1_9 a1_10 l1_11 l1_12)) else (spec_SameNode.j0 k true a0_0 a0_1 a0_2 a0_3 a0_4 a0_5 a0_6 a0_7 l0_8 a0_9 a0_10 l0_11 l0_12 a1_0 a1_1 a1_2 a1_3 a1_4 a1_5 a1_6 a1_7 l1_8 a1_9 a1_10 l1_11 l1_12)) else (spec_SameNode.j0 k true a0_0 a0_1 a0_2 a0_3 a0_4 a0_5 a0_6 a0_7 l0_8 a0_9 a0_10 l0_11 l0_12 a1_0 a1_1 a1_2 a1_3 a1_4 a1_5 a1_6 a1_7 l1_8 a1_9 a1_10 l1_11 l1_12)) else (spec_SameNode.j0 k true a0_0 a0_1 a0_2 a0_3 a0_4 a0_5 a0_6 a0_7 l0_8 a0_9 a0_10 l0_11 l0_12 a1_0 a1_1 a1_2 a1_3 a1_4 a1_5 a1_6 a1_7 l1_8 a1_9 a1_10 l1_11 l1_12)) else (spec_SameNode.j0 k true a0_0 a0_1 a0_2 a0_3 a0_4 a0_5 a0_6 a0_7 l0_8 a0_9 a0_10 l0_11 l0_12 a1_0 a1_1 a1_2 a1_3 a1_4 a1_5 a1_6 a1_7 l1_8 a1_9 a1_10 l1_11 l1_12)) = some r := H
          have A14 := Aside0.mk A140
          clear A140
          by_cases c15 : t178 = true
          ·subst c15
           have H1 : (if a0_9 = a1_9 then (if a0_10 = a1_10 then (if (l0_11.length : Int) = (l1_11.length : Int) then ((spec_l7SameInts.f k l0_12 l1_12).bind fun t179 => (spec_SameNode.j0 k (!t179) a0_0 a0_1 a0_2 a0_3 a0_4 a0_5 a0_6 a0_7 l0_8 a0_9 a0_10 l0_11 l0_12 a1_0 a1_1 a1_2 a1_3 a1_4 a1_5 a1_6 a1_7 l1_8 a1_9 a1_10 l1_11 l1_12)) else (spec_SameNode.j0 k true a0_0 a0_1 a0_2 a0_3 a0_4 a0_5 a0_6 a0_7 l0_8 a0_9 a0_10 l0_11 l0_12 a1_0 a1_1 a1_2 a1_3 a1_4 a1_5 a1_6 a1_7 l1_8 a1_9 a1_10 l1_11 l1_12)) else (spec_SameNode.j0 k true a0_0 a0_1 a0_2 a0_3 a0_4 a0_5 a0_6 a0_7 l0_8 a0_9 a0_10 l0_11 l0_12 a1_0 a1_1 a1_2 a1_3 a1_4 a1_5 a1_6 a1_7 l1_8 a1_9 a1_10 l1_11 l1_12)) else (spec_SameNode.j0 k true a0_0 a0_1 a0_2 a0_3 a0_4 a0_5 a0_6 a0_7 l0_8 a0_9 a0_10 l0_11 l0_12 a1_0 a1_1 a1_2 a1_3 a1_4 a1_5 a1_6 a1_7 l1_8 a1_9 a1_10 l1_11 l1_12)) = some r := by rw [if_pos rfl] at H; exact H
           clear H
           have H := H1
           clear H1
           by_cases c16 : a0_9 = a1_9
           ·rw [if_pos c16] at H
            have c16b0 : (a0_9 == a1_9) = true := beq_iff_eq.mpr c16
            have c16b1 : (a0_9 != a1_9) = false := bne_eq_false_iff_eq.mpr c16
            clear c16
            by_cases c17 : a0_10 = a1_10
            ·rw [if_pos c17] at H
             have c17b0 : (a0_10 == a1_10) = true := beq_iff_eq.mpr c17
             have c17b1 : (a0_10 != a1_10) = false := bne_eq_false_iff_eq.mpr c17
             clear c17
             by_cases c18 : (l0_11.length : Int) = (l1_11.length : Int)
             ·rw [if_pos c18] at H
              have c18b0 : ((l0_11.length : Int) == (l1_11.length : Int)) = true := beq_iff_eq.mpr c18
              have c18b1 : ((l0_11.length : Int) != (l1_11.length : Int)) = false := bne_eq_false_iff_eq.mpr c18
              have c18b2 : (l0_11.length == l1_11.length) = true := by first | simpa using c18 | (simp at c18 ⊢; omega)
              clear c18
              replace H := Option.bind_eq_some_iff.mp H
              obtain ⟨t179, A190, H⟩ := H
              replace H : (spec_SameNode.j0 k (!t179) a0_0 a0_1 a0_2 a0_3 a0_4 a0_5 a0_6 a0_7 l0_8 a0_9 a0_10 l0_11 l0_12 a1_0 a1_1 a1_2 a1_3 a1_4 a1_5 a1_6 a1_7 l1_8 a1_9 a1_10 l1_11 l1_12) = some r := H
              have A19 := Aside0.mk A190
              clear A190
              have H' := Aside0.mk H
              clear H
              have hnb20 := NB176_177.out
              have hnc20 := NB177_176.out
              have hcz21_0 : w5.cell? ⟨gb176, 0, none⟩ = some (.int .i64 a0_0) := (blk_cell BK176.out 0).trans rfl
              have hcz21_1 : w5.cell? ⟨gb176, 1, none⟩ = some (.int .i64 a0_1) := (blk_cell BK176.out 1).trans rfl
              have hcz21_2 : w5.cell? ⟨gb176, 2, none⟩ = some (.int .i64 a0_2) := (blk_cell BK176.out 2).trans rfl
              have hcz21_3 : w5.cell? ⟨gb176, 3, none⟩ = some (.int .i64 a0_3) := (blk_cell BK176.out 3).trans rfl
              have hcz21_4 : w5.cell? ⟨gb176, 4, none⟩ = some (.int .i64 a0_4) := (blk_cell BK176.out 4).trans rfl
              have hcz21_5 : w5.cell? ⟨gb176, 5, none⟩ = some (.int .i64 a0_5) := (blk_cell BK176.out 5).trans rfl
              have hcz21_6 : w5.cell? ⟨gb176, 6, none⟩ = some (.int .i64 a0_6) := (blk_cell BK176.out 6).trans rfl
              have hcz21_7 : w5.cell? ⟨gb176, 7, none⟩ = some (.int .i64 a0_7) := (blk_cell BK176.out 7).trans rfl
              have hcz21_8 : w5.cell? ⟨gb176, 8, none⟩ = some (.slice A0_8 l0_8.length c0_8) := (blk_cell BK176.out 8).trans rfl
              have hcz21_9 : w5.cell? ⟨gb176, 9, none⟩ = some (.int .i64 a0_9) := (blk_cell BK176.out 9).trans rfl
              have hcz21_10 : w5.cell? ⟨gb176, 10, none⟩ = some (.int .i64 a0_10) := (blk_cell BK176.out 10).trans rfl
              have hcz21_11 : w5.cell? ⟨gb176, 11, none⟩ = some (.slice A0_11 l0_11.length c0_11) := (blk_cell BK176.out 11).trans rfl
              have hcz21_12 : w5.cell? ⟨gb176, 12, none⟩ = some (.slice A0_12 l0_12.length c0_12) := (blk_cell BK176.out 12).trans rfl
              have hfz21_0 := blk_frozen BK176.out 0
              have hfz21_1 := blk_frozen BK176.out 1
              have hfz21_2 := blk_frozen BK176.out 2
              have hfz21_3 := blk_frozen BK176.out 3
              have hfz21_4 := blk_frozen BK176.out 4
              have hfz21_5 := blk_frozen BK176.out 5
              have hfz21_6 := blk_frozen BK176.out 6
              have hfz21_7 := blk_frozen BK176.out 7
              have hfz21_8 := blk_frozen BK176.out 8
              have hfz21_9 := blk_frozen BK176.out 9
              have hfz21_10 := blk_frozen BK176.out 10
              have hfz21_11 := blk_frozen BK176.out 11
              have hfz21_12 := blk_frozen BK176.out 12
              have hcz22_0 : w5.cell? ⟨gb177, 0, none⟩ = some (.int .i64 a1_0) := (blk_cell BK177.out 0).trans rfl
              have hcz22_1 : w5.cell? ⟨gb177, 1, none⟩ = some (.int .i64 a1_1) := (blk_cell BK177.out 1).trans rfl
              have hcz22_2 : w5.cell? ⟨gb177, 2, none⟩ = some (.int .i64 a1_2) := (blk_cell BK177.out 2).trans rfl
              have hcz22_3 : w5.cell? ⟨gb177, 3, none⟩ = some (.int .i64 a1_3) := (blk_cell BK177.out 3).trans rfl
              have hcz22_4 : w5.cell? ⟨gb177, 4, none⟩ = some (.int .i64 a1_4) := (blk_cell BK177.out 4).trans rfl
              have hcz22_5 : w5.cell? ⟨gb177, 5, none⟩ = some (.int .i64 a1_5) := (blk_cell BK177.out 5).trans rfl
              have hcz22_6 : w5.cell? ⟨gb177, 6, none⟩ = some (.int .i64 a1_6) := (blk_cell BK177.out 6).trans rfl
              have hcz22_7 : w5.cell? ⟨gb177, 7, none⟩ = some (.int .i64 a1_7) := (blk_cell BK177.out 7).trans rfl
              have hcz22_8 : w5.cell? ⟨gb177, 8, none⟩ = some (.slice A1_8 l1_8.length c1_8) := (blk_cell BK177.out 8).trans rfl
              have hcz22_9 : w5.cell? ⟨gb177, 9, none⟩ = some (.int .i64 a1_9) := (blk_cell BK177.out 9).trans rfl
              have hcz22_10 : w5.cell? ⟨gb177, 10, none⟩ = some (.int .i64 a1_10) := (blk_cell BK177.out 10).trans rfl
              have hcz22_11 : w5.cell? ⟨gb177, 11, none⟩ = some (.slice A1_11 l1_11.length c1_11) := (blk_cell BK177.out 11).trans rfl
              have hcz22_12 : w5.cell? ⟨gb177, 12, none⟩ = some (.slice A1_12 l1_12.length c1_12) := (blk_cell BK177.out 12).trans rfl
              have hfz22_0 := blk_frozen BK177.out 0
              have hfz22_1 := blk_frozen BK177.out 1
              have hfz22_2 := blk_frozen BK177.out 2
              have hfz22_3 := blk_frozen BK177.out 3
              have hfz22_4 := blk_frozen BK177.out 4
              have hfz22_5 := blk_frozen BK177.out 5
              have hfz22_6 := blk_frozen BK177.out 6
              have hfz22_7 := blk_frozen BK177.out 7
              have hfz22_8 := blk_frozen BK177.out 8
              have hfz22_9 := blk_frozen BK177.out 9
              have hfz22_10 := blk_frozen BK177.out 10
              have hfz22_11 := blk_frozen BK177.out 11
              have hfz22_12 := blk_frozen BK177.out 12
              go_wp2_with (first | (go_at_call 69; (with_reducible refine (spec_l7SameInts.calls k _ _ l0_8 _ _ l1_8 true _ ?side1 ?side2 ?side3 ?side4 A14.out).mono ?_); (case side1 => repeat (first | exact (Kd.C_below HR0_8.out HB.out) | (with_reducible refine Kd.C_alloc ?_ _) | (with_reducible refine Kd.C_drewN ?_ _) | (with_reducible refine Kd.C_drew ?_))); (case side2 => exact HC0_8.out); (case side3 => repeat (first | exact (Kd.C_below HR1_8.out HB.out) | (with_reducible refine Kd.C_alloc ?_ _) | (with_reducible refine Kd.C_drewN ?_ _) | (with_reducible refine Kd.C_drew ?_))); (case side4 => exact HC1_8.out); rintro e w' ⟨rfl, ⟨nd, rfl⟩⟩; (try first | exact ⟨rfl, _, World.drewN_drewN _ _ _⟩ | exact ⟨rfl, _, Eq.trans (World.drewN_drewN _ _ _) (congrArg (World.drewN _) (Nat.add_assoc _ _ _))⟩)) | (go_at_call 69; (with_reducible refine (spec_l7SameInts.calls k _ _ l0_12 _ _ l1_12 t179 _ ?side1 ?side2 ?side3 ?side4 A19.out).mono ?_); (case side1 => repeat (first | exact (Kd.C_below HR0_12.out (by repeat (first | (with_reducible first | exact HB.out | apply below_alloc | apply pw_below_drewN | apply below_drew1 | refine below_set ?_ GE176.out | refine below_set ?_ GE177.out) | exact HB.out))) | (with_reducible refine Kd.C_alloc ?_ _) | (with_reducible refine Kd.C_drewN ?_ _) | (with_reducible refine Kd.C_drew ?_))); (case side2 => exact HC0_12.out); (case side3 => repeat (first | exact (Kd.C_below HR1_12.out (by repeat (first | (with_reducible first | exact HB.out | apply below_alloc | apply pw_below_drewN | apply below_drew1 | refine below_set ?_ GE176.out | refine below_set ?_ GE177.out) | exact HB.out))) | (with_reducible refine Kd.C_alloc ?_ _) | (with_reducible refine Kd.C_drewN ?_ _) | (with_reducible refine Kd.C_drew ?_))); (case side4 => exact HC1_12.out); rintro e w' ⟨rfl, ⟨nd, rfl⟩⟩; (try first | exact ⟨rfl, _, World.drewN_drewN _ _ _⟩ | exact ⟨rfl, _, Eq.trans (World.drewN_drewN _ _ _) (congrArg (World.drewN _) (Nat.add_assoc _ _ _))⟩)))
              repeat (go_quiet (first | (go_at_call 69; (with_reducible refine (spec_l7SameInts.calls k _ _ l0_8 _ _ l1_8 true _ ?side1 ?side2 ?side3 ?side4 A14.out).mono ?_); (case side1 => repeat (first | exact (Kd.C_below HR0_8.out HB.out) | (with_reducible refine Kd.C_alloc ?_ _) | (with_reducible refine Kd.C_drewN ?_ _) | (with_reducible refine Kd.C_drew ?_))); (case side2 => exact HC0_8.out); (case side3 => repeat (first | exact (Kd.C_below HR1_8.out HB.out) | (with_reducible refine Kd.C_alloc ?_ _) | (with_reducible refine Kd.C_drewN ?_ _) | (with_reducible refine Kd.C_drew ?_))); (case side4 => exact HC1_8.out); rintro e w' ⟨rfl, ⟨nd, rfl⟩⟩; (try first | exact ⟨rfl, _, World.drewN_drewN _ _ _⟩ | exact ⟨rfl, _, Eq.trans (World.drewN_drewN _ _ _) (congrArg (World.drewN _) (Nat.add_assoc _ _ _))⟩)) | (go_at_call 69; (with_reducible refine (spec_l7SameInts.calls k _ _ l0_12 _ _ l1_12 t179 _ ?side1 ?side2 ?side3 ?side4 A19.out).mono ?_); (case side1 => repeat (first | exact (Kd.C_below HR0_12.out (by repeat (first | (with_reducible first | exact HB.out | apply below_alloc | apply pw_below_drewN | apply below_drew1 | refine below_set ?_ GE176.out | refine below_set ?_ GE177.out) | exact HB.out))) | (with_reducible refine Kd.C_alloc ?_ _) | (with_reducible refine Kd.C_drewN ?_ _) | (with_reducible refine Kd.C_drew ?_))); (case side2 => exact HC0_12.out); (case side3 => repeat (first | exact (Kd.C_below HR1_12.out (by repeat (first | (with_reducible first | exact HB.out | apply below_alloc | apply pw_below_drewN | apply below_drew1 | refine below_set ?_ GE176.out | refine below_set ?_ GE177.out) | exact HB.out))) | (with_reducible refine Kd.C_alloc ?_ _) | (with_reducible refine Kd.C_drewN ?_ _) | (with_reducible refine Kd.C_drew ?_))); (case side4 => exact HC1_12.out); rintro e w' ⟨rfl, ⟨nd, rfl⟩⟩; (try first | exact ⟨rfl, _, World.drewN_drewN _ _ _⟩ | exact ⟨rfl, _, Eq.trans (World.drewN_drewN _ _ _) (congrArg (World.drewN _) (Nat.add_assoc _ _ _))⟩))); try go_wp2_with (first | (go_at_call 69; (with_reducible refine (spec_l7SameInts.calls k _ _ l0_8 _ _ l1_8 true _ ?side1 ?side2 ?side3 ?side4 A14.out).mono ?_); (case side1 => repeat (first | exact (Kd.C_below HR0_8.out HB.out) | (with_reducible refine Kd.C_alloc ?_ _) | (with_reducible refine Kd.C_drewN ?_ _) | (with_reducible refine Kd.C_drew ?_))); (case side2 => exact HC0_8.out); (case side3 => repeat (first | exact (Kd.C_below HR1_8.out HB.out) | (with_reducible refine Kd.C_alloc ?_ _) | (with_reducible refine Kd.C_drewN ?_ _) | (with_reducible refine Kd.C_drew ?_))); (case side4 => exact HC1_8.out); rintro e w' ⟨rfl, ⟨nd, rfl⟩⟩; (try first | exact ⟨rfl, _, World.drewN_drewN _ _ _⟩ | exact ⟨rfl, _, Eq.trans (World.drewN_drewN _ _ _) (congrArg (World.drewN _) (Nat.add_assoc _ _ _))⟩)) | (go_at_call 69; (with_reducible refine (spec_l7SameInts.calls k _ _ l0_12 _ _ l1_12 t179 _ ?side1 ?side2 ?side3 ?side4 A19.out).mono ?_); (case side1 => repeat (first | exact (Kd.C_below HR0_12.out (by repeat (first | (with_reducible first | exact HB.out | apply below_alloc | apply pw_below_drewN | apply below_drew1 | refine below_set ?_ GE176.out | refine below_set ?_ GE177.out) | exact HB.out))) | (with_reducible refine Kd.C_alloc ?_ _) | (with_reducible refine Kd.C_drewN ?_ _) | (with_reducible refine Kd.C_drew ?_))); (case side2 => exact HC0_12.out); (case side3 => repeat (first | exact (Kd.C_below HR1_12.out (by repeat (first | (with_reducible first | exact HB.out | apply below_alloc | apply pw_below_drewN | apply below_drew1 | refine below_set ?_ GE176.out | refine below_set ?_ GE177.out) | exact HB.out))) | (with_reducible refine Kd.C_alloc ?_ _) | (with_reducible refine Kd.C_drewN ?_ _) | (with_reducible refine Kd.C_drew ?_))); (case side4 => exact HC1_12.out); rintro e w' ⟨rfl, ⟨nd, rfl⟩⟩; (try first | exact ⟨rfl, _, World.drewN_drewN _ _ _⟩ | exact ⟨rfl, _, Eq.trans (World.drewN_drewN _ _ _) (congrArg (World.drewN _) (Nat.add_assoc _ _ _))⟩))))
              go_meet
              case rel => exact ⟨_, (!t179), (by first | rfl | (simp; done) | (simp [*]; done)), H', ⟨by first | omega | exact Nat.le_refl _⟩, ⟨by (with_reducible repeat (first | refine blk_drewN ?_ _ | refine blk_drew ?_ | refine blk_alloc ?_ _)); exact BK176.out⟩, ⟨by (with_reducible repeat (first | refine blk_drewN ?_ _ | refine blk_drew ?_ | refine blk_alloc ?_ _)); exact BK177.out⟩, ⟨by repeat (first | (with_reducible first | exact HB.out | apply below_alloc | apply pw_below_drewN | apply below_drew1 | refine below_set ?_ GE176.out | refine below_set ?_ GE177.out) | exact HB.out)⟩⟩
             ·rw [if_neg c18] at H
              have c18b0 : ((l0_11.length : Int) == (l1_11.length : Int)) = false := beq_eq_false_iff_ne.mpr c18
              have c18b1 : ((l0_11.length : Int) != (l1_11.length : Int)) = true := bne_iff_ne.mpr c18
              have c18b2 : (l0_11.length == l1_11.length) = false := by first | simpa using c18 | (simp at c18 ⊢; omega)
              have H' := Aside0.mk H
              clear H
              have hnb23 := NB176_177.out
              have hnc23 := NB177_176.out
              have hcz24_0 : w5.cell? ⟨gb176, 0, none⟩ = some (.int .i64 a0_0) := (blk_cell BK176.out 0).trans rfl
              have hcz24_1 : w5.cell? ⟨gb176, 1, none⟩ = some (.int .i64 a0_1) := (blk_cell BK176.out 1).trans rfl
              have hcz24_2 : w5.cell? ⟨gb176, 2, none⟩ = some (.int .i64 a0_2) := (blk_cell BK176.out 2).trans rfl
              have hcz24_3 : w5.cell? ⟨gb176, 3, none⟩ = some (.int .i64 a0_3) := (blk_cell BK176.out 3).trans rfl
              have hcz24_4 : w5.cell? ⟨gb176, 4, none⟩ = some (.int .i64 a0_4) := (blk_cell BK176.out 4).trans rfl
              have hcz24_5 : w5.cell? ⟨gb176, 5, none⟩ = some (.int .i64 a0_5) := (blk_cell BK176.out 5).trans rfl
              have hcz24_6 : w5.cell? ⟨gb176, 6, none⟩ = some (.int .i64 a0_6) := (blk_cell BK176.out 6).trans rfl
              have hcz24_7 : w5.cell? ⟨gb176, 7, none⟩ = some (.int .i64 a0_7) := (blk_cell BK176.out 7).trans rfl
              have hcz24_8 : w5.cell? ⟨gb176, 8, none⟩ = some (.slice A0_8 l0_8.length c0_8) := (blk_cell BK176.out 8).trans rfl
              have hcz24_9 : w5.cell? ⟨gb176, 9, none⟩ = some (.int .i64 a0_9) := (blk_cell BK176.out 9).trans rfl
              have hcz24_10 : w5.cell? ⟨gb176, 10, none⟩ = some (.int .i64 a0_10) := (blk_cell BK176.out 10).trans rfl
              have hcz24_11 : w5.cell? ⟨gb176, 11, none⟩ = some (.slice A0_11 l0_11.length c0_11) := (blk_cell BK176.out 11).trans rfl
              have hcz24_12 : w5.cell? ⟨gb176, 12, none⟩ = some (.slice A0_12 l0_12.length c0_12) := (blk_cell BK176.out 12).trans rfl
              have hfz24_0 := blk_frozen BK176.out 0
              have hfz24_1 := blk_frozen BK176.out 1
              have hfz24_2 := blk_frozen BK176.out 2
              have hfz24_3 := blk_frozen BK176.out 3
              have hfz24_4 := blk_frozen BK176.out 4
              have hfz24_5 := blk_frozen BK176.out 5
              have hfz24_6 := blk_frozen BK176.out 6
              have hfz24_7 := blk_frozen BK176.out 7
              have hfz24_8 := blk_frozen BK176.out 8
              have hfz24_9 := blk_frozen BK176.out 9
              have hfz24_10 := blk_frozen BK176.out 10
              have hfz24_11 := blk_frozen BK176.out 11
              have hfz24_12 := blk_frozen BK176.out 12
              have hcz25_0 : w5.cell? ⟨gb177, 0, none⟩ = some (.int .i64 a1_0) := (blk_cell BK177.out 0).trans rfl
              have hcz25_1 : w5.cell? ⟨gb177, 1, none⟩ = some (.int .i64 a1_1) := (blk_cell BK177.out 1).trans rfl
              have hcz25_2 : w5.cell? ⟨gb177, 2, none⟩ = some (.int .i64 a1_2) := (blk_cell BK177.out 2).trans rfl
              have hcz25_3 : w5.cell? ⟨gb177, 3, none⟩ = some (.int .i64 a1_3) := (blk_cell BK177.out 3).trans rfl
              have hcz25_4 : w5.cell? ⟨gb177, 4, none⟩ = some (.int .i64 a1_4) := (blk_cell BK177.out 4).trans rfl
              have hcz25_5 : w5.cell? ⟨gb177, 5, none⟩ = some (.int .i64 a1_5) := (blk_cell BK177.out 5).trans rfl
              have hcz25_6 : w5.cell? ⟨gb177, 6, none⟩ = some (.int .i64 a1_6) := (blk_cell BK177.out 6).trans rfl
              have hcz25_7 : w5.cell? ⟨gb177, 7, none⟩ = some (.int .i64 a1_7) := (blk_cell BK177.out 7).trans rfl
              have hcz25_8 : w5.cell? ⟨gb177, 8, none⟩ = some (.slice A1_8 l1_8.length c1_8) := (blk_cell BK177.out 8).trans rfl
              have hcz25_9 : w5.cell? ⟨gb177, 9, none⟩ = some (.int .i64 a1_9) := (blk_cell BK177.out 9).trans rfl
              have hcz25_10 : w5.cell? ⟨gb177, 10, none⟩ = some (.int .i64 a1_10) := (blk_cell BK177.out 10).trans rfl
              have hcz25_11 : w5.cell? ⟨gb177, 11, none⟩ = some (.slice A1_11 l1_11.length c1_11) := (blk_cell BK177.out 11).trans rfl
              have hcz25_12 : w5.cell? ⟨gb177, 12, none⟩ = some (.slice A1_12 l1_12.length c1_12) := (blk_cell BK177.out 12).trans rfl
              have hfz25_0 := blk_frozen BK177.out 0
              have hfz25_1 := blk_frozen BK177.out 1
              have hfz25_2 := blk_frozen BK177.out 2
              have hfz25_3 := blk_frozen BK177.out 3
              have hfz25_4 := blk_frozen BK177.out 4
              have hfz25_5 := blk_frozen BK177.out 5
              have hfz25_6 := blk_frozen BK177.out 6
              have hfz25_7 := blk_frozen BK177.out 7
              have hfz25_8 := blk_frozen BK177.out 8
              have hfz25_9 := blk_frozen BK177.out 9
              have hfz25_10 := blk_frozen BK177.out 10
              have hfz25_11 := blk_frozen BK177.out 11
              have hfz25_12 := blk_frozen BK177.out 12
              go_wp2_with (first | (go_at_call 69; (with_reducible refine (spec_l7SameInts.calls k _ _ l0_8 _ _ l1_8 true _ ?side1 ?side2 ?side3 ?side4 A14.out).mono ?_); (case side1 => repeat (first | exact (Kd.C_below HR0_8.out HB.out) | (with_reducible refine Kd.C_alloc ?_ _) | (with_reducible refine Kd.C_drewN ?_ _) | (with_reducible refine Kd.C_drew ?_))); (case side2 => exact HC0_8.out); (case side3 => repeat (first | exact (Kd.C_below HR1_8.out HB.out) | (with_reducible refine Kd.C_alloc ?_ _) | (with_reducible refine Kd.C_drewN ?_ _) | (with_reducible refine Kd.C_drew ?_))); (case side4 => exact HC1_8.out); rintro e w' ⟨rfl, ⟨nd, rfl⟩⟩; (try first | exact ⟨rfl, _, World.drewN_drewN _ _ _⟩ | exact ⟨rfl, _, Eq.trans (World.drewN_drewN _ _ _) (congrArg (World.drewN _) (Nat.add_assoc _ _ _))⟩)))
              repeat (go_quiet (first | (go_at_call 69; (with_reducible refine (spec_l7SameInts.calls k _ _ l0_8 _ _ l1_8 true _ ?side1 ?side2 ?side3 ?side4 A14.out).mono ?_); (case side1 => repeat (first | exact (Kd.C_below HR0_8.out HB.out) | (with_reducible refine Kd.C_alloc ?_ _) | (with_reducible refine Kd.C_drewN ?_ _) | (with_reducible refine Kd.C_drew ?_))); (case side2 => exact HC0_8.out); (case side3 => repeat (first | exact (Kd.C_below HR1_8.out HB.out) | (with_reducible refine Kd.C_alloc ?_ _) | (with_reducible refine Kd.C_drewN ?_ _) | (with_reducible refine Kd.C_drew ?_))); (case side4 => exact HC1_8.out); rintro e w' ⟨rfl, ⟨nd, rfl⟩⟩; (try first | exact ⟨rfl, _, World.drewN_drewN _ _ _⟩ | exact ⟨rfl, _, Eq.trans (World.drewN_drewN _ _ _) (congrArg (World.drewN _) (Nat.add_assoc _ _ _))⟩))); try go_wp2_with (first | (go_at_call 69; (with_reducible refine (spec_l7SameInts.calls k _ _ l0_8 _ _ l1_8 true _ ?side1 ?side2 ?side3 ?side4 A14.out).mono ?_); (case side1 => repeat (first | exact (Kd.C_below HR0_8.out HB.out) | (with_reducible refine Kd.C_alloc ?_ _) | (with_reducible refine Kd.C_drewN ?_ _) | (with_reducible refine Kd.C_drew ?_))); (case side2 => exact HC0_8.out); (case side3 => repeat (first | exact (Kd.C_below HR1_8.out HB.out) | (with_reducible refine Kd.C_alloc ?_ _) | (with_reducible refine Kd.C_drewN ?_ _) | (with_reducible refine Kd.C_drew ?_))); (case side4 => exact HC1_8.out); rintro e w' ⟨rfl, ⟨nd, rfl⟩⟩; (try first | exact ⟨rfl, _, World.drewN_drewN _ _ _⟩ | exact ⟨rfl, _, Eq.trans (World.drewN_drewN _ _ _) (congrArg (World.drewN _) (Nat.add_assoc _ _ _))⟩))))
              go_meet
              case rel => exact ⟨_, (true), (by first | rfl | (simp; done) | (simp [*]; done)), H', ⟨by first | omega | exact Nat.le_refl _⟩, ⟨by (with_reducible repeat (first | refine blk_drewN ?_ _ | refine blk_drew ?_ | refine blk_alloc ?_ _)); exact BK176.out⟩, ⟨by (with_reducible repeat (first | refine blk_drewN ?_ _ | refine blk_drew ?_ | refine blk_alloc ?_ _)); exact BK177.out⟩, ⟨by repeat (first | (with_reducible first | exact HB.out | apply below_alloc | apply pw_below_drewN | apply below_drew1 | refine below_set ?_ GE176.out | refine below_set ?_ GE177.out) | exact HB.out)⟩⟩
            ·rw [if_neg c17] at H
             have c17b0 : (a0_10 == a1_10) = false := beq_eq_false_iff_ne.mpr c17
             have c17b1 : (a0_10 != a1_10) = true := bne_iff_ne.mpr c17
             have H' := Aside0.mk H
             clear H
             have hnb26 := NB176_177.out
             have hnc26 := NB177_176.out
             have hcz27_0 : w5.cell? ⟨gb176, 0, none⟩ = some (.int .i64 a0_0) := (blk_cell BK176.out 0).trans rfl
             have hcz27_1 : w5.cell? ⟨gb176, 1, none⟩ = some (.int .i64 a0_1) := (blk_cell BK176.out 1).trans rfl
             have hcz27_2 : w5.cell? ⟨gb176, 2, none⟩ = some (.int .i64 a0_2) := (blk_cell BK176.out 2).trans rfl
             have hcz27_3 : w5.cell? ⟨gb176, 3, none⟩ = some (.int .i64 a0_3) := (blk_cell BK176.out 3).trans rfl
             have hcz27_4 : w5.cell? ⟨gb176, 4, none⟩ = some (.int .i64 a0_4) := (blk_cell BK176.out 4).trans rfl
             have hcz27_5 : w5.cell? ⟨gb176, 5, none⟩ = some (.int .i64 a0_5) := (blk_cell BK176.out 5).trans rfl
             have hcz27_6 : w5.cell? ⟨gb176, 6, none⟩ = some (.int .i64 a0_6) := (blk_cell BK176.out 6).trans rfl
             have hcz27_7 : w5.cell? ⟨gb176, 7, none⟩ = some (.int .i64 a0_7) := (blk_cell BK176.out 7).trans rfl
             have hcz27_8 : w5.cell? ⟨gb176, 8, none⟩ = some (.slice A0_8 l0_8.length c0_8) := (blk_cell BK176.out 8).trans rfl
             have hcz27_9 : w5.cell? ⟨gb176, 9, none⟩ = some (.int .i64 a0_9) := (blk_cell BK176.out 9).trans rfl
             have hcz27_10 : w5.cell? ⟨gb176, 10, none⟩ = some (.int .i64 a0_10) := (blk_cell BK176.out 10).trans rfl
             have hcz27_11 : w5.cell? ⟨gb176, 11, none⟩ = some (.slice A0_11 l0_11.length c0_11) := (blk_cell BK176.out 11).trans rfl
             have hcz27_12 : w5.cell? ⟨gb176, 12, none⟩ = some (.slice A0_12 l0_12.length c0_12) := (blk_cell BK176.out 12).trans rfl
             have hfz27_0 := blk_frozen BK176.out 0
             have hfz27_1 := blk_frozen BK176.out 1
             have hfz27_2 := blk_frozen BK176.out 2
             have hfz27_3 := blk_frozen BK176.out 3
             have hfz27_4 := blk_frozen BK176.out 4
             have hfz27_5 := blk_frozen BK176.out 5
             have hfz27_6 := blk_frozen BK176.out 6
             have hfz27_7 := blk_frozen BK176.out 7
             have hfz27_8 := blk_frozen BK176.out 8
             have hfz27_9 := blk_frozen BK176.out 9
             have hfz27_10 := blk_frozen BK176.out 10
             have hfz27_11 := blk_frozen BK176.out 11
             have hfz27_12 := blk_frozen BK176.out 12
             have hcz28_0 : w5.cell? ⟨gb177, 0, none⟩ = some (.int .i64 a1_0) := (blk_cell BK177.out 0).trans rfl
             have hcz28_1 : w5.cell? ⟨gb177, 1, none⟩ = some (.int .i64 a1_1) := (blk_cell BK177.out 1).trans rfl
             have hcz28_2 : w5.cell? ⟨gb177, 2, none⟩ = some (.int .i64 a1_2) := (blk_cell BK177.out 2).trans rfl
             have hcz28_3 : w5.cell? ⟨gb177, 3, none⟩ = some (.int .i64 a1_3) := (blk_cell BK177.out 3).trans rfl
             have hcz28_4 : w5.cell? ⟨gb177, 4, none⟩ = some (.int .i64 a1_4) := (blk_cell BK177.out 4).trans rfl
             have hcz28_5 : w5.cell? ⟨gb177, 5, none⟩ = some (.int .i64 a1_5) := (blk_cell BK177.out 5).trans rfl
             have hcz28_6 : w5.cell? ⟨gb177, 6, none⟩ = some (.int .i64 a1_6) := (blk_cell BK177.out 6).trans rfl
             have hcz28_7 : w5.cell? ⟨gb177, 7, none⟩ = some (.int .i64 a1_7) := (blk_cell BK177.out 7).trans rfl
             have hcz28_8 : w5.cell? ⟨gb177, 8, none⟩ = some (.slice A1_8 l1_8.length c1_8) := (blk_cell BK177.out 8).trans rfl
             have hcz28_9 : w5.cell? ⟨gb177, 9, none⟩ = some (.int .i64 a1_9) := (blk_cell BK177.out 9).trans rfl
             have hcz28_10 : w5.cell? ⟨gb177, 10, none⟩ = some (.int .i64 a1_10) := (blk_cell BK177.out 10).trans rfl
             have hcz28_11 : w5.cell? ⟨gb177, 11, none⟩ = some (.slice A1_11 l1_11.length c1_11) := (blk_cell BK177.out 11).trans rfl
             have hcz28_12 : w5.cell? ⟨gb177, 12, none⟩ = some (.slice A1_12 l1_12.length c1_12) := (blk_cell BK177.out 12).trans rfl
             have hfz28_0 := blk_frozen BK177.out 0
             have hfz28_1 := blk_frozen BK177.out 1
             have hfz28_2 := blk_frozen BK177.out 2
             have hfz28_3 := blk_frozen BK177.out 3
             have hfz28_4 := blk_frozen BK177.out 4
             have hfz28_5 := blk_frozen BK177.out 5
             have hfz28_6 := blk_frozen BK177.out 6
             have hfz28_7 := blk_frozen BK177.out 7
             have hfz28_8 := blk_frozen BK177.out 8
             have hfz28_9 := blk_frozen BK177.out 9
             have hfz28_10 := blk_frozen BK177.out 10
             have hfz28_11 := blk_frozen BK177.out 11
             have hfz28_12 := blk_frozen BK177.out 12
             go_wp2_with (first | (go_at_call 69; (with_reducible refine (spec_l7SameInts.calls k _ _ l0_8 _ _ l1_8 true _ ?side1 ?side2 ?side3 ?side4 A14.out).mono ?_); (case side1 => repeat (first | exact (Kd.C_below HR0_8.out HB.out) | (with_reducible refine Kd.C_alloc ?_ _) | (with_reducible refine Kd.C_drewN ?_ _) | (with_reducible refine Kd.C_drew ?_))); (case side2 => exact HC0_8.out); (case side3 => repeat (first | exact (Kd.C_below HR1_8.out HB.out) | (with_reducible refine Kd.C_alloc ?_ _) | (with_reducible refine Kd.C_drewN ?_ _) | (with_reducible refine Kd.C_drew ?_))); (case side4 => exact HC1_8.out); rintro e w' ⟨rfl, ⟨nd, rfl⟩⟩; (try first | exact ⟨rfl, _, World.drewN_drewN _ _ _⟩ | exact ⟨rfl, _, Eq.trans (World.drewN_drewN _ _ _) (congrArg (World.drewN _) (Nat.add_assoc _ _ _))⟩)))
             repeat (go_quiet (first | (go_at_call 69; (with_reducible refine (spec_l7SameInts.calls k _ _ l0_8 _ _ l1_8 true _ ?side1 ?side2 ?side3 ?side4 A14.out).mono ?_); (case side1 => repeat (first | exact (Kd.C_below HR0_8.out HB.out) | (with_reducible refine Kd.C_alloc ?_ _) | (with_reducible refine Kd.C_drewN ?_ _) | (with_reducible refine Kd.C_drew ?_))); (case side2 => exact HC0_8.out); (case side3 => repeat (first | exact (Kd.C_below HR1_8.out HB.out) | (with_reducible refine Kd.C_alloc ?_ _) | (with_reducible refine Kd.C_drewN ?_ _) | (with_reducible refine Kd.C_drew ?_))); (case side4 => exact HC1_8.out); rintro e w' ⟨rfl, ⟨nd, rfl⟩⟩; (try first | exact ⟨rfl, _, World.drewN_drewN _ _ _⟩ | exact ⟨rfl, _, Eq.trans (World.drewN_drewN _ _ _) (congrArg (World.drewN _) (Nat.add_assoc _ _ _))⟩))); try go_wp2_with (first | (go_at_call 69; (with_reducible refine (spec_l7SameInts.calls k _ _ l0_8 _ _ l1_8 true _ ?side1 ?side2 ?side3 ?side4 A14.out).mono ?_); (case side1 => repeat (first | exact (Kd.C_below HR0_8.out HB.out) | (with_reducible refine Kd.C_alloc ?_ _) | (with_reducible refine Kd.C_drewN ?_ _) | (with_reducible refine Kd.C_drew ?_))); (case side2 => exact HC0_8.out); (case side3 => repeat (first | exact (Kd.C_below HR1_8.out HB.out) | (with_reducible refine Kd.C_alloc ?_ _) | (with_reducible refine Kd.C_drewN ?_ _) | (with_reducible refine Kd.C_drew ?_))); (case side4 => exact HC1_8.out); rintro e w' ⟨rfl, ⟨nd, rfl⟩⟩; (try first | exact ⟨rfl, _, World.drewN_drewN _ _ _⟩ | exact ⟨rfl, _, Eq.trans (World.drewN_drewN _ _ _) (congrArg (World.drewN _) (Nat.add_assoc _ _ _))⟩))))
             go_meet
             case rel => exact ⟨_, (true), (by first | rfl | (simp; done) | (simp [*]; done)), H', ⟨by first | omega | exact Nat.le_refl _⟩, ⟨by (with_reducible repeat (first | refine blk_drewN ?_ _ | refine blk_drew ?_ | refine blk_alloc ?_ _)); exact BK176.out⟩, ⟨by (with_reducible repeat (first | refine blk_drewN ?_ _ | refine blk_drew ?_ | refine blk_alloc ?_ _)); exact BK177.out⟩, ⟨by repeat (first | (with_reducible first | exact HB.out | apply below_alloc | apply pw_below_drewN | apply below_drew1 | refine below_set ?_ GE176.out | refine below_set ?_ GE177.out) | exact HB.out)⟩⟩
           ·rw [if_neg c16] at H
            have c16b0 : (a0_9 == a1_9) = false := beq_eq_false_iff_ne.mpr c16
            have c16b1 : (a0_9 != a1_9) = true := bne_iff_ne.mpr c16
            have H' := Aside0.mk H
            clear H
            have hnb29 := NB176_177.out
            have hnc29 := NB177_176.out
            have hcz30_0 : w5.cell? ⟨gb176, 0, none⟩ = some (.int .i64 a0_0) := (blk_cell BK176.out 0).trans rfl
            have hcz30_1 : w5.cell? ⟨gb176, 1, none⟩ = some (.int .i64 a0_1) := (blk_cell BK176.out 1).trans rfl
            have hcz30_2 : w5.cell? ⟨gb176, 2, none⟩ = some (.int .i64 a0_2) := (blk_cell BK176.out 2).trans rfl
            have hcz30_3 : w5.cell? ⟨gb176, 3, none⟩ = some (.int .i64 a0_3) := (blk_cell BK176.out 3).trans rfl
            have hcz30_4 : w5.cell? ⟨gb176, 4, none⟩ = some (.int .i64 a0_4) := (blk_cell BK176.out 4).trans rfl
            have hcz30_5 : w5.cell? ⟨gb176, 5, none⟩ = some (.int .i64 a0_5) := (blk_cell BK176.out 5).trans rfl
            have hcz30_6 : w5.cell? ⟨gb176, 6, none⟩ = some (.int .i64 a0_6) := (blk_cell BK176.out 6).trans rfl
            have hcz30_7 : w5.cell? ⟨gb176, 7, none⟩ = some (.int .i64 a0_7) := (blk_cell BK176.out 7).trans rfl
            have hcz30_8 : w5.cell? ⟨gb176, 8, none⟩ = some (.slice A0_8 l0_8.length c0_8) := (blk_cell BK176.out 8).trans rfl
            have hcz30_9 : w5.cell? ⟨gb176, 9, none⟩ = some (.int .i64 a0_9) := (blk_cell BK176.out 9).trans rfl
            have hcz30_10 : w5.cell? ⟨gb176, 10, none⟩ = some (.int .i64 a0_10) := (blk_cell BK176.out 10).trans rfl
            have hcz30_11 : w5.cell? ⟨gb176, 11, none⟩ = some (.slice A0_11 l0_11.length c0_11) := (blk_cell BK176.out 11).trans rfl
            have hcz30_12 : w5.cell? ⟨gb176, 12, none⟩ = some (.slice A0_12 l0_12.length c0_12) := (blk_cell BK176.out 12).trans rfl
            have hfz30_0 := blk_frozen BK176.out 0
            have hfz30_1 := blk_frozen BK176.out 1
            have hfz30_2 := blk_frozen BK176.out 2
            have hfz30_3 := blk_frozen BK176.out 3
            have hfz30_4 := blk_frozen BK176.out 4
            have hfz30_5 := blk_frozen BK176.out 5
            have hfz30_6 := blk_frozen BK176.out 6
            have hfz30_7 := blk_frozen BK176.out 7
            have hfz30_8 := blk_frozen BK176.out 8
            have hfz30_9 := blk_frozen BK176.out 9
            have hfz30_10 := blk_frozen BK176.out 10
            have hfz30_11 := blk_frozen BK176.out 11
            have hfz30_12 := blk_frozen BK176.out 12
            have hcz31_0 : w5.cell? ⟨gb177, 0, none⟩ = some (.int .i64 a1_0) := (blk_cell BK177.out 0).trans rfl
            have hcz31_1 : w5.cell? ⟨gb177, 1, none⟩ = some (.int .i64 a1_1) := (blk_cell BK177.out 1).trans rfl
            have hcz31_2 : w5.cell? ⟨gb177, 2, none⟩ = some (.int .i64 a1_2) := (blk_cell BK177.out 2).trans rfl
            have hcz31_3 : w5.cell? ⟨gb177, 3, none⟩ = some (.int .i64 a1_3) := (blk_cell BK177.out 3).trans rfl
            have hcz31_4 : w5.cell? ⟨gb177, 4, none⟩ = some (.int .i64 a1_4) := (blk_cell BK177.out 4).trans rfl
            have hcz31_5 : w5.cell? ⟨gb177, 5, none⟩ = some (.int .i64 a1_5) := (blk_cell BK177.out 5).trans rfl
            have hcz31_6 : w5.cell? ⟨gb177, 6, none⟩ = some (.int .i64 a1_6) := (blk_cell BK177.out 6).trans rfl
            have hcz31_7 : w5.cell? ⟨gb177, 7, none⟩ = some (.int .i64 a1_7) := (blk_cell BK177.out 7).trans rfl
            have hcz31_8 : w5.cell? ⟨gb177, 8, none⟩ = some (.slice A1_8 l1_8.length c1_8) := (blk_cell BK177.out 8).trans rfl
            have hcz31_9 : w5.cell? ⟨gb177, 9, none⟩ = some (.int .i64 a1_9) := (blk_cell BK177.out 9).trans rfl
            have hcz31_10 : w5.cell? ⟨gb177, 10, none⟩ = some (.int .i64 a1_10) := (blk_cell BK177.out 10).trans rfl
            have hcz31_11 : w5.cell? ⟨gb177, 11, none⟩ = some (.slice A1_11 l1_11.length c1_11) := (blk_cell BK177.out 11).trans rfl
            have hcz31_12 : w5.cell? ⟨gb177, 12, none⟩ = some (.slice A1_12 l1_12.length c1_12) := (blk_cell BK177.out 12).trans rfl
            have hfz31_0 := blk_frozen BK177.out 0
            have hfz31_1 := blk_frozen BK177.out 1
            have hfz31_2 := blk_frozen BK177.out 2
            have hfz31_3 := blk_frozen BK177.out 3
            have hfz31_4 := blk_frozen BK177.out 4
            have hfz31_5 := blk_frozen BK177.out 5
            have hfz31_6 := blk_frozen BK177.out 6
            have hfz31_7 := blk_frozen BK177.out 7
            have hfz31_8 := blk_frozen BK177.out 8
            have hfz31_9 := blk_frozen BK177.out 9
            have hfz31_10 := blk_frozen BK177.out 10
            have hfz31_11 := blk_frozen BK177.out 11
            have hfz31_12 := blk_frozen BK177.out 12
            go_wp2_with (first | (go_at_call 69; (with_reducible refine (spec_l7SameInts.calls k _ _ l0_8 _ _ l1_8 true _ ?side1 ?side2 ?side3 ?side4 A14.out).mono ?_); (case side1 => repeat (first | exact (Kd.C_below HR0_8.out HB.out) | (with_reducible refine Kd.C_alloc ?_ _) | (with_reducible refine Kd.C_drewN ?_ _) | (with_reducible refine Kd.C_drew ?_))); (case side2 => exact HC0_8.out); (case side3 => repeat (first | exact (Kd.C_below HR1_8.out HB.out) | (with_reducible refine Kd.C_alloc ?_ _) | (with_reducible refine Kd.C_drewN ?_ _) | (with_reducible refine Kd.C_drew ?_))); (case side4 => exact HC1_8.out); rintro e w' ⟨rfl, ⟨nd, rfl⟩⟩; (try first | exact ⟨rfl, _, World.drewN_drewN _ _ _⟩ | exact ⟨rfl, _, Eq.trans (World.drewN_drewN _ _ _) (congrArg (World.drewN _) (Nat.add_assoc _ _ _))⟩)))
            repeat (go_quiet (first | (go_at_call 69; (with_reducible refine (spec_l7SameInts.calls k _ _ l0_8 _ _ l1_8 true _ ?side1 ?side2 ?side3 ?side4 A14.out).mono ?_); (case side1 => repeat (first | exact (Kd.C_below HR0_8.out HB.out) | (with_reducible refine Kd.C_alloc ?_ _) | (with_reducible refine Kd.C_drewN ?_ _) | (with_reducible refine Kd.C_drew ?_))); (case side2 => exact HC0_8.out); (case side3 => repeat (first | exact (Kd.C_below HR1_8.out HB.out) | (with_reducible refine Kd.C_alloc ?_ _) | (with_reducible refine Kd.C_drewN ?_ _) | (with_reducible refine Kd.C_drew ?_))); (case side4 => exact HC1_8.out); rintro e w' ⟨rfl, ⟨nd, rfl⟩⟩; (try first | exact ⟨rfl, _, World.drewN_drewN _ _ _⟩ | exact ⟨rfl, _, Eq.trans (World.drewN_drewN _ _ _) (congrArg (World.drewN _) (Nat.add_assoc _ _ _))⟩))); try go_wp2_with (first | (go_at_call 69; (with_reducible refine (spec_l7SameInts.calls k _ _ l0_8 _ _ l1_8 true _ ?side1 ?side2 ?side3 ?side4 A14.out).mono ?_); (case side1 => repeat (first | exact (Kd.C_below HR0_8.out HB.out) | (with_reducible refine Kd.C_alloc ?_ _) | (with_reducible refine Kd.C_drewN ?_ _) | (with_reducible refine Kd.C_drew ?_))); (case side2 => exact HC0_8.out); (case side3 => repeat (first | exact (Kd.C_below HR1_8.out HB.out) | (with_reducible refine Kd.C_alloc ?_ _) | (with_reducible refine Kd.C_drewN ?_ _) | (with_reducible refine Kd.C_drew ?_))); (case side4 => exact HC1_8.out); rintro e w' ⟨rfl, ⟨nd, rfl⟩⟩; (try first | exact ⟨rfl, _, World.drewN_drewN _ _ _⟩ | exact ⟨rfl, _, Eq.trans (World.drewN_drewN _ _ _) (congrArg (World.drewN _) (Nat.add_assoc _ _ _))⟩))))
            go_meet
            case rel => exact ⟨_, (true), (by first | rfl | (simp; done) | (simp [*]; done)), H', ⟨by first | omega | exact Nat.le_refl _⟩, ⟨by (with_reducible repeat (first | refine blk_drewN ?_ _ | refine blk_drew ?_ | refine blk_alloc ?_ _)); exact BK176.out⟩, ⟨by (with_reducible repeat (first | refine blk_drewN ?_ _ | refine blk_drew ?_ | refine blk_alloc ?_ _)); exact BK177.out⟩, ⟨by repeat (first | (with_reducible first | exact HB.out | apply below_alloc | apply pw_below_drewN | apply below_drew1 | refine below_set ?_ GE176.out | refine below_set ?_ GE177.out) | exact HB.out)⟩⟩
          ·replace c15 := Bool.eq_false_iff.mpr c15
           subst c15
           have H1 : (spec_SameNode.j0 k true a0_0 a0_1 a0_2 a0_3 a0_4 a0_5 a0_6 a0_7 l0_8 a0_9 a0_10 l0_11 l0_12 a1_0 a1_1 a1_2 a1_3 a1_4 a1_5 a1_6 a1_7 l1_8 a1_9 a1_10 l1_11 l1_12) = some r := by rw [if_neg (show ¬ (false = true) by decide)] at H; exact H
           clear H
           have H := H1
           clear H1
           have H' := Aside0.mk H
           clear H
           have hnb32 := NB176_177.out
           have hnc32 := NB177_176.out
           have hcz33_0 : w5.cell? ⟨gb176, 0, none⟩ = some (.int .i64 a0_0) := (blk_cell BK176.out 0).trans rfl
           have hcz33_1 : w5.cell? ⟨gb176, 1, none⟩ = some (.int .i64 a0_1) := (blk_cell BK176.out 1).trans rfl
           have hcz33_2 : w5.cell? ⟨gb176, 2, none⟩ = some (.int .i64 a0_2) := (blk_cell BK176.out 2).trans rfl
           have hcz33_3 : w5.cell? ⟨gb176, 3, none⟩ = some (.int .i64 a0_3) := (blk_cell BK176.out 3).trans rfl
           have hcz33_4 : w5.cell? ⟨gb176, 4, none⟩ = some (.int .i64 a0_4) := (blk_cell BK176.out 4).trans rfl
           have hcz33_5 : w5.cell? ⟨gb176, 5, none⟩ = some (.int .i64 a0_5) := (blk_cell BK176.out 5).trans rfl
           have hcz33_6 : w5.cell? ⟨gb176, 6, none⟩ = some (.int .i64 a0_6) := (blk_cell BK176.out 6).trans rfl
           have hcz33_7 : w5.cell? ⟨gb176, 7, none⟩ = some (.int .i64 a0_7) := (blk_cell BK176.out 7).trans rfl
           have hcz33_8 : w5.cell? ⟨gb176, 8, none⟩ = some (.slice A0_8 l0_8.length c0_8) := (blk_cell BK176.out 8).trans rfl
           have hcz33_9 : w5.cell? ⟨gb176, 9, none⟩ = some (.int .i64 a0_9) := (blk_cell BK176.out 9).trans rfl
           have hcz33_10 : w5.cell? ⟨gb176, 10, none⟩ = some (.int .i64 a0_10) := (blk_cell BK176.out 10).trans rfl
           have hcz33_11 : w5.cell? ⟨gb176, 11, none⟩ = some (.slice A0_11 l0_11.length c0_11) := (blk_cell BK176.out 11).trans rfl
           have hcz33_12 : w5.cell? ⟨gb176, 12, none⟩ = some (.slice A0_12 l0_12.length c0_12) := (blk_cell BK176.out 12).trans rfl
           have hfz33_0 := blk_frozen BK176.out 0
           have hfz33_1 := blk_frozen BK176.out 1
           have hfz33_2 := blk_frozen BK176.out 2
           have hfz33_3 := blk_frozen BK176.out 3
           have hfz33_4 := blk_frozen BK176.out 4
           have hfz33_5 := blk_frozen BK176.out 5
           have hfz33_6 := blk_frozen BK176.out 6
           have hfz33_7 := blk_frozen BK176.out 7
           have hfz33_8 := blk_frozen BK176.out 8
           have hfz33_9 := blk_frozen BK176.out 9
           have hfz33_10 := blk_frozen BK176.out 10
           have hfz33_11 := blk_frozen BK176.out 11
           have hfz33_12 := blk_frozen BK176.out 12
           have hcz34_0 : w5.cell? ⟨gb177, 0, none⟩ = some (.int .i64 a1_0) := (blk_cell BK177.out 0).trans rfl
           have hcz34_1 : w5.cell? ⟨gb177, 1, none⟩ = some (.int .i64 a1_1) := (blk_cell BK177.out 1).trans rfl
           have hcz34_2 : w5.cell? ⟨gb177, 2, none⟩ = some (.int .i64 a1_2) := (blk_cell BK177.out 2).trans rfl
           have hcz34_3 : w5.cell? ⟨gb177, 3, none⟩ = some (.int .i64 a1_3) := (blk_cell BK177.out 3).trans rfl
           have hcz34_4 : w5.cell? ⟨gb177, 4, none⟩ = some (.int .i64 a1_4) := (blk_cell BK177.out 4).trans rfl
           have hcz34_5 : w5.cell? ⟨gb177, 5, none⟩ = some (.int .i64 a1_5) := (blk_cell BK177.out 5).trans rfl
           have hcz34_6 : w5.cell? ⟨gb177, 6, none⟩ = some (.int .i64 a1_6) := (blk_cell BK177.out 6).trans rfl
           have hcz34_7 : w5.cell? ⟨gb177, 7, none⟩ = some (.int .i64 a1_7) := (blk_cell BK177.out 7).trans rfl
           have hcz34_8 : w5.cell? ⟨gb177, 8, none⟩ = some (.slice A1_8 l1_8.length c1_8) := (blk_cell BK177.out 8).trans rfl
           have hcz34_9 : w5.cell? ⟨gb177, 9, none⟩ = some (.int .i64 a1_9) := (blk_cell BK177.out 9).trans rfl
           have hcz34_10 : w5.cell? ⟨gb177, 10, none⟩ = some (.int .i64 a1_10) := (blk_cell BK177.out 10).trans rfl
           have hcz34_11 : w5.cell? ⟨gb177, 11, none⟩ = some (.slice A1_11 l1_11.length c1_11) := (blk_cell BK177.out 11).trans rfl
           have hcz34_12 : w5.cell? ⟨gb177, 12, none⟩ = some (.slice A1_12 l1_12.length c1_12) := (blk_cell BK177.out 12).trans rfl
           have hfz34_0 := blk_frozen BK177.out 0
           have hfz34_1 := blk_frozen BK177.out 1
           have hfz34_2 := blk_frozen BK177.out 2
           have hfz34_3 := blk_frozen BK177.out 3
           have hfz34_4 := blk_frozen BK177.out 4
           have hfz34_5 := blk_frozen BK177.out 5
           have hfz34_6 := blk_frozen BK177.out 6
           have hfz34_7 := blk_frozen BK177.out 7
           have hfz34_8 := blk_frozen BK177.out 8
           have hfz34_9 := blk_frozen BK177.out 9
           have hfz34_10 := blk_frozen BK177.out 10
           have hfz34_11 := blk_frozen BK177.out 11
           have hfz34_12 := blk_frozen BK177.out 12
           go_wp2_with (first | (go_at_call 69; (with_reducible refine (spec_l7SameInts.calls k _ _ l0_8 _ _ l1_8 false _ ?side1 ?side2 ?side3 ?side4 A14.out).mono ?_); (case side1 => repeat (first | exact (Kd.C_below HR0_8.out HB.out) | (with_reducible refine Kd.C_alloc ?_ _) | (with_reducible refine Kd.C_drewN ?_ _) | (with_reducible refine Kd.C_drew ?_))); (case side2 => exact HC0_8.out); (case side3 => repeat (first | exact (Kd.C_below HR1_8.out HB.out) | (with_reducible refine Kd.C_alloc ?_ _) | (with_reducible refine Kd.C_drewN ?_ _) | (with_reducible refine Kd.C_drew ?_))); (case side4 => exact HC1_8.out); rintro e w' ⟨rfl, ⟨nd, rfl⟩⟩; (try first | exact ⟨rfl, _, World.drewN_drewN _ _ _⟩ | exact ⟨rfl, _, Eq.trans (World.drewN_drewN _ _ _) (congrArg (World.drewN _) (Nat.add_assoc _ _ _))⟩)))
           repeat (go_quiet (first | (go_at_call 69; (with_reducible refine (spec_l7SameInts.calls k _ _ l0_8 _ _ l1_8 false _ ?side1 ?side2 ?side3 ?side4 A14.out).mono ?_); (case side1 => repeat (first | exact (Kd.C_below HR0_8.out HB.out) | (with_reducible refine Kd.C_alloc ?_ _) | (with_reducible refine Kd.C_drewN ?_ _) | (with_reducible refine Kd.C_drew ?_))); (case side2 => exact HC0_8.out); (case side3 => repeat (first | exact (Kd.C_below HR1_8.out HB.out) | (with_reducible refine Kd.C_alloc ?_ _) | (with_reducible refine Kd.C_drewN ?_ _) | (with_reducible refine Kd.C_drew ?_))); (case side4 => exact HC1_8.out); rintro e w' ⟨rfl, ⟨nd, rfl⟩⟩; (try first | exact ⟨rfl, _, World.drewN_drewN _ _ _⟩ | exact ⟨rfl, _, Eq.trans (World.drewN_drewN _ _ _) (congrArg (World.drewN _) (Nat.add_assoc _ _ _))⟩))); try go_wp2_with (first | (go_at_call 69; (with_reducible refine (spec_l7SameInts.calls k _ _ l0_8 _ _ l1_8 false _ ?side1 ?side2 ?side3 ?side4 A14.out).mono ?_); (case side1 => repeat (first | exact (Kd.C_below HR0_8.out HB.out) | (with_reducible refine Kd.C_alloc ?_ _) | (with_reducible refine Kd.C_drewN ?_ _) | (with_reducible refine Kd.C_drew ?_))); (case side2 => exact HC0_8.out); (case side3 => repeat (first | exact (Kd.C_below HR1_8.out HB.out) | (with_reducible refine Kd.C_alloc ?_ _) | (with_reducible refine Kd.C_drewN ?_ _) | (with_reducible refine Kd.C_drew ?_))); (case side4 => exact HC1_8.out); rintro e w' ⟨rfl, ⟨nd, rfl⟩⟩; (try first | exact ⟨rfl, _, World.drewN_drewN _ _ _⟩ | exact ⟨rfl, _, Eq.trans (World.drewN_drewN _ _ _) (congrArg (World.drewN _) (Nat.add_assoc _ _ _))⟩))))
           go_meet
           case rel => exact ⟨_, (true), (by first | rfl | (simp; done) | (simp [*]; done)), H', ⟨by first | omega | exact Nat.le_refl _⟩, ⟨by (with_reducible repeat (first | refine blk_drewN ?_ _ | refine blk_drew ?_ | refine blk_alloc ?_ _)); exact BK176.out⟩, ⟨by (with_reducible repeat (first | refine blk_drewN ?_ _ | refine blk_drew ?_ | refine blk_alloc ?_ _)); exact BK177.out⟩, ⟨by repeat (first | (with_reducible first | exact HB.out | apply below_alloc | apply pw_below_drewN | apply below_drew1 | refine below_set ?_ GE176.out | refine below_set ?_ GE177.out) | exact HB.out)⟩⟩
         ·rw [if_neg c13] at H
          have c13b0 : (a0_7 == a1_7) = false := beq_eq_false_iff_ne.mpr c13
          have c13b1 : (a0_7 != a1_7) = true := bne_iff_ne.mpr c13
          have H' := Aside0.mk H
          clear H
          have hnb35 := NB176_177.out
          have hnc35 := NB177_176.out
          have hcz36_0 : w5.cell? ⟨gb176, 0, none⟩ = some (.int .i64 a0_0) := (blk_cell BK176.out 0).trans rfl
          have hcz36_1 : w5.cell? ⟨gb176, 1, none⟩ = some (.int .i64 a0_1) := (blk_cell BK176.out 1).trans rfl
          have hcz36_2 : w5.cell? ⟨gb176, 2, none⟩ = some (.int .i64 a0_2) := (blk_cell BK176.out 2).trans rfl
          have hcz36_3 : w5.cell? ⟨gb176, 3, none⟩ = some (.int .i64 a0_3) := (blk_cell BK176.out 3).trans rfl
          have hcz36_4 : w5.cell? ⟨gb176, 4, none⟩ = some (.int .i64 a0_4) := (blk_cell BK176.out 4).trans rfl
          have hcz36_5 : w5.cell? ⟨gb176, 5, none⟩ = some (.int .i64 a0_5) := (blk_cell BK176.out 5).trans rfl
          have hcz36_6 : w5.cell? ⟨gb176, 6, none⟩ = some (.int .i64 a0_6) := (blk_cell BK176.out 6).trans rfl
          have hcz36_7 : w5.cell? ⟨gb176, 7, none⟩ = some (.int .i64 a0_7) := (blk_cell BK176.out 7).trans rfl
          have hcz36_8 : w5.cell? ⟨gb176, 8, none⟩ = some (.slice A0_8 l0_8.length c0_8) := (blk_cell BK176.out 8).trans rfl
          have hcz36_9 : w5.cell? ⟨gb176, 9, none⟩ = some (.int .i64 a0_9) := (blk_cell BK176.out 9).trans rfl
          have hcz36_10 : w5.cell? ⟨gb176, 10, none⟩ = some (.int .i64 a0_10) := (blk_cell BK176.out 10).trans rfl
          have hcz36_11 : w5.cell? ⟨gb176, 11, none⟩ = some (.slice A0_11 l0_11.length c0_11) := (blk_cell BK176.out 11).trans rfl
          have hcz36_12 : w5.cell? ⟨gb176, 12, none⟩ = some (.slice A0_12 l0_12.length c0_12) := (blk_cell BK176.out 12).trans rfl
          have hfz36_0 := blk_frozen BK176.out 0
          have hfz36_1 := blk_frozen BK176.out 1
          have hfz36_2 := blk_frozen BK176.out 2
          have hfz36_3 := blk_frozen BK176.out 3
          have hfz36_4 := blk_frozen BK176.out 4
          have hfz36_5 := blk_frozen BK176.out 5
          have hfz36_6 := blk_frozen BK176.out 6
          have hfz36_7 := blk_frozen BK176.out 7
          have hfz36_8 := blk_frozen BK176.out 8
          have hfz36_9 := blk_frozen BK176.out 9
          have hfz36_10 := blk_frozen BK176.out 10
          have hfz36_11 := blk_frozen BK176.out 11
          have hfz36_12 := blk_frozen BK176.out 12
          have hcz37_0 : w5.cell? ⟨gb177, 0, none⟩ = some (.int .i64 a1_0) := (blk_cell BK177.out 0).trans rfl
          have hcz37_1 : w5.cell? ⟨gb177, 1, none⟩ = some (.int .i64 a1_1) := (blk_cell BK177.out 1).trans rfl
          have hcz37_2 : w5.cell? ⟨gb177, 2, none⟩ = some (.int .i64 a1_2) := (blk_cell BK177.out 2).trans rfl
          have hcz37_3 : w5.cell? ⟨gb177, 3, none⟩ = some (.int .i64 a1_3) := (blk_cell BK177.out 3).trans rfl
          have hcz37_4 : w5.cell? ⟨gb177, 4, none⟩ = some (.int .i64 a1_4) := (blk_cell BK177.out 4).trans rfl
          have hcz37_5 : w5.cell? ⟨gb177, 5, none⟩ = some (.int .i64 a1_5) := (blk_cell BK177.out 5).trans rfl
          have hcz37_6 : w5.cell? ⟨gb177, 6, none⟩ = some (.int .i64 a1_6) := (blk_cell BK177.out 6).trans rfl
          have hcz37_7 : w5.cell? ⟨gb177, 7, none⟩ = some (.int .i64 a1_7) := (blk_cell BK177.out 7).trans rfl
          have hcz37_8 : w5.cell? ⟨gb177, 8, none⟩ = some (.slice A1_8 l1_8.length c1_8) := (blk_cell BK177.out 8).trans rfl
          have hcz37_9 : w5.cell? ⟨gb177, 9, none⟩ = some (.int .i64 a1_9) := (blk_cell BK177.out 9).trans rfl
          have hcz37_10 : w5.cell? ⟨gb177, 10, none⟩ = some (.int .i64 a1_10) := (blk_cell BK177.out 10).trans rfl
          have hcz37_11 : w5.cell? ⟨gb177, 11, none⟩ = some (.slice A1_11 l1_11.length c1_11) := (blk_cell BK177.out 11).trans rfl
          have hcz37_12 : w5.cell? ⟨gb177, 12, none⟩ = some (.slice A1_12 l1_12.length c1_12) := (blk_cell BK177.out 12).trans rfl
          have hfz37_0 := blk_frozen BK177.out 0
          have hfz37_1 := blk_frozen BK177.out 1
          have hfz37_2 := blk_frozen BK177.out 2
          have hfz37_3 := blk_frozen BK177.out 3
          have hfz37_4 := blk_frozen BK177.out 4
          have hfz37_5 := blk_frozen BK177.out 5
          have hfz37_6 := blk_frozen BK177.out 6
          have hfz37_7 := blk_frozen BK177.out 7
          have hfz37_8 := blk_frozen BK177.out 8
          have hfz37_9 := blk_frozen BK177.out 9
          have hfz37_10 := blk_frozen BK177.out 10
          have hfz37_11 := blk_frozen BK177.out 11
          have hfz37_12 := blk_frozen BK177.out 12
          go_wp2
          repeat (go_quiet (fail); try go_wp2)
          go_meet
          case rel => exact ⟨_, (true), (by first | rfl | (simp; done) | (simp [*]; done)), H', ⟨by first | omega | exact Nat.le_refl _⟩, ⟨by (with_reducible repeat (first | refine blk_drewN ?_ _ | refine blk_drew ?_ | refine blk_alloc ?_ _)); exact BK176.out⟩, ⟨by (with_reducible repeat (first | refine blk_drewN ?_ _ | refine blk_drew ?_ | refine blk_alloc ?_ _)); exact BK177.out⟩, ⟨by repeat (first | (with_reducible first | exact HB.out | apply below_alloc | apply pw_below_drewN | apply below_drew1 | refine below_set ?_ GE176.out | refine below_set ?_ GE177.out) | exact HB.out)⟩⟩
        ·rw [if_neg c12] at H
         have c12b0 : (a0_6 == a1_6) = false := beq_eq_false_iff_ne.mpr c12
         have c12b1 : (a0_6 != a1_6) = true := bne_iff_ne.mpr c12
         have H' := Aside0.mk H
         clear H
         have hnb38 := NB176_177.out
         have hnc38 := NB177_176.out
         have hcz39_0 : w5.cell? ⟨gb176, 0, none⟩ = some (.int .i64 a0_0) := (blk_cell BK176.out 0).trans rfl
         have hcz39_1 : w5.cell? ⟨gb176, 1, none⟩ = some (.int .i64 a0_1) := (blk_cell BK176.out 1).trans rfl
         have hcz39_2 : w5.cell? ⟨gb176, 2, none⟩ = some (.int .i64 a0_2) := (blk_cell BK176.out 2).trans rfl
         have hcz39_3 : w5.cell? ⟨gb176, 3, none⟩ = some (.int .i64 a0_3) := (blk_cell BK176.out 3).trans rfl
         have hcz39_4 : w5.cell? ⟨gb176, 4, none⟩ = some (.int .i64 a0_4) := (blk_cell BK176.out 4).trans rfl
         have hcz39_5 : w5.cell? ⟨gb176, 5, none⟩ = some (.int .i64 a0_5) := (blk_cell BK176.out 5).trans rfl
         have hcz39_6 : w5.cell? ⟨gb176, 6, none⟩ = some (.int .i64 a0_6) := (blk_cell BK176.out 6).trans rfl
         have hcz39_7 : w5.cell? ⟨gb176, 7, none⟩ = some (.int .i64 a0_7) := (blk_cell BK176.out 7).trans rfl
         have hcz39_8 : w5.cell? ⟨gb176, 8, none⟩ = some (.slice A0_8 l0_8.length c0_8) := (blk_cell BK176.out 8).trans rfl
         have hcz39_9 : w5.cell? ⟨gb176, 9, none⟩ = some (.int .i64 a0_9) := (blk_cell BK176.out 9).trans rfl
         have hcz39_10 : w5.cell? ⟨gb176, 10, none⟩ = some (.int .i64 a0_10) := (blk_cell BK176.out 10).trans rfl
         have hcz39_11 : w5.cell? ⟨gb176, 11, none⟩ = some (.slice A0_11 l0_11.length c0_11) := (blk_cell BK176.out 11).trans rfl
         have hcz39_12 : w5.cell? ⟨gb176, 12, none⟩ = some (.slice A0_12 l0_12.length c0_12) := (blk_cell BK176.out 12).trans rfl
         have hfz39_0 := blk_frozen BK176.out 0
         have hfz39_1 := blk_frozen BK176.out 1
         have hfz39_2 := blk_frozen BK176.out 2
         have hfz39_3 := blk_frozen BK176.out 3
         have hfz39_4 := blk_frozen BK176.out 4
         have hfz39_5 := blk_frozen BK176.out 5
         have hfz39_6 := blk_frozen BK176.out 6
         have hfz39_7 := blk_frozen BK176.out 7
         have hfz39_8 := blk_frozen BK176.out 8
         have hfz39_9 := blk_frozen BK176.out 9
         have hfz39_10 := blk_frozen BK176.out 10
         have hfz39_11 := blk_frozen BK176.out 11
         have hfz39_12 := blk_frozen BK176.out 12
         have hcz40_0 : w5.cell? ⟨gb177, 0, none⟩ = some (.int .i64 a1_0) := (blk_cell BK177.out 0).trans rfl
         have hcz40_1 : w5.cell? ⟨gb177, 1, none⟩ = some (.int .i64 a1_1) := (blk_cell BK177.out 1).trans rfl
         have hcz40_2 : w5.cell? ⟨gb177, 2, none⟩ = some (.int .i64 a1_2) := (blk_cell BK177.out 2).trans rfl
         have hcz40_3 : w5.cell? ⟨gb177, 3, none⟩ = some (.int .i64 a1_3) := (blk_cell BK177.out 3).trans rfl
         have hcz40_4 : w5.cell? ⟨gb177, 4, none⟩ = some (.int .i64 a1_4) := (blk_cell BK177.out 4).trans rfl
         have hcz40_5 : w5.cell? ⟨gb177, 5, none⟩ = some (.int .i64 a1_5) := (blk_cell BK177.out 5).trans rfl
         have hcz40_6 : w5.cell? ⟨gb177, 6, none⟩ = some (.int .i64 a1_6) := (blk_cell BK177.out 6).trans rfl
         have hcz40_7 : w5.cell? ⟨gb177, 7, none⟩ = some (.int .i64 a1_7) := (blk_cell BK177.out 7).trans rfl
         have hcz40_8 : w5.cell? ⟨gb177, 8, none⟩ = some (.slice A1_8 l1_8.length c1_8) := (blk_cell BK177.out 8).trans rfl
         have hcz40_9 : w5.cell? ⟨gb177, 9, none⟩ = some (.int .i64 a1_9) := (blk_cell BK177.out 9).trans rfl
         have hcz40_10 : w5.cell? ⟨gb177, 10, none⟩ = some (.int .i64 a1_10) := (blk_cell BK177.out 10).trans rfl
         have hcz40_11 : w5.cell? ⟨gb177, 11, none⟩ = some (.slice A1_11 l1_11.length c1_11) := (blk_cell BK177.out 11).trans rfl
         have hcz40_12 : w5.cell? ⟨gb177, 12, none⟩ = some (.slice A1_12 l1_12.length c1_12) := (blk_cell BK177.out 12).trans rfl
         have hfz40_0 := blk_frozen BK177.out 0
         have hfz40_1 := blk_frozen BK177.out 1
         have hfz40_2 := blk_frozen BK177.out 2
         have hfz40_3 := blk_frozen BK177.out 3
         have hfz40_4 := blk_frozen BK177.out 4
         have hfz40_5 := blk_frozen BK177.out 5
         have hfz40_6 := blk_frozen BK177.out 6
         have hfz40_7 := blk_frozen BK177.out 7
         have hfz40_8 := blk_frozen BK177.out 8
         have hfz40_9 := blk_frozen BK177.out 9
         have hfz40_10 := blk_frozen BK177.out 10
         have hfz40_11 := blk_frozen BK177.out 11
         have hfz40_12 := blk_frozen BK177.out 12
         go_wp2
         repeat (go_quiet (fail); try go_wp2)
         go_meet
         case rel => exact ⟨_, (true), (by first | rfl | (simp; done) | (simp [*]; done)), H', ⟨by first | omega | exact Nat.le_refl _⟩, ⟨by (with_reducible repeat (first | refine blk_drewN ?_ _ | refine blk_drew ?_ | refine blk_alloc ?_ _)); exact BK176.out⟩, ⟨by (with_reducible repeat (first | refine blk_drewN ?_ _ | refine blk_drew ?_ | refine blk_alloc ?_ _)); exact BK177.out⟩, ⟨by repeat (first | (with_reducible first | exact HB.out | apply below_alloc | apply pw_below_drewN | apply below_drew1 | refine below_set ?_ GE176.out | refine below_set ?_ GE177.out) | exact HB.out)⟩⟩
       ·rw [if_neg c11] at H
        have c11b0 : (a0_5 == a1_5) = false := beq_eq_false_iff_ne.mpr c11
        have c11b1 : (a0_5 != a1_5) = true := bne_iff_ne.mpr c11
        have H' := Aside0.mk H
        clear H
        have hnb41 := NB176_177.out
        have hnc41 := NB177_176.out
        have hcz42_0 : w5.cell? ⟨gb176, 0, none⟩ = some (.int .i64 a0_0) := (blk_cell BK176.out 0).trans rfl
        have hcz42_1 : w5.cell? ⟨gb176, 1, none⟩ = some (.int .i64 a0_1) := (blk_cell BK176.out 1).trans rfl
        have hcz42_2 : w5.cell? ⟨gb176, 2, none⟩ = some (.int .i64 a0_2) := (blk_cell BK176.out 2).trans rfl
        have hcz42_3 : w5.cell? ⟨gb176, 3, none⟩ = some (.int .i64 a0_3) := (blk_cell BK176.out 3).trans rfl
        have hcz42_4 : w5.cell? ⟨gb176, 4, none⟩ = some (.int .i64 a0_4) := (blk_cell BK176.out 4).trans rfl
        have hcz42_5 : w5.cell? ⟨gb176, 5, none⟩ = some (.int .i64 a0_5) := (blk_cell BK176.out 5).trans rfl
        have hcz42_6 : w5.cell? ⟨gb176, 6, none⟩ = some (.int .i64 a0_6) := (blk_cell BK176.out 6).trans rfl
        have hcz42_7 : w5.cell? ⟨gb176, 7, none⟩ = some (.int .i64 a0_7) := (blk_cell BK176.out 7).trans rfl
        have hcz42_8 : w5.cell? ⟨gb176, 8, none⟩ = some (.slice A0_8 l0_8.length c0_8) := (blk_cell BK176.out 8).trans rfl
        have hcz42_9 : w5.cell? ⟨gb176, 9, none⟩ = some (.int .i64 a0_9) := (blk_cell BK176.out 9).trans rfl
        have hcz42_10 : w5.cell? ⟨gb176, 10, none⟩ = some (.int .i64 a0_10) := (blk_cell BK176.out 10).trans rfl
        have hcz42_11 : w5.cell? ⟨gb176, 11, none⟩ = some (.slice A0_11 l0_11.length c0_11) := (blk_cell BK176.out 11).trans rfl
        have hcz42_12 : w5.cell? ⟨gb176, 12, none⟩ = some (.slice A0_12 l0_12.length c0_12) := (blk_cell BK176.out 12).trans rfl
        have hfz42_0 := blk_frozen BK176.out 0
        have hfz42_1 := blk_frozen BK176.out 1
        have hfz42_2 := blk_frozen BK176.out 2
        have hfz42_3 := blk_frozen BK176.out 3
        have hfz42_4 := blk_frozen BK176.out 4
        have hfz42_5 := blk_frozen BK176.out 5
        have hfz42_6 := blk_frozen BK176.out 6
        have hfz42_7 := blk_frozen BK176.out 7
        have hfz42_8 := blk_frozen BK176.out 8
        have hfz42_9 := blk_frozen BK176.out 9
        have hfz42_10 := blk_frozen BK176.out 10
        have hfz42_11 := blk_frozen BK176.out 11
        have hfz42_12 := blk_frozen BK176.out 12
        have hcz43_0 : w5.cell? ⟨gb177, 0, none⟩ = some (.int .i64 a1_0) := (blk_cell BK177.out 0).trans rfl
        have hcz43_1 : w5.cell? ⟨gb177, 1, none⟩ = some (.int .i64 a1_1) := (blk_cell BK177.out 1).trans rfl
        have hcz43_2 : w5.cell? ⟨gb177, 2, none⟩ = some (.int .i64 a1_2) := (blk_cell BK177.out 2).trans rfl
        have hcz43_3 : w5.cell? ⟨gb177, 3, none⟩ = some (.int .i64 a1_3) := (blk_cell BK177.out 3).trans rfl
        have hcz43_4 : w5.cell? ⟨gb177, 4, none⟩ = some (.int .i64 a1_4) := (blk_cell BK177.out 4).trans rfl
        have hcz43_5 : w5.cell? ⟨gb177, 5, none⟩ = some (.int .i64 a1_5) := (blk_cell BK177.out 5).trans rfl
        have hcz43_6 : w5.cell? ⟨gb177, 6, none⟩ = some (.int .i64 a1_6) := (blk_cell BK177.out 6).trans rfl
        have hcz43_7 : w5.cell? ⟨gb177, 7, none⟩ = some (.int .i64 a1_7) := (blk_cell BK177.out 7).trans rfl
        have hcz43_8 : w5.cell? ⟨gb177, 8, none⟩ = some (.slice A1_8 l1_8.length c1_8) := (blk_cell BK177.out 8).trans rfl
        have hcz43_9 : w5.cell? ⟨gb177, 9, none⟩ = some (.int .i64 a1_9) := (blk_cell BK177.out 9).trans rfl
        have hcz43_10 : w5.cell? ⟨gb177, 10, none⟩ = some (.int .i64 a1_10) := (blk_cell BK177.out 10).trans rfl
        have hcz43_11 : w5.cell? ⟨gb177, 11, none⟩ = some (.slice A1_11 l1_11.length c1_11) := (blk_cell BK177.out 11).trans rfl
        have hcz43_12 : w5.cell? ⟨gb177, 12, none⟩ = some (.slice A1_12 l1_12.length c1_12) := (blk_cell BK177.out 12).trans rfl
        have hfz43_0 := blk_frozen BK177.out 0
        have hfz43_1 := blk_frozen BK177.out 1
        have hfz43_2 := blk_frozen BK177.out 2
        have hfz43_3 := blk_frozen BK177.out 3
        have hfz43_4 := blk_frozen BK177.out 4
        have hfz43_5 := blk_frozen BK177.out 5
        have hfz43_6 := blk_frozen BK177.out 6
        have hfz43_7 := blk_frozen BK177.out 7
        have hfz43_8 := blk_frozen BK177.out 8
        have hfz43_9 := blk_frozen BK177.out 9
        have hfz43_10 := blk_frozen BK177.out 10
        have hfz43_11 := blk_frozen BK177.out 11
        have hfz43_12 := blk_frozen BK177.out 12
        go_wp2
        repeat (go_quiet (fail); try go_wp2)
        go_meet
        case rel => exact ⟨_, (true), (by first | rfl | (simp; done) | (simp [*]; done)), H', ⟨by first | omega | exact Nat.le_refl _⟩, ⟨by (with_reducible repeat (first | refine blk_drewN ?_ _ | refine blk_drew ?_ | refine blk_alloc ?_ _)); exact BK176.out⟩, ⟨by (with_reducible repeat (first | refine blk_drewN ?_ _ | refine blk_drew ?_ | refine blk_alloc ?_ _)); exact BK177.out⟩, ⟨by repeat (first | (with_reducible first | exact HB.out | apply below_alloc | apply pw_below_drewN | apply below_drew1 | refine below_set ?_ GE176.out | refine below_set ?_ GE177.out) | exact HB.out)⟩⟩
      ·rw [if_neg c10] at H
       have c10b0 : (a0_4 == a1_4) = false := beq_eq_false_iff_ne.mpr c10
       have c10b1 : (a0_4 != a1_4) = true := bne_iff_ne.mpr c10
       have H' := Aside0.mk H
       clear H
       have hnb44 := NB176_177.out
       have hnc44 := NB177_176.out
       have hcz45_0 : w5.cell? ⟨gb176, 0, none⟩ = some (.int .i64 a0_0) := (blk_cell BK176.out 0).trans rfl
       have hcz45_1 : w5.cell? ⟨gb176, 1, none⟩ = some (.int .i64 a0_1) := (blk_cell BK176.out 1).trans rfl
       have hcz45_2 : w5.cell? ⟨gb176, 2, none⟩ = some (.int .i64 a0_2) := (blk_cell BK176.out 2).trans rfl
       have hcz45_3 : w5.cell? ⟨gb176, 3, none⟩ = some (.int .i64 a0_3) := (blk_cell BK176.out 3).trans rfl
       have hcz45_4 : w5.cell? ⟨gb176, 4, none⟩ = some (.int .i64 a0_4) := (blk_cell BK176.out 4).trans rfl
       have hcz45_5 : w5.cell? ⟨gb176, 5, none⟩ = some (.int .i64 a0_5) := (blk_cell BK176.out 5).trans rfl
       have hcz45_6 : w5.cell? ⟨gb176, 6, none⟩ = some (.int .i64 a0_6) := (blk_cell BK176.out 6).trans rfl
       have hcz45_7 : w5.cell? ⟨gb176, 7, none⟩ = some (.int .i64 a0_7) := (blk_cell BK176.out 7).trans rfl
       have hcz45_8 : w5.cell? ⟨gb176, 8, none⟩ = some (.slice A0_8 l0_8.length c0_8) := (blk_cell BK176.out 8).trans rfl
       have hcz45_9 : w5.cell? ⟨gb176, 9, none⟩ = some (.int .i64 a0_9) := (blk_cell BK176.out 9).trans rfl
       have hcz45_10 : w5.cell? ⟨gb176, 10, none⟩ = some (.int .i64 a0_10) := (blk_cell BK176.out 10).trans rfl
       have hcz45_11 : w5.cell? ⟨gb176, 11, none⟩ = some (.slice A0_11 l0_11.length c0_11) := (blk_cell BK176.out 11).trans rfl
       have hcz45_12 : w5.cell? ⟨gb176, 12, none⟩ = some (.slice A0_12 l0_12.length c0_12) := (blk_cell BK176.out 12).trans rfl
       have hfz45_0 := blk_frozen BK176.out 0
       have hfz45_1 := blk_frozen BK176.out 1
       have hfz45_2 := blk_frozen BK176.out 2
       have hfz45_3 := blk_frozen BK176.out 3
       have hfz45_4 := blk_frozen BK176.out 4
       have hfz45_5 := blk_frozen BK176.out 5
       have hfz45_6 := blk_frozen BK176.out 6
       have hfz45_7 := blk_frozen BK176.out 7
       have hfz45_8 := blk_frozen BK176.out 8
       have hfz45_9 := blk_frozen BK176.out 9
       have hfz45_10 := blk_frozen BK176.out 10
       have hfz45_11 := blk_frozen BK176.out 11
       have hfz45_12 := blk_frozen BK176.out 12
       have hcz46_0 : w5.cell? ⟨gb177, 0, none⟩ = some (.int .i64 a1_0) := (blk_cell BK177.out 0).trans rfl
       have hcz46_1 : w5.cell? ⟨gb177, 1, none⟩ = some (.int .i64 a1_1) := (blk_cell BK177.out 1).trans rfl
       have hcz46_2 : w5.cell? ⟨gb177, 2, none⟩ = some (.int .i64 a1_2) := (blk_cell BK177.out 2).trans rfl
       have hcz46_3 : w5.cell? ⟨gb177, 3, none⟩ = some (.int .i64 a1_3) := (blk_cell BK177.out 3).trans rfl
       have hcz46_4 : w5.cell? ⟨gb177, 4, none⟩ = some (.int .i64 a1_4) := (blk_cell BK177.out 4).trans rfl
       have hcz46_5 : w5.cell? ⟨gb177, 5, none⟩ = some (.int .i64 a1_5) := (blk_cell BK177.out 5).trans rfl
       have hcz46_6 : w5.cell? ⟨gb177, 6, none⟩ = some (.int .i64 a1_6) := (blk_cell BK177.out 6).trans rfl
       have hcz46_7 : w5.cell? ⟨gb177, 7, none⟩ = some (.int .i64 a1_7) := (blk_cell BK177.out 7).trans rfl
       have hcz46_8 : w5.cell? ⟨gb177, 8, none⟩ = some (.slice A1_8 l1_8.length c1_8) := (blk_cell BK177.out 8).trans rfl
       have hcz46_9 : w5.cell? ⟨gb177, 9, none⟩ = some (.int .i64 a1_9) := (blk_cell BK177.out 9).trans rfl
       have hcz46_10 : w5.cell? ⟨gb177, 10, none⟩ = some (.int .i64 a1_10) := (blk_cell BK177.out 10).trans rfl
       have hcz46_11 : w5.cell? ⟨gb177, 11, none⟩ = some (.slice A1_11 l1_11.length c1_11) := (blk_cell BK177.out 11).trans rfl
       have hcz46_12 : w5.cell? ⟨gb177, 12, none⟩ = some (.slice A1_12 l1_12.length c1_12) := (blk_cell BK177.out 12).trans rfl
       have hfz46_0 := blk_frozen BK177.out 0
       have hfz46_1 := blk_frozen BK177.out 1
       have hfz46_2 := blk_frozen BK177.out 2
       have hfz46_3 := blk_frozen BK177.out 3
       have hfz46_4 := blk_frozen BK177.out 4
       have hfz46_5 := blk_frozen BK177.out 5
       have hfz46_6 := blk_frozen BK177.out 6
       have hfz46_7 := blk_frozen BK177.out 7
       have hfz46_8 := blk_frozen BK177.out 8
       have hfz46_9 := blk_frozen BK177.out 9
       have hfz46_10 := blk_frozen BK177.out 10
       have hfz46_11 := blk_frozen BK177.out 11
       have hfz46_12 := blk_frozen BK177.out 12
       go_wp2
       repeat (go_quiet (fail); try go_wp2)
       go_meet
       case rel => exact ⟨_, (true), (by first | rfl | (simp; done) | (simp [*]; done)), H', ⟨by first | omega | exact Nat.le_refl _⟩, ⟨by (with_reducible repeat (first | refine blk_drewN ?_ _ | refine blk_drew ?_ | refine blk_alloc ?_ _)); exact BK176.out⟩, ⟨by (with_reducible repeat (first | refine blk_drewN ?_ _ | refine blk_drew ?_ | refine blk_alloc ?_ _)); exact BK177.out⟩, ⟨by repeat (first | (with_reducible first | exact HB.out | apply below_alloc | apply pw_below_drewN | apply below_drew1 | refine below_set ?_ GE176.out | refine below_set ?_ GE177.out) | exact HB.out)⟩⟩
     ·rw [if_neg c9] at H
      have c9b0 : (a0_3 == a1_3) = false := beq_eq_false_iff_ne.mpr c9
      have c9b1 : (a0_3 != a1_3) = true := bne_iff_ne.mpr c9
      have H' := Aside0.mk H
      clear H
      have hnb47 := NB176_177.out
      have hnc47 := NB177_176.out
      have hcz48_0 : w5.cell? ⟨gb176, 0, none⟩ = some (.int .i64 a0_0) := (blk_cell BK176.out 0).trans rfl
      have hcz48_1 : w5.cell? ⟨gb176, 1, none⟩ = some (.int .i64 a0_1) := (blk_cell BK176.out 1).trans rfl
      have hcz48_2 : w5.cell? ⟨gb176, 2, none⟩ = some (.int .i64 a0_2) := (blk_cell BK176.out 2).trans rfl
      have hcz48_3 : w5.cell? ⟨gb176, 3, none⟩ = some (.int .i64 a0_3) := (blk_cell BK176.out 3).trans rfl
      have hcz48_4 : w5.cell? ⟨gb176, 4, none⟩ = some (.int .i64 a0_4) := (blk_cell BK176.out 4).trans rfl
      have hcz48_5 : w5.cell? ⟨gb176, 5, none⟩ = some (.int .i64 a0_5) := (blk_cell BK176.out 5).trans rfl
      have hcz48_6 : w5.cell? ⟨gb176, 6, none⟩ = some (.int .i64 a0_6) := (blk_cell BK176.out 6).trans rfl
      have hcz48_7 : w5.cell? ⟨gb176, 7, none⟩ = some (.int .i64 a0_7) := (blk_cell BK176.out 7).trans rfl
      have hcz48_8 : w5.cell? ⟨gb176, 8, none⟩ = some (.slice A0_8 l0_8.length c0_8) := (blk_cell BK176.out 8).trans rfl
      have hcz48_9 : w5.cell? ⟨gb176, 9, none⟩ = some (.int .i64 a0_9) := (blk_cell BK176.out 9).trans rfl
      have hcz48_10 : w5.cell? ⟨gb176, 10, none⟩ = some (.int .i64 a0_10) := (blk_cell BK176.out 10).trans rfl
      have hcz48_11 : w5.cell? ⟨gb176, 11, none⟩ = some (.slice A0_11 l0_11.length c0_11) := (blk_cell BK176.out 11).trans rfl
      have hcz48_12 : w5.cell? ⟨gb176, 12, none⟩ = some (.slice A0_12 l0_12.length c0_12) := (blk_cell BK176.out 12).trans rfl
      have hfz48_0 := blk_frozen BK176.out 0
      have hfz48_1 := blk_frozen BK176.out 1
      have hfz48_2 := blk_frozen BK176.out 2
      have hfz48_3 := blk_frozen BK176.out 3
      have hfz48_4 := blk_frozen BK176.out 4
      have hfz48_5 := blk_frozen BK176.out 5
      have hfz48_6 := blk_frozen BK176.out 6
      have hfz48_7 := blk_frozen BK176.out 7
      have hfz48_8 := blk_frozen BK176.out 8
      have hfz48_9 := blk_frozen BK176.out 9
      have hfz48_10 := blk_frozen BK176.out 10
      have hfz48_11 := blk_frozen BK176.out 11
      have hfz48_12 := blk_frozen BK176.out 12
      have hcz49_0 : w5.cell? ⟨gb177, 0, none⟩ = some (.int .i64 a1_0) := (blk_cell BK177.out 0).trans rfl
      have hcz49_1 : w5.cell? ⟨gb177, 1, none⟩ = some (.int .i64 a1_1) := (blk_cell BK177.out 1).trans rfl
      have hcz49_2 : w5.cell? ⟨gb177, 2, none⟩ = some (.int .i64 a1_2) := (blk_cell BK177.out 2).trans rfl
      have hcz49_3 : w5.cell? ⟨gb177, 3, none⟩ = some (.int .i64 a1_3) := (blk_cell BK177.out 3).trans rfl
      have hcz49_4 : w5.cell? ⟨gb177, 4, none⟩ = some (.int .i64 a1_4) := (blk_cell BK177.out 4).trans rfl
      have hcz49_5 : w5.cell? ⟨gb177, 5, none⟩ = some (.int .i64 a1_5) := (blk_cell BK177.out 5).trans rfl
      have hcz49_6 : w5.cell? ⟨gb177, 6, none⟩ = some (.int .i64 a1_6) := (blk_cell BK177.out 6).trans rfl
      have hcz49_7 : w5.cell? ⟨gb177, 7, none⟩ = some (.int .i64 a1_7) := (blk_cell BK177.out 7).trans rfl
      have hcz49_8 : w5.cell? ⟨gb177, 8, none⟩ = some (.slice A1_8 l1_8.length c1_8) := (blk_cell BK177.out 8).trans rfl
      have hcz49_9 : w5.cell? ⟨gb177, 9, none⟩ = some (.int .i64 a1_9) := (blk_cell BK177.out 9).trans rfl
      have hcz49_10 : w5.cell? ⟨gb177, 10, none⟩ = some (.int .i64 a1_10) := (blk_cell BK177.out 10).trans rfl
      have hcz49_11 : w5.cell? ⟨gb177, 11, none⟩ = some (.slice A1_11 l1_11.length c1_11) := (blk_cell BK177.out 11).trans rfl
      have hcz49_12 : w5.cell? ⟨gb177, 12, none⟩ = some (.slice A1_12 l1_12.length c1_12) := (blk_cell BK177.out 12).trans rfl
      have hfz49_0 := blk_frozen BK177.out 0
      have hfz49_1 := blk_frozen BK177.out 1
      have hfz49_2 := blk_frozen BK177.out 2
      have hfz49_3 := blk_frozen BK177.out 3
      have hfz49_4 := blk_frozen BK177.out 4
      have hfz49_5 := blk_frozen BK177.out 5
      have hfz49_6 := blk_frozen BK177.out 6
      have hfz49_7 := blk_frozen BK177.out 7
      have hfz49_8 := blk_frozen BK177.out 8
      have hfz49_9 := blk_frozen BK177.out 9
      have hfz49_10 := blk_frozen BK177.out 10
      have hfz49_11 := blk_frozen BK177.out 11
      have hfz49_12 := blk_frozen BK177.out 12
      go_wp2
      repeat (go_quiet (fail); try go_wp2)
      go_meet
      case rel => exact ⟨_, (true), (by first | rfl | (simp; done) | (simp [*]; done)), H', ⟨by first | omega | exact Nat.le_refl _⟩, ⟨by (with_reducible repeat (first | refine blk_drewN ?_ _ | refine blk_drew ?_ | refine blk_alloc ?_ _)); exact BK176.out⟩, ⟨by (with_reducible repeat (first | refine blk_drewN ?_ _ | refine blk_drew ?_ | refine blk_alloc ?_ _)); exact BK177.out⟩, ⟨by repeat (first | (with_reducible first | exact HB.out | apply below_alloc | apply pw_below_drewN | apply below_drew1 | refine below_set ?_ GE176.out | refine below_set ?_ GE177.out) | exact HB.out)⟩⟩
    ·rw [if_neg c8] at H
     have c8b0 : (a0_2 == a1_2) = false := beq_eq_false_iff_ne.mpr c8
     have c8b1 : (a0_2 != a1_2) = true := bne_iff_ne.mpr c8
     have H' := Aside0.mk H
     clear H
     have hnb50 := NB176_177.out
     have hnc50 := NB177_176.out
     have hcz51_0 : w5.cell? ⟨gb176, 0, none⟩ = some (.int .i64 a0_0) := (blk_cell BK176.out 0).trans rfl
     have hcz51_1 : w5.cell? ⟨gb176, 1, none⟩ = some (.int .i64 a0_1) := (blk_cell BK176.out 1).trans rfl
     have hcz51_2 : w5.cell? ⟨gb176, 2, none⟩ = some (.int .i64 a0_2) := (blk_cell BK176.out 2).trans rfl
     have hcz51_3 : w5.cell? ⟨gb176, 3, none⟩ = some (.int .i64 a0_3) := (blk_cell BK176.out 3).trans rfl
     have hcz51_4 : w5.cell? ⟨gb176, 4, none⟩ = some (.int .i64 a0_4) := (blk_cell BK176.out 4).trans rfl
     have hcz51_5 : w5.cell? ⟨gb176, 5, none⟩ = some (.int .i64 a0_5) := (blk_cell BK176.out 5).trans rfl
     have hcz51_6 : w5.cell? ⟨gb176, 6, none⟩ = some (.int .i64 a0_6) := (blk_cell BK176.out 6).trans rfl
     have hcz51_7 : w5.cell? ⟨gb176, 7, none⟩ = some (.int .i64 a0_7) := (blk_cell BK176.out 7).trans rfl
     have hcz51_8 : w5.cell? ⟨gb176, 8, none⟩ = some (.slice A0_8 l0_8.length c0_8) := (blk_cell BK176.out 8).trans rfl
     have hcz51_9 : w5.cell? ⟨gb176, 9, none⟩ = some (.int .i64 a0_9) := (blk_cell BK176.out 9).trans rfl
     have hcz51_10 : w5.cell? ⟨gb176, 10, none⟩ = some (.int .i64 a0_10) := (blk_cell BK176.out 10).trans rfl
     have hcz51_11 : w5.cell? ⟨gb176, 11, none⟩ = some (.slice A0_11 l0_11.length c0_11) := (blk_cell BK176.out 11).trans rfl
     have hcz51_12 : w5.cell? ⟨gb176, 12, none⟩ = some (.slice A0_12 l0_12.length c0_12) := (blk_cell BK176.out 12).trans rfl
     have hfz51_0 := blk_frozen BK176.out 0
     have hfz51_1 := blk_frozen BK176.out 1
     have hfz51_2 := blk_frozen BK176.out 2
     have hfz51_3 := blk_frozen BK176.out 3
     have hfz51_4 := blk_frozen BK176.out 4
     have hfz51_5 := blk_frozen BK176.out 5
     have hfz51_6 := blk_frozen BK176.out 6
     have hfz51_7 := blk_frozen BK176.out 7
     have hfz51_8 := blk_frozen BK176.out 8
     have hfz51_9 := blk_frozen BK176.out 9
     have hfz51_10 := blk_frozen BK176.out 10
     have hfz51_11 := blk_frozen BK176.out 11
     have hfz51_12 := blk_frozen BK176.out 12
     have hcz52_0 : w5.cell? ⟨gb177, 0, none⟩ = some (.int .i64 a1_0) := (blk_cell BK177.out 0).trans rfl
     have hcz52_1 : w5.cell? ⟨gb177, 1, none⟩ = some (.int .i64 a1_1) := (blk_cell BK177.out 1).trans rfl
     have hcz52_2 : w5.cell? ⟨gb177, 2, none⟩ = some (.int .i64 a1_2) := (blk_cell BK177.out 2).trans rfl
     have hcz52_3 : w5.cell? ⟨gb177, 3, none⟩ = some (.int .i64 a1_3) := (blk_cell BK177.out 3).trans rfl
     have hcz52_4 : w5.cell? ⟨gb177, 4, none⟩ = some (.int .i64 a1_4) := (blk_cell BK177.out 4).trans rfl
     have hcz52_5 : w5.cell? ⟨gb177, 5, none⟩ = some (.int .i64 a1_5) := (blk_cell BK177.out 5).trans rfl
     have hcz52_6 : w5.cell? ⟨gb177, 6, none⟩ = some (.int .i64 a1_6) := (blk_cell BK177.out 6).trans rfl
     have hcz52_7 : w5.cell? ⟨gb177, 7, none⟩ = some (.int .i64 a1_7) := (blk_cell BK177.out 7).trans rfl
     have hcz52_8 : w5.cell? ⟨gb177, 8, none⟩ = some (.slice A1_8 l1_8.length c1_8) := (blk_cell BK177.out 8).trans rfl
     have hcz52_9 : w5.cell? ⟨gb177, 9, none⟩ = some (.int .i64 a1_9) := (blk_cell BK177.out 9).trans rfl
     have hcz52_10 : w5.cell? ⟨gb177, 10, none⟩ = some (.int .i64 a1_10) := (blk_cell BK177.out 10).trans rfl
     have hcz52_11 : w5.cell? ⟨gb177, 11, none⟩ = some (.slice A1_11 l1_11.length c1_11) := (blk_cell BK177.out 11).trans rfl
     have hcz52_12 : w5.cell? ⟨gb177, 12, none⟩ = some (.slice A1_12 l1_12.length c1_12) := (blk_cell BK177.out 12).trans rfl
     have hfz52_0 := blk_frozen BK177.out 0
     have hfz52_1 := blk_frozen BK177.out 1
     have hfz52_2 := blk_frozen BK177.out 2
     have hfz52_3 := blk_frozen BK177.out 3
     have hfz52_4 := blk_frozen BK177.out 4
     have hfz52_5 := blk_frozen BK177.out 5
     have hfz52_6 := blk_frozen BK177.out 6
     have hfz52_7 := blk_frozen BK177.out 7
     have hfz52_8 := blk_frozen BK177.out 8
     have hfz52_9 := blk_frozen BK177.out 9
     have hfz52_10 := blk_frozen BK177.out 10
     have hfz52_11 := blk_frozen BK177.out 11
     have hfz52_12 := blk_frozen BK177.out 12
     go_wp2
     repeat (go_quiet (fail); try go_wp2)
     go_meet
     case rel => exact ⟨_, (true), (by first | rfl | (simp; done) | (simp [*]; done)), H', ⟨by first | omega | exact Nat.le_refl _⟩, ⟨by (with_reducible repeat (first | refine blk_drewN ?_ _ | refine blk_drew ?_ | refine blk_alloc ?_ _)); exact BK176.out⟩, ⟨by (with_reducible repeat (first | refine blk_drewN ?_ _ | refine blk_drew ?_ | refine blk_alloc ?_ _)); exact BK177.out⟩, ⟨by repeat (first | (with_reducible first | exact HB.out | apply below_alloc | apply pw_below_drewN | apply below_drew1 | refine below_set ?_ GE176.out | refine below_set ?_ GE177.out) | exact HB.out)⟩⟩
   ·rw [if_neg c7] at H
    have c7b0 : (a0_1 == a1_1) = false := beq_eq_false_iff_ne.mpr c7
    have c7b1 : (a0_1 != a1_1) = true := bne_iff_ne.mpr c7
    have H' := Aside0.mk H
    clear H
    have hnb53 := NB176_177.out
    have hnc53 := NB177_176.out
    have hcz54_0 : w5.cell? ⟨gb176, 0, none⟩ = some (.int .i64 a0_0) := (blk_cell BK176.out 0).trans rfl
    have hcz54_1 : w5.cell? ⟨gb176, 1, none⟩ = some (.int .i64 a0_1) := (blk_cell BK176.out 1).trans rfl
    have hcz54_2 : w5.cell? ⟨gb176, 2, none⟩ = some (.int .i64 a0_2) := (blk_cell BK176.out 2).trans rfl
    have hcz54_3 : w5.cell? ⟨gb176, 3, none⟩ = some (.int .i64 a0_3) := (blk_cell BK176.out 3).trans rfl
    have hcz54_4 : w5.cell? ⟨gb176, 4, none⟩ = some (.int .i64 a0_4) := (blk_cell BK176.out 4).trans rfl
    have hcz54_5 : w5.cell? ⟨gb176, 5, none⟩ = some (.int .i64 a0_5) := (blk_cell BK176.out 5).trans rfl
    have hcz54_6 : w5.cell? ⟨gb176, 6, none⟩ = some (.int .i64 a0_6) := (blk_cell BK176.out 6).trans rfl
    have hcz54_7 : w5.cell? ⟨gb176, 7, none⟩ = some (.int .i64 a0_7) := (blk_cell BK176.out 7).trans rfl
    have hcz54_8 : w5.cell? ⟨gb176, 8, none⟩ = some (.slice A0_8 l0_8.length c0_8) := (blk_cell BK176.out 8).trans rfl
    have hcz54_9 : w5.cell? ⟨gb176, 9, none⟩ = some (.int .i64 a0_9) := (blk_cell BK176.out 9).trans rfl
    have hcz54_10 : w5.cell? ⟨gb176, 10, none⟩ = some (.int .i64 a0_10) := (blk_cell BK176.out 10).trans rfl
    have hcz54_11 : w5.cell? ⟨gb176, 11, none⟩ = some (.slice A0_11 l0_11.length c0_11) := (blk_cell BK176.out 11).trans rfl
    have hcz54_12 : w5.cell? ⟨gb176, 12, none⟩ = some (.slice A0_12 l0_12.length c0_12) := (blk_cell BK176.out 12).trans rfl
    have hfz54_0 := blk_frozen BK176.out 0
    have hfz54_1 := blk_frozen BK176.out 1
    have hfz54_2 := blk_frozen BK176.out 2
    have hfz54_3 := blk_frozen BK176.out 3
    have hfz54_4 := blk_frozen BK176.out 4
    have hfz54_5 := blk_frozen BK176.out 5
    have hfz54_6 := blk_frozen BK176.out 6
    have hfz54_7 := blk_frozen BK176.out 7
    have hfz54_8 := blk_frozen BK176.out 8
    have hfz54_9 := blk_frozen BK176.out 9
    have hfz54_10 := blk_frozen BK176.out 10
    have hfz54_11 := blk_frozen BK176.out 11
    have hfz54_12 := blk_frozen BK176.out 12
    have hcz55_0 : w5.cell? ⟨gb177, 0, none⟩ = some (.int .i64 a1_0) := (blk_cell BK177.out 0).trans rfl
    have hcz55_1 : w5.cell? ⟨gb177, 1, none⟩ = some (.int .i64 a1_1) := (blk_cell BK177.out 1).trans rfl
    have hcz55_2 : w5.cell? ⟨gb177, 2, none⟩ = some (.int .i64 a1_2) := (blk_cell BK177.out 2).trans rfl
    have hcz55_3 : w5.cell? ⟨gb177, 3, none⟩ = some (.int .i64 a1_3) := (blk_cell BK177.out 3).trans rfl
    have hcz55_4 : w5.cell? ⟨gb177, 4, none⟩ = some (.int .i64 a1_4) := (blk_cell BK177.out 4).trans rfl
    have hcz55_5 : w5.cell? ⟨gb177, 5, none⟩ = some (.int .i64 a1_5) := (blk_cell BK177.out 5).trans rfl
    have hcz55_6 : w5.cell? ⟨gb177, 6, none⟩ = some (.int .i64 a1_6) := (blk_cell BK177.out 6).trans rfl
    have hcz55_7 : w5.cell? ⟨gb177, 7, none⟩ = some (.int .i64 a1_7) := (blk_cell BK177.out 7).trans rfl
    have hcz55_8 : w5.cell? ⟨gb177, 8, none⟩ = some (.slice A1_8 l1_8.length c1_8) := (blk_cell BK177.out 8).trans rfl
    have hcz55_9 : w5.cell? ⟨gb177, 9, none⟩ = some (.int .i64 a1_9) := (blk_cell BK177.out 9).trans rfl
    have hcz55_10 : w5.cell? ⟨gb177, 10, none⟩ = some (.int .i64 a1_10) := (blk_cell BK177.out 10).trans rfl
    have hcz55_11 : w5.cell? ⟨gb177, 11, none⟩ = some (.slice A1_11 l1_11.length c1_11) := (blk_cell BK177.out 11).trans rfl
    have hcz55_12 : w5.cell? ⟨gb177, 12, none⟩ = some (.slice A1_12 l1_12.length c1_12) := (blk_cell BK177.out 12).trans rfl
    have hfz55_0 := blk_frozen BK177.out 0
    have hfz55_1 := blk_frozen BK177.out 1
    have hfz55_2 := blk_frozen BK177.out 2
    have hfz55_3 := blk_frozen BK177.out 3
    have hfz55_4 := blk_frozen BK177.out 4
    have hfz55_5 := blk_frozen BK177.out 5
    have hfz55_6 := blk_frozen BK177.out 6
    have hfz55_7 := blk_frozen BK177.out 7
    have hfz55_8 := blk_frozen BK177.out 8
    have hfz55_9 := blk_frozen BK177.out 9
    have hfz55_10 := blk_frozen BK177.out 10
    have hfz55_11 := blk_frozen BK177.out 11
    have hfz55_12 := blk_frozen BK177.out 12
    go_wp2
    repeat (go_quiet (fail); try go_wp2)
    go_meet
    case rel => exact ⟨_, (true), (by first | rfl | (simp; done) | (simp [*]; done)), H', ⟨by first | omega | exact Nat.le_refl _⟩, ⟨by (with_reducible repeat (first | refine blk_drewN ?_ _ | refine blk_drew ?_ | refine blk_alloc ?_ _)); exact BK176.out⟩, ⟨by (with_reducible repeat (first | refine blk_drewN ?_ _ | refine blk_drew ?_ | refine blk_alloc ?_ _)); exact BK177.out⟩, ⟨by repeat (first | (with_reducible first | exact HB.out | apply below_alloc | apply pw_below_drewN | apply below_drew1 | refine below_set ?_ GE176.out | refine below_set ?_ GE177.out) | exact HB.out)⟩⟩
  ·rw [if_neg c6] at H
   have c6b0 : (a0_0 == a1_0) = false := beq_eq_false_iff_ne.mpr c6
   have c6b1 : (a0_0 != a1_0) = true := bne_iff_ne.mpr c6
   (first | rw [c6b0] | (simp only [i64_w, i32_w]; rw [c6b0]) | skip)
   have H' := Aside0.mk H
   clear H
   have hnb56 := NB176_177.out
   have hnc56 := NB177_176.out
   have hcz57_0 : w5.cell? ⟨gb176, 0, none⟩ = some (.int .i64 a0_0) := (blk_cell BK176.out 0).trans rfl
   have hcz57_1 : w5.cell? ⟨gb176, 1, none⟩ = some (.int .i64 a0_1) := (blk_cell BK176.out 1).trans rfl
   have hcz57_2 : w5.cell? ⟨gb176, 2, none⟩ = some (.int .i64 a0_2) := (blk_cell BK176.out 2).trans rfl
   have hcz57_3 : w5.cell? ⟨gb176, 3, none⟩ = some (.int .i64 a0_3) := (blk_cell BK176.out 3).trans rfl
   have hcz57_4 : w5.cell? ⟨gb176, 4, none⟩ = some (.int .i64 a0_4) := (blk_cell BK176.out 4).trans rfl
   have hcz57_5 : w5.cell? ⟨gb176, 5, none⟩ = some (.int .i64 a0_5) := (blk_cell BK176.out 5).trans rfl
   have hcz57_6 : w5.cell? ⟨gb176, 6, none⟩ = some (.int .i64 a0_6) := (blk_cell BK176.out 6).trans rfl
   have hcz57_7 : w5.cell? ⟨gb176, 7, none⟩ = some (.int .i64 a0_7) := (blk_cell BK176.out 7).trans rfl
   have hcz57_8 : w5.cell? ⟨gb176, 8, none⟩ = some (.slice A0_8 l0_8.length c0_8) := (blk_cell BK176.out 8).trans rfl
   have hcz57_9 : w5.cell? ⟨gb176, 9, none⟩ = some (.int .i64 a0_9) := (blk_cell BK176.out 9).trans rfl
   have hcz57_10 : w5.cell? ⟨gb176, 10, none⟩ = some (.int .i64 a0_10) := (blk_cell BK176.out 10).trans rfl
   have hcz57_11 : w5.cell? ⟨gb176, 11, none⟩ = some (.slice A0_11 l0_11.length c0_11) := (blk_cell BK176.out 11).trans rfl
   have hcz57_12 : w5.cell? ⟨gb176, 12, none⟩ = some (.slice A0_12 l0_12.length c0_12) := (blk_cell BK176.out 12).trans rfl
   have hfz57_0 := blk_frozen BK176.out 0
   have hfz57_1 := blk_frozen BK176.out 1
   have hfz57_2 := blk_frozen BK176.out 2
   have hfz57_3 := blk_frozen BK176.out 3
   have hfz57_4 := blk_frozen BK176.out 4
   have hfz57_5 := blk_frozen BK176.out 5
   have hfz57_6 := blk_frozen BK176.out 6
   have hfz57_7 := blk_frozen BK176.out 7
   have hfz57_8 := blk_frozen BK176.out 8
   have hfz57_9 := blk_frozen BK176.out 9
   have hfz57_10 := blk_frozen BK176.out 10
   have hfz57_11 := blk_frozen BK176.out 11
   have hfz57_12 := blk_frozen BK176.out 12
   have hcz58_0 : w5.cell? ⟨gb177, 0, none⟩ = some (.int .i64 a1_0) := (blk_cell BK177.out 0).trans rfl
   have hcz58_1 : w5.cell? ⟨gb177, 1, none⟩ = some (.int .i64 a1_1) := (blk_cell BK177.out 1).trans rfl
   have hcz58_2 : w5.cell? ⟨gb177, 2, none⟩ = some (.int .i64 a1_2) := (blk_cell BK177.out 2).trans rfl
   have hcz58_3 : w5.cell? ⟨gb177, 3, none⟩ = some (.int .i64 a1_3) := (blk_cell BK177.out 3).trans rfl
   have hcz58_4 : w5.cell? ⟨gb177, 4, none⟩ = some (.int .i64 a1_4) := (blk_cell BK177.out 4).trans rfl
   have hcz58_5 : w5.cell? ⟨gb177, 5, none⟩ = some (.int .i64 a1_5) := (blk_cell BK177.out 5).trans rfl
   have hcz58_6 : w5.cell? ⟨gb177, 6, none⟩ = some (.int .i64 a1_6) := (blk_cell BK177.out 6).trans rfl
   have hcz58_7 : w5.cell? ⟨gb177, 7, none⟩ = some (.int .i64 a1_7) := (blk_cell BK177.out 7).trans rfl
   have hcz58_8 : w5.cell? ⟨gb177, 8, none⟩ = some (.slice A1_8 l1_8.length c1_8) := (blk_cell BK177.out 8).trans rfl
   have hcz58_9 : w5.cell? ⟨gb177, 9, none⟩ = some (.int .i64 a1_9) := (blk_cell BK177.out 9).trans rfl
   have hcz58_10 : w5.cell? ⟨gb177, 10, none⟩ = some (.int .i64 a1_10) := (blk_cell BK177.out 10).trans rfl
   have hcz58_11 : w5.cell? ⟨gb177, 11, none⟩ = some (.slice A1_11 l1_11.length c1_11) := (blk_cell BK177.out 11).trans rfl
   have hcz58_12 : w5.cell? ⟨gb177, 12, none⟩ = some (.slice A1_12 l1_12.length c1_12) := (blk_cell BK177.out 12).trans rfl
   have hfz58_0 := blk_frozen BK177.out 0
   have hfz58_1 := blk_frozen BK177.out 1
   have hfz58_2 := blk_frozen BK177.out 2
   have hfz58_3 := blk_frozen BK177.out 3
   have hfz58_4 := blk_frozen BK177.out 4
   have hfz58_5 := blk_frozen BK177.out 5
   have hfz58_6 := blk_frozen BK177.out 6
   have hfz58_7 := blk_frozen BK177.out 7
   have hfz58_8 := blk_frozen BK177.out 8
   have hfz58_9 := blk_frozen BK177.out 9
   have hfz58_10 := blk_frozen BK177.out 10
   have hfz58_11 := blk_frozen BK177.out 11
   have hfz58_12 := blk_frozen BK177.out 12
   go_wp2
   repeat (go_quiet (fail); try go_wp2)
   go_meet
   case rel => exact ⟨_, (true), (by first | rfl | (simp; done) | (simp [*]; done)), H', ⟨by first | omega | exact Nat.le_refl _⟩, ⟨by (with_reducible repeat (first | refine blk_drewN ?_ _ | refine blk_drew ?_ | refine blk_alloc ?_ _)); exact BK176.out⟩, ⟨by (with_reducible repeat (first | refine blk_drewN ?_ _ | refine blk_drew ?_ | refine blk_alloc ?_ _)); exact BK177.out⟩, ⟨by repeat (first | (with_reducible first | exact HB.out | apply below_alloc | apply pw_below_drewN | apply below_drew1 | refine below_set ?_ GE176.out | refine below_set ?_ GE177.out) | exact HB.out)⟩⟩
 case rest =>
  clear HC3
  try clear c1
  try clear p2
  try clear c3
  try clear c4
  try clear c5
  try clear c6
  try clear c6b0
  try clear c6b1
  try clear c7
  try clear c7b0
  try clear c7b1
  try clear c8
  try clear c8b0
  try clear c8b1
  try clear c9
  try clear c9b0
  try clear c9b1
  try clear c10
  try clear c10b0
  try clear c10b1
  try clear c11
  try clear c11b0
  try clear c11b1
  try clear c12
  try clear c12b0
  try clear c12b1
  try clear c13
  try clear c13b0
  try clear c13b1
  try clear c15
  try clear c32
  try clear c35
  try clear c38
  try clear c41
  try clear c44
  try clear c47
  try clear c50
  try clear c53
  try clear c56
  try clear hcz31_10
  try clear hcz31_11
  try clear hcz31_12
  try clear hcz31_3
  try clear hcz31_4
  try clear hcz31_5
  try clear hcz31_6
  try clear hcz31_7
  try clear hcz31_8
  try clear hcz31_9
  try clear hcz33_0
  try clear hcz33_1
  try clear hcz33_10
  try clear hcz33_11
  try clear hcz33_12
  try clear hcz33_2
  try clear hcz33_3
  try clear hcz33_4
  try clear hcz33_5
  try clear hcz33_6
  try clear hcz33_7
  try clear hcz33_8
  try clear hcz33_9
  try clear hcz34_0
  try clear hcz34_1
  try clear hcz34_10
  try clear hcz34_11
  try clear hcz34_12
  try clear hcz34_2
  try clear hcz34_3
  try clear hcz34_4
  try clear hcz34_5
  try clear hcz34_6
  try clear hcz34_7
  try clear hcz34_8
  try clear hcz34_9
  try clear hcz36_0
  try clear hcz36_1
  try clear hcz36_10
  try clear hcz36_11
  try clear hcz36_12
  try clear hcz36_2
  try clear hcz36_3
  try clear hcz36_4
  try clear hcz36_5
  try clear hcz36_6
  try clear hcz36_7
  try clear hcz36_8
  try clear hcz36_9
  try clear hcz37_0
  try clear hcz37_1
  try clear hcz37_10
  try clear hcz37_11
  try clear hcz37_12
  try clear hcz37_2
  try clear hcz37_3
  try clear hcz37_4
  try clear hcz37_5
  try clear hcz37_6
  try clear hcz37_7
  try clear hcz37_8
  try clear hcz37_9
  try clear hcz39_0
  try clear hcz39_1
  try clear hcz39_10
  try clear hcz39_11
  try clear hcz39_12
  try clear hcz39_2
  try clear hcz39_3
  try clear hcz39_4
  try clear hcz39_5
  try clear hcz39_6
  try clear hcz39_7
  try clear hcz39_8
  try clear hcz39_9
  try clear hcz40_0
  try clear hcz40_1
  try clear hcz40_10
  try clear hcz40_11
  try clear hcz40_12
  try clear hcz40_2
  try clear hcz40_3
  try clear hcz40_4
  try clear hcz40_5
  try clear hcz40_6
  try clear hcz40_7
  try clear hcz40_8
  try clear hcz40_9
  try clear hcz42_0
  try clear hcz42_1
  try clear hcz42_10
  try clear hcz42_11
  try clear hcz42_12
  try clear hcz42_2
  try clear hcz42_3
  try clear hcz42_4
  try clear hcz42_5
  try clear hcz42_6
  try clear hcz42_7
  try clear hcz42_8
  try clear hcz42_9
  try clear hcz43_0
  try clear hcz43_1
  try clear hcz43_10
  try clear hcz43_11
  try clear hcz43_12
  try clear hcz43_2
  try clear hcz43_3
  try clear hcz43_4
  try clear hcz43_5
  try clear hcz43_6
  try clear hcz43_7
  try clear hcz43_8
  try clear hcz43_9
  try clear hcz45_0
  try clear hcz45_1
  try clear hcz45_10
  try clear hcz45_11
  try clear hcz45_12
  try clear hcz45_2
  try clear hcz45_3
  try clear hcz45_4
  try clear hcz45_5
  try clear hcz45_6
  try clear hcz45_7
  try clear hcz45_8
  try clear hcz45_9
  try clear hcz46_0
  try clear hcz46_1
  try clear hcz46_10
  try clear hcz46_11
  try clear hcz46_12
  try clear hcz46_2
  try clear hcz46_3
  try clear hcz46_4
  try clear hcz46_5
  try clear hcz46_6
  try clear hcz46_7
  try clear hcz46_8
  try clear hcz46_9
  try clear hcz48_0
  try clear hcz48_1
  try clear hcz48_10
  try clear hcz48_11
  try clear hcz48_12
  try clear hcz48_2
  try clear hcz48_3
  try clear hcz48_4
  try clear hcz48_5
  try clear hcz48_6
  try clear hcz48_7
  try clear hcz48_8
  try clear hcz48_9
  try clear hcz49_0
  try clear hcz49_1
  try clear hcz49_10
  try clear hcz49_11
  try clear hcz49_12
  try clear hcz49_2
  try clear hcz49_3
  try clear hcz49_4
  try clear hcz49_5
  try clear hcz49_6
  try clear hcz49_7
  try clear hcz49_8
  try clear hcz49_9
  try clear hcz51_0
  try clear hcz51_1
  try clear hcz51_10
  try clear hcz51_11
  try clear hcz51_12
  try clear hcz51_2
  try clear hcz51_3
  try clear hcz51_4
  try clear hcz51_5
  try clear hcz51_6
  try clear hcz51_7
  try clear hcz51_8
  try clear hcz51_9
  try clear hcz52_0
  try clear hcz52_1
  try clear hcz52_10
  try clear hcz52_11
  try clear hcz52_12
  try clear hcz52_2
  try clear hcz52_3
  try clear hcz52_4
  try clear hcz52_5
  try clear hcz52_6
  try clear hcz52_7
  try clear hcz52_8
  try clear hcz52_9
  try clear hcz54_0
  try clear hcz54_1
  try clear hcz54_10
  try clear hcz54_11
  try clear hcz54_12
  try clear hcz54_2
  try clear hcz54_3
  try clear hcz54_4
  try clear hcz54_5
  try clear hcz54_6
  try clear hcz54_7
  try clear hcz54_8
  try clear hcz54_9
  try clear hcz55_0
  try clear hcz55_1
  try clear hcz55_10
  try clear hcz55_11
  try clear hcz55_12
  try clear hcz55_2
  try clear hcz55_3
  try clear hcz55_4
  try clear hcz55_5
  try clear hcz55_6
  try clear hcz55_7
  try clear hcz55_8
  try clear hcz55_9
  try clear hcz57_0
  try clear hcz57_1
  try clear hcz57_10
  try clear hcz57_11
  try clear hcz57_12
  try clear hcz57_2
  try clear hcz57_3
  try clear hcz57_4
  try clear hcz57_5
  try clear hcz57_6
  try clear hcz57_7
  try clear hcz57_8
  try clear hcz57_9
  try clear hcz58_0
  try clear hcz58_1
  try clear hcz58_10
  try clear hcz58_11
  try clear hcz58_12
  try clear hcz58_2
  try clear hcz58_3
  try clear hcz58_4
  try clear hcz58_5
  try clear hcz58_6
  try clear hcz58_7
  try clear hcz58_8
  try clear hcz58_9
  try clear hfz31_0
  try clear hfz31_1
  try clear hfz31_10
  try clear hfz31_11
  try clear hfz31_12
  try clear hfz31_2
  try clear hfz31_3
  try clear hfz31_4
  try clear hfz31_5
  try clear hfz31_6
  try clear hfz31_7
  try clear hfz31_8
  try clear hfz31_9
  try clear hfz33_0
  try clear hfz33_1
  try clear hfz33_10
  try clear hfz33_11
  try clear hfz33_12
  try clear hfz33_2
  try clear hfz33_3
  try clear hfz33_4
  try clear hfz33_5
  try clear hfz33_6
  try clear hfz33_7
  try clear hfz33_8
  try clear hfz33_9
  try clear hfz34_0
  try clear hfz34_1
  try clear hfz34_10
  try clear hfz34_11
  try clear hfz34_12
  try clear hfz34_2
  try clear hfz34_3
  try clear hfz34_4
  try clear hfz34_5
  try clear hfz34_6
  try clear hfz34_7
  try clear hfz34_8
  try clear hfz34_9
  try clear hfz36_0
  try clear hfz36_1
  try clear hfz36_10
  try clear hfz36_11
  try clear hfz36_12
  try clear hfz36_2
  try clear hfz36_3
  try clear hfz36_4
  try clear hfz36_5
  try clear hfz36_6
  try clear hfz36_7
  try clear hfz36_8
  try clear hfz36_9
  try clear hfz37_0
  try clear hfz37_1
  try clear hfz37_10
  try clear hfz37_11
  try clear hfz37_12
  try clear hfz37_2
  try clear hfz37_3
  try clear hfz37_4
  try clear hfz37_5
  try clear hfz37_6
  try clear hfz37_7
  try clear hfz37_8
  try clear hfz37_9
  try clear hfz39_0
  try clear hfz39_1
  try clear hfz39_10
  try clear hfz39_11
  try clear hfz39_12
  try clear hfz39_2
  try clear hfz39_3
  try clear hfz39_4
  try clear hfz39_5
  try clear hfz39_6
  try clear hfz39_7
  try clear hfz39_8
  try clear hfz39_9
  try clear hfz40_0
  try clear hfz40_1
  try clear hfz40_10
  try clear hfz40_11
  try clear hfz40_12
  try clear hfz40_2
  try clear hfz40_3
  try clear hfz40_4
  try clear hfz40_5
  try clear hfz40_6
  try clear hfz40_7
  try clear hfz40_8
  try clear hfz40_9
  try clear hfz42_0
  try clear hfz42_1
  try clear hfz42_10
  try clear hfz42_11
  try clear hfz42_12
  try clear hfz42_2
  try clear hfz42_3
  try clear hfz42_4
  try clear hfz42_5
  try clear hfz42_6
  try clear hfz42_7
  try clear hfz42_8
  try clear hfz42_9
  try clear hfz43_0
  try clear hfz43_1
  try clear hfz43_10
  try clear hfz43_11
  try clear hfz43_12
  try clear hfz43_2
  try clear hfz43_3
  try clear hfz43_4
  try clear hfz43_5
  try clear hfz43_6
  try clear hfz43_7
  try clear hfz43_8
  try clear hfz43_9
  try clear hfz45_0
  try clear hfz45_1
  try clear hfz45_10
  try clear hfz45_11
  try clear hfz45_12
  try clear hfz45_2
  try clear hfz45_3
  try clear hfz45_4
  try clear hfz45_5
  try clear hfz45_6
  try clear hfz45_7
  try clear hfz45_8
  try clear hfz45_9
  try clear hfz46_0
  try clear hfz46_1
  try clear hfz46_10
  try clear hfz46_11
  try clear hfz46_12
  try clear hfz46_2
  try clear hfz46_3
  try clear hfz46_4
  try clear hfz46_5
  try clear hfz46_6
  try clear hfz46_7
  try clear hfz46_8
  try clear hfz46_9
  try clear hfz48_0
  try clear hfz48_1
  try clear hfz48_10
  try clear hfz48_11
  try clear hfz48_12
  try clear hfz48_2
  try clear hfz48_3
  try clear hfz48_4
  try clear hfz48_5
  try clear hfz48_6
  try clear hfz48_7
  try clear hfz48_8
  try clear hfz48_9
  try clear hfz49_0
  try clear hfz49_1
  try clear hfz49_10
  try clear hfz49_11
  try clear hfz49_12
  try clear hfz49_2
  try clear hfz49_3
  try clear hfz49_4
  try clear hfz49_5
  try clear hfz49_6
  try clear hfz49_7
  try clear hfz49_8
  try clear hfz49_9
  try clear hfz51_0
  try clear hfz51_1
  try clear hfz51_10
  try clear hfz51_11
  try clear hfz51_12
  try clear hfz51_2
  try clear hfz51_3
  try clear hfz51_4
  try clear hfz51_5
  try clear hfz51_6
  try clear hfz51_7
  try clear hfz51_8
  try clear hfz51_9
  try clear hfz52_0
  try clear hfz52_1
  try clear hfz52_10
  try clear hfz52_11
  try clear hfz52_12
  try clear hfz52_2
  try clear hfz52_3
  try clear hfz52_4
  try clear hfz52_5
  try clear hfz52_6
  try clear hfz52_7
  try clear hfz52_8
  try clear hfz52_9
  try clear hfz54_0
  try clear hfz54_1
  try clear hfz54_10
  try clear hfz54_11
  try clear hfz54_12
  try clear hfz54_2
  try clear hfz54_3
  try clear hfz54_4
  try clear hfz54_5
  try clear hfz54_6
  try clear hfz54_7
  try clear hfz54_8
  try clear hfz54_9
  try clear hfz55_0
  try clear hfz55_1
  try clear hfz55_10
  try clear hfz55_11
  try clear hfz55_12
  try clear hfz55_2
  try clear hfz55_3
  try clear hfz55_4
  try clear hfz55_5
  try clear hfz55_6
  try clear hfz55_7
  try clear hfz55_8
  try clear hfz55_9
  try clear hfz57_0
  try clear hfz57_1
  try clear hfz57_10
  try clear hfz57_11
  try clear hfz57_12
  try clear hfz57_2
  try clear hfz57_3
  try clear hfz57_4
  try clear hfz57_5
  try clear hfz57_6
  try clear hfz57_7
  try clear hfz57_8
  try clear hfz57_9
  try clear hfz58_0
  try clear hfz58_1
  try clear hfz58_10
  try clear hfz58_11
  try clear hfz58_12
  try clear hfz58_2
  try clear hfz58_3
  try clear hfz58_4
  try clear hfz58_5
  try clear hfz58_6
  try clear hfz58_7
  try clear hfz58_8
  try clear hfz58_9
  obtain ⟨kq, x98_2, rfl, HA, HJ2, BK176, BK177, HB⟩ := hcut
  cases kq with
  | zero => exact absurd HA.out (by simp [spec_SameNode.j0])
  | succ kj2 =>
   have H := HA.out
   clear HA
   simp only [spec_SameNode.j0] at H
   by_cases c59 : x98_2 = true
   ·subst c59
    have H1 : (some false) = some r := by rw [if_pos rfl] at H; exact H
    clear H
    have H := H1
    clear H1
    obtain rfl := Option.some.inj H
    go_wp2
    repeat (go_quiet (fail); try go_wp2)
    go_ret
    exact ⟨by first | rfl | (simp [errW_none, errW_some] <;> rfl) | (simp [*, errW_none, errW_some] <;> rfl), by repeat (first | (with_reducible first | exact HB.out | apply below_alloc | apply pw_below_drewN | apply below_drew1 | refine below_set ?_ GE176.out | refine below_set ?_ GE177.out) | exact HB.out)⟩
   ·replace c59 := Bool.eq_false_iff.mpr c59
    subst c59
    have H1 : (spec_SameNode.l0 kj2 0 a0_0 a0_1 a0_2 a0_3 a0_4 a0_5 a0_6 a0_7 l0_8 a0_9 a0_10 l0_11 l0_12 a1_0 a1_1 a1_2 a1_3 a1_4 a1_5 a1_6 a1_7 l1_8 a1_9 a1_10 l1_11 l1_12) = some r := by rw [if_neg (show ¬ (false = true) by decide)] at H; exact H
    clear H
    have H := H1
    clear H1
    have H' := Aside0.mk H
    clear H
    go_wp2
    repeat (go_quiet (fail); try go_wp2)
    go_loopg [5] kj2 (fun kq v5 w' => ∃ (x5_2 : Int), v5 = .int .i64 x5_2 ∧ Aside0 (spec_SameNode.l0 kq x5_2 a0_0 a0_1 a0_2 a0_3 a0_4 a0_5 a0_6 a0_7 l0_8 a0_9 a0_10 l0_11 l0_12 a1_0 a1_1 a1_2 a1_3 a1_4 a1_5 a1_6 a1_7 l1_8 a1_9 a1_10 l1_11 l1_12 = some r) ∧ Aside0 (kq ≤ kj2) ∧ Aside0 (w'.heap[gb176]? = some (.cells #[.int .i64 a0_0, .int .i64 a0_1, .int .i64 a0_2, .int .i64 a0_3, .int .i64 a0_4, .int .i64 a0_5, .int .i64 a0_6, .int .i64 a0_7, (.slice A0_8 l0_8.length c0_8), .int .i64 a0_9, .int .i64 a0_10, (.slice A0_11 l0_11.length c0_11), (.slice A0_12 l0_12.length c0_12)] 37 (0, 0))) ∧ Aside0 (w'.heap[gb177]? = some (.cells #[.int .i64 a1_0, .int .i64 a1_1, .int .i64 a1_2, .int .i64 a1_3, .int .i64 a1_4, .int .i64 a1_5, .int .i64 a1_6, .int .i64 a1_7, (.slice A1_8 l1_8.length c1_8), .int .i64 a1_9, .int .i64 a1_10, (.slice A1_11 l1_11.length c1_11), (.slice A1_12 l1_12.length c1_12)] 37 (0, 0))) ∧ Aside0 (Below w.heap.size w w'))
    case atStart => exact ⟨(0), (by first | rfl | (simp; done) | (simp [*]; done)), H', ⟨Nat.le_refl _⟩, ⟨by (with_reducible repeat (first | refine blk_drewN ?_ _ | refine blk_drew ?_ | refine blk_alloc ?_ _)); exact BK176.out⟩, ⟨by (with_reducible repeat (first | refine blk_drewN ?_ _ | refine blk_drew ?_ | refine blk_alloc ?_ _)); exact BK177.out⟩, ⟨by repeat (first | (with_reducible first | exact HB.out | apply below_alloc | apply pw_below_drewN | apply below_drew1 | refine below_set ?_ GE176.out | refine below_set ?_ GE177.out) | exact HB.out)⟩⟩
    case round =>
     clear H'
     try clear c1
     try clear p2
     try clear c3
     try clear c4
     try clear c5
     try clear c6
     try clear c6b0
     try clear c6b1
     try clear c7
     try clear c7b0
     try clear c7b1
     try clear c8
     try clear c8b0
     try clear c8b1
     try clear c9
     try clear c9b0
     try clear c9b1
     try clear c10
     try clear c10b0
     try clear c10b1
     try clear c11
     try clear c11b0
     try clear c11b1
     try clear c12
     try clear c12b0
     try clear c12b1
     try clear c13
     try clear c13b0
     try clear c13b1
     try clear c15
     try clear c32
     try clear c35
     try clear c38
     try clear c41
     try clear c44
     try clear c47
     try clear c50
     try clear c53
     try clear c56
     try clear c59
     try clear hcz31_10
     try clear hcz31_11
     try clear hcz31_12
     try clear hcz31_3
     try clear hcz31_4
     try clear hcz31_5
     try clear hcz31_6
     try clear hcz31_7
     try clear hcz31_8
     try clear hcz31_9
     try clear hcz33_0
     try clear hcz33_1
     try clear hcz33_10
     try clear hcz33_11
     try clear hcz33_12
     try clear hcz33_2
     try clear hcz33_3
     try clear hcz33_4
     try clear hcz33_5
     try clear hcz33_6
     try clear hcz33_7
     try clear hcz33_8
     try clear hcz33_9
     try clear hcz34_0
     try clear hcz34_1
     try clear hcz34_10
     try clear hcz34_11
     try clear hcz34_12
     try clear hcz34_2
     try clear hcz34_3
     try clear hcz34_4
     try clear hcz34_5
     try clear hcz34_6
     try clear hcz34_7
     try clear hcz34_8
     try clear hcz34_9
     try clear hcz36_0
     try clear hcz36_1
     try clear hcz36_10
     try clear hcz36_11
     try clear hcz36_12
     try clear hcz36_2
     try clear hcz36_3
     try clear hcz36_4
     try clear hcz36_5
     try clear hcz36_6
     try clear hcz36_7
     try clear hcz36_8
     try clear hcz36_9
     try clear hcz37_0
     try clear hcz37_1
     try clear hcz37_10
     try clear hcz37_11
     try clear hcz37_12
     try clear hcz37_2
     try clear hcz37_3
     try clear hcz37_4
     try clear hcz37_5
     try clear hcz37_6
     try clear hcz37_7
     try clear hcz37_8
     try clear hcz37_9
     try clear hcz39_0
     try clear hcz39_1
     try clear hcz39_10
     try clear hcz39_11
     try clear hcz39_12
     try clear hcz39_2
     try clear hcz39_3
     try clear hcz39_4
     try clear hcz39_5
     try clear hcz39_6
     try clear hcz39_7
     try clear hcz39_8
     try clear hcz39_9
     try clear hcz40_0
     try clear hcz40_1
     try clear hcz40_10
     try clear hcz40_11
     try clear hcz40_12
     try clear hcz40_2
     try clear hcz40_3
     try clear hcz40_4
     try clear hcz40_5
     try clear hcz40_6
     try clear hcz40_7
     try clear hcz40_8
     try clear hcz40_9
     try clear hcz42_0
     try clear hcz42_1
     try clear hcz42_10
     try clear hcz42_11
     try clear hcz42_12
     try clear hcz42_2
     try clear hcz42_3
     try clear hcz42_4
     try clear hcz42_5
     try clear hcz42_6
     try clear hcz42_7
     try clear hcz42_8
     try clear hcz42_9
     try clear hcz43_0
     try clear hcz43_1
     try clear hcz43_10
     try clear hcz43_11
     try clear hcz43_12
     try clear hcz43_2
     try clear hcz43_3
     try clear hcz43_4
     try clear hcz43_5
     try clear hcz43_6
     try clear hcz43_7
     try clear hcz43_8
     try clear hcz43_9
     try clear hcz45_0
     try clear hcz45_1
     try clear hcz45_10
     try clear hcz45_11
     try clear hcz45_12
     try clear hcz45_2
     try clear hcz45_3
     try clear hcz45_4
     try clear hcz45_5
     try clear hcz45_6
     try clear hcz45_7
     try clear hcz45_8
     try clear hcz45_9
     try clear hcz46_0
     try clear hcz46_1
     try clear hcz46_10
     try clear hcz46_11
     try clear hcz46_12
     try clear hcz46_2
     try clear hcz46_3
     try clear hcz46_4
     try clear hcz46_5
     try clear hcz46_6
     try clear hcz46_7
     try clear hcz46_8
     try clear hcz46_9
     try clear hcz48_0
     try clear hcz48_1
     try clear hcz48_10
     try clear hcz48_11
     try clear hcz48_12
     try clear hcz48_2
     try clear hcz48_3
     try clear hcz48_4
     try clear hcz48_5
     try clear hcz48_6
     try clear hcz48_7
     try clear hcz48_8
     try clear hcz48_9
     try clear hcz49_0
     try clear hcz49_1
     try clear hcz49_10
     try clear hcz49_11
     try clear hcz49_12
     try clear hcz49_2
     try clear hcz49_3
     try clear hcz49_4
     try clear hcz49_5
     try clear hcz49_6
     try clear hcz49_7
     try clear hcz49_8
     try clear hcz49_9
     try clear hcz51_0
     try clear hcz51_1
     try clear hcz51_10
     try clear hcz51_11
     try clear hcz51_12
     try clear hcz51_2
     try clear hcz51_3
     try clear hcz51_4
     try clear hcz51_5
     try clear hcz51_6
     try clear hcz51_7
     try clear hcz51_8
     try clear hcz51_9
     try clear hcz52_0
     try clear hcz52_1
     try clear hcz52_10
     try clear hcz52_11
     try clear hcz52_12
     try clear hcz52_2
     try clear hcz52_3
     try clear hcz52_4
     try clear hcz52_5
     try clear hcz52_6
     try clear hcz52_7
     try clear hcz52_8
     try clear hcz52_9
     try clear hcz54_0
     try clear hcz54_1
     try clear hcz54_10
     try clear hcz54_11
     try clear hcz54_12
     try clear hcz54_2
     try clear hcz54_3
     try clear hcz54_4
     try clear hcz54_5
     try clear hcz54_6
     try clear hcz54_7
     try clear hcz54_8
     try clear hcz54_9
     try clear hcz55_0
     try clear hcz55_1
     try clear hcz55_10
     try clear hcz55_11
     try clear hcz55_12
     try clear hcz55_2
     try clear hcz55_3
     try clear hcz55_4
     try clear hcz55_5
     try clear hcz55_6
     try clear hcz55_7
     try clear hcz55_8
     try clear hcz55_9
     try clear hcz57_0
     try clear hcz57_1
     try clear hcz57_10
     try clear hcz57_11
     try clear hcz57_12
     try clear hcz57_2
     try clear hcz57_3
     try clear hcz57_4
     try clear hcz57_5
     try clear hcz57_6
     try clear hcz57_7
     try clear hcz57_8
     try clear hcz57_9
     try clear hcz58_0
     try clear hcz58_1
     try clear hcz58_10
     try clear hcz58_11
     try clear hcz58_12
     try clear hcz58_2
     try clear hcz58_3
     try clear hcz58_4
     try clear hcz58_5
     try clear hcz58_6
     try clear hcz58_7
     try clear hcz58_8
     try clear hcz58_9
     try clear hfz31_0
     try clear hfz31_1
     try clear hfz31_10
     try clear hfz31_11
     try clear hfz31_12
     try clear hfz31_2
     try clear hfz31_3
     try clear hfz31_4
     try clear hfz31_5
     try clear hfz31_6
     try clear hfz31_7
     try clear hfz31_8
     try clear hfz31_9
     try clear hfz33_0
     try clear hfz33_1
     try clear hfz33_10
     try clear hfz33_11
     try clear hfz33_12
     try clear hfz33_2
     try clear hfz33_3
     try clear hfz33_4
     try clear hfz33_5
     try clear hfz33_6
     try clear hfz33_7
     try clear hfz33_8
     try clear hfz33_9
     try clear hfz34_0
     try clear hfz34_1
     try clear hfz34_10
     try clear hfz34_11
     try clear hfz34_12
     try clear hfz34_2
     try clear hfz34_3
     try clear hfz34_4
     try clear hfz34_5
     try clear hfz34_6
     try clear hfz34_7
     try clear hfz34_8
     try clear hfz34_9
     try clear hfz36_0
     try clear hfz36_1
     try clear hfz36_10
     try clear hfz36_11
     try clear hfz36_12
     try clear hfz36_2
     try clear hfz36_3
     try clear hfz36_4
     try clear hfz36_5
     try clear hfz36_6
     try clear hfz36_7
     try clear hfz36_8
     try clear hfz36_9
     try clear hfz37_0
     try clear hfz37_1
     try clear hfz37_10
     try clear hfz37_11
     try clear hfz37_12
     try clear hfz37_2
     try clear hfz37_3
     try clear hfz37_4
     try clear hfz37_5
     try clear hfz37_6
     try clear hfz37_7
     try clear hfz37_8
     try clear hfz37_9
     try clear hfz39_0
     try clear hfz39_1
     try clear hfz39_10
     try clear hfz39_11
     try clear hfz39_12
     try clear hfz39_2
     try clear hfz39_3
     try clear hfz39_4
     try clear hfz39_5
     try clear hfz39_6
     try clear hfz39_7
     try clear hfz39_8
     try clear hfz39_9
     try clear hfz40_0
     try clear hfz40_1
     try clear hfz40_10
     try clear hfz40_11
     try clear hfz40_12
     try clear hfz40_2
     try clear hfz40_3
     try clear hfz40_4
     try clear hfz40_5
     try clear hfz40_6
     try clear hfz40_7
     try clear hfz40_8
     try clear hfz40_9
     try clear hfz42_0
     try clear hfz42_1
     try clear hfz42_10
     try clear hfz42_11
     try clear hfz42_12
     try clear hfz42_2
     try clear hfz42_3
     try clear hfz42_4
     try clear hfz42_5
     try clear hfz42_6
     try clear hfz42_7
     try clear hfz42_8
     try clear hfz42_9
     try clear hfz43_0
     try clear hfz43_1
     try clear hfz43_10
     try clear hfz43_11
     try clear hfz43_12
     try clear hfz43_2
     try clear hfz43_3
     try clear hfz43_4
     try clear hfz43_5
     try clear hfz43_6
     try clear hfz43_7
     try clear hfz43_8
     try clear hfz43_9
     try clear hfz45_0
     try clear hfz45_1
     try clear hfz45_10
     try clear hfz45_11
     try clear hfz45_12
     try clear hfz45_2
     try clear hfz45_3
     try clear hfz45_4
     try clear hfz45_5
     try clear hfz45_6
     try clear hfz45_7
     try clear hfz45_8
     try clear hfz45_9
     try clear hfz46_0
     try clear hfz46_1
     try clear hfz46_10
     try clear hfz46_11
     try clear hfz46_12
     try clear hfz46_2
     try clear hfz46_3
     try clear hfz46_4
     try clear hfz46_5
     try clear hfz46_6
     try clear hfz46_7
     try clear hfz46_8
     try clear hfz46_9
     try clear hfz48_0
     try clear hfz48_1
     try clear hfz48_10
     try clear hfz48_11
     try clear hfz48_12
     try clear hfz48_2
     try clear hfz48_3
     try clear hfz48_4
     try clear hfz48_5
     try clear hfz48_6
     try clear hfz48_7
     try clear hfz48_8
     try clear hfz48_9
     try clear hfz49_0
     try clear hfz49_1
     try clear hfz49_10
     try clear hfz49_11
     try clear hfz49_12
     try clear hfz49_2
     try clear hfz49_3
     try clear hfz49_4
     try clear hfz49_5
     try clear hfz49_6
     try clear hfz49_7
     try clear hfz49_8
     try clear hfz49_9
     try clear hfz51_0
     try clear hfz51_1
     try clear hfz51_10
     try clear hfz51_11
     try clear hfz51_12
     try clear hfz51_2
     try clear hfz51_3
     try clear hfz51_4
     try clear hfz51_5
     try clear hfz51_6
     try clear hfz51_7
     try clear hfz51_8
     try clear hfz51_9
     try clear hfz52_0
     try clear hfz52_1
     try clear hfz52_10
     try clear hfz52_11
     try clear hfz52_12
     try clear hfz52_2
     try clear hfz52_3
     try clear hfz52_4
     try clear hfz52_5
     try clear hfz52_6
     try clear hfz52_7
     try clear hfz52_8
     try clear hfz52_9
     try clear hfz54_0
     try clear hfz54_1
     try clear hfz54_10
     try clear hfz54_11
     try clear hfz54_12
     try clear hfz54_2
     try clear hfz54_3
     try clear hfz54_4
     try clear hfz54_5
     try clear hfz54_6
     try clear hfz54_7
     try clear hfz54_8
     try clear hfz54_9
     try clear hfz55_0
     try clear hfz55_1
     try clear hfz55_10
     try clear hfz55_11
     try clear hfz55_12
     try clear hfz55_2
     try clear hfz55_3
     try clear hfz55_4
     try clear hfz55_5
     try clear hfz55_6
     try clear hfz55_7
     try clear hfz55_8
     try clear hfz55_9
     try clear hfz57_0
     try clear hfz57_1
     try clear hfz57_10
     try clear hfz57_11
     try clear hfz57_12
     try clear hfz57_2
     try clear hfz57_3
     try clear hfz57_4
     try clear hfz57_5
     try clear hfz57_6
     try clear hfz57_7
     try clear hfz57_8
     try clear hfz57_9
     try clear hfz58_0
     try clear hfz58_1
     try clear hfz58_10
     try clear hfz58_11
     try clear hfz58_12
     try clear hfz58_2
     try clear hfz58_3
     try clear hfz58_4
     try clear hfz58_5
     try clear hfz58_6
     try clear hfz58_7
     try clear hfz58_8
     try clear hfz58_9
     try clear p2
     obtain ⟨x5_2, rfl, HA, HK2, BK176, BK177, HB⟩ := hrel
     cases gk with
     | zero => exact absurd HA.out (by simp [spec_SameNode.l0])
     | succ k2 =>
      have H := HA.out
      clear HA
      simp only [spec_SameNode.l0] at H
      by_cases c60 : x5_2 < (l0_11.length : Int)
      ·rw [if_pos c60] at H
       have c60b0 : decide (x5_2 < (l0_11.length : Int)) = true := decide_eq_true c60
       clear c60
       by_cases c61 : 0 ≤ x5_2
       ·rw [if_pos c61] at H
        have c61b0 : decide (0 ≤ x5_2) = true := decide_eq_true c61
        clear c61
        by_cases c62 : x5_2 < (l1_11.length : Int)
        ·rw [if_pos c62] at H
         have c62b0 : decide (x5_2 < (l1_11.length : Int)) = true := decide_eq_true c62
         clear c62
         by_cases c63 : (!(((rd_T84 l0_11 x5_2).f0) == ((rd_T84 l1_11 x5_2).f0)) || (!(((rd_T84 l0_11 x5_2).f1) == ((rd_T84 l1_11 x5_2).f1)) || (!(((rd_T84 l0_11 x5_2).f2) == ((rd_T84 l1_11 x5_2).f2))))) = true
         ·rw [if_pos c63] at H
          have c63b0 : (!(((rd_T84 l0_11 x5_2).f0) == ((rd_T84 l1_11 x5_2).f0)) || (!(((rd_T84 l0_11 x5_2).f1) == ((rd_T84 l1_11 x5_2).f1)) || (!(((rd_T84 l0_11 x5_2).f2) == ((rd_T84 l1_11 x5_2).f2))))) = true := c63
          clear c63
          obtain rfl := Option.some.inj H
          have hnb64 := NB176_177.out
          have hnc64 := NB177_176.out
          have hcz65_0 : wr.cell? ⟨gb176, 0, none⟩ = some (.int .i64 a0_0) := (blk_cell BK176.out 0).trans rfl
          have hcz65_1 : wr.cell? ⟨gb176, 1, none⟩ = some (.int .i64 a0_1) := (blk_cell BK176.out 1).trans rfl
          have hcz65_2 : wr.cell? ⟨gb176, 2, none⟩ = some (.int .i64 a0_2) := (blk_cell BK176.out 2).trans rfl
          have hcz65_3 : wr.cell? ⟨gb176, 3, none⟩ = some (.int .i64 a0_3) := (blk_cell BK176.out 3).trans rfl
          have hcz65_4 : wr.cell? ⟨gb176, 4, none⟩ = some (.int .i64 a0_4) := (blk_cell BK176.out 4).trans rfl
          have hcz65_5 : wr.cell? ⟨gb176, 5, none⟩ = some (.int .i64 a0_5) := (blk_cell BK176.out 5).trans rfl
          have hcz65_6 : wr.cell? ⟨gb176, 6, none⟩ = some (.int .i64 a0_6) := (blk_cell BK176.out 6).trans rfl
          have hcz65_7 : wr.cell? ⟨gb176, 7, none⟩ = some (.int .i64 a0_7) := (blk_cell BK176.out 7).trans rfl
          have hcz65_8 : wr.cell? ⟨gb176, 8, none⟩ = some (.slice A0_8 l0_8.length c0_8) := (blk_cell BK176.out 8).trans rfl
          have hcz65_9 : wr.cell? ⟨gb176, 9, none⟩ = some (.int .i64 a0_9) := (blk_cell BK176.out 9).trans rfl
          have hcz65_10 : wr.cell? ⟨gb176, 10, none⟩ = some (.int .i64 a0_10) := (blk_cell BK176.out 10).trans rfl
          have hcz65_11 : wr.cell? ⟨gb176, 11, none⟩ = some (.slice A0_11 l0_11.length c0_11) := (blk_cell BK176.out 11).trans rfl
          have hcz65_12 : wr.cell? ⟨gb176, 12, none⟩ = some (.slice A0_12 l0_12.length c0_12) := (blk_cell BK176.out 12).trans rfl
          have hfz65_0 := blk_frozen BK176.out 0
          have hfz65_1 := blk_frozen BK176.out 1
          have hfz65_2 := blk_frozen BK176.out 2
          have hfz65_3 := blk_frozen BK176.out 3
          have hfz65_4 := blk_frozen BK176.out 4
          have hfz65_5 := blk_frozen BK176.out 5
          have hfz65_6 := blk_frozen BK176.out 6
          have hfz65_7 := blk_frozen BK176.out 7
          have hfz65_8 := blk_frozen BK176.out 8
          have hfz65_9 := blk_frozen BK176.out 9
          have hfz65_10 := blk_frozen BK176.out 10
          have hfz65_11 := blk_frozen BK176.out 11
          have hfz65_12 := blk_frozen BK176.out 12
          have p180 : 0 ≤ (x5_2 : Int) := of_decide_eq_true (by first | (with_reducible assumption) | assumption)
          have q180 : x5_2 < (l0_11.length : Int) := of_decide_eq_true (by first | (with_reducible assumption) | assumption)
          obtain ⟨ad180, e180, hx180_0, hx180_1, hx180_2⟩ := at_T84 HR0_11.out x5_2 p180 q180
          cases e180
          replace hx180_0 := (HB.out.cell (World.block_lt_of_cell? w _ hx180_0)).trans hx180_0
          replace hx180_1 := (HB.out.cell (World.block_lt_of_cell? w _ hx180_1)).trans hx180_1
          replace hx180_2 := (HB.out.cell (World.block_lt_of_cell? w _ hx180_2)).trans hx180_2
          replace p180 := eq_true p180
          replace q180 := eq_true q180
          have hcz66_0 : wr.cell? ⟨gb177, 0, none⟩ = some (.int .i64 a1_0) := (blk_cell BK177.out 0).trans rfl
          have hcz66_1 : wr.cell? ⟨gb177, 1, none⟩ = some (.int .i64 a1_1) := (blk_cell BK177.out 1).trans rfl
          have hcz66_2 : wr.cell? ⟨gb177, 2, none⟩ = some (.int .i64 a1_2) := (blk_cell BK177.out 2).trans rfl
          have hcz66_3 : wr.cell? ⟨gb177, 3, none⟩ = some (.int .i64 a1_3) := (blk_cell BK177.out 3).trans rfl
          have hcz66_4 : wr.cell? ⟨gb177, 4, none⟩ = some (.int .i64 a1_4) := (blk_cell BK177.out 4).trans rfl
          have hcz66_5 : wr.cell? ⟨gb177, 5, none⟩ = some (.int .i64 a1_5) := (blk_cell BK177.out 5).trans rfl
          have hcz66_6 : wr.cell? ⟨gb177, 6, none⟩ = some (.int .i64 a1_6) := (blk_cell BK177.out 6).trans rfl
          have hcz66_7 : wr.cell? ⟨gb177, 7, none⟩ = some (.int .i64 a1_7) := (blk_cell BK177.out 7).trans rfl
          have hcz66_8 : wr.cell? ⟨gb177, 8, none⟩ = some (.slice A1_8 l1_8.length c1_8) := (blk_cell BK177.out 8).trans rfl
          have hcz66_9 : wr.cell? ⟨gb177, 9, none⟩ = some (.int .i64 a1_9) := (blk_cell BK177.out 9).trans rfl
          have hcz66_10 : wr.cell? ⟨gb177, 10, none⟩ = some (.int .i64 a1_10) := (blk_cell BK177.out 10).trans rfl
          have hcz66_11 : wr.cell? ⟨gb177, 11, none⟩ = some (.slice A1_11 l1_11.length c1_11) := (blk_cell BK177.out 11).trans rfl
          have hcz66_12 : wr.cell? ⟨gb177, 12, none⟩ = some (.slice A1_12 l1_12.length c1_12) := (blk_cell BK177.out 12).trans rfl
          have hfz66_0 := blk_frozen BK177.out 0
          have hfz66_1 := blk_frozen BK177.out 1
          have hfz66_2 := blk_frozen BK177.out 2
          have hfz66_3 := blk_frozen BK177.out 3
          have hfz66_4 := blk_frozen BK177.out 4
          have hfz66_5 := blk_frozen BK177.out 5
          have hfz66_6 := blk_frozen BK177.out 6
          have hfz66_7 := blk_frozen BK177.out 7
          have hfz66_8 := blk_frozen BK177.out 8
          have hfz66_9 := blk_frozen BK177.out 9
          have hfz66_10 := blk_frozen BK177.out 10
          have hfz66_11 := blk_frozen BK177.out 11
          have hfz66_12 := blk_frozen BK177.out 12
          have p181 : 0 ≤ (x5_2 : Int) := of_decide_eq_true (by first | (with_reducible assumption) | assumption)
          have q181 : x5_2 < (l1_11.length : Int) := of_decide_eq_true (by first | (with_reducible assumption) | assumption)
          obtain ⟨ad181, e181, hx181_0, hx181_1, hx181_2⟩ := at_T84 HR1_11.out x5_2 p181 q181
          cases e181
          replace hx181_0 := (HB.out.cell (World.block_lt_of_cell? w _ hx181_0)).trans hx181_0
          replace hx181_1 := (HB.out.cell (World.block_lt_of_cell? w _ hx181_1)).trans hx181_1
          replace hx181_2 := (HB.out.cell (World.block_lt_of_cell? w _ hx181_2)).trans hx181_2
          replace p181 := eq_true p181
          replace q181 := eq_true q181
          go_wp2
          repeat (go_quiet (fail); try go_wp2)
          go_ret
          exact ⟨by first | rfl | (simp [errW_none, errW_some] <;> rfl) | (simp [*, errW_none, errW_some] <;> rfl), by repeat (first | (with_reducible first | exact HB.out | apply below_alloc | apply pw_below_drewN | apply below_drew1 | refine below_set ?_ GE176.out | refine below_set ?_ GE177.out) | exact HB.out)⟩
         ·rw [if_neg c63] at H
          have c63b0 : (!(((rd_T84 l0_11 x5_2).f0) == ((rd_T84 l1_11 x5_2).f0)) || (!(((rd_T84 l0_11 x5_2).f1) == ((rd_T84 l1_11 x5_2).f1)) || (!(((rd_T84 l0_11 x5_2).f2) == ((rd_T84 l1_11 x5_2).f2))))) = false := by simpa using c63
          clear c63
          have H' := Aside0.mk H
          clear H
          have hnb67 := NB176_177.out
          have hnc67 := NB177_176.out
          have hcz68_0 : wr.cell? ⟨gb176, 0, none⟩ = some (.int .i64 a0_0) := (blk_cell BK176.out 0).trans rfl
          have hcz68_1 : wr.cell? ⟨gb176, 1, none⟩ = some (.int .i64 a0_1) := (blk_cell BK176.out 1).trans rfl
          have hcz68_2 : wr.cell? ⟨gb176, 2, none⟩ = some (.int .i64 a0_2) := (blk_cell BK176.out 2).trans rfl
          have hcz68_3 : wr.cell? ⟨gb176, 3, none⟩ = some (.int .i64 a0_3) := (blk_cell BK176.out 3).trans rfl
          have hcz68_4 : wr.cell? ⟨gb176, 4, none⟩ = some (.int .i64 a0_4) := (blk_cell BK176.out 4).trans rfl
          have hcz68_5 : wr.cell? ⟨gb176, 5, none⟩ = some (.int .i64 a0_5) := (blk_cell BK176.out 5).trans rfl
          have hcz68_6 : wr.cell? ⟨gb176, 6, none⟩ = some (.int .i64 a0_6) := (blk_cell BK176.out 6).trans rfl
          have hcz68_7 : wr.cell? ⟨gb176, 7, none⟩ = some (.int .i64 a0_7) := (blk_cell BK176.out 7).trans rfl
          have hcz68_8 : wr.cell? ⟨gb176, 8, none⟩ = some (.slice A0_8 l0_8.length c0_8) := (blk_cell BK176.out 8).trans rfl
          have hcz68_9 : wr.cell? ⟨gb176, 9, none⟩ = some (.int .i64 a0_9) := (blk_cell BK176.out 9).trans rfl
          have hcz68_10 : wr.cell? ⟨gb176, 10, none⟩ = some (.int .i64 a0_10) := (blk_cell BK176.out 10).trans rfl
          have hcz68_11 : wr.cell? ⟨gb176, 11, none⟩ = some (.slice A0_11 l0_11.length c0_11) := (blk_cell BK176.out 11).trans rfl
          have hcz68_12 : wr.cell? ⟨gb176, 12, none⟩ = some (.slice A0_12 l0_12.length c0_12) := (blk_cell BK176.out 12).trans rfl
          have hfz68_0 := blk_frozen BK176.out 0
          have hfz68_1 := blk_frozen BK176.out 1
          have hfz68_2 := blk_frozen BK176.out 2
          have hfz68_3 := blk_frozen BK176.out 3
          have hfz68_4 := blk_frozen BK176.out 4
          have hfz68_5 := blk_frozen BK176.out 5
          have hfz68_6 := blk_frozen BK176.out 6
          have hfz68_7 := blk_frozen BK176.out 7
          have hfz68_8 := blk_frozen BK176.out 8
          have hfz68_9 := blk_frozen BK176.out 9
          have hfz68_10 := blk_frozen BK176.out 10
          have hfz68_11 := blk_frozen BK176.out 11
          have hfz68_12 := blk_frozen BK176.out 12
          have p180 : 0 ≤ (x5_2 : Int) := of_decide_eq_true (by first | (with_reducible assumption) | assumption)
          have q180 : x5_2 < (l0_11.length : Int) := of_decide_eq_true (by first | (with_reducible assumption) | assumption)
          obtain ⟨ad180, e180, hx180_0, hx180_1, hx180_2⟩ := at_T84 HR0_11.out x5_2 p180 q180
          cases e180
          replace hx180_0 := (HB.out.cell (World.block_lt_of_cell? w _ hx180_0)).trans hx180_0
          replace hx180_1 := (HB.out.cell (World.block_lt_of_cell? w _ hx180_1)).trans hx180_1
          replace hx180_2 := (HB.out.cell (World.block_lt_of_cell? w _ hx180_2)).trans hx180_2
          replace p180 := eq_true p180
          replace q180 := eq_true q180
          have hcz69_0 : wr.cell? ⟨gb177, 0, none⟩ = some (.int .i64 a1_0) := (blk_cell BK177.out 0).trans rfl
          have hcz69_1 : wr.cell? ⟨gb177, 1, none⟩ = some (.int .i64 a1_1) := (blk_cell BK177.out 1).trans rfl
          have hcz69_2 : wr.cell? ⟨gb177, 2, none⟩ = some (.int .i64 a1_2) := (blk_cell BK177.out 2).trans rfl
          have hcz69_3 : wr.cell? ⟨gb177, 3, none⟩ = some (.int .i64 a1_3) := (blk_cell BK177.out 3).trans rfl
          have hcz69_4 : wr.cell? ⟨gb177, 4, none⟩ = some (.int .i64 a1_4) := (blk_cell BK177.out 4).trans rfl
          have hcz69_5 : wr.cell? ⟨gb177, 5, none⟩ = some (.int .i64 a1_5) := (blk_cell BK177.out 5).trans rfl
          have hcz69_6 : wr.cell? ⟨gb177, 6, none⟩ = some (.int .i64 a1_6) := (blk_cell BK177.out 6).trans rfl
          have hcz69_7 : wr.cell? ⟨gb177, 7, none⟩ = some (.int .i64 a1_7) := (blk_cell BK177.out 7).trans rfl
          have hcz69_8 : wr.cell? ⟨gb177, 8, none⟩ = some (.slice A1_8 l1_8.length c1_8) := (blk_cell BK177.out 8).trans rfl
          have hcz69_9 : wr.cell? ⟨gb177, 9, none⟩ = some (.int .i64 a1_9) := (blk_cell BK177.out 9).trans rfl
          have hcz69_10 : wr.cell? ⟨gb177, 10, none⟩ = some (.int .i64 a1_10) := (blk_cell BK177.out 10).trans rfl
          have hcz69_11 : wr.cell? ⟨gb177, 11, none⟩ = some (.slice A1_11 l1_11.length c1_11) := (blk_cell BK177.out 11).trans rfl
          have hcz69_12 : wr.cell? ⟨gb177, 12, none⟩ = some (.slice A1_12 l1_12.length c1_12) := (blk_cell BK177.out 12).trans rfl
          have hfz69_0 := blk_frozen BK177.out 0
          have hfz69_1 := blk_frozen BK177.out 1
          have hfz69_2 := blk_frozen BK177.out 2
          have hfz69_3 := blk_frozen BK177.out 3
          have hfz69_4 := blk_frozen BK177.out 4
          have hfz69_5 := blk_frozen BK177.out 5
          have hfz69_6 := blk_frozen BK177.out 6
          have hfz69_7 := blk_frozen BK177.out 7
          have hfz69_8 := blk_frozen BK177.out 8
          have hfz69_9 := blk_frozen BK177.out 9
          have hfz69_10 := blk_frozen BK177.out 10
          have hfz69_11 := blk_frozen BK177.out 11
          have hfz69_12 := blk_frozen BK177.out 12
          have p181 : 0 ≤ (x5_2 : Int) := of_decide_eq_true (by first | (with_reducible assumption) | assumption)
          have q181 : x5_2 < (l1_11.length : Int) := of_decide_eq_true (by first | (with_reducible assumption) | assumption)
          obtain ⟨ad181, e181, hx181_0, hx181_1, hx181_2⟩ := at_T84 HR1_11.out x5_2 p181 q181
          cases e181
          replace hx181_0 := (HB.out.cell (World.block_lt_of_cell? w _ hx181_0)).trans hx181_0
          replace hx181_1 := (HB.out.cell (World.block_lt_of_cell? w _ hx181_1)).trans hx181_1
          replace hx181_2 := (HB.out.cell (World.block_lt_of_cell? w _ hx181_2)).trans hx181_2
          replace p181 := eq_true p181
          replace q181 := eq_true q181
          go_wp2
          repeat (go_quiet (fail); try go_wp2)
          go_roundg k2
          case measure => have := HJ2.out; have := HK2.out; omega
          case rel => exact ⟨(wrap64 (x5_2 + 1)), (by first | rfl | (simp; done) | (simp [*]; done)), H', ⟨by have := HJ2.out; have := HK2.out; omega⟩, ⟨by (with_reducible repeat (first | refine blk_drewN ?_ _ | refine blk_drew ?_ | refine blk_alloc ?_ _)); exact BK176.out⟩, ⟨by (with_reducible repeat (first | refine blk_drewN ?_ _ | refine blk_drew ?_ | refine blk_alloc ?_ _)); exact BK177.out⟩, ⟨by repeat (first | (with_reducible first | exact HB.out | apply below_alloc | apply pw_below_drewN | apply below_drew1 | refine below_set ?_ GE176.out | refine below_set ?_ GE177.out) | exact HB.out)⟩⟩
        ·rw [if_neg c62] at H
         exact absurd H (by simp)
       ·rw [if_neg c61] at H
        exact absurd H (by simp)
      ·rw [if_neg c60] at H
       have c60b0 : decide (x5_2 < (l0_11.length : Int)) = false := decide_eq_false c60
       clear c60
       obtain rfl := Option.some.inj H
       have hnb70 := NB176_177.out
       have hnc70 := NB177_176.out
       have hcz71_0 : wr.cell? ⟨gb176, 0, none⟩ = some (.int .i64 a0_0) := (blk_cell BK176.out 0).trans rfl
       have hcz71_1 : wr.cell? ⟨gb176, 1, none⟩ = some (.int .i64 a0_1) := (blk_cell BK176.out 1).trans rfl
       have hcz71_2 : wr.cell? ⟨gb176, 2, none⟩ = some (.int .i64 a0_2) := (blk_cell BK176.out 2).trans rfl
       have hcz71_3 : wr.cell? ⟨gb176, 3, none⟩ = some (.int .i64 a0_3) := (blk_cell BK176.out 3).trans rfl
       have hcz71_4 : wr.cell? ⟨gb176, 4, none⟩ = some (.int .i64 a0_4) := (blk_cell BK176.out 4).trans rfl
       have hcz71_5 : wr.cell? ⟨gb176, 5, none⟩ = some (.int .i64 a0_5) := (blk_cell BK176.out 5).trans rfl
       have hcz71_6 : wr.cell? ⟨gb176, 6, none⟩ = some (.int .i64 a0_6) := (blk_cell BK176.out 6).trans rfl
       have hcz71_7 : wr.cell? ⟨gb176, 7, none⟩ = some (.int .i64 a0_7) := (blk_cell BK176.out 7).trans rfl
       have hcz71_8 : wr.cell? ⟨gb176, 8, none⟩ = some (.slice A0_8 l0_8.length c0_8) := (blk_cell BK176.out 8).trans rfl
       have hcz71_9 : wr.cell? ⟨gb176, 9, none⟩ = some (.int .i64 a0_9) := (blk_cell BK176.out 9).trans rfl
       have hcz71_10 : wr.cell? ⟨gb176, 10, none⟩ = some (.int .i64 a0_10) := (blk_cell BK176.out 10).trans rfl
       have hcz71_11 : wr.cell? ⟨gb176, 11, none⟩ = some (.slice A0_11 l0_11.length c0_11) := (blk_cell BK176.out 11).trans rfl
       have hcz71_12 : wr.cell? ⟨gb176, 12, none⟩ = some (.slice A0_12 l0_12.length c0_12) := (blk_cell BK176.out 12).trans rfl
       have hfz71_0 := blk_frozen BK176.out 0
       have hfz71_1 := blk_frozen BK176.out 1
       have hfz71_2 := blk_frozen BK176.out 2
       have hfz71_3 := blk_frozen BK176.out 3
       have hfz71_4 := blk_frozen BK176.out 4
       have hfz71_5 := blk_frozen BK176.out 5
       have hfz71_6 := blk_frozen BK176.out 6
       have hfz71_7 := blk_frozen BK176.out 7
       have hfz71_8 := blk_frozen BK176.out 8
       have hfz71_9 := blk_frozen BK176.out 9
       have hfz71_10 := blk_frozen BK176.out 10
       have hfz71_11 := blk_frozen BK176.out 11
       have hfz71_12 := blk_frozen BK176.out 12
       go_wp2
       repeat (go_quiet (fail); try go_wp2)
       go_ret
       exact ⟨by first | rfl | (simp [errW_none, errW_some] <;> rfl) | (simp [*, errW_none, errW_some] <;> rfl), by repeat (first | (with_reducible first | exact HB.out | apply below_alloc | apply pw_below_drewN | apply below_drew1 | refine below_set ?_ GE176.out | refine below_set ?_ GE177.out) | exact HB.out)⟩

end Go.Proofs.Ytnloeihhimcblaa.QFnExactSameTable
