/- What the functions that the law FnExactNodeOk reaches compute, as plain functions, and that the code computes just that (by a program of this session's; the library's functions by hand). No condition. -/
import Derived.Test.YtnloeihhimcblaaQFnExactNodeOkx0
import Derived.Test.YtnloeihhimcblaaQFnExactNodeOkx2
import Derived.Test.YtnloeihhimcblaaQFnExactNodeOkx3
import Derived.Test.YtnloeihhimcblaaQFnExactNodeOkx8
import Derived.Test.YtnloeihhimcblaaQFnExactNodeOkx13
namespace Go.Proofs.Ytnloeihhimcblaa.QFnExactNodeOk
open Go.RowKit Go.Proofs.YtnloeihhimcblaaW.PrintWords Go.Proofs.YtnloeihhimcblaaW.PrintLast Go.Proofs.YtnloeihhimcblaaW.PrintMore
attribute [local go_sem] max2_int min2_int max_two min_two max_three min_three max_four min_four   -- for this text's walks alone
set_option linter.unusedVariables false
set_option linter.unusedSimpArgs false

/-! ### laws_FnExactNodeOk: function 11 -/
def laws_FnExactNodeOk.f (k : Nat) (a0_0 : Int) (a0_1 : Int) (a0_2 : Int) (a0_3 : Int) (a0_4 : Int) (a0_5 : Int) (a1_0 : Int) (a1_1 : Int) (a1_2 : Int) (a1_3 : Int) (a1_4 : Int) (a1_5 : Int) (a1_6 : Int) (a1_7 : Int) (l1_8 : List Int) (a1_9 : Int) (a1_10 : Int) (l1_11 : List (S118)) (l1_12 : List Int) : Option (Bool) := (laws_szNode.f a1_0 a1_1 a1_2 a1_3 a1_4 a1_5 a1_6 a1_7 l1_8 a1_9 a1_10 l1_11 l1_12 1048576).bind fun t254 => (if t254 < 0 then (some true) else ((laws_toConf.f a0_0 a0_1 a0_2 a0_3 a0_4 a0_5).bind fun bt255 => ((laws_toNode.f k a1_0 a1_1 a1_2 a1_3 a1_4 a1_5 a1_6 a1_7 l1_8 a1_9 a1_10 l1_11 l1_12).bind fun bt261 => ((spec_NodeOk.f k bt255.1 bt255.2.1 bt255.2.2.1 bt255.2.2.2.1 bt255.2.2.2.2.1 bt255.2.2.2.2.2 bt261.1 bt261.2.1 bt261.2.2.1 bt261.2.2.2.1 bt261.2.2.2.2.1 bt261.2.2.2.2.2.1 bt261.2.2.2.2.2.2.1 bt261.2.2.2.2.2.2.2.1 bt261.2.2.2.2.2.2.2.2.1 bt261.2.2.2.2.2.2.2.2.2.1 bt261.2.2.2.2.2.2.2.2.2.2.1 bt261.2.2.2.2.2.2.2.2.2.2.2.1 bt261.2.2.2.2.2.2.2.2.2.2.2.2).bind fun t280 => ((laws_toNode.f k a1_0 a1_1 a1_2 a1_3 a1_4 a1_5 a1_6 a1_7 l1_8 a1_9 a1_10 l1_11 l1_12).bind fun bt281 => ((laws_toConf.f a0_0 a0_1 a0_2 a0_3 a0_4 a0_5).bind fun bt301 => ((impl_NodeOk.f k bt301.1 bt301.2.1 bt301.2.2.1 bt301.2.2.2.1 bt301.2.2.2.2.1 bt301.2.2.2.2.2 bt281.1 bt281.2.1 bt281.2.2.1 bt281.2.2.2.1 bt281.2.2.2.2.1 bt281.2.2.2.2.2.1 bt281.2.2.2.2.2.2.1 bt281.2.2.2.2.2.2.2.1 bt281.2.2.2.2.2.2.2.2.1 bt281.2.2.2.2.2.2.2.2.2.1 bt281.2.2.2.2.2.2.2.2.2.2.1 bt281.2.2.2.2.2.2.2.2.2.2.2.1 bt281.2.2.2.2.2.2.2.2.2.2.2.2).bind fun t307 => (if (t307 != t280) = true then (none) else ((laws_toNode.f k a1_0 a1_1 a1_2 a1_3 a1_4 a1_5 a1_6 a1_7 l1_8 a1_9 a1_10 l1_11 l1_12).bind fun bt308 => ((laws_eqNode.f k bt281.1 bt281.2.1 bt281.2.2.1 bt281.2.2.2.1 bt281.2.2.2.2.1 bt281.2.2.2.2.2.1 bt281.2.2.2.2.2.2.1 bt281.2.2.2.2.2.2.2.1 bt281.2.2.2.2.2.2.2.2.1 bt281.2.2.2.2.2.2.2.2.2.1 bt281.2.2.2.2.2.2.2.2.2.2.1 bt281.2.2.2.2.2.2.2.2.2.2.2.1 bt281.2.2.2.2.2.2.2.2.2.2.2.2 bt308.1 bt308.2.1 bt308.2.2.1 bt308.2.2.2.1 bt308.2.2.2.2.1 bt308.2.2.2.2.2.1 bt308.2.2.2.2.2.2.1 bt308.2.2.2.2.2.2.2.1 bt308.2.2.2.2.2.2.2.2.1 bt308.2.2.2.2.2.2.2.2.2.1 bt308.2.2.2.2.2.2.2.2.2.2.1 bt308.2.2.2.2.2.2.2.2.2.2.2.1 bt308.2.2.2.2.2.2.2.2.2.2.2.2).bind fun t327 => (if t327 = true then (some true) else (none))))))))))))
theorem laws_FnExactNodeOk.mono : ∀ a0 a1 a2 a3 a4 a5 a6 a7 a8 a9 a10 a11 a12 a13 a14 a15 a16 a17 a18 k, LeO (laws_FnExactNodeOk.f k a0 a1 a2 a3 a4 a5 a6 a7 a8 a9 a10 a11 a12 a13 a14 a15 a16 a17 a18) (laws_FnExactNodeOk.f (k + 1) a0 a1 a2 a3 a4 a5 a6 a7 a8 a9 a10 a11 a12 a13 a14 a15 a16 a17 a18) := by
 intro a0 a1 a2 a3 a4 a5 a6 a7 a8 a9 a10 a11 a12 a13 a14 a15 a16 a17 a18 k
 unfold laws_FnExactNodeOk.f
 repeat' first
   | (with_reducible exact impl_NodeOk.mono _ _ _ _ _ _ _ _ _ _ _ _ _ _ _ _ _ _ _ _)
   | (with_reducible exact laws_eqNode.mono _ _ _ _ _ _ _ _ _ _ _ _ _ _ _ _ _ _ _ _ _ _ _ _ _ _ _)
   | (with_reducible exact laws_toNode.mono _ _ _ _ _ _ _ _ _ _ _ _ _ _)
   | (with_reducible exact spec_NodeOk.mono _ _ _ _ _ _ _ _ _ _ _ _ _ _ _ _ _ _ _ _)
   | (with_reducible exact LeO.refl _)
   | (with_reducible exact LeO.none _)
   | (with_reducible refine LeO.ite ?_ ?_)
   | (with_reducible refine LeO.bind ?_ (fun _ => ?_))
   | exact impl_NodeOk.mono _ _ _ _ _ _ _ _ _ _ _ _ _ _ _ _ _ _ _ _
   | exact laws_eqNode.mono _ _ _ _ _ _ _ _ _ _ _ _ _ _ _ _ _ _ _ _ _ _ _ _ _ _ _
   | exact laws_toNode.mono _ _ _ _ _ _ _ _ _ _ _ _ _ _
   | exact spec_NodeOk.mono _ _ _ _ _ _ _ _ _ _ _ _ _ _ _ _ _ _ _ _
   | exact LeO.none _
   | refine LeO.ite ?_ ?_
   | refine LeO.bind ?_ (fun _ => ?_)
set_option maxHeartbeats 8000000 in
set_option maxRecDepth 100000 in
theorem laws_FnExactNodeOk.calls (k : Nat) (a0_0 : Int) (a0_1 : Int) (a0_2 : Int) (a0_3 : Int) (a0_4 : Int) (a0_5 : Int) (a1_0 : Int) (a1_1 : Int) (a1_2 : Int) (a1_3 : Int) (a1_4 : Int) (a1_5 : Int) (a1_6 : Int) (a1_7 : Int) (A1_8 : Option Addr) (c1_8 : Nat) (l1_8 : List Int) (a1_9 : Int) (a1_10 : Int) (A1_11 : Option Addr) (c1_11 : Nat) (l1_11 : List (S118)) (A1_12 : Option Addr) (c1_12 : Nat) (l1_12 : List Int) (r : Bool) (w : World) (hr1_8 : Kd.C (Kd.int .i64) w A1_8 l1_8.length l1_8) (hc1_8 : l1_8.length ≤ c1_8) (hr1_11 : Kd.C k118 w A1_11 l1_11.length l1_11) (hc1_11 : l1_11.length ≤ c1_11) (hr1_12 : Kd.C (Kd.int .i64) w A1_12 l1_12.length l1_12) (hc1_12 : l1_12.length ≤ c1_12) (h : laws_FnExactNodeOk.f k a0_0 a0_1 a0_2 a0_3 a0_4 a0_5 a1_0 a1_1 a1_2 a1_3 a1_4 a1_5 a1_6 a1_7 l1_8 a1_9 a1_10 l1_11 l1_12 = some r) :
  Calls Try.prog 11 #[.agg #[.int .i64 a0_0, .int .i64 a0_1, .int .i64 a0_2, .int .i64 a0_3, .int .i64 a0_4, .int .i64 a0_5], .agg #[.int .i64 a1_0, .int .i64 a1_1, .int .i64 a1_2, .int .i64 a1_3, .int .i64 a1_4, .int .i64 a1_5, .int .i64 a1_6, .int .i64 a1_7, .slice A1_8 l1_8.length c1_8, .int .i64 a1_9, .int .i64 a1_10, .slice A1_11 l1_11.length c1_11, .slice A1_12 l1_12.length c1_12]] w fun e w' => e = .returned (.bool r) ∧ Below w.heap.size w w' := by
 have hu58 := Try.underlying58
 have hu32 := Try.underlying32
 have hu37 := Try.underlying37
 have HR1_8 := Aside0.mk hr1_8
 have HC1_8 := Aside0.mk hc1_8
 clear hr1_8 hc1_8
 have HR1_11 := Aside0.mk hr1_11
 have HC1_11 := Aside0.mk hc1_11
 clear hr1_11 hc1_11
 have HR1_12 := Aside0.mk hr1_12
 have HC1_12 := Aside0.mk hc1_12
 clear hr1_12 hc1_12
 have HB := Aside0.mk (Below.refl w.heap.size w)
 have H : ((laws_szNode.f a1_0 a1_1 a1_2 a1_3 a1_4 a1_5 a1_6 a1_7 l1_8 a1_9 a1_10 l1_11 l1_12 1048576).bind fun t254 => (if t254 < 0 then (some true) else ((laws_toConf.f a0_0 a0_1 a0_2 a0_3 a0_4 a0_5).bind fun bt255 => ((laws_toNode.f k a1_0 a1_1 a1_2 a1_3 a1_4 a1_5 a1_6 a1_7 l1_8 a1_9 a1_10 l1_11 l1_12).bind fun bt261 => ((spec_NodeOk.f k bt255.1 bt255.2.1 bt255.2.2.1 bt255.2.2.2.1 bt255.2.2.2.2.1 bt255.2.2.2.2.2 bt261.1 bt261.2.1 bt261.2.2.1 bt261.2.2.2.1 bt261.2.2.2.2.1 bt261.2.2.2.2.2.1 bt261.2.2.2.2.2.2.1 bt261.2.2.2.2.2.2.2.1 bt261.2.2.2.2.2.2.2.2.1 bt261.2.2.2.2.2.2.2.2.2.1 bt261.2.2.2.2.2.2.2.2.2.2.1 bt261.2.2.2.2.2.2.2.2.2.2.2.1 bt261.2.2.2.2.2.2.2.2.2.2.2.2).bind fun t280 => ((laws_toNode.f k a1_0 a1_1 a1_2 a1_3 a1_4 a1_5 a1_6 a1_7 l1_8 a1_9 a1_10 l1_11 l1_12).bind fun bt281 => ((laws_toConf.f a0_0 a0_1 a0_2 a0_3 a0_4 a0_5).bind fun bt301 => ((impl_NodeOk.f k bt301.1 bt301.2.1 bt301.2.2.1 bt301.2.2.2.1 bt301.2.2.2.2.1 bt301.2.2.2.2.2 bt281.1 bt281.2.1 bt281.2.2.1 bt281.2.2.2.1 bt281.2.2.2.2.1 bt281.2.2.2.2.2.1 bt281.2.2.2.2.2.2.1 bt281.2.2.2.2.2.2.2.1 bt281.2.2.2.2.2.2.2.2.1 bt281.2.2.2.2.2.2.2.2.2.1 bt281.2.2.2.2.2.2.2.2.2.2.1 bt281.2.2.2.2.2.2.2.2.2.2.2.1 bt281.2.2.2.2.2.2.2.2.2.2.2.2).bind fun t307 => (if (t307 != t280) = true then (none) else ((laws_toNode.f k a1_0 a1_1 a1_2 a1_3 a1_4 a1_5 a1_6 a1_7 l1_8 a1_9 a1_10 l1_11 l1_12).bind fun bt308 => ((laws_eqNode.f k bt281.1 bt281.2.1 bt281.2.2.1 bt281.2.2.2.1 bt281.2.2.2.2.1 bt281.2.2.2.2.2.1 bt281.2.2.2.2.2.2.1 bt281.2.2.2.2.2.2.2.1 bt281.2.2.2.2.2.2.2.2.1 bt281.2.2.2.2.2.2.2.2.2.1 bt281.2.2.2.2.2.2.2.2.2.2.1 bt281.2.2.2.2.2.2.2.2.2.2.2.1 bt281.2.2.2.2.2.2.2.2.2.2.2.2 bt308.1 bt308.2.1 bt308.2.2.1 bt308.2.2.2.1 bt308.2.2.2.2.1 bt308.2.2.2.2.2.1 bt308.2.2.2.2.2.2.1 bt308.2.2.2.2.2.2.2.1 bt308.2.2.2.2.2.2.2.2.1 bt308.2.2.2.2.2.2.2.2.2.1 bt308.2.2.2.2.2.2.2.2.2.2.1 bt308.2.2.2.2.2.2.2.2.2.2.2.1 bt308.2.2.2.2.2.2.2.2.2.2.2.2).bind fun t327 => (if t327 = true then (some true) else (none))))))))))))) = some r := h
 clear h
 replace H := Option.bind_eq_some_iff.mp H
 obtain ⟨t254, A30, H⟩ := H
 replace H : (if t254 < 0 then (some true) else ((laws_toConf.f a0_0 a0_1 a0_2 a0_3 a0_4 a0_5).bind fun bt255 => ((laws_toNode.f k a1_0 a1_1 a1_2 a1_3 a1_4 a1_5 a1_6 a1_7 l1_8 a1_9 a1_10 l1_11 l1_12).bind fun bt261 => ((spec_NodeOk.f k bt255.1 bt255.2.1 bt255.2.2.1 bt255.2.2.2.1 bt255.2.2.2.2.1 bt255.2.2.2.2.2 bt261.1 bt261.2.1 bt261.2.2.1 bt261.2.2.2.1 bt261.2.2.2.2.1 bt261.2.2.2.2.2.1 bt261.2.2.2.2.2.2.1 bt261.2.2.2.2.2.2.2.1 bt261.2.2.2.2.2.2.2.2.1 bt261.2.2.2.2.2.2.2.2.2.1 bt261.2.2.2.2.2.2.2.2.2.2.1 bt261.2.2.2.2.2.2.2.2.2.2.2.1 bt261.2.2.2.2.2.2.2.2.2.2.2.2).bind fun t280 => ((laws_toNode.f k a1_0 a1_1 a1_2 a1_3 a1_4 a1_5 a1_6 a1_7 l1_8 a1_9 a1_10 l1_11 l1_12).bind fun bt281 => ((laws_toConf.f a0_0 a0_1 a0_2 a0_3 a0_4 a0_5).bind fun bt301 => ((impl_NodeOk.f k bt301.1 bt301.2.1 bt301.2.2.1 bt301.2.2.2.1 bt301.2.2.2.2.1 bt301.2.2.2.2.2 bt281.1 bt281.2.1 bt281.2.2.1 bt281.2.2.2.1 bt281.2.2.2.2.1 bt281.2.2.2.2.2.1 bt281.2.2.2.2.2.2.1 bt281.2.2.2.2.2.2.2.1 bt281.2.2.2.2.2.2.2.2.1 bt281.2.2.2.2.2.2.2.2.2.1 bt281.2.2.2.2.2.2.2.2.2.2.1 bt281.2.2.2.2.2.2.2.2.2.2.2.1 bt281.2.2.2.2.2.2.2.2.2.2.2.2).bind fun t307 => (if (t307 != t280) = true then (none) else ((laws_toNode.f k a1_0 a1_1 a1_2 a1_3 a1_4 a1_5 a1_6 a1_7 l1_8 a1_9 a1_10 l1_11 l1_12).bind fun bt308 => ((laws_eqNode.f k bt281.1 bt281.2.1 bt281.2.2.1 bt281.2.2.2.1 bt281.2.2.2.2.1 bt281.2.2.2.2.2.1 bt281.2.2.2.2.2.2.1 bt281.2.2.2.2.2.2.2.1 bt281.2.2.2.2.2.2.2.2.1 bt281.2.2.2.2.2.2.2.2.2.1 bt281.2.2.2.2.2.2.2.2.2.2.1 bt281.2.2.2.2.2.2.2.2.2.2.2.1 bt281.2.2.2.2.2.2.2.2.2.2.2.2 bt308.1 bt308.2.1 bt308.2.2.1 bt308.2.2.2.1 bt308.2.2.2.2.1 bt308.2.2.2.2.2.1 bt308.2.2.2.2.2.2.1 bt308.2.2.2.2.2.2.2.1 bt308.2.2.2.2.2.2.2.2.1 bt308.2.2.2.2.2.2.2.2.2.1 bt308.2.2.2.2.2.2.2.2.2.2.1 bt308.2.2.2.2.2.2.2.2.2.2.2.1 bt308.2.2.2.2.2.2.2.2.2.2.2.2).bind fun t327 => (if t327 = true then (some true) else (none)))))))))))) = some r := H
 have A3 := Aside0.mk A30
 clear A30
 by_cases c4 : t254 < 0
 ·rw [if_pos c4] at H
  have c4b0 : decide (t254 < 0) = true := decide_eq_true c4
  clear c4
  obtain rfl := Option.some.inj H
  go_enter Try.func11, Try.ntmps11
  go_wp2_with (first | ((with_reducible refine gate_dst (N := 2) rfl ?_); refine box_event ?hg (N := 2) ?hd (cs := #[.int .i64 a0_0, .int .i64 a0_1, .int .i64 a0_2, .int .i64 a0_3, .int .i64 a0_4, .int .i64 a0_5]) (t := 58) ?hr ?_; (case hd => rfl); (case hg => rfl); (case hr => first | (go_simp; done) | (go_simp; rfl)); intro gb252 hg w5 hbox hb; have n0_ := Aside0.mk (below_step q43t hb); have n1_ := Aside0.mk (hbox); have n2_ := Aside0.mk ((q28t : w.heap.size ≤ gb252)); have n3_ := Aside0.mk ((q28t : w.heap.size ≤ gb252)); clear HB; have HB := n0_; have BK252 := n1_; have GW252 := n2_; have GE252 := n3_; clear n0_ n1_ n2_ n3_; clear hb hbox hg) | ((with_reducible refine gate_dst (N := 3) rfl ?_); refine box_event ?hg (N := 3) ?hd (cs := #[.int .i64 a1_0, .int .i64 a1_1, .int .i64 a1_2, .int .i64 a1_3, .int .i64 a1_4, .int .i64 a1_5, .int .i64 a1_6, .int .i64 a1_7, .slice A1_8 l1_8.length c1_8, .int .i64 a1_9, .int .i64 a1_10, .slice A1_11 l1_11.length c1_11, .slice A1_12 l1_12.length c1_12]) (t := 32) ?hr ?_; (case hd => rfl); (case hg => rfl); (case hr => first | (go_simp; done) | (go_simp; rfl)); intro gb253 hg w6 hbox hb; have n0_ := Aside0.mk (blk_below (g := gb252) (o := .cells #[.int .i64 a0_0, .int .i64 a0_1, .int .i64 a0_2, .int .i64 a0_3, .int .i64 a0_4, .int .i64 a0_5] 58 (0, 0)) q58t hb); have n1_ := Aside0.mk (below_step q41t hb); have n2_ := Aside0.mk (hbox); have n3_ := Aside0.mk ((q17t : w.heap.size ≤ gb253)); have n4_ := Aside0.mk ((q17t : w.heap.size ≤ gb253)); have n5_ := Aside0.mk ((q8t : gb252 ≠ gb253)); have n6_ := Aside0.mk ((q9t : gb253 ≠ gb252)); clear BK252; clear HB; have BK252 := n0_; have HB := n1_; have BK253 := n2_; have GW253 := n3_; have GE253 := n4_; have NB252_253 := n5_; have NB253_252 := n6_; clear n0_ n1_ n2_ n3_ n4_ n5_ n6_; clear hb hbox hg; have hnb7 := NB253_252.out; have hnc7 := NB252_253.out; obtain ⟨hcz8_0, hcz8_1, hcz8_2, hcz8_3, hcz8_4, hcz8_5, hcz8_6, hcz8_7, hcz8_8, hcz8_9, hcz8_10, hcz8_11, hcz8_12⟩ := qc13 BK253.out; obtain ⟨hfz8_0, hfz8_1, hfz8_2, hfz8_3, hfz8_4, hfz8_5, hfz8_6, hfz8_7, hfz8_8, hfz8_9, hfz8_10, hfz8_11, hfz8_12⟩ := qf13 BK253.out) | ((with_reducible refine gate_callee (f := 18) rfl ?_); refine goesL_ (some 11) rfl rfl Try.func18 (by kernel_rfl) rfl #[.agg #[.int .i64 a1_0, .int .i64 a1_1, .int .i64 a1_2, .int .i64 a1_3, .int .i64 a1_4, .int .i64 a1_5, .int .i64 a1_6, .int .i64 a1_7, .slice A1_8 l1_8.length c1_8, .int .i64 a1_9, .int .i64 a1_10, .slice A1_11 l1_11.length c1_11, .slice A1_12 l1_12.length c1_12], .int .i64 1048576] rfl q42t ?_; (with_reducible refine (laws_szNode.calls a1_0 a1_1 a1_2 a1_3 a1_4 a1_5 a1_6 a1_7 _ _ l1_8 a1_9 a1_10 _ _ l1_11 _ _ l1_12 1048576 t254 _ ?side1 ?side2 ?side3 ?side4 ?side5 ?side6 A3.out).mono ?_); (case side1 => repeat (first | exact (Kd.C_below HR1_8.out HB.out) | (with_reducible refine Kd.C_alloc ?_ _) | (with_reducible refine Kd.C_drewN ?_ _) | (with_reducible refine Kd.C_drew ?_))); (case side2 => exact HC1_8.out); (case side3 => repeat (first | exact (Kd.C_below HR1_11.out HB.out) | (with_reducible refine Kd.C_alloc ?_ _) | (with_reducible refine Kd.C_drewN ?_ _) | (with_reducible refine Kd.C_drew ?_))); (case side4 => exact HC1_11.out); (case side5 => repeat (first | exact (Kd.C_below HR1_12.out HB.out) | (with_reducible refine Kd.C_alloc ?_ _) | (with_reducible refine Kd.C_drewN ?_ _) | (with_reducible refine Kd.C_drew ?_))); (case side6 => exact HC1_12.out); rintro e w9 ⟨rfl, hb⟩; refine ⟨_, rfl, ?_⟩; have n0_ := Aside0.mk (blk_below (g := gb252) (o := .cells #[.int .i64 a0_0, .int .i64 a0_1, .int .i64 a0_2, .int .i64 a0_3, .int .i64 a0_4, .int .i64 a0_5] 58 (0, 0)) q58t hb); have n1_ := Aside0.mk (blk_below (g := gb253) (o := .cells #[.int .i64 a1_0, .int .i64 a1_1, .int .i64 a1_2, .int .i64 a1_3, .int .i64 a1_4, .int .i64 a1_5, .int .i64 a1_6, .int .i64 a1_7, .slice A1_8 l1_8.length c1_8, .int .i64 a1_9, .int .i64 a1_10, .slice A1_11 l1_11.length c1_11, .slice A1_12 l1_12.length c1_12] 32 (0, 0)) q59t hb); have n2_ := Aside0.mk (below_step q27t hb); clear BK252; clear BK253; clear HB; have BK252 := n0_; have BK253 := n1_; have HB := n2_; clear n0_ n1_ n2_; (try clear hb); (try clear hb2); (try clear hk); (try clear hi)))
  go_ret
  exact ⟨by first | rfl | (simp [errW_none, errW_some] <;> rfl) | (simp [*, errW_none, errW_some] <;> rfl), by repeat (first | (with_reducible first | exact HB.out | apply below_alloc | apply pw_below_drewN | apply below_drew1 | refine below_set ?_ GE252.out | refine below_set ?_ GE253.out) | exact HB.out)⟩
 ·rw [if_neg c4] at H
  have c4b0 : decide (t254 < 0) = false := decide_eq_false c4
  clear c4
  replace H := Option.bind_eq_some_iff.mp H
  obtain ⟨⟨t255, t256, t257, t258, t259, t260⟩, A100, H⟩ := H
  replace H : ((laws_toNode.f k a1_0 a1_1 a1_2 a1_3 a1_4 a1_5 a1_6 a1_7 l1_8 a1_9 a1_10 l1_11 l1_12).bind fun bt261 => ((spec_NodeOk.f k t255 t256 t257 t258 t259 t260 bt261.1 bt261.2.1 bt261.2.2.1 bt261.2.2.2.1 bt261.2.2.2.2.1 bt261.2.2.2.2.2.1 bt261.2.2.2.2.2.2.1 bt261.2.2.2.2.2.2.2.1 bt261.2.2.2.2.2.2.2.2.1 bt261.2.2.2.2.2.2.2.2.2.1 bt261.2.2.2.2.2.2.2.2.2.2.1 bt261.2.2.2.2.2.2.2.2.2.2.2.1 bt261.2.2.2.2.2.2.2.2.2.2.2.2).bind fun t280 => ((laws_toNode.f k a1_0 a1_1 a1_2 a1_3 a1_4 a1_5 a1_6 a1_7 l1_8 a1_9 a1_10 l1_11 l1_12).bind fun bt281 => ((laws_toConf.f a0_0 a0_1 a0_2 a0_3 a0_4 a0_5).bind fun bt301 => ((impl_NodeOk.f k bt301.1 bt301.2.1 bt301.2.2.1 bt301.2.2.2.1 bt301.2.2.2.2.1 bt301.2.2.2.2.2 bt281.1 bt281.2.1 bt281.2.2.1 bt281.2.2.2.1 bt281.2.2.2.2.1 bt281.2.2.2.2.2.1 bt281.2.2.2.2.2.2.1 bt281.2.2.2.2.2.2.2.1 bt281.2.2.2.2.2.2.2.2.1 bt281.2.2.2.2.2.2.2.2.2.1 bt281.2.2.2.2.2.2.2.2.2.2.1 bt281.2.2.2.2.2.2.2.2.2.2.2.1 bt281.2.2.2.2.2.2.2.2.2.2.2.2).bind fun t307 => (if (t307 != t280) = true then (none) else ((laws_toNode.f k a1_0 a1_1 a1_2 a1_3 a1_4 a1_5 a1_6 a1_7 l1_8 a1_9 a1_10 l1_11 l1_12).bind fun bt308 => ((laws_eqNode.f k bt281.1 bt281.2.1 bt281.2.2.1 bt281.2.2.2.1 bt281.2.2.2.2.1 bt281.2.2.2.2.2.1 bt281.2.2.2.2.2.2.1 bt281.2.2.2.2.2.2.2.1 bt281.2.2.2.2.2.2.2.2.1 bt281.2.2.2.2.2.2.2.2.2.1 bt281.2.2.2.2.2.2.2.2.2.2.1 bt281.2.2.2.2.2.2.2.2.2.2.2.1 bt281.2.2.2.2.2.2.2.2.2.2.2.2 bt308.1 bt308.2.1 bt308.2.2.1 bt308.2.2.2.1 bt308.2.2.2.2.1 bt308.2.2.2.2.2.1 bt308.2.2.2.2.2.2.1 bt308.2.2.2.2.2.2.2.1 bt308.2.2.2.2.2.2.2.2.1 bt308.2.2.2.2.2.2.2.2.2.1 bt308.2.2.2.2.2.2.2.2.2.2.1 bt308.2.2.2.2.2.2.2.2.2.2.2.1 bt308.2.2.2.2.2.2.2.2.2.2.2.2).bind fun t327 => (if t327 = true then (some true) else (none)))))))))) = some r := H
  have A10 := Aside0.mk A100
  clear A100
  replace H := Option.bind_eq_some_iff.mp H
  obtain ⟨⟨t261, t262, t263, t264, t265, t266, t267, t268, t269, t272, t273, t274, t277⟩, A110, H⟩ := H
  replace H : ((spec_NodeOk.f k t255 t256 t257 t258 t259 t260 t261 t262 t263 t264 t265 t266 t267 t268 t269 t272 t273 t274 t277).bind fun t280 => ((laws_toNode.f k a1_0 a1_1 a1_2 a1_3 a1_4 a1_5 a1_6 a1_7 l1_8 a1_9 a1_10 l1_11 l1_12).bind fun bt281 => ((laws_toConf.f a0_0 a0_1 a0_2 a0_3 a0_4 a0_5).bind fun bt301 => ((impl_NodeOk.f k bt301.1 bt301.2.1 bt301.2.2.1 bt301.2.2.2.1 bt301.2.2.2.2.1 bt301.2.2.2.2.2 bt281.1 bt281.2.1 bt281.2.2.1 bt281.2.2.2.1 bt281.2.2.2.2.1 bt281.2.2.2.2.2.1 bt281.2.2.2.2.2.2.1 bt281.2.2.2.2.2.2.2.1 bt281.2.2.2.2.2.2.2.2.1 bt281.2.2.2.2.2.2.2.2.2.1 bt281.2.2.2.2.2.2.2.2.2.2.1 bt281.2.2.2.2.2.2.2.2.2.2.2.1 bt281.2.2.2.2.2.2.2.2.2.2.2.2).bind fun t307 => (if (t307 != t280) = true then (none) else ((laws_toNode.f k a1_0 a1_1 a1_2 a1_3 a1_4 a1_5 a1_6 a1_7 l1_8 a1_9 a1_10 l1_11 l1_12).bind fun bt308 => ((laws_eqNode.f k bt281.1 bt281.2.1 bt281.2.2.1 bt281.2.2.2.1 bt281.2.2.2.2.1 bt281.2.2.2.2.2.1 bt281.2.2.2.2.2.2.1 bt281.2.2.2.2.2.2.2.1 bt281.2.2.2.2.2.2.2.2.1 bt281.2.2.2.2.2.2.2.2.2.1 bt281.2.2.2.2.2.2.2.2.2.2.1 bt281.2.2.2.2.2.2.2.2.2.2.2.1 bt281.2.2.2.2.2.2.2.2.2.2.2.2 bt308.1 bt308.2.1 bt308.2.2.1 bt308.2.2.2.1 bt308.2.2.2.2.1 bt308.2.2.2.2.2.1 bt308.2.2.2.2.2.2.1 bt308.2.2.2.2.2.2.2.1 bt308.2.2.2.2.2.2.2.2.1 bt308.2.2.2.2.2.2.2.2.2.1 bt308.2.2.2.2.2.2.2.2.2.2.1 bt308.2.2.2.2.2.2.2.2.2.2.2.1 bt308.2.2.2.2.2.2.2.2.2.2.2.2).bind fun t327 => (if t327 = true then (some true) else (none))))))))) = some r := H
  have A11 := Aside0.mk A110
  clear A110
  replace H := Option.bind_eq_some_iff.mp H
  obtain ⟨t280, A120, H⟩ := H
  replace H : ((laws_toNode.f k a1_0 a1_1 a1_2 a1_3 a1_4 a1_5 a1_6 a1_7 l1_8 a1_9 a1_10 l1_11 l1_12).bind fun bt281 => ((laws_toConf.f a0_0 a0_1 a0_2 a0_3 a0_4 a0_5).bind fun bt301 => ((impl_NodeOk.f k bt301.1 bt301.2.1 bt301.2.2.1 bt301.2.2.2.1 bt301.2.2.2.2.1 bt301.2.2.2.2.2 bt281.1 bt281.2.1 bt281.2.2.1 bt281.2.2.2.1 bt281.2.2.2.2.1 bt281.2.2.2.2.2.1 bt281.2.2.2.2.2.2.1 bt281.2.2.2.2.2.2.2.1 bt281.2.2.2.2.2.2.2.2.1 bt281.2.2.2.2.2.2.2.2.2.1 bt281.2.2.2.2.2.2.2.2.2.2.1 bt281.2.2.2.2.2.2.2.2.2.2.2.1 bt281.2.2.2.2.2.2.2.2.2.2.2.2).bind fun t307 => (if (t307 != t280) = true then (none) else ((laws_toNode.f k a1_0 a1_1 a1_2 a1_3 a1_4 a1_5 a1_6 a1_7 l1_8 a1_9 a1_10 l1_11 l1_12).bind fun bt308 => ((laws_eqNode.f k bt281.1 bt281.2.1 bt281.2.2.1 bt281.2.2.2.1 bt281.2.2.2.2.1 bt281.2.2.2.2.2.1 bt281.2.2.2.2.2.2.1 bt281.2.2.2.2.2.2.2.1 bt281.2.2.2.2.2.2.2.2.1 bt281.2.2.2.2.2.2.2.2.2.1 bt281.2.2.2.2.2.2.2.2.2.2.1 bt281.2.2.2.2.2.2.2.2.2.2.2.1 bt281.2.2.2.2.2.2.2.2.2.2.2.2 bt308.1 bt308.2.1 bt308.2.2.1 bt308.2.2.2.1 bt308.2.2.2.2.1 bt308.2.2.2.2.2.1 bt308.2.2.2.2.2.2.1 bt308.2.2.2.2.2.2.2.1 bt308.2.2.2.2.2.2.2.2.1 bt308.2.2.2.2.2.2.2.2.2.1 bt308.2.2.2.2.2.2.2.2.2.2.1 bt308.2.2.2.2.2.2.2.2.2.2.2.1 bt308.2.2.2.2.2.2.2.2.2.2.2.2).bind fun t327 => (if t327 = true then (some true) else (none)))))))) = some r := H
  have A12 := Aside0.mk A120
  clear A120
  replace H := Option.bind_eq_some_iff.mp H
  obtain ⟨⟨t281, t282, t283, t284, t285, t286, t287, t288, t289, t292, t293, t294, t297⟩, A130, H⟩ := H
  replace H : ((laws_toConf.f a0_0 a0_1 a0_2 a0_3 a0_4 a0_5).bind fun bt301 => ((impl_NodeOk.f k bt301.1 bt301.2.1 bt301.2.2.1 bt301.2.2.2.1 bt301.2.2.2.2.1 bt301.2.2.2.2.2 t281 t282 t283 t284 t285 t286 t287 t288 t289 t292 t293 t294 t297).bind fun t307 => (if (t307 != t280) = true then (none) else ((laws_toNode.f k a1_0 a1_1 a1_2 a1_3 a1_4 a1_5 a1_6 a1_7 l1_8 a1_9 a1_10 l1_11 l1_12).bind fun bt308 => ((laws_eqNode.f k t281 t282 t283 t284 t285 t286 t287 t288 t289 t292 t293 t294 t297 bt308.1 bt308.2.1 bt308.2.2.1 bt308.2.2.2.1 bt308.2.2.2.2.1 bt308.2.2.2.2.2.1 bt308.2.2.2.2.2.2.1 bt308.2.2.2.2.2.2.2.1 bt308.2.2.2.2.2.2.2.2.1 bt308.2.2.2.2.2.2.2.2.2.1 bt308.2.2.2.2.2.2.2.2.2.2.1 bt308.2.2.2.2.2.2.2.2.2.2.2.1 bt308.2.2.2.2.2.2.2.2.2.2.2.2).bind fun t327 => (if t327 = true then (some true) else (none))))))) = some r := H
  have A13 := Aside0.mk A130
  clear A130
  replace H := Option.bind_eq_some_iff.mp H
  obtain ⟨⟨t301, t302, t303, t304, t305, t306⟩, A140, H⟩ := H
  replace H : ((impl_NodeOk.f k t301 t302 t303 t304 t305 t306 t281 t282 t283 t284 t285 t286 t287 t288 t289 t292 t293 t294 t297).bind fun t307 => (if (t307 != t280) = true then (none) else ((laws_toNode.f k a1_0 a1_1 a1_2 a1_3 a1_4 a1_5 a1_6 a1_7 l1_8 a1_9 a1_10 l1_11 l1_12).bind fun bt308 => ((laws_eqNode.f k t281 t282 t283 t284 t285 t286 t287 t288 t289 t292 t293 t294 t297 bt308.1 bt308.2.1 bt308.2.2.1 bt308.2.2.2.1 bt308.2.2.2.2.1 bt308.2.2.2.2.2.1 bt308.2.2.2.2.2.2.1 bt308.2.2.2.2.2.2.2.1 bt308.2.2.2.2.2.2.2.2.1 bt308.2.2.2.2.2.2.2.2.2.1 bt308.2.2.2.2.2.2.2.2.2.2.1 bt308.2.2.2.2.2.2.2.2.2.2.2.1 bt308.2.2.2.2.2.2.2.2.2.2.2.2).bind fun t327 => (if t327 = true then (some true) else (none)))))) = some r := H
  have A14 := Aside0.mk A140
  clear A140
  replace H := Option.bind_eq_some_iff.mp H
  obtain ⟨t307, A150, H⟩ := H
  replace H : (if (t307 != t280) = true then (none) else ((laws_toNode.f k a1_0 a1_1 a1_2 a1_3 a1_4 a1_5 a1_6 a1_7 l1_8 a1_9 a1_10 l1_11 l1_12).bind fun bt308 => ((laws_eqNode.f k t281 t282 t283 t284 t285 t286 t287 t288 t289 t292 t293 t294 t297 bt308.1 bt308.2.1 bt308.2.2.1 bt308.2.2.2.1 bt308.2.2.2.2.1 bt308.2.2.2.2.2.1 bt308.2.2.2.2.2.2.1 bt308.2.2.2.2.2.2.2.1 bt308.2.2.2.2.2.2.2.2.1 bt308.2.2.2.2.2.2.2.2.2.1 bt308.2.2.2.2.2.2.2.2.2.2.1 bt308.2.2.2.2.2.2.2.2.2.2.2.1 bt308.2.2.2.2.2.2.2.2.2.2.2.2).bind fun t327 => (if t327 = true then (some true) else (none))))) = some r := H
  have A15 := Aside0.mk A150
  clear A150
  by_cases c16 : (t307 != t280) = true
  ·rw [if_pos c16] at H
   exact absurd H (by simp)
  ·rw [if_neg c16] at H
   have c16b0 : (t307 != t280) = false := by simpa using c16
   (try (have c16b1 : decide (t307 = t280) = true := by simpa using c16))
   (try (have c16b2 : (t307 == t280) = true := by simpa using c16))
   clear c16
   replace H := Option.bind_eq_some_iff.mp H
   obtain ⟨⟨t308, t309, t310, t311, t312, t313, t314, t315, t316, t319, t320, t321, t324⟩, A170, H⟩ := H
   replace H : ((laws_eqNode.f k t281 t282 t283 t284 t285 t286 t287 t288 t289 t292 t293 t294 t297 t308 t309 t310 t311 t312 t313 t314 t315 t316 t319 t320 t321 t324).bind fun t327 => (if t327 = true then (some true) else (none))) = some r := H
   have A17 := Aside0.mk A170
   clear A170
   replace H := Option.bind_eq_some_iff.mp H
   obtain ⟨t327, A180, H⟩ := H
   replace H : (if t327 = true then (some true) else (none)) = some r := H
   have A18 := Aside0.mk A180
   clear A180
   by_cases c19 : t327 = true
   ·subst c19
    have H1 : (some true) = some r := by rw [if_pos rfl] at H; exact H
    clear H
    have H := H1
    clear H1
    obtain rfl := Option.some.inj H
    go_enter Try.func11, Try.ntmps11
    try go_wp2_with (first | ((with_reducible refine gate_dst (N := 2) rfl ?_); refine box_event ?hg (N := 2) ?hd (cs := #[.int .i64 a0_0, .int .i64 a0_1, .int .i64 a0_2, .int .i64 a0_3, .int .i64 a0_4, .int .i64 a0_5]) (t := 58) ?hr ?_; (case hd => rfl); (case hg => rfl); (case hr => first | (go_simp; done) | (go_simp; rfl)); intro gb252 hg w20 hbox hb; have n0_ := Aside0.mk (below_step q43t hb); have n1_ := Aside0.mk (hbox); have n2_ := Aside0.mk ((q28t : w.heap.size ≤ gb252)); have n3_ := Aside0.mk ((q28t : w.heap.size ≤ gb252)); clear HB; have HB := n0_; have BK252 := n1_; have GW252 := n2_; have GE252 := n3_; clear n0_ n1_ n2_ n3_; clear hb hbox hg) | ((with_reducible refine gate_dst (N := 3) rfl ?_); refine box_event ?hg (N := 3) ?hd (cs := #[.int .i64 a1_0, .int .i64 a1_1, .int .i64 a1_2, .int .i64 a1_3, .int .i64 a1_4, .int .i64 a1_5, .int .i64 a1_6, .int .i64 a1_7, .slice A1_8 l1_8.length c1_8, .int .i64 a1_9, .int .i64 a1_10, .slice A1_11 l1_11.length c1_11, .slice A1_12 l1_12.length c1_12]) (t := 32) ?hr ?_; (case hd => rfl); (case hg => rfl); (case hr => first | (go_simp; done) | (go_simp; rfl)); intro gb253 hg w21 hbox hb; have n0_ := Aside0.mk (blk_below (g := gb252) (o := .cells #[.int .i64 a0_0, .int .i64 a0_1, .int .i64 a0_2, .int .i64 a0_3, .int .i64 a0_4, .int .i64 a0_5] 58 (0, 0)) q58t hb); have n1_ := Aside0.mk (below_step q41t hb); have n2_ := Aside0.mk (hbox); have n3_ := Aside0.mk ((q17t : w.heap.size ≤ gb253)); have n4_ := Aside0.mk ((q17t : w.heap.size ≤ gb253)); have n5_ := Aside0.mk ((q8t : gb252 ≠ gb253)); have n6_ := Aside0.mk ((q9t : gb253 ≠ gb252)); clear BK252; clear HB; have BK252 := n0_; have HB := n1_; have BK253 := n2_; have GW253 := n3_; have GE253 := n4_; have NB252_253 := n5_; have NB253_252 := n6_; clear n0_ n1_ n2_ n3_ n4_ n5_ n6_; clear hb hbox hg; have hnb22 := NB253_252.out; have hnc22 := NB252_253.out; obtain ⟨hcz23_0, hcz23_1, hcz23_2, hcz23_3, hcz23_4, hcz23_5, hcz23_6, hcz23_7, hcz23_8, hcz23_9, hcz23_10, hcz23_11, hcz23_12⟩ := qc13 BK253.out; obtain ⟨hfz23_0, hfz23_1, hfz23_2, hfz23_3, hfz23_4, hfz23_5, hfz23_6, hfz23_7, hfz23_8, hfz23_9, hfz23_10, hfz23_11, hfz23_12⟩ := qf13 BK253.out) | ((with_reducible refine gate_callee (f := 18) rfl ?_); refine goesL_ (some 11) rfl rfl Try.func18 (by kernel_rfl) rfl #[.agg #[.int .i64 a1_0, .int .i64 a1_1, .int .i64 a1_2, .int .i64 a1_3, .int .i64 a1_4, .int .i64 a1_5, .int .i64 a1_6, .int .i64 a1_7, .slice A1_8 l1_8.length c1_8, .int .i64 a1_9, .int .i64 a1_10, .slice A1_11 l1_11.length c1_11, .slice A1_12 l1_12.length c1_12], .int .i64 1048576] rfl q42t ?_; (with_reducible refine (laws_szNode.calls a1_0 a1_1 a1_2 a1_3 a1_4 a1_5 a1_6 a1_7 _ _ l1_8 a1_9 a1_10 _ _ l1_11 _ _ l1_12 1048576 t254 _ ?side1 ?side2 ?side3 ?side4 ?side5 ?side6 A3.out).mono ?_); (case side1 => repeat (first | exact (Kd.C_below HR1_8.out HB.out) | (with_reducible refine Kd.C_alloc ?_ _) | (with_reducible refine Kd.C_drewN ?_ _) | (with_reducible refine Kd.C_drew ?_))); (case side2 => exact HC1_8.out); (case side3 => repeat (first | exact (Kd.C_below HR1_11.out HB.out) | (with_reducible refine Kd.C_alloc ?_ _) | (with_reducible refine Kd.C_drewN ?_ _) | (with_reducible refine Kd.C_drew ?_))); (case side4 => exact HC1_11.out); (case side5 => repeat (first | exact (Kd.C_below HR1_12.out HB.out) | (with_reducible refine Kd.C_alloc ?_ _) | (with_reducible refine Kd.C_drewN ?_ _) | (with_reducible refine Kd.C_drew ?_))); (case side6 => exact HC1_12.out); rintro e w24 ⟨rfl, hb⟩; refine ⟨_, rfl, ?_⟩; have n0_ := Aside0.mk (blk_below (g := gb252) (o := .cells #[.int .i64 a0_0, .int .i64 a0_1, .int .i64 a0_2, .int .i64 a0_3, .int .i64 a0_4, .int .i64 a0_5] 58 (0, 0)) q58t hb); have n1_ := Aside0.mk (blk_below (g := gb253) (o := .cells #[.int .i64 a1_0, .int .i64 a1_1, .int .i64 a1_2, .int .i64 a1_3, .int .i64 a1_4, .int .i64 a1_5, .int .i64 a1_6, .int .i64 a1_7, .slice A1_8 l1_8.length c1_8, .int .i64 a1_9, .int .i64 a1_10, .slice A1_11 l1_11.length c1_11, .slice A1_12 l1_12.length c1_12] 32 (0, 0)) q59t hb); have n2_ := Aside0.mk (below_step q27t hb); clear BK252; clear BK253; clear HB; have BK252 := n0_; have BK253 := n1_; have HB := n2_; clear n0_ n1_ n2_; (try clear hb); (try clear hb2); (try clear hk); (try clear hi)))
    (try (rw [drewN_self w24]; generalize hq_ : World.drewN w24 _ = w24; have hh_ := congrArg World.heap hq_; dsimp only [World.drewN] at hh_; have zb_ : Below w.heap.size w w24 := (by rw [← hq_]; exact pw_below_drewN HB.out _); have z_ := BK252.out; rw [hh_] at z_; clear BK252; have BK252 := Aside0.mk z_; clear z_; have z_ := BK253.out; rw [hh_] at z_; clear BK253; have BK253 := Aside0.mk z_; clear z_; clear HB; have HB := Aside0.mk zb_; clear zb_ hh_ hq_))
    have n0_ := Aside0.mk (blk_drew BK252.out)
    have n1_ := Aside0.mk (blk_drew BK253.out)
    have n2_ := Aside0.mk (below_drew1 HB.out)
    clear BK252
    clear BK253
    clear HB
    have BK252 := n0_
    have BK253 := n1_
    have HB := n2_
    clear n0_ n1_ n2_
    refine start_ (n := 6) (S := fun w' => w'.cell? ⟨gb252, 0, none⟩ = some (.int .i64 a0_0) ∧ w'.cell? ⟨gb252, 1, none⟩ = some (.int .i64 a0_1) ∧ w'.cell? ⟨gb252, 2, none⟩ = some (.int .i64 a0_2) ∧ w'.cell? ⟨gb252, 3, none⟩ = some (.int .i64 a0_3) ∧ w'.cell? ⟨gb252, 4, none⟩ = some (.int .i64 a0_4) ∧ w'.cell? ⟨gb252, 5, none⟩ = some (.int .i64 a0_5) ∧ w'.cell? ⟨gb253, 0, none⟩ = some (.int .i64 a1_0) ∧ w'.cell? ⟨gb253, 1, none⟩ = some (.int .i64 a1_1) ∧ w'.cell? ⟨gb253, 2, none⟩ = some (.int .i64 a1_2) ∧ w'.cell? ⟨gb253, 3, none⟩ = some (.int .i64 a1_3) ∧ w'.cell? ⟨gb253, 4, none⟩ = some (.int .i64 a1_4) ∧ w'.cell? ⟨gb253, 5, none⟩ = some (.int .i64 a1_5) ∧ w'.cell? ⟨gb253, 6, none⟩ = some (.int .i64 a1_6) ∧ w'.cell? ⟨gb253, 7, none⟩ = some (.int .i64 a1_7) ∧ w'.cell? ⟨gb253, 8, none⟩ = some (.slice A1_8 l1_8.length c1_8) ∧ w'.cell? ⟨gb253, 9, none⟩ = some (.int .i64 a1_9) ∧ w'.cell? ⟨gb253, 10, none⟩ = some (.int .i64 a1_10) ∧ w'.cell? ⟨gb253, 11, none⟩ = some (.slice A1_11 l1_11.length c1_11) ∧ w'.cell? ⟨gb253, 12, none⟩ = some (.slice A1_12 l1_12.length c1_12)) (ds := []) #[false, false, false, false, false, false] (by kernel_rfl) rfl rfl ⟨(blk_cell BK252.out 0).trans rfl, (blk_cell BK252.out 1).trans rfl, (blk_cell BK252.out 2).trans rfl, (blk_cell BK252.out 3).trans rfl, (blk_cell BK252.out 4).trans rfl, (blk_cell BK252.out 5).trans rfl, (blk_cell BK253.out 0).trans rfl, (blk_cell BK253.out 1).trans rfl, (blk_cell BK253.out 2).trans rfl, (blk_cell BK253.out 3).trans rfl, (blk_cell BK253.out 4).trans rfl, (blk_cell BK253.out 5).trans rfl, (blk_cell BK253.out 6).trans rfl, (blk_cell BK253.out 7).trans rfl, (blk_cell BK253.out 8).trans rfl, (blk_cell BK253.out 9).trans rfl, (blk_cell BK253.out 10).trans rfl, (blk_cell BK253.out 11).trans rfl, (blk_cell BK253.out 12).trans rfl⟩ (fun hHeld => ?_)
    generalize w24.drew = w25 at BK252 BK253 HB hHeld ⊢
    refine take_ (i := 0) (N := some 14) (v := ?_) (a' := ?_) #[true, false, false, false, false, false] rfl rfl (by kernel_rfl) (fun _ _ _ h => h) (Or.inl ⟨by rfl, ?_⟩) hHeld ?_ ?_
    rotate_left
    ·rintro w' ⟨s0, s1, s2, s3, s4, s5, s6, s7, s8, s9, s10, s11, s12, s13, s14, s15, s16, s17, s18⟩
     go_simp
     with_reducible rfl
    rotate_left
    ·simp only [Act.put, List.setIfInBounds_toArray, List.set_cons_zero, List.set_cons_succ, i64_w, i32_w]
     rfl
    refine take_ (i := 2) (N := some 16) (v := ?_) (a' := ?_) #[true, false, true, false, false, false] rfl rfl (by kernel_rfl) (fun _ _ _ h => h) (Or.inl ⟨by rfl, ?_⟩) hHeld ?_ ?_
    rotate_left
    ·rintro w' ⟨s0, s1, s2, s3, s4, s5, s6, s7, s8, s9, s10, s11, s12, s13, s14, s15, s16, s17, s18⟩
     go_simp
     with_reducible rfl
    rotate_left
    ·simp only [Act.put, List.setIfInBounds_toArray, List.set_cons_zero, List.set_cons_succ, i64_w, i32_w]
     rfl
    refine one_ (i := 1) (N := some 15) #[true, true, true, false, false, false] rfl rfl (by kernel_rfl) (by decide) (fun K hK => ?_)
    refine goes_ Try.func41 (by kernel_rfl) rfl #[.agg #[.int .i64 a0_0, .int .i64 a0_1, .int .i64 a0_2, .int .i64 a0_3, .int .i64 a0_4, .int .i64 a0_5]] (by rfl) rfl rfl q42t ?_
    with_reducible refine (laws_toConf.calls a0_0 a0_1 a0_2 a0_3 a0_4 a0_5 t255 t256 t257 t258 t259 t260 _ A10.out).mono ?_
    rintro e w26 ⟨rfl, hb⟩
    refine ⟨_, rfl, ?_⟩
    have n0_ := Aside0.mk (blk_below (g := gb252) (o := .cells #[.int .i64 a0_0, .int .i64 a0_1, .int .i64 a0_2, .int .i64 a0_3, .int .i64 a0_4, .int .i64 a0_5] 58 (0, 0)) q58t hb)
    have n1_ := Aside0.mk (blk_below (g := gb253) (o := .cells #[.int .i64 a1_0, .int .i64 a1_1, .int .i64 a1_2, .int .i64 a1_3, .int .i64 a1_4, .int .i64 a1_5, .int .i64 a1_6, .int .i64 a1_7, .slice A1_8 l1_8.length c1_8, .int .i64 a1_9, .int .i64 a1_10, .slice A1_11 l1_11.length c1_11, .slice A1_12 l1_12.length c1_12] 32 (0, 0)) q59t hb)
    have n2_ := Aside0.mk (below_step q27t hb)
    clear BK252
    clear BK253
    clear HB
    have BK252 := n0_
    have BK253 := n1_
    have HB := n2_
    clear n0_ n1_ n2_
    (try clear hb)
    (try clear hb2)
    (try clear hk)
    (try clear hi)
    refine hK.out _ _ q1t (fun hHeld => ?_)
    clear hK K
    refine norm_ (a' := ?_) ?_ ?_
    rotate_left
    ·show Act.put _ (some 15) _ = _
     simp only [Act.put, List.setIfInBounds_toArray, List.set_cons_zero, List.set_cons_succ, i64_w, i32_w]
     rfl
    refine one_ (i := 3) (N := some 17) #[true, true, true, true, false, false] rfl rfl (by kernel_rfl) (by decide) (fun K hK => ?_)
    refine goes_ Try.func20 (by kernel_rfl) rfl #[.agg #[.int .i64 a1_0, .int .i64 a1_1, .int .i64 a1_2, .int .i64 a1_3, .int .i64 a1_4, .int .i64 a1_5, .int .i64 a1_6, .int .i64 a1_7, .slice A1_8 l1_8.length c1_8, .int .i64 a1_9, .int .i64 a1_10, .slice A1_11 l1_11.length c1_11, .slice A1_12 l1_12.length c1_12]] (by rfl) rfl rfl q42t ?_
    with_reducible refine (laws_toNode.calls k a1_0 a1_1 a1_2 a1_3 a1_4 a1_5 a1_6 a1_7 _ _ l1_8 a1_9 a1_10 _ _ l1_11 _ _ l1_12 t261 t262 t263 t264 t265 t266 t267 t268 t269 t272 t273 t274 t277 _ ?side1 ?side2 ?side3 ?side4 ?side5 ?side6 A11.out).mono ?_
    (case side1 => repeat (first | exact (Kd.C_below HR1_8.out HB.out) | (with_reducible refine Kd.C_alloc ?_ _) | (with_reducible refine Kd.C_drewN ?_ _) | (with_reducible refine Kd.C_drew ?_)))
    (case side2 => exact HC1_8.out)
    (case side3 => repeat (first | exact (Kd.C_below HR1_11.out HB.out) | (with_reducible refine Kd.C_alloc ?_ _) | (with_reducible refine Kd.C_drewN ?_ _) | (with_reducible refine Kd.C_drew ?_)))
    (case side4 => exact HC1_11.out)
    (case side5 => repeat (first | exact (Kd.C_below HR1_12.out HB.out) | (with_reducible refine Kd.C_alloc ?_ _) | (with_reducible refine Kd.C_drewN ?_ _) | (with_reducible refine Kd.C_drew ?_)))
    (case side6 => exact HC1_12.out)
    rintro e w27 ⟨v270, v275, v278, rfl, ho0, ho1, ho2, hb⟩
    refine ⟨_, rfl, ?_⟩
    have n0_ := Aside0.mk (Kd.R_lower ho0 (below_size q27t))
    have n1_ := Aside0.mk (Kd.R_lower ho1 (below_size q27t))
    have n2_ := Aside0.mk (Kd.R_lower ho2 (below_size q27t))
    have n3_ := Aside0.mk (blk_below (g := gb252) (o := .cells #[.int .i64 a0_0, .int .i64 a0_1, .int .i64 a0_2, .int .i64 a0_3, .int .i64 a0_4, .int .i64 a0_5] 58 (0, 0)) q58t hb)
    have n4_ := Aside0.mk (blk_below (g := gb253) (o := .cells #[.int .i64 a1_0, .int .i64 a1_1, .int .i64 a1_2, .int .i64 a1_3, .int .i64 a1_4, .int .i64 a1_5, .int .i64 a1_6, .int .i64 a1_7, .slice A1_8 l1_8.length c1_8, .int .i64 a1_9, .int .i64 a1_10, .slice A1_11 l1_11.length c1_11, .slice A1_12 l1_12.length c1_12] 32 (0, 0)) q59t hb)
    have n5_ := Aside0.mk (below_step q27t hb)
    clear BK252
    clear BK253
    clear HB
    have HO271 := n0_
    have HO276 := n1_
    have HO279 := n2_
    have BK252 := n3_
    have BK253 := n4_
    have HB := n5_
    clear n0_ n1_ n2_ n3_ n4_ n5_
    (try clear hb)
    (try clear hb2)
    (try clear hk)
    (try clear hi)
    (try clear ho0)
    (try clear ho1)
    (try clear ho2)
    obtain ⟨Ao28, co28, eo28⟩ := Kd.R_slice HO271.out
    (first | subst eo28 | (injection eo28 with f1_ f2_ f3_; have f4_ := f1_.symm; have f5_ := f3_.symm; clear f1_ f2_ f3_; subst f4_; subst f5_))
    obtain ⟨Ao29, co29, eo29⟩ := Kd.R_slice HO276.out
    (first | subst eo29 | (injection eo29 with f1_ f2_ f3_; have f4_ := f1_.symm; have f5_ := f3_.symm; clear f1_ f2_ f3_; subst f4_; subst f5_))
    obtain ⟨Ao30, co30, eo30⟩ := Kd.R_slice HO279.out
    (first | subst eo30 | (injection eo30 with f1_ f2_ f3_; have f4_ := f1_.symm; have f5_ := f3_.symm; clear f1_ f2_ f3_; subst f4_; subst f5_))
    refine hK.out _ _ q1t (fun hHeld => ?_)
    clear hK K
    refine norm_ (a' := ?_) ?_ ?_
    rotate_left
    ·show Act.put _ (some 17) _ = _
     simp only [Act.put, List.setIfInBounds_toArray, List.set_cons_zero, List.set_cons_succ, i64_w, i32_w]
     rfl
    refine one_ (i := 4) (N := some 18) #[true, true, true, true, true, false] rfl rfl (by kernel_rfl) (by decide) (fun K hK => ?_)
    refine goes_ Try.func46 (by kernel_rfl) rfl #[.agg #[.int .i64 t255, .int .i64 t256, .int .i64 t257, .int .i64 t258, .int .i64 t259, .int .i64 t260], .agg #[.int .i64 t261, .int .i64 t262, .int .i64 t263, .int .i64 t264, .int .i64 t265, .int .i64 t266, .int .i64 t267, .int .i64 t268, .slice Ao28 t269.length co28, .int .i64 t272, .int .i64 t273, .slice Ao29 t274.length co29, .slice Ao30 t277.length co30]] (by rfl) rfl rfl q42t ?_
    with_reducible refine (spec_NodeOk.calls k t255 t256 t257 t258 t259 t260 t261 t262 t263 t264 t265 t266 t267 t268 _ _ t269 t272 t273 _ _ t274 _ _ t277 t280 _ ?side1 ?side2 ?side3 ?side4 ?side5 ?side6 A12.out).mono ?_
    (case side1 => repeat (first | exact (Kd.R_reads' HO271.out).2.2 | (with_reducible refine Kd.C_alloc ?_ _) | (with_reducible refine Kd.C_drewN ?_ _) | (with_reducible refine Kd.C_drew ?_)))
    (case side2 => exact (Kd.R_reads' HO271.out).2.1)
    (case side3 => repeat (first | exact (Kd.R_reads' HO276.out).2.2 | (with_reducible refine Kd.C_alloc ?_ _) | (with_reducible refine Kd.C_drewN ?_ _) | (with_reducible refine Kd.C_drew ?_)))
    (case side4 => exact (Kd.R_reads' HO276.out).2.1)
    (case side5 => repeat (first | exact (Kd.R_reads' HO279.out).2.2 | (with_reducible refine Kd.C_alloc ?_ _) | (with_reducible refine Kd.C_drewN ?_ _) | (with_reducible refine Kd.C_drew ?_)))
    (case side6 => exact (Kd.R_reads' HO279.out).2.1)
    rintro e w31 ⟨rfl, hb⟩
    refine ⟨_, rfl, ?_⟩
    have n0_ := Aside0.mk (Kd.R_below q62t hb)
    have n1_ := Aside0.mk (Kd.R_below q63t hb)
    have n2_ := Aside0.mk (Kd.R_below q64t hb)
    have n3_ := Aside0.mk (blk_below (g := gb252) (o := .cells #[.int .i64 a0_0, .int .i64 a0_1, .int .i64 a0_2, .int .i64 a0_3, .int .i64 a0_4, .int .i64 a0_5] 58 (0, 0)) q58t hb)
    have n4_ := Aside0.mk (blk_below (g := gb253) (o := .cells #[.int .i64 a1_0, .int .i64 a1_1, .int .i64 a1_2, .int .i64 a1_3, .int .i64 a1_4, .int .i64 a1_5, .int .i64 a1_6, .int .i64 a1_7, .slice A1_8 l1_8.length c1_8, .int .i64 a1_9, .int .i64 a1_10, .slice A1_11 l1_11.length c1_11, .slice A1_12 l1_12.length c1_12] 32 (0, 0)) q59t hb)
    have n5_ := Aside0.mk (below_step q27t hb)
    clear HO271
    clear HO276
    clear HO279
    clear BK252
    clear BK253
    clear HB
    have HO271 := n0_
    have HO276 := n1_
    have HO279 := n2_
    have BK252 := n3_
    have BK253 := n4_
    have HB := n5_
    clear n0_ n1_ n2_ n3_ n4_ n5_
    (try clear hb)
    (try clear hb2)
    (try clear hk)
    (try clear hi)
    refine hK.out _ _ q1t (fun hHeld => ?_)
    clear hK K
    refine norm_ (a' := ?_) ?_ ?_
    rotate_left
    ·show Act.put _ (some 18) _ = _
     simp only [Act.put, List.setIfInBounds_toArray, List.set_cons_zero, List.set_cons_succ, i64_w, i32_w]
     rfl
    refine pure_ (i := 5) (N := some 6) (v := ?_) (a' := ?_) #[true, true, true, true, true, true] rfl rfl (by kernel_rfl) (fun _ _ _ h => h) (Or.inl ⟨by rfl, ?_⟩) ?_ ?_
    rotate_left
    ·intro w'
     go_simp
     with_reducible rfl
    rotate_left
    ·simp only [Act.put, List.setIfInBounds_toArray, List.set_cons_zero, List.set_cons_succ, i64_w, i32_w]
     rfl
    refine done_ (by kernel_rfl) ?_
    obtain ⟨hcz32_0, hcz32_1, hcz32_2, hcz32_3, hcz32_4, hcz32_5, hcz32_6, hcz32_7, hcz32_8, hcz32_9, hcz32_10, hcz32_11, hcz32_12⟩ := qc13 BK253.out
    obtain ⟨hfz32_0, hfz32_1, hfz32_2, hfz32_3, hfz32_4, hfz32_5, hfz32_6, hfz32_7, hfz32_8, hfz32_9, hfz32_10, hfz32_11, hfz32_12⟩ := qf13 BK253.out
    try go_wp2_with (first | ((with_reducible refine gate_callee (f := 20) rfl ?_); refine goesL_ (some 20) rfl rfl Try.func20 (by kernel_rfl) rfl #[.agg #[.int .i64 a1_0, .int .i64 a1_1, .int .i64 a1_2, .int .i64 a1_3, .int .i64 a1_4, .int .i64 a1_5, .int .i64 a1_6, .int .i64 a1_7, .slice A1_8 l1_8.length c1_8, .int .i64 a1_9, .int .i64 a1_10, .slice A1_11 l1_11.length c1_11, .slice A1_12 l1_12.length c1_12]] rfl q42t ?_; (with_reducible refine (laws_toNode.calls k a1_0 a1_1 a1_2 a1_3 a1_4 a1_5 a1_6 a1_7 _ _ l1_8 a1_9 a1_10 _ _ l1_11 _ _ l1_12 t281 t282 t283 t284 t285 t286 t287 t288 t289 t292 t293 t294 t297 _ ?side1 ?side2 ?side3 ?side4 ?side5 ?side6 A13.out).mono ?_); (case side1 => repeat (first | exact (Kd.C_below HR1_8.out HB.out) | (with_reducible refine Kd.C_alloc ?_ _) | (with_reducible refine Kd.C_drewN ?_ _) | (with_reducible refine Kd.C_drew ?_))); (case side2 => exact HC1_8.out); (case side3 => repeat (first | exact (Kd.C_below HR1_11.out HB.out) | (with_reducible refine Kd.C_alloc ?_ _) | (with_reducible refine Kd.C_drewN ?_ _) | (with_reducible refine Kd.C_drew ?_))); (case side4 => exact HC1_11.out); (case side5 => repeat (first | exact (Kd.C_below HR1_12.out HB.out) | (with_reducible refine Kd.C_alloc ?_ _) | (with_reducible refine Kd.C_drewN ?_ _) | (with_reducible refine Kd.C_drew ?_))); (case side6 => exact HC1_12.out); rintro e w33 ⟨v290, v295, v298, rfl, ho0, ho1, ho2, hb⟩; refine ⟨_, rfl, ?_⟩; have n0_ := Aside0.mk (Kd.R_mono (Kd.R_told (Kd.R_told (Kd.R_old q62t hb) (Kd.R_base ho0)) (Kd.R_base ho2)) (fun _ h_ => h_.1)); have n1_ := Aside0.mk (Kd.R_elder' q63t (Kd.R_base ho1) hb); have n2_ := Aside0.mk (Kd.R_mono (Kd.R_told (Kd.R_told (Kd.R_old q64t hb) (Kd.R_base ho0)) (Kd.R_base ho2)) (fun _ h_ => h_.1)); have n3_ := Aside0.mk (Kd.R_lower (Kd.R_new' (Kd.R_new' ho0 (Kd.R_lt q62t)) (Kd.R_lt q64t)) (below_size q27t)); have n4_ := Aside0.mk (Kd.R_lower (Kd.R_new' ho1 (Kd.R_lt q63t)) (below_size q27t)); have n5_ := Aside0.mk (Kd.R_lower (Kd.R_new' (Kd.R_new' ho2 (Kd.R_lt q62t)) (Kd.R_lt q64t)) (below_size q27t)); have n6_ := Aside0.mk (blk_below (g := gb252) (o := .cells #[.int .i64 a0_0, .int .i64 a0_1, .int .i64 a0_2, .int .i64 a0_3, .int .i64 a0_4, .int .i64 a0_5] 58 (0, 0)) q58t hb); have n7_ := Aside0.mk (blk_below (g := gb253) (o := .cells #[.int .i64 a1_0, .int .i64 a1_1, .int .i64 a1_2, .int .i64 a1_3, .int .i64 a1_4, .int .i64 a1_5, .int .i64 a1_6, .int .i64 a1_7, .slice A1_8 l1_8.length c1_8, .int .i64 a1_9, .int .i64 a1_10, .slice A1_11 l1_11.length c1_11, .slice A1_12 l1_12.length c1_12] 32 (0, 0)) q59t hb); have n8_ := Aside0.mk (below_step q27t hb); clear HO271; clear HO276; clear HO279; clear BK252; clear BK253; clear HB; have HO271 := n0_; have HO276 := n1_; have HO279 := n2_; have HO291 := n3_; have HO296 := n4_; have HO299 := n5_; have BK252 := n6_; have BK253 := n7_; have HB := n8_; clear n0_ n1_ n2_ n3_ n4_ n5_ n6_ n7_ n8_; (try clear hb); (try clear hb2); (try clear hk); (try clear hi); (try clear ho0); (try clear ho1); (try clear ho2)) | ((with_reducible refine gate_dst (N := 7) rfl ?_); refine box_event ?hg (N := 7) ?hd (cs := #[.int .i64 0, .int .i64 0, .int .i64 0, .int .i64 0, .int .i64 0, .int .i64 0, .int .i64 0, .int .i64 0, .slice none 0 0, .int .i64 0, .int .i64 0, .slice none 0 0, .slice none 0 0]) (t := 37) ?hr ?_; (case hd => rfl); (case hg => rfl); (case hr => first | (go_simp; done) | (go_simp; rfl)); intro gb300 hg w34 hbox hb; have n0_ := Aside0.mk (Kd.R_below q62t hb); have n1_ := Aside0.mk (Kd.R_below q63t hb); have n2_ := Aside0.mk (Kd.R_below q64t hb); have n3_ := Aside0.mk (Kd.R_below q65t hb); have n4_ := Aside0.mk (Kd.R_below q66t hb); have n5_ := Aside0.mk (Kd.R_below q67t hb); have n6_ := Aside0.mk (blk_below (g := gb252) (o := .cells #[.int .i64 a0_0, .int .i64 a0_1, .int .i64 a0_2, .int .i64 a0_3, .int .i64 a0_4, .int .i64 a0_5] 58 (0, 0)) q58t hb); have n7_ := Aside0.mk (blk_below (g := gb253) (o := .cells #[.int .i64 a1_0, .int .i64 a1_1, .int .i64 a1_2, .int .i64 a1_3, .int .i64 a1_4, .int .i64 a1_5, .int .i64 a1_6, .int .i64 a1_7, .slice A1_8 l1_8.length c1_8, .int .i64 a1_9, .int .i64 a1_10, .slice A1_11 l1_11.length c1_11, .slice A1_12 l1_12.length c1_12] 32 (0, 0)) q59t hb); have n8_ := Aside0.mk (below_step q27t hb); have n9_ := Aside0.mk (hbox); have n10_ := Aside0.mk ((by rw [hg]; exact (below_size q27t) : w.heap.size ≤ gb300)); have n11_ := Aside0.mk ((by rw [hg]; exact (below_size q27t) : w.heap.size ≤ gb300)); have n12_ := Aside0.mk ((q8t : gb252 ≠ gb300)); have n13_ := Aside0.mk ((q9t : gb300 ≠ gb252)); have n14_ := Aside0.mk ((by rw [hg]; exact Nat.ne_of_lt (blk_lt (g := gb253) (o := .cells #[.int .i64 a1_0, .int .i64 a1_1, .int .i64 a1_2, .int .i64 a1_3, .int .i64 a1_4, .int .i64 a1_5, .int .i64 a1_6, .int .i64 a1_7, .slice A1_8 l1_8.length c1_8, .int .i64 a1_9, .int .i64 a1_10, .slice A1_11 l1_11.length c1_11, .slice A1_12 l1_12.length c1_12] 32 (0, 0)) q59t) : gb253 ≠ gb300)); have n15_ := Aside0.mk ((by rw [hg]; exact Nat.ne_of_gt (blk_lt (g := gb253) (o := .cells #[.int .i64 a1_0, .int .i64 a1_1, .int .i64 a1_2, .int .i64 a1_3, .int .i64 a1_4, .int .i64 a1_5, .int .i64 a1_6, .int .i64 a1_7, .slice A1_8 l1_8.length c1_8, .int .i64 a1_9, .int .i64 a1_10, .slice A1_11 l1_11.length c1_11, .slice A1_12 l1_12.length c1_12] 32 (0, 0)) q59t) : gb300 ≠ gb253)); clear HO271; clear HO276; clear HO279; clear HO291; clear HO296; clear HO299; clear BK252; clear BK253; clear HB; have HO271 := n0_; have HO276 := n1_; have HO279 := n2_; have HO291 := n3_; have HO296 := n4_; have HO299 := n5_; have BK252 := n6_; have BK253 := n7_; have HB := n8_; have BK300 := n9_; have GW300 := n10_; have GE300 := n11_; have NB252_300 := n12_; have NB300_252 := n13_; have NB253_300 := n14_; have NB300_253 := n15_; clear n0_ n1_ n2_ n3_ n4_ n5_ n6_ n7_ n8_ n9_ n10_ n11_ n12_ n13_ n14_ n15_; clear hb hbox hg; have hnb35 := NB300_252.out; have hnc35 := NB252_300.out; have hnb36 := NB300_253.out; have hnc36 := NB253_300.out; obtain ⟨hcz37_0, hcz37_1, hcz37_2, hcz37_3, hcz37_4, hcz37_5, hcz37_6, hcz37_7, hcz37_8, hcz37_9, hcz37_10, hcz37_11, hcz37_12⟩ := qc13 BK300.out; obtain ⟨hfz37_0, hfz37_1, hfz37_2, hfz37_3, hfz37_4, hfz37_5, hfz37_6, hfz37_7, hfz37_8, hfz37_9, hfz37_10, hfz37_11, hfz37_12⟩ := qf13 BK300.out; obtain ⟨Ao38, co38, eo38⟩ := Kd.R_slice HO291.out; subst eo38; obtain ⟨Ao39, co39, eo39⟩ := Kd.R_slice HO296.out; subst eo39; obtain ⟨Ao40, co40, eo40⟩ := Kd.R_slice HO299.out; subst eo40))
    have n0_ : Aside0 (Kd.R (Kd.int .i64) 3 (((((((((((((w34.setCell ⟨gb300, 0, none⟩ (.int .i64 t281)).setCell ⟨gb300, 1, none⟩ (.int .i64 t282)).setCell ⟨gb300, 2, none⟩ (.int .i64 t283)).setCell ⟨gb300, 3, none⟩ (.int .i64 t284)).setCell ⟨gb300, 4, none⟩ (.int .i64 t285)).setCell ⟨gb300, 5, none⟩ (.int .i64 t286)).setCell ⟨gb300, 6, none⟩ (.int .i64 t287)).setCell ⟨gb300, 7, none⟩ (.int .i64 t288)).setCell ⟨gb300, 8, none⟩ (.slice Ao38 t289.length co38)).setCell ⟨gb300, 9, none⟩ (.int .i64 t292)).setCell ⟨gb300, 10, none⟩ (.int .i64 t293)).setCell ⟨gb300, 11, none⟩ (.slice Ao39 t294.length co39)).setCell ⟨gb300, 12, none⟩ (.slice Ao40 t297.length co40)) w.heap.size (fun k_ => some k_ ≠ (.slice Ao30 t277.length co30 : Value).ownBlock ∧ some k_ ≠ (.slice Ao38 t289.length co38 : Value).ownBlock ∧ some k_ ≠ (.slice Ao40 t297.length co40 : Value).ownBlock) (.slice Ao28 t269.length co28) t269) := ⟨by (with_reducible repeat (first | apply Kd.R_alloc | apply Kd.R_drewN | apply Kd.R_drew)); exact Kd.R_mono (Kd.R_far (p := ⟨gb300, 12, none⟩) (Kd.R_far (p := ⟨gb300, 11, none⟩) (Kd.R_far (p := ⟨gb300, 10, none⟩) (Kd.R_far (p := ⟨gb300, 9, none⟩) (Kd.R_far (p := ⟨gb300, 8, none⟩) (Kd.R_far (p := ⟨gb300, 7, none⟩) (Kd.R_far (p := ⟨gb300, 6, none⟩) (Kd.R_far (p := ⟨gb300, 5, none⟩) (Kd.R_far (p := ⟨gb300, 4, none⟩) (Kd.R_far (p := ⟨gb300, 3, none⟩) (Kd.R_far (p := ⟨gb300, 2, none⟩) (Kd.R_far (p := ⟨gb300, 1, none⟩) (Kd.R_far (p := ⟨gb300, 0, none⟩) (Kd.R_types HO271.out BK300.out (by decide)) (fun _ hk => hk.2) (.int .i64 t281)) (fun _ hk => hk.2) (.int .i64 t282)) (fun _ hk => hk.2) (.int .i64 t283)) (fun _ hk => hk.2) (.int .i64 t284)) (fun _ hk => hk.2) (.int .i64 t285)) (fun _ hk => hk.2) (.int .i64 t286)) (fun _ hk => hk.2) (.int .i64 t287)) (fun _ hk => hk.2) (.int .i64 t288)) (fun _ hk => hk.2) (.slice Ao38 t289.length co38)) (fun _ hk => hk.2) (.int .i64 t292)) (fun _ hk => hk.2) (.int .i64 t293)) (fun _ hk => hk.2) (.slice Ao39 t294.length co39)) (fun _ hk => hk.2) (.slice Ao40 t297.length co40)) (fun _ hk => ⟨hk.1.1.1, ⟨hk.1.1.2, hk.1.2⟩⟩)⟩
    have n1_ : Aside0 (Kd.R k84 84 (((((((((((((w34.setCell ⟨gb300, 0, none⟩ (.int .i64 t281)).setCell ⟨gb300, 1, none⟩ (.int .i64 t282)).setCell ⟨gb300, 2, none⟩ (.int .i64 t283)).setCell ⟨gb300, 3, none⟩ (.int .i64 t284)).setCell ⟨gb300, 4, none⟩ (.int .i64 t285)).setCell ⟨gb300, 5, none⟩ (.int .i64 t286)).setCell ⟨gb300, 6, none⟩ (.int .i64 t287)).setCell ⟨gb300, 7, none⟩ (.int .i64 t288)).setCell ⟨gb300, 8, none⟩ (.slice Ao38 t289.length co38)).setCell ⟨gb300, 9, none⟩ (.int .i64 t292)).setCell ⟨gb300, 10, none⟩ (.int .i64 t293)).setCell ⟨gb300, 11, none⟩ (.slice Ao39 t294.length co39)).setCell ⟨gb300, 12, none⟩ (.slice Ao40 t297.length co40)) w.heap.size (fun k_ => some k_ ≠ (.slice Ao39 t294.length co39 : Value).ownBlock) (.slice Ao29 t274.length co29) t274) := ⟨by (with_reducible repeat (first | apply Kd.R_alloc | apply Kd.R_drewN | apply Kd.R_drew)); exact Kd.R_mono (Kd.R_far (p := ⟨gb300, 12, none⟩) (Kd.R_far (p := ⟨gb300, 11, none⟩) (Kd.R_far (p := ⟨gb300, 10, none⟩) (Kd.R_far (p := ⟨gb300, 9, none⟩) (Kd.R_far (p := ⟨gb300, 8, none⟩) (Kd.R_far (p := ⟨gb300, 7, none⟩) (Kd.R_far (p := ⟨gb300, 6, none⟩) (Kd.R_far (p := ⟨gb300, 5, none⟩) (Kd.R_far (p := ⟨gb300, 4, none⟩) (Kd.R_far (p := ⟨gb300, 3, none⟩) (Kd.R_far (p := ⟨gb300, 2, none⟩) (Kd.R_far (p := ⟨gb300, 1, none⟩) (Kd.R_far (p := ⟨gb300, 0, none⟩) (Kd.R_types HO276.out BK300.out (by decide)) (fun _ hk => hk.2) (.int .i64 t281)) (fun _ hk => hk.2) (.int .i64 t282)) (fun _ hk => hk.2) (.int .i64 t283)) (fun _ hk => hk.2) (.int .i64 t284)) (fun _ hk => hk.2) (.int .i64 t285)) (fun _ hk => hk.2) (.int .i64 t286)) (fun _ hk => hk.2) (.int .i64 t287)) (fun _ hk => hk.2) (.int .i64 t288)) (fun _ hk => hk.2) (.slice Ao38 t289.length co38)) (fun _ hk => hk.2) (.int .i64 t292)) (fun _ hk => hk.2) (.int .i64 t293)) (fun _ hk => hk.2) (.slice Ao39 t294.length co39)) (fun _ hk => hk.2) (.slice Ao40 t297.length co40)) (fun _ hk => hk.1.2)⟩
    have n2_ : Aside0 (Kd.R (Kd.int .i64) 3 (((((((((((((w34.setCell ⟨gb300, 0, none⟩ (.int .i64 t281)).setCell ⟨gb300, 1, none⟩ (.int .i64 t282)).setCell ⟨gb300, 2, none⟩ (.int .i64 t283)).setCell ⟨gb300, 3, none⟩ (.int .i64 t284)).setCell ⟨gb300, 4, none⟩ (.int .i64 t285)).setCell ⟨gb300, 5, none⟩ (.int .i64 t286)).setCell ⟨gb300, 6, none⟩ (.int .i64 t287)).setCell ⟨gb300, 7, none⟩ (.int .i64 t288)).setCell ⟨gb300, 8, none⟩ (.slice Ao38 t289.length co38)).setCell ⟨gb300, 9, none⟩ (.int .i64 t292)).setCell ⟨gb300, 10, none⟩ (.int .i64 t293)).setCell ⟨gb300, 11, none⟩ (.slice Ao39 t294.length co39)).setCell ⟨gb300, 12, none⟩ (.slice Ao40 t297.length co40)) w.heap.size (fun k_ => some k_ ≠ (.slice Ao28 t269.length co28 : Value).ownBlock ∧ some k_ ≠ (.slice Ao38 t289.length co38 : Value).ownBlock ∧ some k_ ≠ (.slice Ao40 t297.length co40 : Value).ownBlock) (.slice Ao30 t277.length co30) t277) := ⟨by (with_reducible repeat (first | apply Kd.R_alloc | apply Kd.R_drewN | apply Kd.R_drew)); exact Kd.R_mono (Kd.R_far (p := ⟨gb300, 12, none⟩) (Kd.R_far (p := ⟨gb300, 11, none⟩) (Kd.R_far (p := ⟨gb300, 10, none⟩) (Kd.R_far (p := ⟨gb300, 9, none⟩) (Kd.R_far (p := ⟨gb300, 8, none⟩) (Kd.R_far (p := ⟨gb300, 7, none⟩) (Kd.R_far (p := ⟨gb300, 6, none⟩) (Kd.R_far (p := ⟨gb300, 5, none⟩) (Kd.R_far (p := ⟨gb300, 4, none⟩) (Kd.R_far (p := ⟨gb300, 3, none⟩) (Kd.R_far (p := ⟨gb300, 2, none⟩) (Kd.R_far (p := ⟨gb300, 1, none⟩) (Kd.R_far (p := ⟨gb300, 0, none⟩) (Kd.R_types HO279.out BK300.out (by decide)) (fun _ hk => hk.2) (.int .i64 t281)) (fun _ hk => hk.2) (.int .i64 t282)) (fun _ hk => hk.2) (.int .i64 t283)) (fun _ hk => hk.2) (.int .i64 t284)) (fun _ hk => hk.2) (.int .i64 t285)) (fun _ hk => hk.2) (.int .i64 t286)) (fun _ hk => hk.2) (.int .i64 t287)) (fun _ hk => hk.2) (.int .i64 t288)) (fun _ hk => hk.2) (.slice Ao38 t289.length co38)) (fun _ hk => hk.2) (.int .i64 t292)) (fun _ hk => hk.2) (.int .i64 t293)) (fun _ hk => hk.2) (.slice Ao39 t294.length co39)) (fun _ hk => hk.2) (.slice Ao40 t297.length co40)) (fun _ hk => ⟨hk.1.1.1, ⟨hk.1.1.2, hk.1.2⟩⟩)⟩
    have n3_ : Aside0 (Kd.R (Kd.int .i64) 3 (((((((((((((w34.setCell ⟨gb300, 0, none⟩ (.int .i64 t281)).setCell ⟨gb300, 1, none⟩ (.int .i64 t282)).setCell ⟨gb300, 2, none⟩ (.int .i64 t283)).setCell ⟨gb300, 3, none⟩ (.int .i64 t284)).setCell ⟨gb300, 4, none⟩ (.int .i64 t285)).setCell ⟨gb300, 5, none⟩ (.int .i64 t286)).setCell ⟨gb300, 6, none⟩ (.int .i64 t287)).setCell ⟨gb300, 7, none⟩ (.int .i64 t288)).setCell ⟨gb300, 8, none⟩ (.slice Ao38 t289.length co38)).setCell ⟨gb300, 9, none⟩ (.int .i64 t292)).setCell ⟨gb300, 10, none⟩ (.int .i64 t293)).setCell ⟨gb300, 11, none⟩ (.slice Ao39 t294.length co39)).setCell ⟨gb300, 12, none⟩ (.slice Ao40 t297.length co40)) w.heap.size (fun k_ => some k_ ≠ (.slice Ao28 t269.length co28 : Value).ownBlock ∧ some k_ ≠ (.slice Ao30 t277.length co30 : Value).ownBlock ∧ some k_ ≠ (.slice Ao40 t297.length co40 : Value).ownBlock) (.slice Ao38 t289.length co38) t289) := ⟨by (with_reducible repeat (first | apply Kd.R_alloc | apply Kd.R_drewN | apply Kd.R_drew)); exact Kd.R_mono (Kd.R_far (p := ⟨gb300, 12, none⟩) (Kd.R_far (p := ⟨gb300, 11, none⟩) (Kd.R_far (p := ⟨gb300, 10, none⟩) (Kd.R_far (p := ⟨gb300, 9, none⟩) (Kd.R_far (p := ⟨gb300, 8, none⟩) (Kd.R_far (p := ⟨gb300, 7, none⟩) (Kd.R_far (p := ⟨gb300, 6, none⟩) (Kd.R_far (p := ⟨gb300, 5, none⟩) (Kd.R_far (p := ⟨gb300, 4, none⟩) (Kd.R_far (p := ⟨gb300, 3, none⟩) (Kd.R_far (p := ⟨gb300, 2, none⟩) (Kd.R_far (p := ⟨gb300, 1, none⟩) (Kd.R_far (p := ⟨gb300, 0, none⟩) (Kd.R_types HO291.out BK300.out (by decide)) (fun _ hk => hk.2) (.int .i64 t281)) (fun _ hk => hk.2) (.int .i64 t282)) (fun _ hk => hk.2) (.int .i64 t283)) (fun _ hk => hk.2) (.int .i64 t284)) (fun _ hk => hk.2) (.int .i64 t285)) (fun _ hk => hk.2) (.int .i64 t286)) (fun _ hk => hk.2) (.int .i64 t287)) (fun _ hk => hk.2) (.int .i64 t288)) (fun _ hk => hk.2) (.slice Ao38 t289.length co38)) (fun _ hk => hk.2) (.int .i64 t292)) (fun _ hk => hk.2) (.int .i64 t293)) (fun _ hk => hk.2) (.slice Ao39 t294.length co39)) (fun _ hk => hk.2) (.slice Ao40 t297.length co40)) (fun _ hk => ⟨hk.1.1.2, ⟨hk.1.2, hk.1.1.1⟩⟩)⟩
    have n4_ : Aside0 (Kd.R k84 84 (((((((((((((w34.setCell ⟨gb300, 0, none⟩ (.int .i64 t281)).setCell ⟨gb300, 1, none⟩ (.int .i64 t282)).setCell ⟨gb300, 2, none⟩ (.int .i64 t283)).setCell ⟨gb300, 3, none⟩ (.int .i64 t284)).setCell ⟨gb300, 4, none⟩ (.int .i64 t285)).setCell ⟨gb300, 5, none⟩ (.int .i64 t286)).setCell ⟨gb300, 6, none⟩ (.int .i64 t287)).setCell ⟨gb300, 7, none⟩ (.int .i64 t288)).setCell ⟨gb300, 8, none⟩ (.slice Ao38 t289.length co38)).setCell ⟨gb300, 9, none⟩ (.int .i64 t292)).setCell ⟨gb300, 10, none⟩ (.int .i64 t293)).setCell ⟨gb300, 11, none⟩ (.slice Ao39 t294.length co39)).setCell ⟨gb300, 12, none⟩ (.slice Ao40 t297.length co40)) w.heap.size (fun k_ => some k_ ≠ (.slice Ao29 t274.length co29 : Value).ownBlock) (.slice Ao39 t294.length co39) t294) := ⟨by (with_reducible repeat (first | apply Kd.R_alloc | apply Kd.R_drewN | apply Kd.R_drew)); exact Kd.R_mono (Kd.R_far (p := ⟨gb300, 12, none⟩) (Kd.R_far (p := ⟨gb300, 11, none⟩) (Kd.R_far (p := ⟨gb300, 10, none⟩) (Kd.R_far (p := ⟨gb300, 9, none⟩) (Kd.R_far (p := ⟨gb300, 8, none⟩) (Kd.R_far (p := ⟨gb300, 7, none⟩) (Kd.R_far (p := ⟨gb300, 6, none⟩) (Kd.R_far (p := ⟨gb300, 5, none⟩) (Kd.R_far (p := ⟨gb300, 4, none⟩) (Kd.R_far (p := ⟨gb300, 3, none⟩) (Kd.R_far (p := ⟨gb300, 2, none⟩) (Kd.R_far (p := ⟨gb300, 1, none⟩) (Kd.R_far (p := ⟨gb300, 0, none⟩) (Kd.R_types HO296.out BK300.out (by decide)) (fun _ hk => hk.2) (.int .i64 t281)) (fun _ hk => hk.2) (.int .i64 t282)) (fun _ hk => hk.2) (.int .i64 t283)) (fun _ hk => hk.2) (.int .i64 t284)) (fun _ hk => hk.2) (.int .i64 t285)) (fun _ hk => hk.2) (.int .i64 t286)) (fun _ hk => hk.2) (.int .i64 t287)) (fun _ hk => hk.2) (.int .i64 t288)) (fun _ hk => hk.2) (.slice Ao38 t289.length co38)) (fun _ hk => hk.2) (.int .i64 t292)) (fun _ hk => hk.2) (.int .i64 t293)) (fun _ hk => hk.2) (.slice Ao39 t294.length co39)) (fun _ hk => hk.2) (.slice Ao40 t297.length co40)) (fun _ hk => hk.1.2)⟩
    have n5_ : Aside0 (Kd.R (Kd.int .i64) 3 (((((((((((((w34.setCell ⟨gb300, 0, none⟩ (.int .i64 t281)).setCell ⟨gb300, 1, none⟩ (.int .i64 t282)).setCell ⟨gb300, 2, none⟩ (.int .i64 t283)).setCell ⟨gb300, 3, none⟩ (.int .i64 t284)).setCell ⟨gb300, 4, none⟩ (.int .i64 t285)).setCell ⟨gb300, 5, none⟩ (.int .i64 t286)).setCell ⟨gb300, 6, none⟩ (.int .i64 t287)).setCell ⟨gb300, 7, none⟩ (.int .i64 t288)).setCell ⟨gb300, 8, none⟩ (.slice Ao38 t289.length co38)).setCell ⟨gb300, 9, none⟩ (.int .i64 t292)).setCell ⟨gb300, 10, none⟩ (.int .i64 t293)).setCell ⟨gb300, 11, none⟩ (.slice Ao39 t294.length co39)).setCell ⟨gb300, 12, none⟩ (.slice Ao40 t297.length co40)) w.heap.size (fun k_ => some k_ ≠ (.slice Ao28 t269.length co28 : Value).ownBlock ∧ some k_ ≠ (.slice Ao30 t277.length co30 : Value).ownBlock ∧ some k_ ≠ (.slice Ao38 t289.length co38 : Value).ownBlock) (.slice Ao40 t297.length co40) t297) := ⟨by (with_reducible repeat (first | apply Kd.R_alloc | apply Kd.R_drewN | apply Kd.R_drew)); exact Kd.R_mono (Kd.R_far (p := ⟨gb300, 12, none⟩) (Kd.R_far (p := ⟨gb300, 11, none⟩) (Kd.R_far (p := ⟨gb300, 10, none⟩) (Kd.R_far (p := ⟨gb300, 9, none⟩) (Kd.R_far (p := ⟨gb300, 8, none⟩) (Kd.R_far (p := ⟨gb300, 7, none⟩) (Kd.R_far (p := ⟨gb300, 6, none⟩) (Kd.R_far (p := ⟨gb300, 5, none⟩) (Kd.R_far (p := ⟨gb300, 4, none⟩) (Kd.R_far (p := ⟨gb300, 3, none⟩) (Kd.R_far (p := ⟨gb300, 2, none⟩) (Kd.R_far (p := ⟨gb300, 1, none⟩) (Kd.R_far (p := ⟨gb300, 0, none⟩) (Kd.R_types HO299.out BK300.out (by decide)) (fun _ hk => hk.2) (.int .i64 t281)) (fun _ hk => hk.2) (.int .i64 t282)) (fun _ hk => hk.2) (.int .i64 t283)) (fun _ hk => hk.2) (.int .i64 t284)) (fun _ hk => hk.2) (.int .i64 t285)) (fun _ hk => hk.2) (.int .i64 t286)) (fun _ hk => hk.2) (.int .i64 t287)) (fun _ hk => hk.2) (.int .i64 t288)) (fun _ hk => hk.2) (.slice Ao38 t289.length co38)) (fun _ hk => hk.2) (.int .i64 t292)) (fun _ hk => hk.2) (.int .i64 t293)) (fun _ hk => hk.2) (.slice Ao39 t294.length co39)) (fun _ hk => hk.2) (.slice Ao40 t297.length co40)) (fun _ hk => ⟨hk.1.1.2, ⟨hk.1.2, hk.1.1.1⟩⟩)⟩
    have n6_ : Aside0 ((((((((((((((w34.setCell ⟨gb300, 0, none⟩ (.int .i64 t281)).setCell ⟨gb300, 1, none⟩ (.int .i64 t282)).setCell ⟨gb300, 2, none⟩ (.int .i64 t283)).setCell ⟨gb300, 3, none⟩ (.int .i64 t284)).setCell ⟨gb300, 4, none⟩ (.int .i64 t285)).setCell ⟨gb300, 5, none⟩ (.int .i64 t286)).setCell ⟨gb300, 6, none⟩ (.int .i64 t287)).setCell ⟨gb300, 7, none⟩ (.int .i64 t288)).setCell ⟨gb300, 8, none⟩ (.slice Ao38 t289.length co38)).setCell ⟨gb300, 9, none⟩ (.int .i64 t292)).setCell ⟨gb300, 10, none⟩ (.int .i64 t293)).setCell ⟨gb300, 11, none⟩ (.slice Ao39 t294.length co39)).setCell ⟨gb300, 12, none⟩ (.slice Ao40 t297.length co40)).heap[gb252]? = some (.cells #[.int .i64 a0_0, .int .i64 a0_1, .int .i64 a0_2, .int .i64 a0_3, .int .i64 a0_4, .int .i64 a0_5] 58 (0, 0))) := ⟨by (with_reducible repeat (first | refine blk_drewN ?_ _ | refine blk_drew ?_ | refine blk_alloc ?_ _)); refine blk_far ?_ NB252_300.out _; (with_reducible repeat (first | refine blk_drewN ?_ _ | refine blk_drew ?_ | refine blk_alloc ?_ _)); refine blk_far ?_ NB252_300.out _; (with_reducible repeat (first | refine blk_drewN ?_ _ | refine blk_drew ?_ | refine blk_alloc ?_ _)); refine blk_far ?_ NB252_300.out _; (with_reducible repeat (first | refine blk_drewN ?_ _ | refine blk_drew ?_ | refine blk_alloc ?_ _)); refine blk_far ?_ NB252_300.out _; (with_reducible repeat (first | refine blk_drewN ?_ _ | refine blk_drew ?_ | refine blk_alloc ?_ _)); refine blk_far ?_ NB252_300.out _; (with_reducible repeat (first | refine blk_drewN ?_ _ | refine blk_drew ?_ | refine blk_alloc ?_ _)); refine blk_far ?_ NB252_300.out _; (with_reducible repeat (first | refine blk_drewN ?_ _ | refine blk_drew ?_ | refine blk_alloc ?_ _)); refine blk_far ?_ NB252_300.out _; (with_reducible repeat (first | refine blk_drewN ?_ _ | refine blk_drew ?_ | refine blk_alloc ?_ _)); refine blk_far ?_ NB252_300.out _; (with_reducible repeat (first | refine blk_drewN ?_ _ | refine blk_drew ?_ | refine blk_alloc ?_ _)); refine blk_far ?_ NB252_300.out _; (with_reducible repeat (first | refine blk_drewN ?_ _ | refine blk_drew ?_ | refine blk_alloc ?_ _)); refine blk_far ?_ NB252_300.out _; (with_reducible repeat (first | refine blk_drewN ?_ _ | refine blk_drew ?_ | refine blk_alloc ?_ _)); refine blk_far ?_ NB252_300.out _; (with_reducible repeat (first | refine blk_drewN ?_ _ | refine blk_drew ?_ | refine blk_alloc ?_ _)); refine blk_far ?_ NB252_300.out _; (with_reducible repeat (first | refine blk_drewN ?_ _ | refine blk_drew ?_ | refine blk_alloc ?_ _)); refine blk_far ?_ NB252_300.out _; (with_reducible repeat (first | refine blk_drewN ?_ _ | refine blk_drew ?_ | refine blk_alloc ?_ _)); exact BK252.out⟩
    have n7_ : Aside0 ((((((((((((((w34.setCell ⟨gb300, 0, none⟩ (.int .i64 t281)).setCell ⟨gb300, 1, none⟩ (.int .i64 t282)).setCell ⟨gb300, 2, none⟩ (.int .i64 t283)).setCell ⟨gb300, 3, none⟩ (.int .i64 t284)).setCell ⟨gb300, 4, none⟩ (.int .i64 t285)).setCell ⟨gb300, 5, none⟩ (.int .i64 t286)).setCell ⟨gb300, 6, none⟩ (.int .i64 t287)).setCell ⟨gb300, 7, none⟩ (.int .i64 t288)).setCell ⟨gb300, 8, none⟩ (.slice Ao38 t289.length co38)).setCell ⟨gb300, 9, none⟩ (.int .i64 t292)).setCell ⟨gb300, 10, none⟩ (.int .i64 t293)).setCell ⟨gb300, 11, none⟩ (.slice Ao39 t294.length co39)).setCell ⟨gb300, 12, none⟩ (.slice Ao40 t297.length co40)).heap[gb253]? = some (.cells #[.int .i64 a1_0, .int .i64 a1_1, .int .i64 a1_2, .int .i64 a1_3, .int .i64 a1_4, .int .i64 a1_5, .int .i64 a1_6, .int .i64 a1_7, .slice A1_8 l1_8.length c1_8, .int .i64 a1_9, .int .i64 a1_10, .slice A1_11 l1_11.length c1_11, .slice A1_12 l1_12.length c1_12] 32 (0, 0))) := ⟨by (with_reducible repeat (first | refine blk_drewN ?_ _ | refine blk_drew ?_ | refine blk_alloc ?_ _)); refine blk_far ?_ NB253_300.out _; (with_reducible repeat (first | refine blk_drewN ?_ _ | refine blk_drew ?_ | refine blk_alloc ?_ _)); refine blk_far ?_ NB253_300.out _; (with_reducible repeat (first | refine blk_drewN ?_ _ | refine blk_drew ?_ | refine blk_alloc ?_ _)); refine blk_far ?_ NB253_300.out _; (with_reducible repeat (first | refine blk_drewN ?_ _ | refine blk_drew ?_ | refine blk_alloc ?_ _)); refine blk_far ?_ NB253_300.out _; (with_reducible repeat (first | refine blk_drewN ?_ _ | refine blk_drew ?_ | refine blk_alloc ?_ _)); refine blk_far ?_ NB253_300.out _; (with_reducible repeat (first | refine blk_drewN ?_ _ | refine blk_drew ?_ | refine blk_alloc ?_ _)); refine blk_far ?_ NB253_300.out _; (with_reducible repeat (first | refine blk_drewN ?_ _ | refine blk_drew ?_ | refine blk_alloc ?_ _)); refine blk_far ?_ NB253_300.out _; (with_reducible repeat (first | refine blk_drewN ?_ _ | refine blk_drew ?_ | refine blk_alloc ?_ _)); refine blk_far ?_ NB253_300.out _; (with_reducible repeat (first | refine blk_drewN ?_ _ | refine blk_drew ?_ | refine blk_alloc ?_ _)); refine blk_far ?_ NB253_300.out _; (with_reducible repeat (first | refine blk_drewN ?_ _ | refine blk_drew ?_ | refine blk_alloc ?_ _)); refine blk_far ?_ NB253_300.out _; (with_reducible repeat (first | refine blk_drewN ?_ _ | refine blk_drew ?_ | refine blk_alloc ?_ _)); refine blk_far ?_ NB253_300.out _; (with_reducible repeat (first | refine blk_drewN ?_ _ | refine blk_drew ?_ | refine blk_alloc ?_ _)); refine blk_far ?_ NB253_300.out _; (with_reducible repeat (first | refine blk_drewN ?_ _ | refine blk_drew ?_ | refine blk_alloc ?_ _)); refine blk_far ?_ NB253_300.out _; (with_reducible repeat (first | refine blk_drewN ?_ _ | refine blk_drew ?_ | refine blk_alloc ?_ _)); exact BK253.out⟩
    have n8_ : Aside0 ((((((((((((((w34.setCell ⟨gb300, 0, none⟩ (.int .i64 t281)).setCell ⟨gb300, 1, none⟩ (.int .i64 t282)).setCell ⟨gb300, 2, none⟩ (.int .i64 t283)).setCell ⟨gb300, 3, none⟩ (.int .i64 t284)).setCell ⟨gb300, 4, none⟩ (.int .i64 t285)).setCell ⟨gb300, 5, none⟩ (.int .i64 t286)).setCell ⟨gb300, 6, none⟩ (.int .i64 t287)).setCell ⟨gb300, 7, none⟩ (.int .i64 t288)).setCell ⟨gb300, 8, none⟩ (.slice Ao38 t289.length co38)).setCell ⟨gb300, 9, none⟩ (.int .i64 t292)).setCell ⟨gb300, 10, none⟩ (.int .i64 t293)).setCell ⟨gb300, 11, none⟩ (.slice Ao39 t294.length co39)).setCell ⟨gb300, 12, none⟩ (.slice Ao40 t297.length co40)).heap[gb300]? = some (.cells #[.int .i64 t281, .int .i64 t282, .int .i64 t283, .int .i64 t284, .int .i64 t285, .int .i64 t286, .int .i64 t287, .int .i64 t288, .slice Ao38 t289.length co38, .int .i64 t292, .int .i64 t293, .slice Ao39 t294.length co39, .slice Ao40 t297.length co40] 37 (0, 0))) := ⟨by (with_reducible repeat (first | refine blk_drewN ?_ _ | refine blk_drew ?_ | refine blk_alloc ?_ _)); refine blk_put (cs := #[.int .i64 t281, .int .i64 t282, .int .i64 t283, .int .i64 t284, .int .i64 t285, .int .i64 t286, .int .i64 t287, .int .i64 t288, .slice Ao38 t289.length co38, .int .i64 t292, .int .i64 t293, .slice Ao39 t294.length co39, .slice none 0 0]) ?_ 12 _ rfl; (with_reducible repeat (first | refine blk_drewN ?_ _ | refine blk_drew ?_ | refine blk_alloc ?_ _)); refine blk_put (cs := #[.int .i64 t281, .int .i64 t282, .int .i64 t283, .int .i64 t284, .int .i64 t285, .int .i64 t286, .int .i64 t287, .int .i64 t288, .slice Ao38 t289.length co38, .int .i64 t292, .int .i64 t293, .slice none 0 0, .slice none 0 0]) ?_ 11 _ rfl; (with_reducible repeat (first | refine blk_drewN ?_ _ | refine blk_drew ?_ | refine blk_alloc ?_ _)); refine blk_put (cs := #[.int .i64 t281, .int .i64 t282, .int .i64 t283, .int .i64 t284, .int .i64 t285, .int .i64 t286, .int .i64 t287, .int .i64 t288, .slice Ao38 t289.length co38, .int .i64 t292, .int .i64 0, .slice none 0 0, .slice none 0 0]) ?_ 10 _ rfl; (with_reducible repeat (first | refine blk_drewN ?_ _ | refine blk_drew ?_ | refine blk_alloc ?_ _)); refine blk_put (cs := #[.int .i64 t281, .int .i64 t282, .int .i64 t283, .int .i64 t284, .int .i64 t285, .int .i64 t286, .int .i64 t287, .int .i64 t288, .slice Ao38 t289.length co38, .int .i64 0, .int .i64 0, .slice none 0 0, .slice none 0 0]) ?_ 9 _ rfl; (with_reducible repeat (first | refine blk_drewN ?_ _ | refine blk_drew ?_ | refine blk_alloc ?_ _)); refine blk_put (cs := #[.int .i64 t281, .int .i64 t282, .int .i64 t283, .int .i64 t284, .int .i64 t285, .int .i64 t286, .int .i64 t287, .int .i64 t288, .slice none 0 0, .int .i64 0, .int .i64 0, .slice none 0 0, .slice none 0 0]) ?_ 8 _ rfl; (with_reducible repeat (first | refine blk_drewN ?_ _ | refine blk_drew ?_ | refine blk_alloc ?_ _)); refine blk_put (cs := #[.int .i64 t281, .int .i64 t282, .int .i64 t283, .int .i64 t284, .int .i64 t285, .int .i64 t286, .int .i64 t287, .int .i64 0, .slice none 0 0, .int .i64 0, .int .i64 0, .slice none 0 0, .slice none 0 0]) ?_ 7 _ rfl; (with_reducible repeat (first | refine blk_drewN ?_ _ | refine blk_drew ?_ | refine blk_alloc ?_ _)); refine blk_put (cs := #[.int .i64 t281, .int .i64 t282, .int .i64 t283, .int .i64 t284, .int .i64 t285, .int .i64 t286, .int .i64 0, .int .i64 0, .slice none 0 0, .int .i64 0, .int .i64 0, .slice none 0 0, .slice none 0 0]) ?_ 6 _ rfl; (with_reducible repeat (first | refine blk_drewN ?_ _ | refine blk_drew ?_ | refine blk_alloc ?_ _)); refine blk_put (cs := #[.int .i64 t281, .int .i64 t282, .int .i64 t283, .int .i64 t284, .int .i64 t285, .int .i64 0, .int .i64 0, .int .i64 0, .slice none 0 0, .int .i64 0, .int .i64 0, .slice none 0 0, .slice none 0 0]) ?_ 5 _ rfl; (with_reducible repeat (first | refine blk_drewN ?_ _ | refine blk_drew ?_ | refine blk_alloc ?_ _)); refine blk_put (cs := #[.int .i64 t281, .int .i64 t282, .int .i64 t283, .int .i64 t284, .int .i64 0, .int .i64 0, .int .i64 0, .int .i64 0, .slice none 0 0, .int .i64 0, .int .i64 0, .slice none 0 0, .slice none 0 0]) ?_ 4 _ rfl; (with_reducible repeat (first | refine blk_drewN ?_ _ | refine blk_drew ?_ | refine blk_alloc ?_ _)); refine blk_put (cs := #[.int .i64 t281, .int .i64 t282, .int .i64 t283, .int .i64 0, .int .i64 0, .int .i64 0, .int .i64 0, .int .i64 0, .slice none 0 0, .int .i64 0, .int .i64 0, .slice none 0 0, .slice none 0 0]) ?_ 3 _ rfl; (with_reducible repeat (first | refine blk_drewN ?_ _ | refine blk_drew ?_ | refine blk_alloc ?_ _)); refine blk_put (cs := #[.int .i64 t281, .int .i64 t282, .int .i64 0, .int .i64 0, .int .i64 0, .int .i64 0, .int .i64 0, .int .i64 0, .slice none 0 0, .int .i64 0, .int .i64 0, .slice none 0 0, .slice none 0 0]) ?_ 2 _ rfl; (with_reducible repeat (first | refine blk_drewN ?_ _ | refine blk_drew ?_ | refine blk_alloc ?_ _)); refine blk_put (cs := #[.int .i64 t281, .int .i64 0, .int .i64 0, .int .i64 0, .int .i64 0, .int .i64 0, .int .i64 0, .int .i64 0, .slice none 0 0, .int .i64 0, .int .i64 0, .slice none 0 0, .slice none 0 0]) ?_ 1 _ rfl; (with_reducible repeat (first | refine blk_drewN ?_ _ | refine blk_drew ?_ | refine blk_alloc ?_ _)); refine blk_put (cs := #[.int .i64 0, .int .i64 0, .int .i64 0, .int .i64 0, .int .i64 0, .int .i64 0, .int .i64 0, .int .i64 0, .slice none 0 0, .int .i64 0, .int .i64 0, .slice none 0 0, .slice none 0 0]) ?_ 0 _ rfl; (with_reducible repeat (first | refine blk_drewN ?_ _ | refine blk_drew ?_ | refine blk_alloc ?_ _)); exact BK300.out⟩
    have n9_ : Aside0 (Below w.heap.size w (((((((((((((w34.setCell ⟨gb300, 0, none⟩ (.int .i64 t281)).setCell ⟨gb300, 1, none⟩ (.int .i64 t282)).setCell ⟨gb300, 2, none⟩ (.int .i64 t283)).setCell ⟨gb300, 3, none⟩ (.int .i64 t284)).setCell ⟨gb300, 4, none⟩ (.int .i64 t285)).setCell ⟨gb300, 5, none⟩ (.int .i64 t286)).setCell ⟨gb300, 6, none⟩ (.int .i64 t287)).setCell ⟨gb300, 7, none⟩ (.int .i64 t288)).setCell ⟨gb300, 8, none⟩ (.slice Ao38 t289.length co38)).setCell ⟨gb300, 9, none⟩ (.int .i64 t292)).setCell ⟨gb300, 10, none⟩ (.int .i64 t293)).setCell ⟨gb300, 11, none⟩ (.slice Ao39 t294.length co39)).setCell ⟨gb300, 12, none⟩ (.slice Ao40 t297.length co40))) := ⟨by repeat (first | (with_reducible first | exact HB.out | apply below_alloc | apply pw_below_drewN | apply below_drew1 | refine below_set ?_ GE252.out | refine below_set ?_ GE253.out | refine below_set ?_ GE300.out) | exact HB.out)⟩
    (try clear HO271)
    (try clear HO276)
    (try clear HO279)
    (try clear HO291)
    (try clear HO296)
    (try clear HO299)
    (try clear BK252)
    (try clear BK253)
    (try clear BK300)
    (try clear HB)
    generalize (((((((((((((w34.setCell ⟨gb300, 0, none⟩ (.int .i64 t281)).setCell ⟨gb300, 1, none⟩ (.int .i64 t282)).setCell ⟨gb300, 2, none⟩ (.int .i64 t283)).setCell ⟨gb300, 3, none⟩ (.int .i64 t284)).setCell ⟨gb300, 4, none⟩ (.int .i64 t285)).setCell ⟨gb300, 5, none⟩ (.int .i64 t286)).setCell ⟨gb300, 6, none⟩ (.int .i64 t287)).setCell ⟨gb300, 7, none⟩ (.int .i64 t288)).setCell ⟨gb300, 8, none⟩ (.slice Ao38 t289.length co38)).setCell ⟨gb300, 9, none⟩ (.int .i64 t292)).setCell ⟨gb300, 10, none⟩ (.int .i64 t293)).setCell ⟨gb300, 11, none⟩ (.slice Ao39 t294.length co39)).setCell ⟨gb300, 12, none⟩ (.slice Ao40 t297.length co40)) = w41 at n0_ n1_ n2_ n3_ n4_ n5_ n6_ n7_ n8_ n9_ ⊢
    have HO271 := n0_
    have HO276 := n1_
    have HO279 := n2_
    have HO291 := n3_
    have HO296 := n4_
    have HO299 := n5_
    have BK252 := n6_
    have BK253 := n7_
    have BK300 := n8_
    have HB := n9_
    clear n0_ n1_ n2_ n3_ n4_ n5_ n6_ n7_ n8_ n9_
    have n0_ := Aside0.mk (Kd.R_drew HO271.out)
    have n1_ := Aside0.mk (Kd.R_drew HO276.out)
    have n2_ := Aside0.mk (Kd.R_drew HO279.out)
    have n3_ := Aside0.mk (Kd.R_drew HO291.out)
    have n4_ := Aside0.mk (Kd.R_drew HO296.out)
    have n5_ := Aside0.mk (Kd.R_drew HO299.out)
    have n6_ := Aside0.mk (blk_drew BK252.out)
    have n7_ := Aside0.mk (blk_drew BK253.out)
    have n8_ := Aside0.mk (blk_drew BK300.out)
    have n9_ := Aside0.mk (below_drew1 HB.out)
    clear HO271
    clear HO276
    clear HO279
    clear HO291
    clear HO296
    clear HO299
    clear BK252
    clear BK253
    clear BK300
    clear HB
    have HO271 := n0_
    have HO276 := n1_
    have HO279 := n2_
    have HO291 := n3_
    have HO296 := n4_
    have HO299 := n5_
    have BK252 := n6_
    have BK253 := n7_
    have BK300 := n8_
    have HB := n9_
    clear n0_ n1_ n2_ n3_ n4_ n5_ n6_ n7_ n8_ n9_
    refine start_ (n := 5) (S := fun w' => w'.cell? ⟨gb252, 0, none⟩ = some (.int .i64 a0_0) ∧ w'.cell? ⟨gb252, 1, none⟩ = some (.int .i64 a0_1) ∧ w'.cell? ⟨gb252, 2, none⟩ = some (.int .i64 a0_2) ∧ w'.cell? ⟨gb252, 3, none⟩ = some (.int .i64 a0_3) ∧ w'.cell? ⟨gb252, 4, none⟩ = some (.int .i64 a0_4) ∧ w'.cell? ⟨gb252, 5, none⟩ = some (.int .i64 a0_5) ∧ w'.cell? ⟨gb300, 0, none⟩ = some (.int .i64 t281) ∧ w'.cell? ⟨gb300, 1, none⟩ = some (.int .i64 t282) ∧ w'.cell? ⟨gb300, 2, none⟩ = some (.int .i64 t283) ∧ w'.cell? ⟨gb300, 3, none⟩ = some (.int .i64 t284) ∧ w'.cell? ⟨gb300, 4, none⟩ = some (.int .i64 t285) ∧ w'.cell? ⟨gb300, 5, none⟩ = some (.int .i64 t286) ∧ w'.cell? ⟨gb300, 6, none⟩ = some (.int .i64 t287) ∧ w'.cell? ⟨gb300, 7, none⟩ = some (.int .i64 t288) ∧ w'.cell? ⟨gb300, 8, none⟩ = some (.slice Ao38 t289.length co38) ∧ w'.cell? ⟨gb300, 9, none⟩ = some (.int .i64 t292) ∧ w'.cell? ⟨gb300, 10, none⟩ = some (.int .i64 t293) ∧ w'.cell? ⟨gb300, 11, none⟩ = some (.slice Ao39 t294.length co39) ∧ w'.cell? ⟨gb300, 12, none⟩ = some (.slice Ao40 t297.length co40)) (ds := []) #[false, false, false, false, false] (by kernel_rfl) rfl rfl ⟨(blk_cell BK252.out 0).trans rfl, (blk_cell BK252.out 1).trans rfl, (blk_cell BK252.out 2).trans rfl, (blk_cell BK252.out 3).trans rfl, (blk_cell BK252.out 4).trans rfl, (blk_cell BK252.out 5).trans rfl, (blk_cell BK300.out 0).trans rfl, (blk_cell BK300.out 1).trans rfl, (blk_cell BK300.out 2).trans rfl, (blk_cell BK300.out 3).trans rfl, (blk_cell BK300.out 4).trans rfl, (blk_cell BK300.out 5).trans rfl, (blk_cell BK300.out 6).trans rfl, (blk_cell BK300.out 7).trans rfl, (blk_cell BK300.out 8).trans rfl, (blk_cell BK300.out 9).trans rfl, (blk_cell BK300.out 10).trans rfl, (blk_cell BK300.out 11).trans rfl, (blk_cell BK300.out 12).trans rfl⟩ (fun hHeld => ?_)
    generalize w41.drew = w42 at HO271 HO276 HO279 HO291 HO296 HO299 BK252 BK253 BK300 HB hHeld ⊢
    refine take_ (i := 0) (N := some 21) (v := ?_) (a' := ?_) #[true, false, false, false, false] rfl rfl (by kernel_rfl) (fun _ _ _ h => h) (Or.inl ⟨by rfl, ?_⟩) hHeld ?_ ?_
    rotate_left
    ·rintro w' ⟨s0, s1, s2, s3, s4, s5, s6, s7, s8, s9, s10, s11, s12, s13, s14, s15, s16, s17, s18⟩
     go_simp
     with_reducible rfl
    rotate_left
    ·simp only [Act.put, List.setIfInBounds_toArray, List.set_cons_zero, List.set_cons_succ, i64_w, i32_w]
     rfl
    refine take_ (i := 2) (N := some 23) (v := ?_) (a' := ?_) #[true, false, true, false, false] rfl rfl (by kernel_rfl) (fun _ _ _ h => h) (Or.inl ⟨by rfl, ?_⟩) hHeld ?_ ?_
    rotate_left
    ·rintro w' ⟨s0, s1, s2, s3, s4, s5, s6, s7, s8, s9, s10, s11, s12, s13, s14, s15, s16, s17, s18⟩
     go_simp
     with_reducible rfl
    rotate_left
    ·simp only [Act.put, List.setIfInBounds_toArray, List.set_cons_zero, List.set_cons_succ, i64_w, i32_w]
     rfl
    refine one_ (i := 1) (N := some 22) #[true, true, true, false, false] rfl rfl (by kernel_rfl) (by decide) (fun K hK => ?_)
    refine goes_ Try.func41 (by kernel_rfl) rfl #[.agg #[.int .i64 a0_0, .int .i64 a0_1, .int .i64 a0_2, .int .i64 a0_3, .int .i64 a0_4, .int .i64 a0_5]] (by rfl) rfl rfl q42t ?_
    with_reducible refine (laws_toConf.calls a0_0 a0_1 a0_2 a0_3 a0_4 a0_5 t301 t302 t303 t304 t305 t306 _ A14.out).mono ?_
    rintro e w43 ⟨rfl, hb⟩
    refine ⟨_, rfl, ?_⟩
    have n0_ := Aside0.mk (Kd.R_below q62t hb)
    have n1_ := Aside0.mk (Kd.R_below q63t hb)
    have n2_ := Aside0.mk (Kd.R_below q64t hb)
    have n3_ := Aside0.mk (Kd.R_below q65t hb)
    have n4_ := Aside0.mk (Kd.R_below q66t hb)
    have n5_ := Aside0.mk (Kd.R_below q67t hb)
    have n6_ := Aside0.mk (blk_below (g := gb252) (o := .cells #[.int .i64 a0_0, .int .i64 a0_1, .int .i64 a0_2, .int .i64 a0_3, .int .i64 a0_4, .int .i64 a0_5] 58 (0, 0)) q58t hb)
    have n7_ := Aside0.mk (blk_below (g := gb253) (o := .cells #[.int .i64 a1_0, .int .i64 a1_1, .int .i64 a1_2, .int .i64 a1_3, .int .i64 a1_4, .int .i64 a1_5, .int .i64 a1_6, .int .i64 a1_7, .slice A1_8 l1_8.length c1_8, .int .i64 a1_9, .int .i64 a1_10, .slice A1_11 l1_11.length c1_11, .slice A1_12 l1_12.length c1_12] 32 (0, 0)) q59t hb)
    have n8_ := Aside0.mk (blk_below (g := gb300) (o := .cells #[.int .i64 t281, .int .i64 t282, .int .i64 t283, .int .i64 t284, .int .i64 t285, .int .i64 t286, .int .i64 t287, .int .i64 t288, .slice Ao38 t289.length co38, .int .i64 t292, .int .i64 t293, .slice Ao39 t294.length co39, .slice Ao40 t297.length co40] 37 (0, 0)) q60t hb)
    have n9_ := Aside0.mk (below_step q13t hb)
    clear HO271
    clear HO276
    clear HO279
    clear HO291
    clear HO296
    clear HO299
    clear BK252
    clear BK253
    clear BK300
    clear HB
    have HO271 := n0_
    have HO276 := n1_
    have HO279 := n2_
    have HO291 := n3_
    have HO296 := n4_
    have HO299 := n5_
    have BK252 := n6_
    have BK253 := n7_
    have BK300 := n8_
    have HB := n9_
    clear n0_ n1_ n2_ n3_ n4_ n5_ n6_ n7_ n8_ n9_
    (try clear hb)
    (try clear hb2)
    (try clear hk)
    (try clear hi)
    refine hK.out _ _ (by first | exact ⟨(blk_cell BK252.out 0).trans rfl, (blk_cell BK252.out 1).trans rfl, (blk_cell BK252.out 2).trans rfl, (blk_cell BK252.out 3).trans rfl, (blk_cell BK252.out 4).trans rfl, (blk_cell BK252.out 5).trans rfl, (blk_cell BK300.out 0).trans rfl, (blk_cell BK300.out 1).trans rfl, (blk_cell BK300.out 2).trans rfl, (blk_cell BK300.out 3).trans rfl, (blk_cell BK300.out 4).trans rfl, (blk_cell BK300.out 5).trans rfl, (blk_cell BK300.out 6).trans rfl, (blk_cell BK300.out 7).trans rfl, (blk_cell BK300.out 8).trans rfl, (blk_cell BK300.out 9).trans rfl, (blk_cell BK300.out 10).trans rfl, (blk_cell BK300.out 11).trans rfl, (blk_cell BK300.out 12).trans rfl⟩ | exact hHeld) (fun hHeld => ?_)
    clear hK K
    refine norm_ (a' := ?_) ?_ ?_
    rotate_left
    ·show Act.put _ (some 22) _ = _
     simp only [Act.put, List.setIfInBounds_toArray, List.set_cons_zero, List.set_cons_succ, i64_w, i32_w]
     rfl
    refine one_ (i := 3) (N := some 24) #[true, true, true, true, false] rfl rfl (by kernel_rfl) (by decide) (fun K hK => ?_)
    refine goes_ Try.func47 (by kernel_rfl) rfl #[.agg #[.int .i64 t301, .int .i64 t302, .int .i64 t303, .int .i64 t304, .int .i64 t305, .int .i64 t306], .agg #[.int .i64 t281, .int .i64 t282, .int .i64 t283, .int .i64 t284, .int .i64 t285, .int .i64 t286, .int .i64 t287, .int .i64 t288, .slice Ao38 t289.length co38, .int .i64 t292, .int .i64 t293, .slice Ao39 t294.length co39, .slice Ao40 t297.length co40]] (by rfl) rfl rfl q42t ?_
    with_reducible refine (impl_NodeOk.calls k t301 t302 t303 t304 t305 t306 t281 t282 t283 t284 t285 t286 t287 t288 _ _ t289 t292 t293 _ _ t294 _ _ t297 t307 _ ?side1 ?side2 ?side3 ?side4 ?side5 ?side6 A15.out).mono ?_
    (case side1 => repeat (first | exact (Kd.R_reads' HO291.out).2.2 | (with_reducible refine Kd.C_alloc ?_ _) | (with_reducible refine Kd.C_drewN ?_ _) | (with_reducible refine Kd.C_drew ?_)))
    (case side2 => exact (Kd.R_reads' HO291.out).2.1)
    (case side3 => repeat (first | exact (Kd.R_reads' HO296.out).2.2 | (with_reducible refine Kd.C_alloc ?_ _) | (with_reducible refine Kd.C_drewN ?_ _) | (with_reducible refine Kd.C_drew ?_)))
    (case side4 => exact (Kd.R_reads' HO296.out).2.1)
    (case side5 => repeat (first | exact (Kd.R_reads' HO299.out).2.2 | (with_reducible refine Kd.C_alloc ?_ _) | (with_reducible refine Kd.C_drewN ?_ _) | (with_reducible refine Kd.C_drew ?_)))
    (case side6 => exact (Kd.R_reads' HO299.out).2.1)
    rintro e w44 ⟨rfl, hb⟩
    refine ⟨_, rfl, ?_⟩
    have n0_ := Aside0.mk (Kd.R_below q62t hb)
    have n1_ := Aside0.mk (Kd.R_below q63t hb)
    have n2_ := Aside0.mk (Kd.R_below q64t hb)
    have n3_ := Aside0.mk (Kd.R_below q65t hb)
    have n4_ := Aside0.mk (Kd.R_below q66t hb)
    have n5_ := Aside0.mk (Kd.R_below q67t hb)
    have n6_ := Aside0.mk (blk_below (g := gb252) (o := .cells #[.int .i64 a0_0, .int .i64 a0_1, .int .i64 a0_2, .int .i64 a0_3, .int .i64 a0_4, .int .i64 a0_5] 58 (0, 0)) q58t hb)
    have n7_ := Aside0.mk (blk_below (g := gb253) (o := .cells #[.int .i64 a1_0, .int .i64 a1_1, .int .i64 a1_2, .int .i64 a1_3, .int .i64 a1_4, .int .i64 a1_5, .int .i64 a1_6, .int .i64 a1_7, .slice A1_8 l1_8.length c1_8, .int .i64 a1_9, .int .i64 a1_10, .slice A1_11 l1_11.length c1_11, .slice A1_12 l1_12.length c1_12] 32 (0, 0)) q59t hb)
    have n8_ := Aside0.mk (blk_below (g := gb300) (o := .cells #[.int .i64 t281, .int .i64 t282, .int .i64 t283, .int .i64 t284, .int .i64 t285, .int .i64 t286, .int .i64 t287, .int .i64 t288, .slice Ao38 t289.length co38, .int .i64 t292, .int .i64 t293, .slice Ao39 t294.length co39, .slice Ao40 t297.length co40] 37 (0, 0)) q60t hb)
    have n9_ := Aside0.mk (below_step q13t hb)
    clear HO271
    clear HO276
    clear HO279
    clear HO291
    clear HO296
    clear HO299
    clear BK252
    clear BK253
    clear BK300
    clear HB
    have HO271 := n0_
    have HO276 := n1_
    have HO279 := n2_
    have HO291 := n3_
    have HO296 := n4_
    have HO299 := n5_
    have BK252 := n6_
    have BK253 := n7_
    have BK300 := n8_
    have HB := n9_
    clear n0_ n1_ n2_ n3_ n4_ n5_ n6_ n7_ n8_ n9_
    (try clear hb)
    (try clear hb2)
    (try clear hk)
    (try clear hi)
    refine hK.out _ _ (by first | exact ⟨(blk_cell BK252.out 0).trans rfl, (blk_cell BK252.out 1).trans rfl, (blk_cell BK252.out 2).trans rfl, (blk_cell BK252.out 3).trans rfl, (blk_cell BK252.out 4).trans rfl, (blk_cell BK252.out 5).trans rfl, (blk_cell BK300.out 0).trans rfl, (blk_cell BK300.out 1).trans rfl, (blk_cell BK300.out 2).trans rfl, (blk_cell BK300.out 3).trans rfl, (blk_cell BK300.out 4).trans rfl, (blk_cell BK300.out 5).trans rfl, (blk_cell BK300.out 6).trans rfl, (blk_cell BK300.out 7).trans rfl, (blk_cell BK300.out 8).trans rfl, (blk_cell BK300.out 9).trans rfl, (blk_cell BK300.out 10).trans rfl, (blk_cell BK300.out 11).trans rfl, (blk_cell BK300.out 12).trans rfl⟩ | exact hHeld) (fun hHeld => ?_)
    clear hK K
    refine norm_ (a' := ?_) ?_ ?_
    rotate_left
    ·show Act.put _ (some 24) _ = _
     simp only [Act.put, List.setIfInBounds_toArray, List.set_cons_zero, List.set_cons_succ, i64_w, i32_w]
     rfl
    refine pure_ (i := 4) (N := some 8) (v := ?_) (a' := ?_) #[true, true, true, true, true] rfl rfl (by kernel_rfl) (fun _ _ _ h => h) (Or.inl ⟨by rfl, ?_⟩) ?_ ?_
    rotate_left
    ·intro w'
     go_simp
     with_reducible rfl
    rotate_left
    ·simp only [Act.put, List.setIfInBounds_toArray, List.set_cons_zero, List.set_cons_succ, i64_w, i32_w]
     rfl
    refine done_ (by kernel_rfl) ?_
    try go_wp2
    have n0_ := Aside0.mk (Kd.R_drew HO271.out)
    have n1_ := Aside0.mk (Kd.R_drew HO276.out)
    have n2_ := Aside0.mk (Kd.R_drew HO279.out)
    have n3_ := Aside0.mk (Kd.R_drew HO291.out)
    have n4_ := Aside0.mk (Kd.R_drew HO296.out)
    have n5_ := Aside0.mk (Kd.R_drew HO299.out)
    have n6_ := Aside0.mk (blk_drew BK252.out)
    have n7_ := Aside0.mk (blk_drew BK253.out)
    have n8_ := Aside0.mk (blk_drew BK300.out)
    have n9_ := Aside0.mk (below_drew1 HB.out)
    clear HO271
    clear HO276
    clear HO279
    clear HO291
    clear HO296
    clear HO299
    clear BK252
    clear BK253
    clear BK300
    clear HB
    have HO271 := n0_
    have HO276 := n1_
    have HO279 := n2_
    have HO291 := n3_
    have HO296 := n4_
    have HO299 := n5_
    have BK252 := n6_
    have BK253 := n7_
    have BK300 := n8_
    have HB := n9_
    clear n0_ n1_ n2_ n3_ n4_ n5_ n6_ n7_ n8_ n9_
    refine start_ (n := 5) (S := fun w' => w'.cell? ⟨gb300, 0, none⟩ = some (.int .i64 t281) ∧ w'.cell? ⟨gb300, 1, none⟩ = some (.int .i64 t282) ∧ w'.cell? ⟨gb300, 2, none⟩ = some (.int .i64 t283) ∧ w'.cell? ⟨gb300, 3, none⟩ = some (.int .i64 t284) ∧ w'.cell? ⟨gb300, 4, none⟩ = some (.int .i64 t285) ∧ w'.cell? ⟨gb300, 5, none⟩ = some (.int .i64 t286) ∧ w'.cell? ⟨gb300, 6, none⟩ = some (.int .i64 t287) ∧ w'.cell? ⟨gb300, 7, none⟩ = some (.int .i64 t288) ∧ w'.cell? ⟨gb300, 8, none⟩ = some (.slice Ao38 t289.length co38) ∧ w'.cell? ⟨gb300, 9, none⟩ = some (.int .i64 t292) ∧ w'.cell? ⟨gb300, 10, none⟩ = some (.int .i64 t293) ∧ w'.cell? ⟨gb300, 11, none⟩ = some (.slice Ao39 t294.length co39) ∧ w'.cell? ⟨gb300, 12, none⟩ = some (.slice Ao40 t297.length co40) ∧ w'.cell? ⟨gb253, 0, none⟩ = some (.int .i64 a1_0) ∧ w'.cell? ⟨gb253, 1, none⟩ = some (.int .i64 a1_1) ∧ w'.cell? ⟨gb253, 2, none⟩ = some (.int .i64 a1_2) ∧ w'.cell? ⟨gb253, 3, none⟩ = some (.int .i64 a1_3) ∧ w'.cell? ⟨gb253, 4, none⟩ = some (.int .i64 a1_4) ∧ w'.cell? ⟨gb253, 5, none⟩ = some (.int .i64 a1_5) ∧ w'.cell? ⟨gb253, 6, none⟩ = some (.int .i64 a1_6) ∧ w'.cell? ⟨gb253, 7, none⟩ = some (.int .i64 a1_7) ∧ w'.cell? ⟨gb253, 8, none⟩ = some (.slice A1_8 l1_8.length c1_8) ∧ w'.cell? ⟨gb253, 9, none⟩ = some (.int .i64 a1_9) ∧ w'.cell? ⟨gb253, 10, none⟩ = some (.int .i64 a1_10) ∧ w'.cell? ⟨gb253, 11, none⟩ = some (.slice A1_11 l1_11.length c1_11) ∧ w'.cell? ⟨gb253, 12, none⟩ = some (.slice A1_12 l1_12.length c1_12)) (ds := []) #[false, false, false, false, false] (by kernel_rfl) rfl rfl ⟨(blk_cell BK300.out 0).trans rfl, (blk_cell BK300.out 1).trans rfl, (blk_cell BK300.out 2).trans rfl, (blk_cell BK300.out 3).trans rfl, (blk_cell BK300.out 4).trans rfl, (blk_cell BK300.out 5).trans rfl, (blk_cell BK300.out 6).trans rfl, (blk_cell BK300.out 7).trans rfl, (blk_cell BK300.out 8).trans rfl, (blk_cell BK300.out 9).trans rfl, (blk_cell BK300.out 10).trans rfl, (blk_cell BK300.out 11).trans rfl, (blk_cell BK300.out 12).trans rfl, (blk_cell BK253.out 0).trans rfl, (blk_cell BK253.out 1).trans rfl, (blk_cell BK253.out 2).trans rfl, (blk_cell BK253.out 3).trans rfl, (blk_cell BK253.out 4).trans rfl, (blk_cell BK253.out 5).trans rfl, (blk_cell BK253.out 6).trans rfl, (blk_cell BK253.out 7).trans rfl, (blk_cell BK253.out 8).trans rfl, (blk_cell BK253.out 9).trans rfl, (blk_cell BK253.out 10).trans rfl, (blk_cell BK253.out 11).trans rfl, (blk_cell BK253.out 12).trans rfl⟩ (fun hHeld => ?_)
    generalize w44.drew = w45 at HO271 HO276 HO279 HO291 HO296 HO299 BK252 BK253 BK300 HB hHeld ⊢
    refine take_ (i := 0) (N := some 28) (v := ?_) (a' := ?_) #[true, false, false, false, false] rfl rfl (by kernel_rfl) (fun _ _ _ h => h) (Or.inl ⟨by rfl, ?_⟩) hHeld ?_ ?_
    rotate_left
    ·rintro w' ⟨s0, s1, s2, s3, s4, s5, s6, s7, s8, s9, s10, s11, s12, s13, s14, s15, s16, s17, s18, s19, s20, s21, s22, s23, s24, s25⟩
     go_simp
     with_reducible rfl
    rotate_left
    ·simp only [Act.put, List.setIfInBounds_toArray, List.set_cons_zero, List.set_cons_succ, i64_w, i32_w]
     rfl
    refine take_ (i := 1) (N := some 29) (v := ?_) (a' := ?_) #[true, true, false, false, false] rfl rfl (by kernel_rfl) (fun _ _ _ h => h) (Or.inl ⟨by rfl, ?_⟩) hHeld ?_ ?_
    rotate_left
    ·rintro w' ⟨s0, s1, s2, s3, s4, s5, s6, s7, s8, s9, s10, s11, s12, s13, s14, s15, s16, s17, s18, s19, s20, s21, s22, s23, s24, s25⟩
     go_simp
     with_reducible rfl
    rotate_left
    ·simp only [Act.put, List.setIfInBounds_toArray, List.set_cons_zero, List.set_cons_succ, i64_w, i32_w]
     rfl
    refine one_ (i := 2) (N := some 30) #[true, true, true, false, false] rfl rfl (by kernel_rfl) (by decide) (fun K hK => ?_)
    refine goes_ Try.func20 (by kernel_rfl) rfl #[.agg #[.int .i64 a1_0, .int .i64 a1_1, .int .i64 a1_2, .int .i64 a1_3, .int .i64 a1_4, .int .i64 a1_5, .int .i64 a1_6, .int .i64 a1_7, .slice A1_8 l1_8.length c1_8, .int .i64 a1_9, .int .i64 a1_10, .slice A1_11 l1_11.length c1_11, .slice A1_12 l1_12.length c1_12]] (by rfl) rfl rfl q42t ?_
    with_reducible refine (laws_toNode.calls k a1_0 a1_1 a1_2 a1_3 a1_4 a1_5 a1_6 a1_7 _ _ l1_8 a1_9 a1_10 _ _ l1_11 _ _ l1_12 t308 t309 t310 t311 t312 t313 t314 t315 t316 t319 t320 t321 t324 _ ?side1 ?side2 ?side3 ?side4 ?side5 ?side6 A17.out).mono ?_
    (case side1 => repeat (first | exact (Kd.C_below HR1_8.out HB.out) | (with_reducible refine Kd.C_alloc ?_ _) | (with_reducible refine Kd.C_drewN ?_ _) | (with_reducible refine Kd.C_drew ?_)))
    (case side2 => exact HC1_8.out)
    (case side3 => repeat (first | exact (Kd.C_below HR1_11.out HB.out) | (with_reducible refine Kd.C_alloc ?_ _) | (with_reducible refine Kd.C_drewN ?_ _) | (with_reducible refine Kd.C_drew ?_)))
    (case side4 => exact HC1_11.out)
    (case side5 => repeat (first | exact (Kd.C_below HR1_12.out HB.out) | (with_reducible refine Kd.C_alloc ?_ _) | (with_reducible refine Kd.C_drewN ?_ _) | (with_reducible refine Kd.C_drew ?_)))
    (case side6 => exact HC1_12.out)
    rintro e w46 ⟨v317, v322, v325, rfl, ho0, ho1, ho2, hb⟩
    refine ⟨_, rfl, ?_⟩
    have n0_ := Aside0.mk (Kd.R_mono (Kd.R_told (Kd.R_told (Kd.R_old q62t hb) (Kd.R_base ho0)) (Kd.R_base ho2)) (fun _ h_ => h_.1))
    have n1_ := Aside0.mk (Kd.R_elder' q63t (Kd.R_base ho1) hb)
    have n2_ := Aside0.mk (Kd.R_mono (Kd.R_told (Kd.R_told (Kd.R_old q64t hb) (Kd.R_base ho0)) (Kd.R_base ho2)) (fun _ h_ => h_.1))
    have n3_ := Aside0.mk (Kd.R_mono (Kd.R_told (Kd.R_told (Kd.R_old q65t hb) (Kd.R_base ho0)) (Kd.R_base ho2)) (fun _ h_ => h_.1))
    have n4_ := Aside0.mk (Kd.R_elder' q66t (Kd.R_base ho1) hb)
    have n5_ := Aside0.mk (Kd.R_mono (Kd.R_told (Kd.R_told (Kd.R_old q67t hb) (Kd.R_base ho0)) (Kd.R_base ho2)) (fun _ h_ => h_.1))
    have n6_ := Aside0.mk (Kd.R_lower (Kd.R_new' (Kd.R_new' (Kd.R_new' (Kd.R_new' ho0 (Kd.R_lt q62t)) (Kd.R_lt q64t)) (Kd.R_lt q65t)) (Kd.R_lt q67t)) (below_size q13t))
    have n7_ := Aside0.mk (Kd.R_lower (Kd.R_new' (Kd.R_new' ho1 (Kd.R_lt q63t)) (Kd.R_lt q66t)) (below_size q13t))
    have n8_ := Aside0.mk (Kd.R_lower (Kd.R_new' (Kd.R_new' (Kd.R_new' (Kd.R_new' ho2 (Kd.R_lt q62t)) (Kd.R_lt q64t)) (Kd.R_lt q65t)) (Kd.R_lt q67t)) (below_size q13t))
    have n9_ := Aside0.mk (blk_below (g := gb252) (o := .cells #[.int .i64 a0_0, .int .i64 a0_1, .int .i64 a0_2, .int .i64 a0_3, .int .i64 a0_4, .int .i64 a0_5] 58 (0, 0)) q58t hb)
    have n10_ := Aside0.mk (blk_below (g := gb253) (o := .cells #[.int .i64 a1_0, .int .i64 a1_1, .int .i64 a1_2, .int .i64 a1_3, .int .i64 a1_4, .int .i64 a1_5, .int .i64 a1_6, .int .i64 a1_7, .slice A1_8 l1_8.length c1_8, .int .i64 a1_9, .int .i64 a1_10, .slice A1_11 l1_11.length c1_11, .slice A1_12 l1_12.length c1_12] 32 (0, 0)) q59t hb)
    have n11_ := Aside0.mk (blk_below (g := gb300) (o := .cells #[.int .i64 t281, .int .i64 t282, .int .i64 t283, .int .i64 t284, .int .i64 t285, .int .i64 t286, .int .i64 t287, .int .i64 t288, .slice Ao38 t289.length co38, .int .i64 t292, .int .i64 t293, .slice Ao39 t294.length co39, .slice Ao40 t297.length co40] 37 (0, 0)) q60t hb)
    have n12_ := Aside0.mk (below_step q13t hb)
    clear HO271
    clear HO276
    clear HO279
    clear HO291
    clear HO296
    clear HO299
    clear BK252
    clear BK253
    clear BK300
    clear HB
    have HO271 := n0_
    have HO276 := n1_
    have HO279 := n2_
    have HO291 := n3_
    have HO296 := n4_
    have HO299 := n5_
    have HO318 := n6_
    have HO323 := n7_
    have HO326 := n8_
    have BK252 := n9_
    have BK253 := n10_
    have BK300 := n11_
    have HB := n12_
    clear n0_ n1_ n2_ n3_ n4_ n5_ n6_ n7_ n8_ n9_ n10_ n11_ n12_
    (try clear hb)
    (try clear hb2)
    (try clear hk)
    (try clear hi)
    (try clear ho0)
    (try clear ho1)
    (try clear ho2)
    obtain ⟨Ao47, co47, eo47⟩ := Kd.R_slice HO318.out
    (first | subst eo47 | (injection eo47 with f1_ f2_ f3_; have f4_ := f1_.symm; have f5_ := f3_.symm; clear f1_ f2_ f3_; subst f4_; subst f5_))
    obtain ⟨Ao48, co48, eo48⟩ := Kd.R_slice HO323.out
    (first | subst eo48 | (injection eo48 with f1_ f2_ f3_; have f4_ := f1_.symm; have f5_ := f3_.symm; clear f1_ f2_ f3_; subst f4_; subst f5_))
    obtain ⟨Ao49, co49, eo49⟩ := Kd.R_slice HO326.out
    (first | subst eo49 | (injection eo49 with f1_ f2_ f3_; have f4_ := f1_.symm; have f5_ := f3_.symm; clear f1_ f2_ f3_; subst f4_; subst f5_))
    refine hK.out _ _ (by first | exact ⟨(blk_cell BK300.out 0).trans rfl, (blk_cell BK300.out 1).trans rfl, (blk_cell BK300.out 2).trans rfl, (blk_cell BK300.out 3).trans rfl, (blk_cell BK300.out 4).trans rfl, (blk_cell BK300.out 5).trans rfl, (blk_cell BK300.out 6).trans rfl, (blk_cell BK300.out 7).trans rfl, (blk_cell BK300.out 8).trans rfl, (blk_cell BK300.out 9).trans rfl, (blk_cell BK300.out 10).trans rfl, (blk_cell BK300.out 11).trans rfl, (blk_cell BK300.out 12).trans rfl, (blk_cell BK253.out 0).trans rfl, (blk_cell BK253.out 1).trans rfl, (blk_cell BK253.out 2).trans rfl, (blk_cell BK253.out 3).trans rfl, (blk_cell BK253.out 4).trans rfl, (blk_cell BK253.out 5).trans rfl, (blk_cell BK253.out 6).trans rfl, (blk_cell BK253.out 7).trans rfl, (blk_cell BK253.out 8).trans rfl, (blk_cell BK253.out 9).trans rfl, (blk_cell BK253.out 10).trans rfl, (blk_cell BK253.out 11).trans rfl, (blk_cell BK253.out 12).trans rfl⟩ | exact hHeld) (fun hHeld => ?_)
    clear hK K
    refine norm_ (a' := ?_) ?_ ?_
    rotate_left
    ·show Act.put _ (some 30) _ = _
     simp only [Act.put, List.setIfInBounds_toArray, List.set_cons_zero, List.set_cons_succ, i64_w, i32_w]
     rfl
    refine one_ (i := 3) (N := some 31) #[true, true, true, true, false] rfl rfl (by kernel_rfl) (by decide) (fun K hK => ?_)
    refine goes_ Try.func22 (by kernel_rfl) rfl #[.agg #[.int .i64 t281, .int .i64 t282, .int .i64 t283, .int .i64 t284, .int .i64 t285, .int .i64 t286, .int .i64 t287, .int .i64 t288, .slice Ao38 t289.length co38, .int .i64 t292, .int .i64 t293, .slice Ao39 t294.length co39, .slice Ao40 t297.length co40], .agg #[.int .i64 t308, .int .i64 t309, .int .i64 t310, .int .i64 t311, .int .i64 t312, .int .i64 t313, .int .i64 t314, .int .i64 t315, .slice Ao47 t316.length co47, .int .i64 t319, .int .i64 t320, .slice Ao48 t321.length co48, .slice Ao49 t324.length co49]] (by rfl) rfl rfl q42t ?_
    with_reducible refine (laws_eqNode.calls k t281 t282 t283 t284 t285 t286 t287 t288 _ _ t289 t292 t293 _ _ t294 _ _ t297 t308 t309 t310 t311 t312 t313 t314 t315 _ _ t316 t319 t320 _ _ t321 _ _ t324 true _ ?side1 ?side2 ?side3 ?side4 ?side5 ?side6 ?side7 ?side8 ?side9 ?side10 ?side11 ?side12 A18.out).mono ?_
    (case side1 => repeat (first | exact (Kd.R_reads' HO291.out).2.2 | (with_reducible refine Kd.C_alloc ?_ _) | (with_reducible refine Kd.C_drewN ?_ _) | (with_reducible refine Kd.C_drew ?_)))
    (case side2 => exact (Kd.R_reads' HO291.out).2.1)
    (case side3 => repeat (first | exact (Kd.R_reads' HO296.out).2.2 | (with_reducible refine Kd.C_alloc ?_ _) | (with_reducible refine Kd.C_drewN ?_ _) | (with_reducible refine Kd.C_drew ?_)))
    (case side4 => exact (Kd.R_reads' HO296.out).2.1)
    (case side5 => repeat (first | exact (Kd.R_reads' HO299.out).2.2 | (with_reducible refine Kd.C_alloc ?_ _) | (with_reducible refine Kd.C_drewN ?_ _) | (with_reducible refine Kd.C_drew ?_)))
    (case side6 => exact (Kd.R_reads' HO299.out).2.1)
    (case side7 => repeat (first | exact (Kd.R_reads' HO318.out).2.2 | (with_reducible refine Kd.C_alloc ?_ _) | (with_reducible refine Kd.C_drewN ?_ _) | (with_reducible refine Kd.C_drew ?_)))
    (case side8 => exact (Kd.R_reads' HO318.out).2.1)
    (case side9 => repeat (first | exact (Kd.R_reads' HO323.out).2.2 | (with_reducible refine Kd.C_alloc ?_ _) | (with_reducible refine Kd.C_drewN ?_ _) | (with_reducible refine Kd.C_drew ?_)))
    (case side10 => exact (Kd.R_reads' HO323.out).2.1)
    (case side11 => repeat (first | exact (Kd.R_reads' HO326.out).2.2 | (with_reducible refine Kd.C_alloc ?_ _) | (with_reducible refine Kd.C_drewN ?_ _) | (with_reducible refine Kd.C_drew ?_)))
    (case side12 => exact (Kd.R_reads' HO326.out).2.1)
    rintro e w50 ⟨rfl, hb⟩
    refine ⟨_, rfl, ?_⟩
    have n0_ := Aside0.mk (Kd.R_below q62t hb)
    have n1_ := Aside0.mk (Kd.R_below q63t hb)
    have n2_ := Aside0.mk (Kd.R_below q64t hb)
    have n3_ := Aside0.mk (Kd.R_below q65t hb)
    have n4_ := Aside0.mk (Kd.R_below q66t hb)
    have n5_ := Aside0.mk (Kd.R_below q67t hb)
    have n6_ := Aside0.mk (Kd.R_below (by (with_reducible repeat (first | apply Kd.R_alloc | apply Kd.R_drewN | apply Kd.R_drew)); exact HO318.out) hb)
    have n7_ := Aside0.mk (Kd.R_below (by (with_reducible repeat (first | apply Kd.R_alloc | apply Kd.R_drewN | apply Kd.R_drew)); exact HO323.out) hb)
    have n8_ := Aside0.mk (Kd.R_below (by (with_reducible repeat (first | apply Kd.R_alloc | apply Kd.R_drewN | apply Kd.R_drew)); exact HO326.out) hb)
    have n9_ := Aside0.mk (blk_below (g := gb252) (o := .cells #[.int .i64 a0_0, .int .i64 a0_1, .int .i64 a0_2, .int .i64 a0_3, .int .i64 a0_4, .int .i64 a0_5] 58 (0, 0)) q58t hb)
    have n10_ := Aside0.mk (blk_below (g := gb253) (o := .cells #[.int .i64 a1_0, .int .i64 a1_1, .int .i64 a1_2, .int .i64 a1_3, .int .i64 a1_4, .int .i64 a1_5, .int .i64 a1_6, .int .i64 a1_7, .slice A1_8 l1_8.length c1_8, .int .i64 a1_9, .int .i64 a1_10, .slice A1_11 l1_11.length c1_11, .slice A1_12 l1_12.length c1_12] 32 (0, 0)) q59t hb)
    have n11_ := Aside0.mk (blk_below (g := gb300) (o := .cells #[.int .i64 t281, .int .i64 t282, .int .i64 t283, .int .i64 t284, .int .i64 t285, .int .i64 t286, .int .i64 t287, .int .i64 t288, .slice Ao38 t289.length co38, .int .i64 t292, .int .i64 t293, .slice Ao39 t294.length co39, .slice Ao40 t297.length co40] 37 (0, 0)) q60t hb)
    have n12_ := Aside0.mk (below_step q13t hb)
    clear HO271
    clear HO276
    clear HO279
    clear HO291
    clear HO296
    clear HO299
    clear HO318
    clear HO323
    clear HO326
    clear BK252
    clear BK253
    clear BK300
    clear HB
    have HO271 := n0_
    have HO276 := n1_
    have HO279 := n2_
    have HO291 := n3_
    have HO296 := n4_
    have HO299 := n5_
    have HO318 := n6_
    have HO323 := n7_
    have HO326 := n8_
    have BK252 := n9_
    have BK253 := n10_
    have BK300 := n11_
    have HB := n12_
    clear n0_ n1_ n2_ n3_ n4_ n5_ n6_ n7_ n8_ n9_ n10_ n11_ n12_
    (try clear hb)
    (try clear hb2)
    (try clear hk)
    (try clear hi)
    refine hK.out _ _ (by first | exact ⟨(blk_cell BK300.out 0).trans rfl, (blk_cell BK300.out 1).trans rfl, (blk_cell BK300.out 2).trans rfl, (blk_cell BK300.out 3).trans rfl, (blk_cell BK300.out 4).trans rfl, (blk_cell BK300.out 5).trans rfl, (blk_cell BK300.out 6).trans rfl, (blk_cell BK300.out 7).trans rfl, (blk_cell BK300.out 8).trans rfl, (blk_cell BK300.out 9).trans rfl, (blk_cell BK300.out 10).trans rfl, (blk_cell BK300.out 11).trans rfl, (blk_cell BK300.out 12).trans rfl, (blk_cell BK253.out 0).trans rfl, (blk_cell BK253.out 1).trans rfl, (blk_cell BK253.out 2).trans rfl, (blk_cell BK253.out 3).trans rfl, (blk_cell BK253.out 4).trans rfl, (blk_cell BK253.out 5).trans rfl, (blk_cell BK253.out 6).trans rfl, (blk_cell BK253.out 7).trans rfl, (blk_cell BK253.out 8).trans rfl, (blk_cell BK253.out 9).trans rfl, (blk_cell BK253.out 10).trans rfl, (blk_cell BK253.out 11).trans rfl, (blk_cell BK253.out 12).trans rfl⟩ | exact hHeld) (fun hHeld => ?_)
    clear hK K
    refine norm_ (a' := ?_) ?_ ?_
    rotate_left
    ·show Act.put _ (some 31) _ = _
     simp only [Act.put, List.setIfInBounds_toArray, List.set_cons_zero, List.set_cons_succ, i64_w, i32_w]
     rfl
    refine pure_ (i := 4) (N := some 32) (v := ?_) (a' := ?_) #[true, true, true, true, true] rfl rfl (by kernel_rfl) (fun _ _ _ h => h) (Or.inl ⟨by rfl, ?_⟩) ?_ ?_
    rotate_left
    ·intro w'
     go_simp
     with_reducible rfl
    rotate_left
    ·simp only [Act.put, List.setIfInBounds_toArray, List.set_cons_zero, List.set_cons_succ, i64_w, i32_w]
     rfl
    refine done_ (by kernel_rfl) ?_
    try go_wp2
    go_ret
    exact ⟨by first | rfl | (simp [errW_none, errW_some] <;> rfl) | (simp [*, errW_none, errW_some] <;> rfl), by repeat (first | (with_reducible first | exact HB.out | apply below_alloc | apply pw_below_drewN | apply below_drew1 | refine below_set ?_ GE252.out | refine below_set ?_ GE253.out | refine below_set ?_ GE300.out) | exact HB.out)⟩
   ·replace c19 := Bool.eq_false_iff.mpr c19
    subst c19
    have H1 : (none) = some r := by rw [if_neg (show ¬ (false = true) by decide)] at H; exact H
    clear H
    have H := H1
    clear H1
    exact absurd H (by simp)

end Go.Proofs.Ytnloeihhimcblaa.QFnExactNodeOk
