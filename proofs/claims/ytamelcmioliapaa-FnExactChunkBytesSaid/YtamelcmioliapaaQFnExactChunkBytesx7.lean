/- What the functions that the law FnExactChunkBytes reaches compute, as plain functions, and that the code computes just that (by a program of this session's; the library's functions by hand). No condition. -/
import Derived.Test.YtamelcmioliapaaQFnExactChunkBytesx0
import Derived.Test.YtamelcmioliapaaQFnExactChunkBytesx1
import Derived.Test.YtamelcmioliapaaQFnExactChunkBytesx2
import Derived.Test.YtamelcmioliapaaQFnExactChunkBytesx4
import Derived.Test.YtamelcmioliapaaQFnExactChunkBytesx6
namespace Go.Proofs.Ytamelcmioliapaa.QFnExactChunkBytes
open Go.RowKit Go.Proofs.YtamelcmioliapaaW.PrintWords Go.Proofs.YtamelcmioliapaaW.PrintLast Go.Proofs.YtamelcmioliapaaW.PrintMore
attribute [local go_sem] max2_int min2_int max_two min_two max_three min_three max_four min_four   -- for this text's walks alone
set_option linter.unusedVariables false
set_option linter.unusedSimpArgs false

/-! ### laws_FnExactChunkBytes: function 10 -/
def laws_FnExactChunkBytes.j0 : Nat → Int → List Int → List Int → Bool → Int → Int → Int → Int → Int → Int → List Int → List Int → List Int → Option (Bool)
  | 0, _, _, _, _, _, _, _, _, _, _, _, _, _ => none
  | k + 1, x2, x8, x10, x52, x224000, x224001, x224002, x224003, x224004, x224005, x225000, x225001, x225002 => if x52 = true then (none) else ((laws_markByteS.f k x10 1).bind fun bt279 => ((laws_heldByteS.f k bt279.2 1).bind fun t281 => (if t281 < 0 then (none) else (if t281 = bt279.1 then ((laws_toConf.f x224000 x224001 x224002 x224003 x224004 x224005).bind fun bt282 => ((laws_toPool.f k x225000 x225001 x225002).bind fun bt288 => ((impl_ChunkBytes.f k bt282.1 bt282.2.1 bt282.2.2.1 bt282.2.2.2.1 bt282.2.2.2.2.1 bt282.2.2.2.2.2 bt288.1 bt288.2.1 bt288.2.2 x2).bind fun t297 => ((laws_eqByteS.f k t297 x8).bind fun t300 => (if t300 = true then ((laws_heldByteS.f k bt279.2 1).bind fun t301 => (if t301 < 0 then (none) else (if t301 = bt279.1 then (some true) else (none)))) else (none)))))) else (none)))))
def laws_FnExactChunkBytes.f (k : Nat) (a0_0 : Int) (a0_1 : Int) (a0_2 : Int) (a0_3 : Int) (a0_4 : Int) (a0_5 : Int) (l1_0 : List Int) (l1_1 : List Int) (l1_2 : List Int) (a2 : Int) : Option (Bool) := (laws_szPool.f l1_0 l1_1 l1_2 1048576).bind fun t225 => (if t225 < 0 then (some true) else ((laws_toConf.f a0_0 a0_1 a0_2 a0_3 a0_4 a0_5).bind fun bt226 => ((laws_toPool.f k l1_0 l1_1 l1_2).bind fun bt232 => ((spec_ChunkBytes.f k bt226.1 bt226.2.1 bt226.2.2.1 bt226.2.2.2.1 bt226.2.2.2.2.1 bt226.2.2.2.2.2 bt232.1 bt232.2.1 bt232.2.2 a2).bind fun t241 => ((laws_toPool.f k l1_0 l1_1 l1_2).bind fun bt244 => ((laws_toConf.f a0_0 a0_1 a0_2 a0_3 a0_4 a0_5).bind fun bt254 => ((impl_ChunkBytes.f k bt254.1 bt254.2.1 bt254.2.2.1 bt254.2.2.2.1 bt254.2.2.2.2.1 bt254.2.2.2.2.2 bt244.1 bt244.2.1 bt244.2.2 a2).bind fun t260 => ((laws_eqByteS.f k t260 t241).bind fun t263 => (if t263 = true then ((laws_toPool.f k l1_0 l1_1 l1_2).bind fun bt264 => ((laws_eqPool.f k bt244.1 bt244.2.1 bt244.2.2 bt264.1 bt264.2.1 bt264.2.2).bind fun t273 => (if t273 = true then ((laws_markPool.f k bt244.1 bt244.2.1 bt244.2.2 1).bind fun bt274 => (if bt274.1 < 0 then (none) else ((laws_eqByteS.f k t260 t241).bind fun t278 => (laws_FnExactChunkBytes.j0 k a2 t241 t260 (!t278) a0_0 a0_1 a0_2 a0_3 a0_4 a0_5 l1_0 l1_1 l1_2)))) else (none)))) else (none))))))))))
theorem laws_FnExactChunkBytes.mono_l : ∀ k, (∀ y0 y1 y2 y3 y4 y5 y6 y7 y8 y9 y10 y11 y12, LeO (laws_FnExactChunkBytes.j0 k y0 y1 y2 y3 y4 y5 y6 y7 y8 y9 y10 y11 y12) (laws_FnExactChunkBytes.j0 (k + 1) y0 y1 y2 y3 y4 y5 y6 y7 y8 y9 y10 y11 y12))
  | 0 => fun _ _ _ _ _ _ _ _ _ _ _ _ _ r h => by simp [laws_FnExactChunkBytes.j0] at h
  | k + 1 => by
    have ih0 := laws_FnExactChunkBytes.mono_l k
    · intro y0 y1 y2 y3 y4 y5 y6 y7 y8 y9 y10 y11 y12
      unfold laws_FnExactChunkBytes.j0
      repeat' first
      | (with_reducible exact ih0 _ _ _ _ _ _ _ _ _ _ _ _ _)
      | (with_reducible exact impl_ChunkBytes.mono _ _ _ _ _ _ _ _ _ _ _)
      | (with_reducible exact laws_eqByteS.mono _ _ _)
      | (with_reducible exact laws_eqPool.mono _ _ _ _ _ _ _)
      | (with_reducible exact laws_heldByteS.mono _ _ _)
      | (with_reducible exact laws_markByteS.mono _ _ _)
      | (with_reducible exact laws_markPool.mono _ _ _ _ _)
      | (with_reducible exact laws_toPool.mono _ _ _ _)
      | (with_reducible exact spec_ChunkBytes.mono _ _ _ _ _ _ _ _ _ _ _)
      | (with_reducible exact LeO.refl _)
      | (with_reducible exact LeO.none _)
      | (with_reducible refine LeO.ite ?_ ?_)
      | (with_reducible refine LeO.bind ?_ (fun _ => ?_))
      | exact ih0 _ _ _ _ _ _ _ _ _ _ _ _ _
      | exact impl_ChunkBytes.mono _ _ _ _ _ _ _ _ _ _ _
      | exact laws_eqByteS.mono _ _ _
      | exact laws_eqPool.mono _ _ _ _ _ _ _
      | exact laws_heldByteS.mono _ _ _
      | exact laws_markByteS.mono _ _ _
      | exact laws_markPool.mono _ _ _ _ _
      | exact laws_toPool.mono _ _ _ _
      | exact spec_ChunkBytes.mono _ _ _ _ _ _ _ _ _ _ _
      | exact LeO.none _
      | refine LeO.ite ?_ ?_
      | refine LeO.bind ?_ (fun _ => ?_)
theorem laws_FnExactChunkBytes.mono : ∀ a0 a1 a2 a3 a4 a5 a6 a7 a8 a9 k, LeO (laws_FnExactChunkBytes.f k a0 a1 a2 a3 a4 a5 a6 a7 a8 a9) (laws_FnExactChunkBytes.f (k + 1) a0 a1 a2 a3 a4 a5 a6 a7 a8 a9) := by
  intro a0 a1 a2 a3 a4 a5 a6 a7 a8 a9 k
  have ih0 := laws_FnExactChunkBytes.mono_l k
  unfold laws_FnExactChunkBytes.f
  repeat' first
      | (with_reducible exact ih0 _ _ _ _ _ _ _ _ _ _ _ _ _)
      | (with_reducible exact impl_ChunkBytes.mono _ _ _ _ _ _ _ _ _ _ _)
      | (with_reducible exact laws_eqByteS.mono _ _ _)
      | (with_reducible exact laws_eqPool.mono _ _ _ _ _ _ _)
      | (with_reducible exact laws_heldByteS.mono _ _ _)
      | (with_reducible exact laws_markByteS.mono _ _ _)
      | (with_reducible exact laws_markPool.mono _ _ _ _ _)
      | (with_reducible exact laws_toPool.mono _ _ _ _)
      | (with_reducible exact spec_ChunkBytes.mono _ _ _ _ _ _ _ _ _ _ _)
      | (with_reducible exact LeO.refl _)
      | (with_reducible exact LeO.none _)
      | (with_reducible refine LeO.ite ?_ ?_)
      | (with_reducible refine LeO.bind ?_ (fun _ => ?_))
      | exact ih0 _ _ _ _ _ _ _ _ _ _ _ _ _
      | exact impl_ChunkBytes.mono _ _ _ _ _ _ _ _ _ _ _
      | exact laws_eqByteS.mono _ _ _
      | exact laws_eqPool.mono _ _ _ _ _ _ _
      | exact laws_heldByteS.mono _ _ _
      | exact laws_markByteS.mono _ _ _
      | exact laws_markPool.mono _ _ _ _ _
      | exact laws_toPool.mono _ _ _ _
      | exact spec_ChunkBytes.mono _ _ _ _ _ _ _ _ _ _ _
      | exact LeO.none _
      | refine LeO.ite ?_ ?_
      | refine LeO.bind ?_ (fun _ => ?_)
set_option maxHeartbeats 8000000 in
set_option maxRecDepth 100000 in
theorem laws_FnExactChunkBytes.calls (k : Nat) (a0_0 : Int) (a0_1 : Int) (a0_2 : Int) (a0_3 : Int) (a0_4 : Int) (a0_5 : Int) (A1_0 : Option Addr) (c1_0 : Nat) (l1_0 : List Int) (A1_1 : Option Addr) (c1_1 : Nat) (l1_1 : List Int) (A1_2 : Option Addr) (c1_2 : Nat) (l1_2 : List Int) (a2 : Int) (r : Bool) (w : World) (hr1_0 : Kd.C (Kd.int .u8) w A1_0 l1_0.length l1_0) (hc1_0 : l1_0.length ≤ c1_0) (hr1_1 : Kd.C (Kd.int .i64) w A1_1 l1_1.length l1_1) (hc1_1 : l1_1.length ≤ c1_1) (hr1_2 : Kd.C (Kd.int .i64) w A1_2 l1_2.length l1_2) (hc1_2 : l1_2.length ≤ c1_2) (h : laws_FnExactChunkBytes.f k a0_0 a0_1 a0_2 a0_3 a0_4 a0_5 l1_0 l1_1 l1_2 a2 = some r) :
    Calls Try.prog 10 #[.agg #[.int .i64 a0_0, .int .i64 a0_1, .int .i64 a0_2, .int .i64 a0_3, .int .i64 a0_4, .int .i64 a0_5], .agg #[.slice A1_0 l1_0.length c1_0, .slice A1_1 l1_1.length c1_1, .slice A1_2 l1_2.length c1_2], .int .i64 a2] w fun e w' => e = .returned (.bool r) ∧ Below w.heap.size w w' := by
  have hu45 := Try.underlying45
  have hu48 := Try.underlying48
  have hu53 := Try.underlying53
  have HR1_0 := Aside0.mk hr1_0
  have HC1_0 := Aside0.mk hc1_0
  clear hr1_0 hc1_0
  have HR1_1 := Aside0.mk hr1_1
  have HC1_1 := Aside0.mk hc1_1
  clear hr1_1 hc1_1
  have HR1_2 := Aside0.mk hr1_2
  have HC1_2 := Aside0.mk hc1_2
  clear hr1_2 hc1_2
  have HB := Aside0.mk (Below.refl w.heap.size w)
  have H : ((laws_szPool.f l1_0 l1_1 l1_2 1048576).bind fun t225 => (if t225 < 0 then (some true) else ((laws_toConf.f a0_0 a0_1 a0_2 a0_3 a0_4 a0_5).bind fun bt226 => ((laws_toPool.f k l1_0 l1_1 l1_2).bind fun bt232 => ((spec_ChunkBytes.f k bt226.1 bt226.2.1 bt226.2.2.1 bt226.2.2.2.1 bt226.2.2.2.2.1 bt226.2.2.2.2.2 bt232.1 bt232.2.1 bt232.2.2 a2).bind fun t241 => ((laws_toPool.f k l1_0 l1_1 l1_2).bind fun bt244 => ((laws_toConf.f a0_0 a0_1 a0_2 a0_3 a0_4 a0_5).bind fun bt254 => ((impl_ChunkBytes.f k bt254.1 bt254.2.1 bt254.2.2.1 bt254.2.2.2.1 bt254.2.2.2.2.1 bt254.2.2.2.2.2 bt244.1 bt244.2.1 bt244.2.2 a2).bind fun t260 => ((laws_eqByteS.f k t260 t241).bind fun t263 => (if t263 = true then ((laws_toPool.f k l1_0 l1_1 l1_2).bind fun bt264 => ((laws_eqPool.f k bt244.1 bt244.2.1 bt244.2.2 bt264.1 bt264.2.1 bt264.2.2).bind fun t273 => (if t273 = true then ((laws_markPool.f k bt244.1 bt244.2.1 bt244.2.2 1).bind fun bt274 => (if bt274.1 < 0 then (none) else ((laws_eqByteS.f k t260 t241).bind fun t278 => (laws_FnExactChunkBytes.j0 k a2 t241 t260 (!t278) a0_0 a0_1 a0_2 a0_3 a0_4 a0_5 l1_0 l1_1 l1_2)))) else (none)))) else (none))))))))))) = some r := h
  clear h
  replace H := Option.bind_eq_some_iff.mp H
  obtain ⟨t225, A40, H⟩ := H
  replace H : (if t225 < 0 then (some true) else ((laws_toConf.f a0_0 a0_1 a0_2 a0_3 a0_4 a0_5).bind fun bt226 => ((laws_toPool.f k l1_0 l1_1 l1_2).bind fun bt232 => ((spec_ChunkBytes.f k bt226.1 bt226.2.1 bt226.2.2.1 bt226.2.2.2.1 bt226.2.2.2.2.1 bt226.2.2.2.2.2 bt232.1 bt232.2.1 bt232.2.2 a2).bind fun t241 => ((laws_toPool.f k l1_0 l1_1 l1_2).bind fun bt244 => ((laws_toConf.f a0_0 a0_1 a0_2 a0_3 a0_4 a0_5).bind fun bt254 => ((impl_ChunkBytes.f k bt254.1 bt254.2.1 bt254.2.2.1 bt254.2.2.2.1 bt254.2.2.2.2.1 bt254.2.2.2.2.2 bt244.1 bt244.2.1 bt244.2.2 a2).bind fun t260 => ((laws_eqByteS.f k t260 t241).bind fun t263 => (if t263 = true then ((laws_toPool.f k l1_0 l1_1 l1_2).bind fun bt264 => ((laws_eqPool.f k bt244.1 bt244.2.1 bt244.2.2 bt264.1 bt264.2.1 bt264.2.2).bind fun t273 => (if t273 = true then ((laws_markPool.f k bt244.1 bt244.2.1 bt244.2.2 1).bind fun bt274 => (if bt274.1 < 0 then (none) else ((laws_eqByteS.f k t260 t241).bind fun t278 => (laws_FnExactChunkBytes.j0 k a2 t241 t260 (!t278) a0_0 a0_1 a0_2 a0_3 a0_4 a0_5 l1_0 l1_1 l1_2)))) else (none)))) else (none)))))))))) = some r := H
  have A4 := Aside0.mk A40
  clear A40
  by_cases c5 : t225 < 0
  · rw [if_pos c5] at H
    have c5b0 : decide (t225 < 0) = true := decide_eq_true c5
    clear c5
    obtain rfl := Option.some.inj H
    go_enter Try.func10, Try.ntmps10
    go_wp2_with (first | ((with_reducible refine gate_dst (N := 3) rfl ?_); refine box_event ?hg (N := 3) ?hd (cs := #[.int .i64 a0_0, .int .i64 a0_1, .int .i64 a0_2, .int .i64 a0_3, .int .i64 a0_4, .int .i64 a0_5]) (t := 45) ?hr ?_; (case hd => rfl); (case hg => rfl); (case hr => first | (go_simp; done) | (go_simp; rfl)); intro gb223 hg w6 hbox hb; have n0_ := Aside0.mk (below_step (by repeat (first | (with_reducible first | exact HB.out | apply below_alloc | apply pw_below_drewN | apply below_drew1) | exact HB.out)) hb); have n1_ := Aside0.mk (hbox); have n2_ := Aside0.mk ((by rw [hg]; exact (below_size (by repeat (first | (with_reducible first | exact HB.out | apply below_alloc | apply pw_below_drewN | apply below_drew1) | exact HB.out))) : w.heap.size ≤ gb223)); have n3_ := Aside0.mk ((by rw [hg]; exact (below_size (by repeat (first | (with_reducible first | exact HB.out | apply below_alloc | apply pw_below_drewN | apply below_drew1) | exact HB.out))) : w.heap.size ≤ gb223)); clear HB; have HB := n0_; have BK223 := n1_; have GW223 := n2_; have GE223 := n3_; clear n0_ n1_ n2_ n3_; clear hb hbox hg) | ((with_reducible refine gate_dst (N := 4) rfl ?_); refine box_event ?hg (N := 4) ?hd (cs := #[.slice A1_0 l1_0.length c1_0, .slice A1_1 l1_1.length c1_1, .slice A1_2 l1_2.length c1_2]) (t := 48) ?hr ?_; (case hd => rfl); (case hg => rfl); (case hr => first | (go_simp; done) | (go_simp; rfl)); intro gb224 hg w7 hbox hb; have n0_ := Aside0.mk (blk_below (g := gb223) (o := .cells #[.int .i64 a0_0, .int .i64 a0_1, .int .i64 a0_2, .int .i64 a0_3, .int .i64 a0_4, .int .i64 a0_5] 45 (0, 0)) (by (with_reducible repeat (first | refine blk_drewN ?_ _ | refine blk_drew ?_ | refine blk_alloc ?_ _)); exact BK223.out) hb); have n1_ := Aside0.mk (below_step (by repeat (first | (with_reducible first | exact HB.out | apply below_alloc | apply pw_below_drewN | apply below_drew1 | refine below_set ?_ GE223.out) | exact HB.out)) hb); have n2_ := Aside0.mk (hbox); have n3_ := Aside0.mk ((by rw [hg]; exact (below_size (by repeat (first | (with_reducible first | exact HB.out | apply below_alloc | apply pw_below_drewN | apply below_drew1 | refine below_set ?_ GE223.out) | exact HB.out))) : w.heap.size ≤ gb224)); have n4_ := Aside0.mk ((by rw [hg]; exact (below_size (by repeat (first | (with_reducible first | exact HB.out | apply below_alloc | apply pw_below_drewN | apply below_drew1 | refine below_set ?_ GE223.out) | exact HB.out))) : w.heap.size ≤ gb224)); have n5_ := Aside0.mk ((by rw [hg]; exact Nat.ne_of_lt (blk_lt (g := gb223) (o := .cells #[.int .i64 a0_0, .int .i64 a0_1, .int .i64 a0_2, .int .i64 a0_3, .int .i64 a0_4, .int .i64 a0_5] 45 (0, 0)) (by (with_reducible repeat (first | refine blk_drewN ?_ _ | refine blk_drew ?_ | refine blk_alloc ?_ _)); exact BK223.out)) : gb223 ≠ gb224)); have n6_ := Aside0.mk ((by rw [hg]; exact Nat.ne_of_gt (blk_lt (g := gb223) (o := .cells #[.int .i64 a0_0, .int .i64 a0_1, .int .i64 a0_2, .int .i64 a0_3, .int .i64 a0_4, .int .i64 a0_5] 45 (0, 0)) (by (with_reducible repeat (first | refine blk_drewN ?_ _ | refine blk_drew ?_ | refine blk_alloc ?_ _)); exact BK223.out)) : gb224 ≠ gb223)); clear BK223; clear HB; have BK223 := n0_; have HB := n1_; have BK224 := n2_; have GW224 := n3_; have GE224 := n4_; have NB223_224 := n5_; have NB224_223 := n6_; clear n0_ n1_ n2_ n3_ n4_ n5_ n6_; clear hb hbox hg; have hnb8 := NB224_223.out; have hnc8 := NB223_224.out; have hcz9_0 : w7.cell? ⟨gb224, 0, none⟩ = some (.slice A1_0 l1_0.length c1_0) := (blk_cell BK224.out 0).trans rfl; have hcz9_1 : w7.cell? ⟨gb224, 1, none⟩ = some (.slice A1_1 l1_1.length c1_1) := (blk_cell BK224.out 1).trans rfl; have hcz9_2 : w7.cell? ⟨gb224, 2, none⟩ = some (.slice A1_2 l1_2.length c1_2) := (blk_cell BK224.out 2).trans rfl; have hfz9_0 := blk_frozen BK224.out 0; have hfz9_1 := blk_frozen BK224.out 1; have hfz9_2 := blk_frozen BK224.out 2) | ((with_reducible refine gate_callee (f := 42) rfl ?_); refine goesL_ (some 17) rfl rfl Try.func42 (by kernel_rfl) rfl #[.agg #[.slice A1_0 l1_0.length c1_0, .slice A1_1 l1_1.length c1_1, .slice A1_2 l1_2.length c1_2], .int .i64 1048576] rfl (by (try simp only [List.map_toArray, List.map_cons, List.map_nil]); first | done | rfl | (simp only [List.length_drop, List.length_take]; rfl)) ?_; (with_reducible refine (laws_szPool.calls _ _ l1_0 _ _ l1_1 _ _ l1_2 1048576 t225 _ ?side1 ?side2 ?side3 ?side4 ?side5 ?side6 A4.out).mono ?_); (case side1 => repeat (first | exact (Kd.C_below HR1_0.out HB.out) | (with_reducible refine Kd.C_alloc ?_ _) | (with_reducible refine Kd.C_drewN ?_ _) | (with_reducible refine Kd.C_drew ?_))); (case side2 => exact HC1_0.out); (case side3 => repeat (first | exact (Kd.C_below HR1_1.out HB.out) | (with_reducible refine Kd.C_alloc ?_ _) | (with_reducible refine Kd.C_drewN ?_ _) | (with_reducible refine Kd.C_drew ?_))); (case side4 => exact HC1_1.out); (case side5 => repeat (first | exact (Kd.C_below HR1_2.out HB.out) | (with_reducible refine Kd.C_alloc ?_ _) | (with_reducible refine Kd.C_drewN ?_ _) | (with_reducible refine Kd.C_drew ?_))); (case side6 => exact HC1_2.out); rintro e w10 ⟨rfl, hb⟩; refine ⟨_, rfl, ?_⟩; have n0_ := Aside0.mk (blk_below (g := gb223) (o := .cells #[.int .i64 a0_0, .int .i64 a0_1, .int .i64 a0_2, .int .i64 a0_3, .int .i64 a0_4, .int .i64 a0_5] 45 (0, 0)) (by (with_reducible repeat (first | refine blk_drewN ?_ _ | refine blk_drew ?_ | refine blk_alloc ?_ _)); exact BK223.out) hb); have n1_ := Aside0.mk (blk_below (g := gb224) (o := .cells #[.slice A1_0 l1_0.length c1_0, .slice A1_1 l1_1.length c1_1, .slice A1_2 l1_2.length c1_2] 48 (0, 0)) (by (with_reducible repeat (first | refine blk_drewN ?_ _ | refine blk_drew ?_ | refine blk_alloc ?_ _)); exact BK224.out) hb); have n2_ := Aside0.mk (below_step (by repeat (first | (with_reducible first | exact HB.out | apply below_alloc | apply pw_below_drewN | apply below_drew1 | refine below_set ?_ GE223.out | refine below_set ?_ GE224.out) | exact HB.out)) hb); clear BK223; clear BK224; clear HB; have BK223 := n0_; have BK224 := n1_; have HB := n2_; clear n0_ n1_ n2_; (try clear hb); (try clear hb2); (try clear hk); (try clear hi)))
    go_ret
    exact ⟨by first | rfl | (simp [errW_none, errW_some] <;> rfl) | (simp [*, errW_none, errW_some] <;> rfl), by repeat (first | (with_reducible first | exact HB.out | apply below_alloc | apply pw_below_drewN | apply below_drew1 | refine below_set ?_ GE223.out | refine below_set ?_ GE224.out) | exact HB.out)⟩
  · rw [if_neg c5] at H
    have c5b0 : decide (t225 < 0) = false := decide_eq_false c5
    clear c5
    replace H := Option.bind_eq_some_iff.mp H
    obtain ⟨⟨t226, t227, t228, t229, t230, t231⟩, A110, H⟩ := H
    replace H : ((laws_toPool.f k l1_0 l1_1 l1_2).bind fun bt232 => ((spec_ChunkBytes.f k t226 t227 t228 t229 t230 t231 bt232.1 bt232.2.1 bt232.2.2 a2).bind fun t241 => ((laws_toPool.f k l1_0 l1_1 l1_2).bind fun bt244 => ((laws_toConf.f a0_0 a0_1 a0_2 a0_3 a0_4 a0_5).bind fun bt254 => ((impl_ChunkBytes.f k bt254.1 bt254.2.1 bt254.2.2.1 bt254.2.2.2.1 bt254.2.2.2.2.1 bt254.2.2.2.2.2 bt244.1 bt244.2.1 bt244.2.2 a2).bind fun t260 => ((laws_eqByteS.f k t260 t241).bind fun t263 => (if t263 = true then ((laws_toPool.f k l1_0 l1_1 l1_2).bind fun bt264 => ((laws_eqPool.f k bt244.1 bt244.2.1 bt244.2.2 bt264.1 bt264.2.1 bt264.2.2).bind fun t273 => (if t273 = true then ((laws_markPool.f k bt244.1 bt244.2.1 bt244.2.2 1).bind fun bt274 => (if bt274.1 < 0 then (none) else ((laws_eqByteS.f k t260 t241).bind fun t278 => (laws_FnExactChunkBytes.j0 k a2 t241 t260 (!t278) a0_0 a0_1 a0_2 a0_3 a0_4 a0_5 l1_0 l1_1 l1_2)))) else (none)))) else (none)))))))) = some r := H
    have A11 := Aside0.mk A110
    clear A110
    replace H := Option.bind_eq_some_iff.mp H
    obtain ⟨⟨t232, t235, t238⟩, A120, H⟩ := H
    replace H : ((spec_ChunkBytes.f k t226 t227 t228 t229 t230 t231 t232 t235 t238 a2).bind fun t241 => ((laws_toPool.f k l1_0 l1_1 l1_2).bind fun bt244 => ((laws_toConf.f a0_0 a0_1 a0_2 a0_3 a0_4 a0_5).bind fun bt254 => ((impl_ChunkBytes.f k bt254.1 bt254.2.1 bt254.2.2.1 bt254.2.2.2.1 bt254.2.2.2.2.1 bt254.2.2.2.2.2 bt244.1 bt244.2.1 bt244.2.2 a2).bind fun t260 => ((laws_eqByteS.f k t260 t241).bind fun t263 => (if t263 = true then ((laws_toPool.f k l1_0 l1_1 l1_2).bind fun bt264 => ((laws_eqPool.f k bt244.1 bt244.2.1 bt244.2.2 bt264.1 bt264.2.1 bt264.2.2).bind fun t273 => (if t273 = true then ((laws_markPool.f k bt244.1 bt244.2.1 bt244.2.2 1).bind fun bt274 => (if bt274.1 < 0 then (none) else ((laws_eqByteS.f k t260 t241).bind fun t278 => (laws_FnExactChunkBytes.j0 k a2 t241 t260 (!t278) a0_0 a0_1 a0_2 a0_3 a0_4 a0_5 l1_0 l1_1 l1_2)))) else (none)))) else (none))))))) = some r := H
    have A12 := Aside0.mk A120
    clear A120
    replace H := Option.bind_eq_some_iff.mp H
    obtain ⟨t241, A130, H⟩ := H
    replace H : ((laws_toPool.f k l1_0 l1_1 l1_2).bind fun bt244 => ((laws_toConf.f a0_0 a0_1 a0_2 a0_3 a0_4 a0_5).bind fun bt254 => ((impl_ChunkBytes.f k bt254.1 bt254.2.1 bt254.2.2.1 bt254.2.2.2.1 bt254.2.2.2.2.1 bt254.2.2.2.2.2 bt244.1 bt244.2.1 bt244.2.2 a2).bind fun t260 => ((laws_eqByteS.f k t260 t241).bind fun t263 => (if t263 = true then ((laws_toPool.f k l1_0 l1_1 l1_2).bind fun bt264 => ((laws_eqPool.f k bt244.1 bt244.2.1 bt244.2.2 bt264.1 bt264.2.1 bt264.2.2).bind fun t273 => (if t273 = true then ((laws_markPool.f k bt244.1 bt244.2.1 bt244.2.2 1).bind fun bt274 => (if bt274.1 < 0 then (none) else ((laws_eqByteS.f k t260 t241).bind fun t278 => (laws_FnExactChunkBytes.j0 k a2 t241 t260 (!t278) a0_0 a0_1 a0_2 a0_3 a0_4 a0_5 l1_0 l1_1 l1_2)))) else (none)))) else (none)))))) = some r := H
    have A13 := Aside0.mk A130
    clear A130
    replace H := Option.bind_eq_some_iff.mp H
    obtain ⟨⟨t244, t247, t250⟩, A140, H⟩ := H
    replace H : ((laws_toConf.f a0_0 a0_1 a0_2 a0_3 a0_4 a0_5).bind fun bt254 => ((impl_ChunkBytes.f k bt254.1 bt254.2.1 bt254.2.2.1 bt254.2.2.2.1 bt254.2.2.2.2.1 bt254.2.2.2.2.2 t244 t247 t250 a2).bind fun t260 => ((laws_eqByteS.f k t260 t241).bind fun t263 => (if t263 = true then ((laws_toPool.f k l1_0 l1_1 l1_2).bind fun bt264 => ((laws_eqPool.f k t244 t247 t250 bt264.1 bt264.2.1 bt264.2.2).bind fun t273 => (if t273 = true then ((laws_markPool.f k t244 t247 t250 1).bind fun bt274 => (if bt274.1 < 0 then (none) else ((laws_eqByteS.f k t260 t241).bind fun t278 => (laws_FnExactChunkBytes.j0 k a2 t241 t260 (!t278) a0_0 a0_1 a0_2 a0_3 a0_4 a0_5 l1_0 l1_1 l1_2)))) else (none)))) else (none))))) = some r := H
    have A14 := Aside0.mk A140
    clear A140
    replace H := Option.bind_eq_some_iff.mp H
    obtain ⟨⟨t254, t255, t256, t257, t258, t259⟩, A150, H⟩ := H
    replace H : ((impl_ChunkBytes.f k t254 t255 t256 t257 t258 t259 t244 t247 t250 a2).bind fun t260 => ((laws_eqByteS.f k t260 t241).bind fun t263 => (if t263 = true then ((laws_toPool.f k l1_0 l1_1 l1_2).bind fun bt264 => ((laws_eqPool.f k t244 t247 t250 bt264.1 bt264.2.1 bt264.2.2).bind fun t273 => (if t273 = true then ((laws_markPool.f k t244 t247 t250 1).bind fun bt274 => (if bt274.1 < 0 then (none) else ((laws_eqByteS.f k t260 t241).bind fun t278 => (laws_FnExactChunkBytes.j0 k a2 t241 t260 (!t278) a0_0 a0_1 a0_2 a0_3 a0_4 a0_5 l1_0 l1_1 l1_2)))) else (none)))) else (none)))) = some r := H
    have A15 := Aside0.mk A150
    clear A150
    replace H := Option.bind_eq_some_iff.mp H
    obtain ⟨t260, A160, H⟩ := H
    replace H : ((laws_eqByteS.f k t260 t241).bind fun t263 => (if t263 = true then ((laws_toPool.f k l1_0 l1_1 l1_2).bind fun bt264 => ((laws_eqPool.f k t244 t247 t250 bt264.1 bt264.2.1 bt264.2.2).bind fun t273 => (if t273 = true then ((laws_markPool.f k t244 t247 t250 1).bind fun bt274 => (if bt274.1 < 0 then (none) else ((laws_eqByteS.f k t260 t241).bind fun t278 => (laws_FnExactChunkBytes.j0 k a2 t241 t260 (!t278) a0_0 a0_1 a0_2 a0_3 a0_4 a0_5 l1_0 l1_1 l1_2)))) else (none)))) else (none))) = some r := H
    have A16 := Aside0.mk A160
    clear A160
    replace H := Option.bind_eq_some_iff.mp H
    obtain ⟨t263, A170, H⟩ := H
    replace H : (if t263 = true then ((laws_toPool.f k l1_0 l1_1 l1_2).bind fun bt264 => ((laws_eqPool.f k t244 t247 t250 bt264.1 bt264.2.1 bt264.2.2).bind fun t273 => (if t273 = true then ((laws_markPool.f k t244 t247 t250 1).bind fun bt274 => (if bt274.1 < 0 then (none) else ((laws_eqByteS.f k t260 t241).bind fun t278 => (laws_FnExactChunkBytes.j0 k a2 t241 t260 (!t278) a0_0 a0_1 a0_2 a0_3 a0_4 a0_5 l1_0 l1_1 l1_2)))) else (none)))) else (none)) = some r := H
    have A17 := Aside0.mk A170
    clear A170
    by_cases c18 : t263 = true
    · subst c18
      have H1 : ((laws_toPool.f k l1_0 l1_1 l1_2).bind fun bt264 => ((laws_eqPool.f k t244 t247 t250 bt264.1 bt264.2.1 bt264.2.2).bind fun t273 => (if t273 = true then ((laws_markPool.f k t244 t247 t250 1).bind fun bt274 => (if bt274.1 < 0 then (none) else ((laws_eqByteS.f k t260 t241).bind fun t278 => (laws_FnExactChunkBytes.j0 k a2 t241 t260 (!t278) a0_0 a0_1 a0_2 a0_3 a0_4 a0_5 l1_0 l1_1 l1_2)))) else (none)))) = some r := by rw [if_pos rfl] at H; exact H
      clear H
      have H := H1
      clear H1
      replace H := Option.bind_eq_some_iff.mp H
      obtain ⟨⟨t264, t267, t270⟩, A190, H⟩ := H
      replace H : ((laws_eqPool.f k t244 t247 t250 t264 t267 t270).bind fun t273 => (if t273 = true then ((laws_markPool.f k t244 t247 t250 1).bind fun bt274 => (if bt274.1 < 0 then (none) else ((laws_eqByteS.f k t260 t241).bind fun t278 => (laws_FnExactChunkBytes.j0 k a2 t241 t260 (!t278) a0_0 a0_1 a0_2 a0_3 a0_4 a0_5 l1_0 l1_1 l1_2)))) else (none))) = some r := H
      have A19 := Aside0.mk A190
      clear A190
      replace H := Option.bind_eq_some_iff.mp H
      obtain ⟨t273, A200, H⟩ := H
      replace H : (if t273 = true then ((laws_markPool.f k t244 t247 t250 1).bind fun bt274 => (if bt274.1 < 0 then (none) else ((laws_eqByteS.f k t260 t241).bind fun t278 => (laws_FnExactChunkBytes.j0 k a2 t241 t260 (!t278) a0_0 a0_1 a0_2 a0_3 a0_4 a0_5 l1_0 l1_1 l1_2)))) else (none)) = some r := H
      have A20 := Aside0.mk A200
      clear A200
      by_cases c21 : t273 = true
      · subst c21
        have H1 : ((laws_markPool.f k t244 t247 t250 1).bind fun bt274 => (if bt274.1 < 0 then (none) else ((laws_eqByteS.f k t260 t241).bind fun t278 => (laws_FnExactChunkBytes.j0 k a2 t241 t260 (!t278) a0_0 a0_1 a0_2 a0_3 a0_4 a0_5 l1_0 l1_1 l1_2)))) = some r := by rw [if_pos rfl] at H; exact H
        clear H
        have H := H1
        clear H1
        replace H := Option.bind_eq_some_iff.mp H
        obtain ⟨⟨t274, t275, t276, t277⟩, A220, H⟩ := H
        replace H : (if t274 < 0 then (none) else ((laws_eqByteS.f k t260 t241).bind fun t278 => (laws_FnExactChunkBytes.j0 k a2 t241 t260 (!t278) a0_0 a0_1 a0_2 a0_3 a0_4 a0_5 l1_0 l1_1 l1_2))) = some r := H
        have A22 := Aside0.mk A220
        clear A220
        have HC23 := Aside0.mk H
        clear H
        go_enter Try.func10, Try.ntmps10
        try go_wp2_with (first | ((with_reducible refine gate_dst (N := 3) rfl ?_); refine box_event ?hg (N := 3) ?hd (cs := #[.int .i64 a0_0, .int .i64 a0_1, .int .i64 a0_2, .int .i64 a0_3, .int .i64 a0_4, .int .i64 a0_5]) (t := 45) ?hr ?_; (case hd => rfl); (case hg => rfl); (case hr => first | (go_simp; done) | (go_simp; rfl)); intro gb223 hg w24 hbox hb; have n0_ := Aside0.mk (below_step (by repeat (first | (with_reducible first | exact HB.out | apply below_alloc | apply pw_below_drewN | apply below_drew1) | exact HB.out)) hb); have n1_ := Aside0.mk (hbox); have n2_ := Aside0.mk ((by rw [hg]; exact (below_size (by repeat (first | (with_reducible first | exact HB.out | apply below_alloc | apply pw_below_drewN | apply below_drew1) | exact HB.out))) : w.heap.size ≤ gb223)); have n3_ := Aside0.mk ((by rw [hg]; exact (below_size (by repeat (first | (with_reducible first | exact HB.out | apply below_alloc | apply pw_below_drewN | apply below_drew1) | exact HB.out))) : w.heap.size ≤ gb223)); clear HB; have HB := n0_; have BK223 := n1_; have GW223 := n2_; have GE223 := n3_; clear n0_ n1_ n2_ n3_; clear hb hbox hg) | ((with_reducible refine gate_dst (N := 4) rfl ?_); refine box_event ?hg (N := 4) ?hd (cs := #[.slice A1_0 l1_0.length c1_0, .slice A1_1 l1_1.length c1_1, .slice A1_2 l1_2.length c1_2]) (t := 48) ?hr ?_; (case hd => rfl); (case hg => rfl); (case hr => first | (go_simp; done) | (go_simp; rfl)); intro gb224 hg w25 hbox hb; have n0_ := Aside0.mk (blk_below (g := gb223) (o := .cells #[.int .i64 a0_0, .int .i64 a0_1, .int .i64 a0_2, .int .i64 a0_3, .int .i64 a0_4, .int .i64 a0_5] 45 (0, 0)) (by (with_reducible repeat (first | refine blk_drewN ?_ _ | refine blk_drew ?_ | refine blk_alloc ?_ _)); exact BK223.out) hb); have n1_ := Aside0.mk (below_step (by repeat (first | (with_reducible first | exact HB.out | apply below_alloc | apply pw_below_drewN | apply below_drew1 | refine below_set ?_ GE223.out) | exact HB.out)) hb); have n2_ := Aside0.mk (hbox); have n3_ := Aside0.mk ((by rw [hg]; exact (below_size (by repeat (first | (with_reducible first | exact HB.out | apply below_alloc | apply pw_below_drewN | apply below_drew1 | refine below_set ?_ GE223.out) | exact HB.out))) : w.heap.size ≤ gb224)); have n4_ := Aside0.mk ((by rw [hg]; exact (below_size (by repeat (first | (with_reducible first | exact HB.out | apply below_alloc | apply pw_below_drewN | apply below_drew1 | refine below_set ?_ GE223.out) | exact HB.out))) : w.heap.size ≤ gb224)); have n5_ := Aside0.mk ((by rw [hg]; exact Nat.ne_of_lt (blk_lt (g := gb223) (o := .cells #[.int .i64 a0_0, .int .i64 a0_1, .int .i64 a0_2, .int .i64 a0_3, .int .i64 a0_4, .int .i64 a0_5] 45 (0, 0)) (by (with_reducible repeat (first | refine blk_drewN ?_ _ | refine blk_drew ?_ | refine blk_alloc ?_ _)); exact BK223.out)) : gb223 ≠ gb224)); have n6_ := Aside0.mk ((by rw [hg]; exact Nat.ne_of_gt (blk_lt (g := gb223) (o := .cells #[.int .i64 a0_0, .int .i64 a0_1, .int .i64 a0_2, .int .i64 a0_3, .int .i64 a0_4, .int .i64 a0_5] 45 (0, 0)) (by (with_reducible repeat (first | refine blk_drewN ?_ _ | refine blk_drew ?_ | refine blk_alloc ?_ _)); exact BK223.out)) : gb224 ≠ gb223)); clear BK223; clear HB; have BK223 := n0_; have HB := n1_; have BK224 := n2_; have GW224 := n3_; have GE224 := n4_; have NB223_224 := n5_; have NB224_223 := n6_; clear n0_ n1_ n2_ n3_ n4_ n5_ n6_; clear hb hbox hg; have hnb26 := NB224_223.out; have hnc26 := NB223_224.out; have hcz27_0 : w25.cell? ⟨gb224, 0, none⟩ = some (.slice A1_0 l1_0.length c1_0) := (blk_cell BK224.out 0).trans rfl; have hcz27_1 : w25.cell? ⟨gb224, 1, none⟩ = some (.slice A1_1 l1_1.length c1_1) := (blk_cell BK224.out 1).trans rfl; have hcz27_2 : w25.cell? ⟨gb224, 2, none⟩ = some (.slice A1_2 l1_2.length c1_2) := (blk_cell BK224.out 2).trans rfl; have hfz27_0 := blk_frozen BK224.out 0; have hfz27_1 := blk_frozen BK224.out 1; have hfz27_2 := blk_frozen BK224.out 2) | ((with_reducible refine gate_callee (f := 42) rfl ?_); refine goesL_ (some 17) rfl rfl Try.func42 (by kernel_rfl) rfl #[.agg #[.slice A1_0 l1_0.length c1_0, .slice A1_1 l1_1.length c1_1, .slice A1_2 l1_2.length c1_2], .int .i64 1048576] rfl (by (try simp only [List.map_toArray, List.map_cons, List.map_nil]); first | done | rfl | (simp only [List.length_drop, List.length_take]; rfl)) ?_; (with_reducible refine (laws_szPool.calls _ _ l1_0 _ _ l1_1 _ _ l1_2 1048576 t225 _ ?side1 ?side2 ?side3 ?side4 ?side5 ?side6 A4.out).mono ?_); (case side1 => repeat (first | exact (Kd.C_below HR1_0.out HB.out) | (with_reducible refine Kd.C_alloc ?_ _) | (with_reducible refine Kd.C_drewN ?_ _) | (with_reducible refine Kd.C_drew ?_))); (case side2 => exact HC1_0.out); (case side3 => repeat (first | exact (Kd.C_below HR1_1.out HB.out) | (with_reducible refine Kd.C_alloc ?_ _) | (with_reducible refine Kd.C_drewN ?_ _) | (with_reducible refine Kd.C_drew ?_))); (case side4 => exact HC1_1.out); (case side5 => repeat (first | exact (Kd.C_below HR1_2.out HB.out) | (with_reducible refine Kd.C_alloc ?_ _) | (with_reducible refine Kd.C_drewN ?_ _) | (with_reducible refine Kd.C_drew ?_))); (case side6 => exact HC1_2.out); rintro e w28 ⟨rfl, hb⟩; refine ⟨_, rfl, ?_⟩; have n0_ := Aside0.mk (blk_below (g := gb223) (o := .cells #[.int .i64 a0_0, .int .i64 a0_1, .int .i64 a0_2, .int .i64 a0_3, .int .i64 a0_4, .int .i64 a0_5] 45 (0, 0)) (by (with_reducible repeat (first | refine blk_drewN ?_ _ | refine blk_drew ?_ | refine blk_alloc ?_ _)); exact BK223.out) hb); have n1_ := Aside0.mk (blk_below (g := gb224) (o := .cells #[.slice A1_0 l1_0.length c1_0, .slice A1_1 l1_1.length c1_1, .slice A1_2 l1_2.length c1_2] 48 (0, 0)) (by (with_reducible repeat (first | refine blk_drewN ?_ _ | refine blk_drew ?_ | refine blk_alloc ?_ _)); exact BK224.out) hb); have n2_ := Aside0.mk (below_step (by repeat (first | (with_reducible first | exact HB.out | apply below_alloc | apply pw_below_drewN | apply below_drew1 | refine below_set ?_ GE223.out | refine below_set ?_ GE224.out) | exact HB.out)) hb); clear BK223; clear BK224; clear HB; have BK223 := n0_; have BK224 := n1_; have HB := n2_; clear n0_ n1_ n2_; (try clear hb); (try clear hb2); (try clear hk); (try clear hi)))
        (try (rw [drewN_self w28]; generalize hq_ : World.drewN w28 _ = w28; have hh_ := congrArg World.heap hq_; dsimp only [World.drewN] at hh_; have zb_ : Below w.heap.size w w28 := (by rw [← hq_]; exact pw_below_drewN HB.out _); have z_ := BK223.out; rw [hh_] at z_; clear BK223; have BK223 := Aside0.mk z_; clear z_; have z_ := BK224.out; rw [hh_] at z_; clear BK224; have BK224 := Aside0.mk z_; clear z_; clear HB; have HB := Aside0.mk zb_; clear zb_ hh_ hq_))
        have n0_ := Aside0.mk (blk_drew BK223.out)
        have n1_ := Aside0.mk (blk_drew BK224.out)
        have n2_ := Aside0.mk (below_drew1 HB.out)
        clear BK223
        clear BK224
        clear HB
        have BK223 := n0_
        have BK224 := n1_
        have HB := n2_
        clear n0_ n1_ n2_
        refine start_ (n := 7) (S := fun w' => w'.cell? ⟨gb223, 0, none⟩ = some (.int .i64 a0_0) ∧ w'.cell? ⟨gb223, 1, none⟩ = some (.int .i64 a0_1) ∧ w'.cell? ⟨gb223, 2, none⟩ = some (.int .i64 a0_2) ∧ w'.cell? ⟨gb223, 3, none⟩ = some (.int .i64 a0_3) ∧ w'.cell? ⟨gb223, 4, none⟩ = some (.int .i64 a0_4) ∧ w'.cell? ⟨gb223, 5, none⟩ = some (.int .i64 a0_5) ∧ w'.cell? ⟨gb224, 0, none⟩ = some (.slice A1_0 l1_0.length c1_0) ∧ w'.cell? ⟨gb224, 1, none⟩ = some (.slice A1_1 l1_1.length c1_1) ∧ w'.cell? ⟨gb224, 2, none⟩ = some (.slice A1_2 l1_2.length c1_2)) (ds := []) #[false, false, false, false, false, false, false] (by kernel_rfl) rfl rfl ⟨(blk_cell BK223.out 0).trans rfl, (blk_cell BK223.out 1).trans rfl, (blk_cell BK223.out 2).trans rfl, (blk_cell BK223.out 3).trans rfl, (blk_cell BK223.out 4).trans rfl, (blk_cell BK223.out 5).trans rfl, (blk_cell BK224.out 0).trans rfl, (blk_cell BK224.out 1).trans rfl, (blk_cell BK224.out 2).trans rfl⟩ (fun hHeld => ?_)
        generalize w28.drew = w29 at BK223 BK224 HB hHeld ⊢
        refine pure_ (i := 4) (N := some 24) (v := ?_) (a' := ?_) #[false, false, false, false, true, false, false] rfl rfl (by kernel_rfl) (fun _ _ _ h => h) (Or.inl ⟨by rfl, ?_⟩) ?_ ?_
        rotate_left
        · intro w'
          go_simp
          with_reducible rfl
        rotate_left
        · simp only [Act.put, List.setIfInBounds_toArray, List.set_cons_zero, List.set_cons_succ, i64_w, i32_w]
          rfl
        refine take_ (i := 0) (N := some 20) (v := ?_) (a' := ?_) #[true, false, false, false, true, false, false] rfl rfl (by kernel_rfl) (fun _ _ _ h => h) (Or.inl ⟨by rfl, ?_⟩) hHeld ?_ ?_
        rotate_left
        · rintro w' ⟨s0, s1, s2, s3, s4, s5, s6, s7, s8⟩
          go_simp
          with_reducible rfl
        rotate_left
        · simp only [Act.put, List.setIfInBounds_toArray, List.set_cons_zero, List.set_cons_succ, i64_w, i32_w]
          rfl
        refine take_ (i := 2) (N := some 22) (v := ?_) (a' := ?_) #[true, false, true, false, true, false, false] rfl rfl (by kernel_rfl) (fun _ _ _ h => h) (Or.inl ⟨by rfl, ?_⟩) hHeld ?_ ?_
        rotate_left
        · rintro w' ⟨s0, s1, s2, s3, s4, s5, s6, s7, s8⟩
          go_simp
          with_reducible rfl
        rotate_left
        · simp only [Act.put, List.setIfInBounds_toArray, List.set_cons_zero, List.set_cons_succ, i64_w, i32_w]
          rfl
        refine one_ (i := 1) (N := some 21) #[true, true, true, false, true, false, false] rfl rfl (by kernel_rfl) (by decide) (fun K hK => ?_)
        refine goes_ Try.func44 (by kernel_rfl) rfl #[.agg #[.int .i64 a0_0, .int .i64 a0_1, .int .i64 a0_2, .int .i64 a0_3, .int .i64 a0_4, .int .i64 a0_5]] (by rfl) rfl rfl (by (try simp only [List.map_toArray, List.map_cons, List.map_nil]); first | done | rfl | (simp only [List.length_drop, List.length_take]; rfl)) ?_
        with_reducible refine (laws_toConf.calls a0_0 a0_1 a0_2 a0_3 a0_4 a0_5 t226 t227 t228 t229 t230 t231 _ A11.out).mono ?_
        rintro e w30 ⟨rfl, hb⟩
        refine ⟨_, rfl, ?_⟩
        have n0_ := Aside0.mk (blk_below (g := gb223) (o := .cells #[.int .i64 a0_0, .int .i64 a0_1, .int .i64 a0_2, .int .i64 a0_3, .int .i64 a0_4, .int .i64 a0_5] 45 (0, 0)) (by (with_reducible repeat (first | refine blk_drewN ?_ _ | refine blk_drew ?_ | refine blk_alloc ?_ _)); exact BK223.out) hb)
        have n1_ := Aside0.mk (blk_below (g := gb224) (o := .cells #[.slice A1_0 l1_0.length c1_0, .slice A1_1 l1_1.length c1_1, .slice A1_2 l1_2.length c1_2] 48 (0, 0)) (by (with_reducible repeat (first | refine blk_drewN ?_ _ | refine blk_drew ?_ | refine blk_alloc ?_ _)); exact BK224.out) hb)
        have n2_ := Aside0.mk (below_step (by repeat (first | (with_reducible first | exact HB.out | apply below_alloc | apply pw_below_drewN | apply below_drew1 | refine below_set ?_ GE223.out | refine below_set ?_ GE224.out) | exact HB.out)) hb)
        clear BK223
        clear BK224
        clear HB
        have BK223 := n0_
        have BK224 := n1_
        have HB := n2_
        clear n0_ n1_ n2_
        (try clear hb)
        (try clear hb2)
        (try clear hk)
        (try clear hi)
        refine hK.out _ _ (by first | exact ⟨(blk_cell BK223.out 0).trans rfl, (blk_cell BK223.out 1).trans rfl, (blk_cell BK223.out 2).trans rfl, (blk_cell BK223.out 3).trans rfl, (blk_cell BK223.out 4).trans rfl, (blk_cell BK223.out 5).trans rfl, (blk_cell BK224.out 0).trans rfl, (blk_cell BK224.out 1).trans rfl, (blk_cell BK224.out 2).trans rfl⟩ | exact hHeld) (fun hHeld => ?_)
        clear hK K
        refine norm_ (a' := ?_) ?_ ?_
        rotate_left
        · show Act.put _ (some 21) _ = _
          simp only [Act.put, List.setIfInBounds_toArray, List.set_cons_zero, List.set_cons_succ, i64_w, i32_w]
          rfl
        refine one_ (i := 3) (N := some 23) #[true, true, true, true, true, false, false] rfl rfl (by kernel_rfl) (by decide) (fun K hK => ?_)
        refine goes_ Try.func45 (by kernel_rfl) rfl #[.agg #[.slice A1_0 l1_0.length c1_0, .slice A1_1 l1_1.length c1_1, .slice A1_2 l1_2.length c1_2]] (by rfl) rfl rfl (by (try simp only [List.map_toArray, List.map_cons, List.map_nil]); first | done | rfl | (simp only [List.length_drop, List.length_take]; rfl)) ?_
        with_reducible refine (laws_toPool.calls k _ _ l1_0 _ _ l1_1 _ _ l1_2 t232 t235 t238 _ ?side1 ?side2 ?side3 ?side4 ?side5 ?side6 A12.out).mono ?_
        (case side1 => repeat (first | exact (Kd.C_below HR1_0.out HB.out) | (with_reducible refine Kd.C_alloc ?_ _) | (with_reducible refine Kd.C_drewN ?_ _) | (with_reducible refine Kd.C_drew ?_)))
        (case side2 => exact HC1_0.out)
        (case side3 => repeat (first | exact (Kd.C_below HR1_1.out HB.out) | (with_reducible refine Kd.C_alloc ?_ _) | (with_reducible refine Kd.C_drewN ?_ _) | (with_reducible refine Kd.C_drew ?_)))
        (case side4 => exact HC1_1.out)
        (case side5 => repeat (first | exact (Kd.C_below HR1_2.out HB.out) | (with_reducible refine Kd.C_alloc ?_ _) | (with_reducible refine Kd.C_drewN ?_ _) | (with_reducible refine Kd.C_drew ?_)))
        (case side6 => exact HC1_2.out)
        rintro e w31 ⟨v233, v236, v239, rfl, ho0, ho1, ho2, hb⟩
        refine ⟨_, rfl, ?_⟩
        have n0_ := Aside0.mk (Kd.R_lower ho0 (below_size (by repeat (first | (with_reducible first | exact HB.out | apply below_alloc | apply pw_below_drewN | apply below_drew1 | refine below_set ?_ GE223.out | refine below_set ?_ GE224.out) | exact HB.out))))
        have n1_ := Aside0.mk (Kd.R_lower ho1 (below_size (by repeat (first | (with_reducible first | exact HB.out | apply below_alloc | apply pw_below_drewN | apply below_drew1 | refine below_set ?_ GE223.out | refine below_set ?_ GE224.out) | exact HB.out))))
        have n2_ := Aside0.mk (Kd.R_lower ho2 (below_size (by repeat (first | (with_reducible first | exact HB.out | apply below_alloc | apply pw_below_drewN | apply below_drew1 | refine below_set ?_ GE223.out | refine below_set ?_ GE224.out) | exact HB.out))))
        have n3_ := Aside0.mk (blk_below (g := gb223) (o := .cells #[.int .i64 a0_0, .int .i64 a0_1, .int .i64 a0_2, .int .i64 a0_3, .int .i64 a0_4, .int .i64 a0_5] 45 (0, 0)) (by (with_reducible repeat (first | refine blk_drewN ?_ _ | refine blk_drew ?_ | refine blk_alloc ?_ _)); exact BK223.out) hb)
        have n4_ := Aside0.mk (blk_below (g := gb224) (o := .cells #[.slice A1_0 l1_0.length c1_0, .slice A1_1 l1_1.length c1_1, .slice A1_2 l1_2.length c1_2] 48 (0, 0)) (by (with_reducible repeat (first | refine blk_drewN ?_ _ | refine blk_drew ?_ | refine blk_alloc ?_ _)); exact BK224.out) hb)
        have n5_ := Aside0.mk (below_step (by repeat (first | (with_reducible first | exact HB.out | apply below_alloc | apply pw_below_drewN | apply below_drew1 | refine below_set ?_ GE223.out | refine below_set ?_ GE224.out) | exact HB.out)) hb)
        clear BK223
        clear BK224
        clear HB
        have HO234 := n0_
        have HO237 := n1_
        have HO240 := n2_
        have BK223 := n3_
        have BK224 := n4_
        have HB := n5_
        clear n0_ n1_ n2_ n3_ n4_ n5_
        (try clear hb)
        (try clear hb2)
        (try clear hk)
        (try clear hi)
        (try clear ho0)
        (try clear ho1)
        (try clear ho2)
        obtain ⟨Ao32, co32, eo32⟩ := Kd.R_slice HO234.out
        (first | subst eo32 | (injection eo32 with f1_ f2_ f3_; have f4_ := f1_.symm; have f5_ := f3_.symm; clear f1_ f2_ f3_; subst f4_; subst f5_))
        obtain ⟨Ao33, co33, eo33⟩ := Kd.R_slice HO237.out
        (first | subst eo33 | (injection eo33 with f1_ f2_ f3_; have f4_ := f1_.symm; have f5_ := f3_.symm; clear f1_ f2_ f3_; subst f4_; subst f5_))
        obtain ⟨Ao34, co34, eo34⟩ := Kd.R_slice HO240.out
        (first | subst eo34 | (injection eo34 with f1_ f2_ f3_; have f4_ := f1_.symm; have f5_ := f3_.symm; clear f1_ f2_ f3_; subst f4_; subst f5_))
        refine hK.out _ _ (by first | exact ⟨(blk_cell BK223.out 0).trans rfl, (blk_cell BK223.out 1).trans rfl, (blk_cell BK223.out 2).trans rfl, (blk_cell BK223.out 3).trans rfl, (blk_cell BK223.out 4).trans rfl, (blk_cell BK223.out 5).trans rfl, (blk_cell BK224.out 0).trans rfl, (blk_cell BK224.out 1).trans rfl, (blk_cell BK224.out 2).trans rfl⟩ | exact hHeld) (fun hHeld => ?_)
        clear hK K
        refine norm_ (a' := ?_) ?_ ?_
        rotate_left
        · show Act.put _ (some 23) _ = _
          simp only [Act.put, List.setIfInBounds_toArray, List.set_cons_zero, List.set_cons_succ, i64_w, i32_w]
          rfl
        refine one_ (i := 5) (N := some 25) #[true, true, true, true, true, true, false] rfl rfl (by kernel_rfl) (by decide) (fun K hK => ?_)
        refine goes_ Try.func48 (by kernel_rfl) rfl #[.agg #[.int .i64 t226, .int .i64 t227, .int .i64 t228, .int .i64 t229, .int .i64 t230, .int .i64 t231], .agg #[.slice Ao32 t232.length co32, .slice Ao33 t235.length co33, .slice Ao34 t238.length co34], .int .i64 a2] (by rfl) rfl rfl (by (try simp only [List.map_toArray, List.map_cons, List.map_nil]); first | done | rfl | (simp only [List.length_drop, List.length_take]; rfl)) ?_
        with_reducible refine (spec_ChunkBytes.calls k t226 t227 t228 t229 t230 t231 _ _ t232 _ _ t235 _ _ t238 a2 t241 _ ?side1 ?side2 ?side3 ?side4 ?side5 ?side6 A13.out).mono ?_
        (case side1 => repeat (first | exact (Kd.R_reads' HO234.out).2.2 | (with_reducible refine Kd.C_alloc ?_ _) | (with_reducible refine Kd.C_drewN ?_ _) | (with_reducible refine Kd.C_drew ?_)))
        (case side2 => exact (Kd.R_reads' HO234.out).2.1)
        (case side3 => repeat (first | exact (Kd.R_reads' HO237.out).2.2 | (with_reducible refine Kd.C_alloc ?_ _) | (with_reducible refine Kd.C_drewN ?_ _) | (with_reducible refine Kd.C_drew ?_)))
        (case side4 => exact (Kd.R_reads' HO237.out).2.1)
        (case side5 => repeat (first | exact (Kd.R_reads' HO240.out).2.2 | (with_reducible refine Kd.C_alloc ?_ _) | (with_reducible refine Kd.C_drewN ?_ _) | (with_reducible refine Kd.C_drew ?_)))
        (case side6 => exact (Kd.R_reads' HO240.out).2.1)
        rintro e w35 ⟨v242, rfl, ho0, hb⟩
        refine ⟨_, rfl, ?_⟩
        have n0_ := Aside0.mk (Kd.R_elder' (by (with_reducible repeat (first | apply Kd.R_alloc | apply Kd.R_drewN | apply Kd.R_drew)); exact HO234.out) (Kd.R_base ho0) hb)
        have n1_ := Aside0.mk (Kd.R_below (by (with_reducible repeat (first | apply Kd.R_alloc | apply Kd.R_drewN | apply Kd.R_drew)); exact HO237.out) hb)
        have n2_ := Aside0.mk (Kd.R_below (by (with_reducible repeat (first | apply Kd.R_alloc | apply Kd.R_drewN | apply Kd.R_drew)); exact HO240.out) hb)
        have n3_ := Aside0.mk (Kd.R_lower (Kd.R_new' ho0 (Kd.R_lt (by (with_reducible repeat (first | apply Kd.R_alloc | apply Kd.R_drewN | apply Kd.R_drew)); exact HO234.out))) (below_size (by repeat (first | (with_reducible first | exact HB.out | apply below_alloc | apply pw_below_drewN | apply below_drew1 | refine below_set ?_ GE223.out | refine below_set ?_ GE224.out) | exact HB.out))))
        have n4_ := Aside0.mk (blk_below (g := gb223) (o := .cells #[.int .i64 a0_0, .int .i64 a0_1, .int .i64 a0_2, .int .i64 a0_3, .int .i64 a0_4, .int .i64 a0_5] 45 (0, 0)) (by (with_reducible repeat (first | refine blk_drewN ?_ _ | refine blk_drew ?_ | refine blk_alloc ?_ _)); exact BK223.out) hb)
        have n5_ := Aside0.mk (blk_below (g := gb224) (o := .cells #[.slice A1_0 l1_0.length c1_0, .slice A1_1 l1_1.length c1_1, .slice A1_2 l1_2.length c1_2] 48 (0, 0)) (by (with_reducible repeat (first | refine blk_drewN ?_ _ | refine blk_drew ?_ | refine blk_alloc ?_ _)); exact BK224.out) hb)
        have n6_ := Aside0.mk (below_step (by repeat (first | (with_reducible first | exact HB.out | apply below_alloc | apply pw_below_drewN | apply below_drew1 | refine below_set ?_ GE223.out | refine below_set ?_ GE224.out) | exact HB.out)) hb)
        clear HO234
        clear HO237
        clear HO240
        clear BK223
        clear BK224
        clear HB
        have HO234 := n0_
        have HO237 := n1_
        have HO240 := n2_
        have HO243 := n3_
        have BK223 := n4_
        have BK224 := n5_
        have HB := n6_
        clear n0_ n1_ n2_ n3_ n4_ n5_ n6_
        (try clear hb)
        (try clear hb2)
        (try clear hk)
        (try clear hi)
        (try clear ho0)
        refine hK.out _ _ (by first | exact ⟨(blk_cell BK223.out 0).trans rfl, (blk_cell BK223.out 1).trans rfl, (blk_cell BK223.out 2).trans rfl, (blk_cell BK223.out 3).trans rfl, (blk_cell BK223.out 4).trans rfl, (blk_cell BK223.out 5).trans rfl, (blk_cell BK224.out 0).trans rfl, (blk_cell BK224.out 1).trans rfl, (blk_cell BK224.out 2).trans rfl⟩ | exact hHeld) (fun hHeld => ?_)
        clear hK K
        refine norm_ (a' := ?_) ?_ ?_
        rotate_left
        · show Act.put _ (some 25) _ = _
          simp only [Act.put, List.setIfInBounds_toArray, List.set_cons_zero, List.set_cons_succ, i64_w, i32_w]
          rfl
        refine pure_ (i := 6) (N := some 8) (v := ?_) (a' := ?_) #[true, true, true, true, true, true, true] rfl rfl (by kernel_rfl) (fun _ _ _ h => h) (Or.inl ⟨by rfl, ?_⟩) ?_ ?_
        rotate_left
        · intro w'
          go_simp
          with_reducible rfl
        rotate_left
        · simp only [Act.put, List.setIfInBounds_toArray, List.set_cons_zero, List.set_cons_succ, i64_w, i32_w]
          rfl
        refine done_ (by kernel_rfl) ?_
        have hcz36_0 : w35.cell? ⟨gb224, 0, none⟩ = some (.slice A1_0 l1_0.length c1_0) := (blk_cell BK224.out 0).trans rfl
        have hcz36_1 : w35.cell? ⟨gb224, 1, none⟩ = some (.slice A1_1 l1_1.length c1_1) := (blk_cell BK224.out 1).trans rfl
        have hcz36_2 : w35.cell? ⟨gb224, 2, none⟩ = some (.slice A1_2 l1_2.length c1_2) := (blk_cell BK224.out 2).trans rfl
        have hfz36_0 := blk_frozen BK224.out 0
        have hfz36_1 := blk_frozen BK224.out 1
        have hfz36_2 := blk_frozen BK224.out 2
        try go_wp2_with (first | ((with_reducible refine gate_callee (f := 45) rfl ?_); refine goesL_ (some 27) rfl rfl Try.func45 (by kernel_rfl) rfl #[.agg #[.slice A1_0 l1_0.length c1_0, .slice A1_1 l1_1.length c1_1, .slice A1_2 l1_2.length c1_2]] rfl (by (try simp only [List.map_toArray, List.map_cons, List.map_nil]); first | done | rfl | (simp only [List.length_drop, List.length_take]; rfl)) ?_; (with_reducible refine (laws_toPool.calls k _ _ l1_0 _ _ l1_1 _ _ l1_2 t244 t247 t250 _ ?side1 ?side2 ?side3 ?side4 ?side5 ?side6 A14.out).mono ?_); (case side1 => repeat (first | exact (Kd.C_below HR1_0.out HB.out) | (with_reducible refine Kd.C_alloc ?_ _) | (with_reducible refine Kd.C_drewN ?_ _) | (with_reducible refine Kd.C_drew ?_))); (case side2 => exact HC1_0.out); (case side3 => repeat (first | exact (Kd.C_below HR1_1.out HB.out) | (with_reducible refine Kd.C_alloc ?_ _) | (with_reducible refine Kd.C_drewN ?_ _) | (with_reducible refine Kd.C_drew ?_))); (case side4 => exact HC1_1.out); (case side5 => repeat (first | exact (Kd.C_below HR1_2.out HB.out) | (with_reducible refine Kd.C_alloc ?_ _) | (with_reducible refine Kd.C_drewN ?_ _) | (with_reducible refine Kd.C_drew ?_))); (case side6 => exact HC1_2.out); rintro e w37 ⟨v245, v248, v251, rfl, ho0, ho1, ho2, hb⟩; refine ⟨_, rfl, ?_⟩; have n0_ := Aside0.mk (Kd.R_elder' (by (with_reducible repeat (first | apply Kd.R_alloc | apply Kd.R_drewN | apply Kd.R_drew)); exact HO234.out) (Kd.R_base ho0) hb); have n1_ := Aside0.mk (Kd.R_mono (Kd.R_told (Kd.R_told (Kd.R_old (by (with_reducible repeat (first | apply Kd.R_alloc | apply Kd.R_drewN | apply Kd.R_drew)); exact HO237.out) hb) (Kd.R_base ho1)) (Kd.R_base ho2)) (fun _ h_ => h_.1)); have n2_ := Aside0.mk (Kd.R_mono (Kd.R_told (Kd.R_told (Kd.R_old (by (with_reducible repeat (first | apply Kd.R_alloc | apply Kd.R_drewN | apply Kd.R_drew)); exact HO240.out) hb) (Kd.R_base ho1)) (Kd.R_base ho2)) (fun _ h_ => h_.1)); have n3_ := Aside0.mk (Kd.R_elder' (by (with_reducible repeat (first | apply Kd.R_alloc | apply Kd.R_drewN | apply Kd.R_drew)); exact HO243.out) (Kd.R_base ho0) hb); have n4_ := Aside0.mk (Kd.R_lower (Kd.R_new' (Kd.R_new' ho0 (Kd.R_lt (by (with_reducible repeat (first | apply Kd.R_alloc | apply Kd.R_drewN | apply Kd.R_drew)); exact HO234.out))) (Kd.R_lt (by (with_reducible repeat (first | apply Kd.R_alloc | apply Kd.R_drewN | apply Kd.R_drew)); exact HO243.out))) (below_size (by repeat (first | (with_reducible first | exact HB.out | apply below_alloc | apply pw_below_drewN | apply below_drew1 | refine below_set ?_ GE223.out | refine below_set ?_ GE224.out) | exact HB.out)))); have n5_ := Aside0.mk (Kd.R_lower (Kd.R_new' (Kd.R_new' ho1 (Kd.R_lt (by (with_reducible repeat (first | apply Kd.R_alloc | apply Kd.R_drewN | apply Kd.R_drew)); exact HO237.out))) (Kd.R_lt (by (with_reducible repeat (first | apply Kd.R_alloc | apply Kd.R_drewN | apply Kd.R_drew)); exact HO240.out))) (below_size (by repeat (first | (with_reducible first | exact HB.out | apply below_alloc | apply pw_below_drewN | apply below_drew1 | refine below_set ?_ GE223.out | refine below_set ?_ GE224.out) | exact HB.out)))); have n6_ := Aside0.mk (Kd.R_lower (Kd.R_new' (Kd.R_new' ho2 (Kd.R_lt (by (with_reducible repeat (first | apply Kd.R_alloc | apply Kd.R_drewN | apply Kd.R_drew)); exact HO237.out))) (Kd.R_lt (by (with_reducible repeat (first | apply Kd.R_alloc | apply Kd.R_drewN | apply Kd.R_drew)); exact HO240.out))) (below_size (by repeat (first | (with_reducible first | exact HB.out | apply below_alloc | apply pw_below_drewN | apply below_drew1 | refine below_set ?_ GE223.out | refine below_set ?_ GE224.out) | exact HB.out)))); have n7_ := Aside0.mk (blk_below (g := gb223) (o := .cells #[.int .i64 a0_0, .int .i64 a0_1, .int .i64 a0_2, .int .i64 a0_3, .int .i64 a0_4, .int .i64 a0_5] 45 (0, 0)) (by (with_reducible repeat (first | refine blk_drewN ?_ _ | refine blk_drew ?_ | refine blk_alloc ?_ _)); exact BK223.out) hb); have n8_ := Aside0.mk (blk_below (g := gb224) (o := .cells #[.slice A1_0 l1_0.length c1_0, .slice A1_1 l1_1.length c1_1, .slice A1_2 l1_2.length c1_2] 48 (0, 0)) (by (with_reducible repeat (first | refine blk_drewN ?_ _ | refine blk_drew ?_ | refine blk_alloc ?_ _)); exact BK224.out) hb); have n9_ := Aside0.mk (below_step (by repeat (first | (with_reducible first | exact HB.out | apply below_alloc | apply pw_below_drewN | apply below_drew1 | refine below_set ?_ GE223.out | refine below_set ?_ GE224.out) | exact HB.out)) hb); clear HO234; clear HO237; clear HO240; clear HO243; clear BK223; clear BK224; clear HB; have HO234 := n0_; have HO237 := n1_; have HO240 := n2_; have HO243 := n3_; have HO246 := n4_; have HO249 := n5_; have HO252 := n6_; have BK223 := n7_; have BK224 := n8_; have HB := n9_; clear n0_ n1_ n2_ n3_ n4_ n5_ n6_ n7_ n8_ n9_; (try clear hb); (try clear hb2); (try clear hk); (try clear hi); (try clear ho0); (try clear ho1); (try clear ho2)) | ((with_reducible refine gate_dst (N := 9) rfl ?_); refine box_event ?hg (N := 9) ?hd (cs := #[.slice none 0 0, .slice none 0 0, .slice none 0 0]) (t := 53) ?hr ?_; (case hd => rfl); (case hg => rfl); (case hr => first | (go_simp; done) | (go_simp; rfl)); intro gb253 hg w38 hbox hb; have n0_ := Aside0.mk (Kd.R_below (by (with_reducible repeat (first | apply Kd.R_alloc | apply Kd.R_drewN | apply Kd.R_drew)); exact HO234.out) hb); have n1_ := Aside0.mk (Kd.R_below (by (with_reducible repeat (first | apply Kd.R_alloc | apply Kd.R_drewN | apply Kd.R_drew)); exact HO237.out) hb); have n2_ := Aside0.mk (Kd.R_below (by (with_reducible repeat (first | apply Kd.R_alloc | apply Kd.R_drewN | apply Kd.R_drew)); exact HO240.out) hb); have n3_ := Aside0.mk (Kd.R_below (by (with_reducible repeat (first | apply Kd.R_alloc | apply Kd.R_drewN | apply Kd.R_drew)); exact HO243.out) hb); have n4_ := Aside0.mk (Kd.R_below (by (with_reducible repeat (first | apply Kd.R_alloc | apply Kd.R_drewN | apply Kd.R_drew)); exact HO246.out) hb); have n5_ := Aside0.mk (Kd.R_below (by (with_reducible repeat (first | apply Kd.R_alloc | apply Kd.R_drewN | apply Kd.R_drew)); exact HO249.out) hb); have n6_ := Aside0.mk (Kd.R_below (by (with_reducible repeat (first | apply Kd.R_alloc | apply Kd.R_drewN | apply Kd.R_drew)); exact HO252.out) hb); have n7_ := Aside0.mk (blk_below (g := gb223) (o := .cells #[.int .i64 a0_0, .int .i64 a0_1, .int .i64 a0_2, .int .i64 a0_3, .int .i64 a0_4, .int .i64 a0_5] 45 (0, 0)) (by (with_reducible repeat (first | refine blk_drewN ?_ _ | refine blk_drew ?_ | refine blk_alloc ?_ _)); exact BK223.out) hb); have n8_ := Aside0.mk (blk_below (g := gb224) (o := .cells #[.slice A1_0 l1_0.length c1_0, .slice A1_1 l1_1.length c1_1, .slice A1_2 l1_2.length c1_2] 48 (0, 0)) (by (with_reducible repeat (first | refine blk_drewN ?_ _ | refine blk_drew ?_ | refine blk_alloc ?_ _)); exact BK224.out) hb); have n9_ := Aside0.mk (below_step (by repeat (first | (with_reducible first | exact HB.out | apply below_alloc | apply pw_below_drewN | apply below_drew1 | refine below_set ?_ GE223.out | refine below_set ?_ GE224.out) | exact HB.out)) hb); have n10_ := Aside0.mk (hbox); have n11_ := Aside0.mk ((by rw [hg]; exact (below_size (by repeat (first | (with_reducible first | exact HB.out | apply below_alloc | apply pw_below_drewN | apply below_drew1 | refine below_set ?_ GE223.out | refine below_set ?_ GE224.out) | exact HB.out))) : w.heap.size ≤ gb253)); have n12_ := Aside0.mk ((by rw [hg]; exact (below_size (by repeat (first | (with_reducible first | exact HB.out | apply below_alloc | apply pw_below_drewN | apply below_drew1 | refine below_set ?_ GE223.out | refine below_set ?_ GE224.out) | exact HB.out))) : w.heap.size ≤ gb253)); have n13_ := Aside0.mk ((by rw [hg]; exact Nat.ne_of_lt (blk_lt (g := gb223) (o := .cells #[.int .i64 a0_0, .int .i64 a0_1, .int .i64 a0_2, .int .i64 a0_3, .int .i64 a0_4, .int .i64 a0_5] 45 (0, 0)) (by (with_reducible repeat (first | refine blk_drewN ?_ _ | refine blk_drew ?_ | refine blk_alloc ?_ _)); exact BK223.out)) : gb223 ≠ gb253)); have n14_ := Aside0.mk ((by rw [hg]; exact Nat.ne_of_gt (blk_lt (g := gb223) (o := .cells #[.int .i64 a0_0, .int .i64 a0_1, .int .i64 a0_2, .int .i64 a0_3, .int .i64 a0_4, .int .i64 a0_5] 45 (0, 0)) (by (with_reducible repeat (first | refine blk_drewN ?_ _ | refine blk_drew ?_ | refine blk_alloc ?_ _)); exact BK223.out)) : gb253 ≠ gb223)); have n15_ := Aside0.mk ((by rw [hg]; exact Nat.ne_of_lt (blk_lt (g := gb224) (o := .cells #[.slice A1_0 l1_0.length c1_0, .slice A1_1 l1_1.length c1_1, .slice A1_2 l1_2.length c1_2] 48 (0, 0)) (by (with_reducible repeat (first | refine blk_drewN ?_ _ | refine blk_drew ?_ | refine blk_alloc ?_ _)); exact BK224.out)) : gb224 ≠ gb253)); have n16_ := Aside0.mk ((by rw [hg]; exact Nat.ne_of_gt (blk_lt (g := gb224) (o := .cells #[.slice A1_0 l1_0.length c1_0, .slice A1_1 l1_1.length c1_1, .slice A1_2 l1_2.length c1_2] 48 (0, 0)) (by (with_reducible repeat (first | refine blk_drewN ?_ _ | refine blk_drew ?_ | refine blk_alloc ?_ _)); exact BK224.out)) : gb253 ≠ gb224)); clear HO234; clear HO237; clear HO240; clear HO243; clear HO246; clear HO249; clear HO252; clear BK223; clear BK224; clear HB; have HO234 := n0_; have HO237 := n1_; have HO240 := n2_; have HO243 := n3_; have HO246 := n4_; have HO249 := n5_; have HO252 := n6_; have BK223 := n7_; have BK224 := n8_; have HB := n9_; have BK253 := n10_; have GW253 := n11_; have GE253 := n12_; have NB223_253 := n13_; have NB253_223 := n14_; have NB224_253 := n15_; have NB253_224 := n16_; clear n0_ n1_ n2_ n3_ n4_ n5_ n6_ n7_ n8_ n9_ n10_ n11_ n12_ n13_ n14_ n15_ n16_; clear hb hbox hg; obtain ⟨Ao39, co39, eo39⟩ := Kd.R_slice HO246.out; subst eo39; have hnb40 := NB253_223.out; have hnc40 := NB223_253.out; have hnb41 := NB253_224.out; have hnc41 := NB224_253.out; have hcz42_0 : w38.cell? ⟨gb253, 0, none⟩ = some (.slice none 0 0) := (blk_cell BK253.out 0).trans rfl; have hcz42_1 : w38.cell? ⟨gb253, 1, none⟩ = some (.slice none 0 0) := (blk_cell BK253.out 1).trans rfl; have hcz42_2 : w38.cell? ⟨gb253, 2, none⟩ = some (.slice none 0 0) := (blk_cell BK253.out 2).trans rfl; have hfz42_0 := blk_frozen BK253.out 0; have hfz42_1 := blk_frozen BK253.out 1; have hfz42_2 := blk_frozen BK253.out 2; obtain ⟨Ao43, co43, eo43⟩ := Kd.R_slice HO249.out; subst eo43; obtain ⟨Ao44, co44, eo44⟩ := Kd.R_slice HO252.out; subst eo44))
        have n0_ : Aside0 (Kd.R (Kd.int .u8) 5 (((w38.setCell ⟨gb253, 0, none⟩ (.slice Ao39 t244.length co39)).setCell ⟨gb253, 1, none⟩ (.slice Ao43 t247.length co43)).setCell ⟨gb253, 2, none⟩ (.slice Ao44 t250.length co44)) w.heap.size (fun k_ => some k_ ≠ (v242 : Value).ownBlock ∧ some k_ ≠ (.slice Ao39 t244.length co39 : Value).ownBlock) (.slice Ao32 t232.length co32) t232) := ⟨by (with_reducible repeat (first | apply Kd.R_alloc | apply Kd.R_drewN | apply Kd.R_drew)); exact Kd.R_mono (Kd.R_far (p := ⟨gb253, 2, none⟩) (Kd.R_far (p := ⟨gb253, 1, none⟩) (Kd.R_far (p := ⟨gb253, 0, none⟩) (Kd.R_types HO234.out BK253.out (by decide)) (fun _ hk => hk.2) (.slice Ao39 t244.length co39)) (fun _ hk => hk.2) (.slice Ao43 t247.length co43)) (fun _ hk => hk.2) (.slice Ao44 t250.length co44)) (fun _ hk => ⟨hk.1.1.2, hk.1.2⟩)⟩
        have n1_ : Aside0 (Kd.R (Kd.int .i64) 3 (((w38.setCell ⟨gb253, 0, none⟩ (.slice Ao39 t244.length co39)).setCell ⟨gb253, 1, none⟩ (.slice Ao43 t247.length co43)).setCell ⟨gb253, 2, none⟩ (.slice Ao44 t250.length co44)) w.heap.size (fun k_ => some k_ ≠ (.slice Ao34 t238.length co34 : Value).ownBlock ∧ some k_ ≠ (.slice Ao43 t247.length co43 : Value).ownBlock ∧ some k_ ≠ (.slice Ao44 t250.length co44 : Value).ownBlock) (.slice Ao33 t235.length co33) t235) := ⟨by (with_reducible repeat (first | apply Kd.R_alloc | apply Kd.R_drewN | apply Kd.R_drew)); exact Kd.R_mono (Kd.R_far (p := ⟨gb253, 2, none⟩) (Kd.R_far (p := ⟨gb253, 1, none⟩) (Kd.R_far (p := ⟨gb253, 0, none⟩) (Kd.R_types HO237.out BK253.out (by decide)) (fun _ hk => hk.2) (.slice Ao39 t244.length co39)) (fun _ hk => hk.2) (.slice Ao43 t247.length co43)) (fun _ hk => hk.2) (.slice Ao44 t250.length co44)) (fun _ hk => ⟨hk.1.1.1, ⟨hk.1.1.2, hk.1.2⟩⟩)⟩
        have n2_ : Aside0 (Kd.R (Kd.int .i64) 3 (((w38.setCell ⟨gb253, 0, none⟩ (.slice Ao39 t244.length co39)).setCell ⟨gb253, 1, none⟩ (.slice Ao43 t247.length co43)).setCell ⟨gb253, 2, none⟩ (.slice Ao44 t250.length co44)) w.heap.size (fun k_ => some k_ ≠ (.slice Ao33 t235.length co33 : Value).ownBlock ∧ some k_ ≠ (.slice Ao43 t247.length co43 : Value).ownBlock ∧ some k_ ≠ (.slice Ao44 t250.length co44 : Value).ownBlock) (.slice Ao34 t238.length co34) t238) := ⟨by (with_reducible repeat (first | apply Kd.R_alloc | apply Kd.R_drewN | apply Kd.R_drew)); exact Kd.R_mono (Kd.R_far (p := ⟨gb253, 2, none⟩) (Kd.R_far (p := ⟨gb253, 1, none⟩) (Kd.R_far (p := ⟨gb253, 0, none⟩) (Kd.R_types HO240.out BK253.out (by decide)) (fun _ hk => hk.2) (.slice Ao39 t244.length co39)) (fun _ hk => hk.2) (.slice Ao43 t247.length co43)) (fun _ hk => hk.2) (.slice Ao44 t250.length co44)) (fun _ hk => ⟨hk.1.1.1, ⟨hk.1.1.2, hk.1.2⟩⟩)⟩
        have n3_ : Aside0 (Kd.R (Kd.int .u8) 5 (((w38.setCell ⟨gb253, 0, none⟩ (.slice Ao39 t244.length co39)).setCell ⟨gb253, 1, none⟩ (.slice Ao43 t247.length co43)).setCell ⟨gb253, 2, none⟩ (.slice Ao44 t250.length co44)) w.heap.size (fun k_ => some k_ ≠ (.slice Ao32 t232.length co32 : Value).ownBlock ∧ some k_ ≠ (.slice Ao39 t244.length co39 : Value).ownBlock) v242 t241) := ⟨by (with_reducible repeat (first | apply Kd.R_alloc | apply Kd.R_drewN | apply Kd.R_drew)); exact Kd.R_mono (Kd.R_far (p := ⟨gb253, 2, none⟩) (Kd.R_far (p := ⟨gb253, 1, none⟩) (Kd.R_far (p := ⟨gb253, 0, none⟩) (Kd.R_types HO243.out BK253.out (by decide)) (fun _ hk => hk.2) (.slice Ao39 t244.length co39)) (fun _ hk => hk.2) (.slice Ao43 t247.length co43)) (fun _ hk => hk.2) (.slice Ao44 t250.length co44)) (fun _ hk => ⟨hk.1.1.2, hk.1.2⟩)⟩
        have n4_ : Aside0 (Kd.R (Kd.int .u8) 5 (((w38.setCell ⟨gb253, 0, none⟩ (.slice Ao39 t244.length co39)).setCell ⟨gb253, 1, none⟩ (.slice Ao43 t247.length co43)).setCell ⟨gb253, 2, none⟩ (.slice Ao44 t250.length co44)) w.heap.size (fun k_ => some k_ ≠ (.slice Ao32 t232.length co32 : Value).ownBlock ∧ some k_ ≠ (v242 : Value).ownBlock) (.slice Ao39 t244.length co39) t244) := ⟨by (with_reducible repeat (first | apply Kd.R_alloc | apply Kd.R_drewN | apply Kd.R_drew)); exact Kd.R_mono (Kd.R_far (p := ⟨gb253, 2, none⟩) (Kd.R_far (p := ⟨gb253, 1, none⟩) (Kd.R_far (p := ⟨gb253, 0, none⟩) (Kd.R_types HO246.out BK253.out (by decide)) (fun _ hk => hk.2) (.slice Ao39 t244.length co39)) (fun _ hk => hk.2) (.slice Ao43 t247.length co43)) (fun _ hk => hk.2) (.slice Ao44 t250.length co44)) (fun _ hk => ⟨hk.1.1.2, hk.1.2⟩)⟩
        have n5_ : Aside0 (Kd.R (Kd.int .i64) 3 (((w38.setCell ⟨gb253, 0, none⟩ (.slice Ao39 t244.length co39)).setCell ⟨gb253, 1, none⟩ (.slice Ao43 t247.length co43)).setCell ⟨gb253, 2, none⟩ (.slice Ao44 t250.length co44)) w.heap.size (fun k_ => some k_ ≠ (.slice Ao33 t235.length co33 : Value).ownBlock ∧ some k_ ≠ (.slice Ao34 t238.length co34 : Value).ownBlock ∧ some k_ ≠ (.slice Ao44 t250.length co44 : Value).ownBlock) (.slice Ao43 t247.length co43) t247) := ⟨by (with_reducible repeat (first | apply Kd.R_alloc | apply Kd.R_drewN | apply Kd.R_drew)); exact Kd.R_mono (Kd.R_far (p := ⟨gb253, 2, none⟩) (Kd.R_far (p := ⟨gb253, 1, none⟩) (Kd.R_far (p := ⟨gb253, 0, none⟩) (Kd.R_types HO249.out BK253.out (by decide)) (fun _ hk => hk.2) (.slice Ao39 t244.length co39)) (fun _ hk => hk.2) (.slice Ao43 t247.length co43)) (fun _ hk => hk.2) (.slice Ao44 t250.length co44)) (fun _ hk => ⟨hk.1.1.2, ⟨hk.1.2, hk.1.1.1⟩⟩)⟩
        have n6_ : Aside0 (Kd.R (Kd.int .i64) 3 (((w38.setCell ⟨gb253, 0, none⟩ (.slice Ao39 t244.length co39)).setCell ⟨gb253, 1, none⟩ (.slice Ao43 t247.length co43)).setCell ⟨gb253, 2, none⟩ (.slice Ao44 t250.length co44)) w.heap.size (fun k_ => some k_ ≠ (.slice Ao33 t235.length co33 : Value).ownBlock ∧ some k_ ≠ (.slice Ao34 t238.length co34 : Value).ownBlock ∧ some k_ ≠ (.slice Ao43 t247.length co43 : Value).ownBlock) (.slice Ao44 t250.length co44) t250) := ⟨by (with_reducible repeat (first | apply Kd.R_alloc | apply Kd.R_drewN | apply Kd.R_drew)); exact Kd.R_mono (Kd.R_far (p := ⟨gb253, 2, none⟩) (Kd.R_far (p := ⟨gb253, 1, none⟩) (Kd.R_far (p := ⟨gb253, 0, none⟩) (Kd.R_types HO252.out BK253.out (by decide)) (fun _ hk => hk.2) (.slice Ao39 t244.length co39)) (fun _ hk => hk.2) (.slice Ao43 t247.length co43)) (fun _ hk => hk.2) (.slice Ao44 t250.length co44)) (fun _ hk => ⟨hk.1.1.2, ⟨hk.1.2, hk.1.1.1⟩⟩)⟩
        have n7_ : Aside0 ((((w38.setCell ⟨gb253, 0, none⟩ (.slice Ao39 t244.length co39)).setCell ⟨gb253, 1, none⟩ (.slice Ao43 t247.length co43)).setCell ⟨gb253, 2, none⟩ (.slice Ao44 t250.length co44)).heap[gb223]? = some (.cells #[.int .i64 a0_0, .int .i64 a0_1, .int .i64 a0_2, .int .i64 a0_3, .int .i64 a0_4, .int .i64 a0_5] 45 (0, 0))) := ⟨by (with_reducible repeat (first | refine blk_drewN ?_ _ | refine blk_drew ?_ | refine blk_alloc ?_ _)); refine blk_far ?_ NB223_253.out _; (with_reducible repeat (first | refine blk_drewN ?_ _ | refine blk_drew ?_ | refine blk_alloc ?_ _)); refine blk_far ?_ NB223_253.out _; (with_reducible repeat (first | refine blk_drewN ?_ _ | refine blk_drew ?_ | refine blk_alloc ?_ _)); refine blk_far ?_ NB223_253.out _; (with_reducible repeat (first | refine blk_drewN ?_ _ | refine blk_drew ?_ | refine blk_alloc ?_ _)); exact BK223.out⟩
        have n8_ : Aside0 ((((w38.setCell ⟨gb253, 0, none⟩ (.slice Ao39 t244.length co39)).setCell ⟨gb253, 1, none⟩ (.slice Ao43 t247.length co43)).setCell ⟨gb253, 2, none⟩ (.slice Ao44 t250.length co44)).heap[gb224]? = some (.cells #[.slice A1_0 l1_0.length c1_0, .slice A1_1 l1_1.length c1_1, .slice A1_2 l1_2.length c1_2] 48 (0, 0))) := ⟨by (with_reducible repeat (first | refine blk_drewN ?_ _ | refine blk_drew ?_ | refine blk_alloc ?_ _)); refine blk_far ?_ NB224_253.out _; (with_reducible repeat (first | refine blk_drewN ?_ _ | refine blk_drew ?_ | refine blk_alloc ?_ _)); refine blk_far ?_ NB224_253.out _; (with_reducible repeat (first | refine blk_drewN ?_ _ | refine blk_drew ?_ | refine blk_alloc ?_ _)); refine blk_far ?_ NB224_253.out _; (with_reducible repeat (first | refine blk_drewN ?_ _ | refine blk_drew ?_ | refine blk_alloc ?_ _)); exact BK224.out⟩
        have n9_ : Aside0 ((((w38.setCell ⟨gb253, 0, none⟩ (.slice Ao39 t244.length co39)).setCell ⟨gb253, 1, none⟩ (.slice Ao43 t247.length co43)).setCell ⟨gb253, 2, none⟩ (.slice Ao44 t250.length co44)).heap[gb253]? = some (.cells #[.slice Ao39 t244.length co39, .slice Ao43 t247.length co43, .slice Ao44 t250.length co44] 53 (0, 0))) := ⟨by (with_reducible repeat (first | refine blk_drewN ?_ _ | refine blk_drew ?_ | refine blk_alloc ?_ _)); refine blk_put (cs := #[.slice Ao39 t244.length co39, .slice Ao43 t247.length co43, .slice none 0 0]) ?_ 2 _ rfl; (with_reducible repeat (first | refine blk_drewN ?_ _ | refine blk_drew ?_ | refine blk_alloc ?_ _)); refine blk_put (cs := #[.slice Ao39 t244.length co39, .slice none 0 0, .slice none 0 0]) ?_ 1 _ rfl; (with_reducible repeat (first | refine blk_drewN ?_ _ | refine blk_drew ?_ | refine blk_alloc ?_ _)); refine blk_put (cs := #[.slice none 0 0, .slice none 0 0, .slice none 0 0]) ?_ 0 _ rfl; (with_reducible repeat (first | refine blk_drewN ?_ _ | refine blk_drew ?_ | refine blk_alloc ?_ _)); exact BK253.out⟩
        have n10_ : Aside0 (Below w.heap.size w (((w38.setCell ⟨gb253, 0, none⟩ (.slice Ao39 t244.length co39)).setCell ⟨gb253, 1, none⟩ (.slice Ao43 t247.length co43)).setCell ⟨gb253, 2, none⟩ (.slice Ao44 t250.length co44))) := ⟨by repeat (first | (with_reducible first | exact HB.out | apply below_alloc | apply pw_below_drewN | apply below_drew1 | refine below_set ?_ GE223.out | refine below_set ?_ GE224.out | refine below_set ?_ GE253.out) | exact HB.out)⟩
        (try clear HO234)
        (try clear HO237)
        (try clear HO240)
        (try clear HO243)
        (try clear HO246)
        (try clear HO249)
        (try clear HO252)
        (try clear BK223)
        (try clear BK224)
        (try clear BK253)
        (try clear HB)
        generalize (((w38.setCell ⟨gb253, 0, none⟩ (.slice Ao39 t244.length co39)).setCell ⟨gb253, 1, none⟩ (.slice Ao43 t247.length co43)).setCell ⟨gb253, 2, none⟩ (.slice Ao44 t250.length co44)) = w45 at n0_ n1_ n2_ n3_ n4_ n5_ n6_ n7_ n8_ n9_ n10_ ⊢
        have HO234 := n0_
        have HO237 := n1_
        have HO240 := n2_
        have HO243 := n3_
        have HO246 := n4_
        have HO249 := n5_
        have HO252 := n6_
        have BK223 := n7_
        have BK224 := n8_
        have BK253 := n9_
        have HB := n10_
        clear n0_ n1_ n2_ n3_ n4_ n5_ n6_ n7_ n8_ n9_ n10_
        have n0_ := Aside0.mk (Kd.R_drew HO234.out)
        have n1_ := Aside0.mk (Kd.R_drew HO237.out)
        have n2_ := Aside0.mk (Kd.R_drew HO240.out)
        have n3_ := Aside0.mk (Kd.R_drew HO243.out)
        have n4_ := Aside0.mk (Kd.R_drew HO246.out)
        have n5_ := Aside0.mk (Kd.R_drew HO249.out)
        have n6_ := Aside0.mk (Kd.R_drew HO252.out)
        have n7_ := Aside0.mk (blk_drew BK223.out)
        have n8_ := Aside0.mk (blk_drew BK224.out)
        have n9_ := Aside0.mk (blk_drew BK253.out)
        have n10_ := Aside0.mk (below_drew1 HB.out)
        clear HO234
        clear HO237
        clear HO240
        clear HO243
        clear HO246
        clear HO249
        clear HO252
        clear BK223
        clear BK224
        clear BK253
        clear HB
        have HO234 := n0_
        have HO237 := n1_
        have HO240 := n2_
        have HO243 := n3_
        have HO246 := n4_
        have HO249 := n5_
        have HO252 := n6_
        have BK223 := n7_
        have BK224 := n8_
        have BK253 := n9_
        have HB := n10_
        clear n0_ n1_ n2_ n3_ n4_ n5_ n6_ n7_ n8_ n9_ n10_
        refine start_ (n := 6) (S := fun w' => w'.cell? ⟨gb223, 0, none⟩ = some (.int .i64 a0_0) ∧ w'.cell? ⟨gb223, 1, none⟩ = some (.int .i64 a0_1) ∧ w'.cell? ⟨gb223, 2, none⟩ = some (.int .i64 a0_2) ∧ w'.cell? ⟨gb223, 3, none⟩ = some (.int .i64 a0_3) ∧ w'.cell? ⟨gb223, 4, none⟩ = some (.int .i64 a0_4) ∧ w'.cell? ⟨gb223, 5, none⟩ = some (.int .i64 a0_5) ∧ w'.cell? ⟨gb253, 0, none⟩ = some (.slice Ao39 t244.length co39) ∧ w'.cell? ⟨gb253, 1, none⟩ = some (.slice Ao43 t247.length co43) ∧ w'.cell? ⟨gb253, 2, none⟩ = some (.slice Ao44 t250.length co44)) (ds := []) #[false, false, false, false, false, false] (by kernel_rfl) rfl rfl ⟨(blk_cell BK223.out 0).trans rfl, (blk_cell BK223.out 1).trans rfl, (blk_cell BK223.out 2).trans rfl, (blk_cell BK223.out 3).trans rfl, (blk_cell BK223.out 4).trans rfl, (blk_cell BK223.out 5).trans rfl, (blk_cell BK253.out 0).trans rfl, (blk_cell BK253.out 1).trans rfl, (blk_cell BK253.out 2).trans rfl⟩ (fun hHeld => ?_)
        generalize w45.drew = w46 at HO234 HO237 HO240 HO243 HO246 HO249 HO252 BK223 BK224 BK253 HB hHeld ⊢
        refine pure_ (i := 3) (N := some 31) (v := ?_) (a' := ?_) #[false, false, false, true, false, false] rfl rfl (by kernel_rfl) (fun _ _ _ h => h) (Or.inl ⟨by rfl, ?_⟩) ?_ ?_
        rotate_left
        · intro w'
          go_simp
          with_reducible rfl
        rotate_left
        · simp only [Act.put, List.setIfInBounds_toArray, List.set_cons_zero, List.set_cons_succ, i64_w, i32_w]
          rfl
        refine take_ (i := 0) (N := some 28) (v := ?_) (a' := ?_) #[true, false, false, true, false, false] rfl rfl (by kernel_rfl) (fun _ _ _ h => h) (Or.inl ⟨by rfl, ?_⟩) hHeld ?_ ?_
        rotate_left
        · rintro w' ⟨s0, s1, s2, s3, s4, s5, s6, s7, s8⟩
          go_simp
          with_reducible rfl
        rotate_left
        · simp only [Act.put, List.setIfInBounds_toArray, List.set_cons_zero, List.set_cons_succ, i64_w, i32_w]
          rfl
        refine take_ (i := 2) (N := some 30) (v := ?_) (a' := ?_) #[true, false, true, true, false, false] rfl rfl (by kernel_rfl) (fun _ _ _ h => h) (Or.inl ⟨by rfl, ?_⟩) hHeld ?_ ?_
        rotate_left
        · rintro w' ⟨s0, s1, s2, s3, s4, s5, s6, s7, s8⟩
          go_simp
          with_reducible rfl
        rotate_left
        · simp only [Act.put, List.setIfInBounds_toArray, List.set_cons_zero, List.set_cons_succ, i64_w, i32_w]
          rfl
        refine one_ (i := 1) (N := some 29) #[true, true, true, true, false, false] rfl rfl (by kernel_rfl) (by decide) (fun K hK => ?_)
        refine goes_ Try.func44 (by kernel_rfl) rfl #[.agg #[.int .i64 a0_0, .int .i64 a0_1, .int .i64 a0_2, .int .i64 a0_3, .int .i64 a0_4, .int .i64 a0_5]] (by rfl) rfl rfl (by (try simp only [List.map_toArray, List.map_cons, List.map_nil]); first | done | rfl | (simp only [List.length_drop, List.length_take]; rfl)) ?_
        with_reducible refine (laws_toConf.calls a0_0 a0_1 a0_2 a0_3 a0_4 a0_5 t254 t255 t256 t257 t258 t259 _ A15.out).mono ?_
        rintro e w47 ⟨rfl, hb⟩
        refine ⟨_, rfl, ?_⟩
        have n0_ := Aside0.mk (Kd.R_below (by (with_reducible repeat (first | apply Kd.R_alloc | apply Kd.R_drewN | apply Kd.R_drew)); exact HO234.out) hb)
        have n1_ := Aside0.mk (Kd.R_below (by (with_reducible repeat (first | apply Kd.R_alloc | apply Kd.R_drewN | apply Kd.R_drew)); exact HO237.out) hb)
        have n2_ := Aside0.mk (Kd.R_below (by (with_reducible repeat (first | apply Kd.R_alloc | apply Kd.R_drewN | apply Kd.R_drew)); exact HO240.out) hb)
        have n3_ := Aside0.mk (Kd.R_below (by (with_reducible repeat (first | apply Kd.R_alloc | apply Kd.R_drewN | apply Kd.R_drew)); exact HO243.out) hb)
        have n4_ := Aside0.mk (Kd.R_below (by (with_reducible repeat (first | apply Kd.R_alloc | apply Kd.R_drewN | apply Kd.R_drew)); exact HO246.out) hb)
        have n5_ := Aside0.mk (Kd.R_below (by (with_reducible repeat (first | apply Kd.R_alloc | apply Kd.R_drewN | apply Kd.R_drew)); exact HO249.out) hb)
        have n6_ := Aside0.mk (Kd.R_below (by (with_reducible repeat (first | apply Kd.R_alloc | apply Kd.R_drewN | apply Kd.R_drew)); exact HO252.out) hb)
        have n7_ := Aside0.mk (blk_below (g := gb223) (o := .cells #[.int .i64 a0_0, .int .i64 a0_1, .int .i64 a0_2, .int .i64 a0_3, .int .i64 a0_4, .int .i64 a0_5] 45 (0, 0)) (by (with_reducible repeat (first | refine blk_drewN ?_ _ | refine blk_drew ?_ | refine blk_alloc ?_ _)); exact BK223.out) hb)
        have n8_ := Aside0.mk (blk_below (g := gb224) (o := .cells #[.slice A1_0 l1_0.length c1_0, .slice A1_1 l1_1.length c1_1, .slice A1_2 l1_2.length c1_2] 48 (0, 0)) (by (with_reducible repeat (first | refine blk_drewN ?_ _ | refine blk_drew ?_ | refine blk_alloc ?_ _)); exact BK224.out) hb)
        have n9_ := Aside0.mk (blk_below (g := gb253) (o := .cells #[.slice Ao39 t244.length co39, .slice Ao43 t247.length co43, .slice Ao44 t250.length co44] 53 (0, 0)) (by (with_reducible repeat (first | refine blk_drewN ?_ _ | refine blk_drew ?_ | refine blk_alloc ?_ _)); exact BK253.out) hb)
        have n10_ := Aside0.mk (below_step (by repeat (first | (with_reducible first | exact HB.out | apply below_alloc | apply pw_below_drewN | apply below_drew1 | refine below_set ?_ GE223.out | refine below_set ?_ GE224.out | refine below_set ?_ GE253.out) | exact HB.out)) hb)
        clear HO234
        clear HO237
        clear HO240
        clear HO243
        clear HO246
        clear HO249
        clear HO252
        clear BK223
        clear BK224
        clear BK253
        clear HB
        have HO234 := n0_
        have HO237 := n1_
        have HO240 := n2_
        have HO243 := n3_
        have HO246 := n4_
        have HO249 := n5_
        have HO252 := n6_
        have BK223 := n7_
        have BK224 := n8_
        have BK253 := n9_
        have HB := n10_
        clear n0_ n1_ n2_ n3_ n4_ n5_ n6_ n7_ n8_ n9_ n10_
        (try clear hb)
        (try clear hb2)
        (try clear hk)
        (try clear hi)
        refine hK.out _ _ (by first | exact ⟨(blk_cell BK223.out 0).trans rfl, (blk_cell BK223.out 1).trans rfl, (blk_cell BK223.out 2).trans rfl, (blk_cell BK223.out 3).trans rfl, (blk_cell BK223.out 4).trans rfl, (blk_cell BK223.out 5).trans rfl, (blk_cell BK253.out 0).trans rfl, (blk_cell BK253.out 1).trans rfl, (blk_cell BK253.out 2).trans rfl⟩ | exact hHeld) (fun hHeld => ?_)
        clear hK K
        refine norm_ (a' := ?_) ?_ ?_
        rotate_left
        · show Act.put _ (some 29) _ = _
          simp only [Act.put, List.setIfInBounds_toArray, List.set_cons_zero, List.set_cons_succ, i64_w, i32_w]
          rfl
        refine one_ (i := 4) (N := some 32) #[true, true, true, true, true, false] rfl rfl (by kernel_rfl) (by decide) (fun K hK => ?_)
        refine goes_ Try.func49 (by kernel_rfl) rfl #[.agg #[.int .i64 t254, .int .i64 t255, .int .i64 t256, .int .i64 t257, .int .i64 t258, .int .i64 t259], .agg #[.slice Ao39 t244.length co39, .slice Ao43 t247.length co43, .slice Ao44 t250.length co44], .int .i64 a2] (by rfl) rfl rfl (by (try simp only [List.map_toArray, List.map_cons, List.map_nil]); first | done | rfl | (simp only [List.length_drop, List.length_take]; rfl)) ?_
        with_reducible refine (impl_ChunkBytes.calls k t254 t255 t256 t257 t258 t259 _ _ t244 _ _ t247 _ _ t250 a2 t260 _ ?side1 ?side2 ?side3 ?side4 ?side5 ?side6 A16.out).mono ?_
        (case side1 => repeat (first | exact (Kd.R_reads' HO246.out).2.2 | (with_reducible refine Kd.C_alloc ?_ _) | (with_reducible refine Kd.C_drewN ?_ _) | (with_reducible refine Kd.C_drew ?_)))
        (case side2 => exact (Kd.R_reads' HO246.out).2.1)
        (case side3 => repeat (first | exact (Kd.R_reads' HO249.out).2.2 | (with_reducible refine Kd.C_alloc ?_ _) | (with_reducible refine Kd.C_drewN ?_ _) | (with_reducible refine Kd.C_drew ?_)))
        (case side4 => exact (Kd.R_reads' HO249.out).2.1)
        (case side5 => repeat (first | exact (Kd.R_reads' HO252.out).2.2 | (with_reducible refine Kd.C_alloc ?_ _) | (with_reducible refine Kd.C_drewN ?_ _) | (with_reducible refine Kd.C_drew ?_)))
        (case side6 => exact (Kd.R_reads' HO252.out).2.1)
        rintro e w48 ⟨v261, rfl, ho0, hb⟩
        refine ⟨_, rfl, ?_⟩
        have n0_ := Aside0.mk (Kd.R_elder' (by (with_reducible repeat (first | apply Kd.R_alloc | apply Kd.R_drewN | apply Kd.R_drew)); exact HO234.out) (Kd.R_base ho0) hb)
        have n1_ := Aside0.mk (Kd.R_below (by (with_reducible repeat (first | apply Kd.R_alloc | apply Kd.R_drewN | apply Kd.R_drew)); exact HO237.out) hb)
        have n2_ := Aside0.mk (Kd.R_below (by (with_reducible repeat (first | apply Kd.R_alloc | apply Kd.R_drewN | apply Kd.R_drew)); exact HO240.out) hb)
        have n3_ := Aside0.mk (Kd.R_elder' (by (with_reducible repeat (first | apply Kd.R_alloc | apply Kd.R_drewN | apply Kd.R_drew)); exact HO243.out) (Kd.R_base ho0) hb)
        have n4_ := Aside0.mk (Kd.R_elder' (by (with_reducible repeat (first | apply Kd.R_alloc | apply Kd.R_drewN | apply Kd.R_drew)); exact HO246.out) (Kd.R_base ho0) hb)
        have n5_ := Aside0.mk (Kd.R_below (by (with_reducible repeat (first | apply Kd.R_alloc | apply Kd.R_drewN | apply Kd.R_drew)); exact HO249.out) hb)
        have n6_ := Aside0.mk (Kd.R_below (by (with_reducible repeat (first | apply Kd.R_alloc | apply Kd.R_drewN | apply Kd.R_drew)); exact HO252.out) hb)
        have n7_ := Aside0.mk (Kd.R_lower (Kd.R_new' (Kd.R_new' (Kd.R_new' ho0 (Kd.R_lt (by (with_reducible repeat (first | apply Kd.R_alloc | apply Kd.R_drewN | apply Kd.R_drew)); exact HO234.out))) (Kd.R_lt (by (with_reducible repeat (first | apply Kd.R_alloc | apply Kd.R_drewN | apply Kd.R_drew)); exact HO243.out))) (Kd.R_lt (by (with_reducible repeat (first | apply Kd.R_alloc | apply Kd.R_drewN | apply Kd.R_drew)); exact HO246.out))) (below_size (by repeat (first | (with_reducible first | exact HB.out | apply below_alloc | apply pw_below_drewN | apply below_drew1 | refine below_set ?_ GE223.out | refine below_set ?_ GE224.out | refine below_set ?_ GE253.out) | exact HB.out))))
        have n8_ := Aside0.mk (blk_below (g := gb223) (o := .cells #[.int .i64 a0_0, .int .i64 a0_1, .int .i64 a0_2, .int .i64 a0_3, .int .i64 a0_4, .int .i64 a0_5] 45 (0, 0)) (by (with_reducible repeat (first | refine blk_drewN ?_ _ | refine blk_drew ?_ | refine blk_alloc ?_ _)); exact BK223.out) hb)
        have n9_ := Aside0.mk (blk_below (g := gb224) (o := .cells #[.slice A1_0 l1_0.length c1_0, .slice A1_1 l1_1.length c1_1, .slice A1_2 l1_2.length c1_2] 48 (0, 0)) (by (with_reducible repeat (first | refine blk_drewN ?_ _ | refine blk_drew ?_ | refine blk_alloc ?_ _)); exact BK224.out) hb)
        have n10_ := Aside0.mk (blk_below (g := gb253) (o := .cells #[.slice Ao39 t244.length co39, .slice Ao43 t247.length co43, .slice Ao44 t250.length co44] 53 (0, 0)) (by (with_reducible repeat (first | refine blk_drewN ?_ _ | refine blk_drew ?_ | refine blk_alloc ?_ _)); exact BK253.out) hb)
        have n11_ := Aside0.mk (below_step (by repeat (first | (with_reducible first | exact HB.out | apply below_alloc | apply pw_below_drewN | apply below_drew1 | refine below_set ?_ GE223.out | refine below_set ?_ GE224.out | refine below_set ?_ GE253.out) | exact HB.out)) hb)
        clear HO234
        clear HO237
        clear HO240
        clear HO243
        clear HO246
        clear HO249
        clear HO252
        clear BK223
        clear BK224
        clear BK253
        clear HB
        have HO234 := n0_
        have HO237 := n1_
        have HO240 := n2_
        have HO243 := n3_
        have HO246 := n4_
        have HO249 := n5_
        have HO252 := n6_
        have HO262 := n7_
        have BK223 := n8_
        have BK224 := n9_
        have BK253 := n10_
        have HB := n11_
        clear n0_ n1_ n2_ n3_ n4_ n5_ n6_ n7_ n8_ n9_ n10_ n11_
        (try clear hb)
        (try clear hb2)
        (try clear hk)
        (try clear hi)
        (try clear ho0)
        refine hK.out _ _ (by first | exact ⟨(blk_cell BK223.out 0).trans rfl, (blk_cell BK223.out 1).trans rfl, (blk_cell BK223.out 2).trans rfl, (blk_cell BK223.out 3).trans rfl, (blk_cell BK223.out 4).trans rfl, (blk_cell BK223.out 5).trans rfl, (blk_cell BK253.out 0).trans rfl, (blk_cell BK253.out 1).trans rfl, (blk_cell BK253.out 2).trans rfl⟩ | exact hHeld) (fun hHeld => ?_)
        clear hK K
        refine norm_ (a' := ?_) ?_ ?_
        rotate_left
        · show Act.put _ (some 32) _ = _
          simp only [Act.put, List.setIfInBounds_toArray, List.set_cons_zero, List.set_cons_succ, i64_w, i32_w]
          rfl
        refine pure_ (i := 5) (N := some 10) (v := ?_) (a' := ?_) #[true, true, true, true, true, true] rfl rfl (by kernel_rfl) (fun _ _ _ h => h) (Or.inl ⟨by rfl, ?_⟩) ?_ ?_
        rotate_left
        · intro w'
          go_simp
          with_reducible rfl
        rotate_left
        · simp only [Act.put, List.setIfInBounds_toArray, List.set_cons_zero, List.set_cons_succ, i64_w, i32_w]
          rfl
        refine done_ (by kernel_rfl) ?_
        obtain ⟨Ao49, co49, eo49⟩ := Kd.R_slice HO262.out
        subst eo49
        obtain ⟨Ao50, co50, eo50⟩ := Kd.R_slice HO243.out
        subst eo50
        try go_wp2_with (first | ((with_reducible refine gate_callee (f := 18) rfl ?_); refine goesL_ (some 35) rfl rfl Try.func18 (by kernel_rfl) rfl #[.slice Ao49 t260.length co49, .slice Ao50 t241.length co50] rfl (by (try simp only [List.map_toArray, List.map_cons, List.map_nil]); first | done | rfl | (simp only [List.length_drop, List.length_take]; rfl)) ?_; (with_reducible refine (laws_eqByteS.calls k _ _ t260 _ _ t241 true _ ?side1 ?side2 ?side3 ?side4 A17.out).mono ?_); (case side1 => repeat (first | exact (Kd.R_reads' HO262.out).2.2 | (with_reducible refine Kd.C_alloc ?_ _) | (with_reducible refine Kd.C_drewN ?_ _) | (with_reducible refine Kd.C_drew ?_))); (case side2 => exact (Kd.R_reads' HO262.out).2.1); (case side3 => repeat (first | exact (Kd.R_reads' HO243.out).2.2 | (with_reducible refine Kd.C_alloc ?_ _) | (with_reducible refine Kd.C_drewN ?_ _) | (with_reducible refine Kd.C_drew ?_))); (case side4 => exact (Kd.R_reads' HO243.out).2.1); rintro e w' ⟨rfl, ⟨nd, rfl⟩⟩; refine ⟨_, rfl, ?_⟩))
        (try (rw [drewN_self w48]; generalize hq_ : World.drewN w48 _ = w48; have n0_ : Aside0 (Kd.R (Kd.int .u8) 5 w48 w.heap.size (fun k_ => some k_ ≠ (.slice Ao50 t241.length co50 : Value).ownBlock ∧ some k_ ≠ (.slice Ao39 t244.length co39 : Value).ownBlock ∧ some k_ ≠ (.slice Ao49 t260.length co49 : Value).ownBlock) (.slice Ao32 t232.length co32) t232) := ⟨by rw [← hq_]; exact (by (with_reducible repeat (first | apply Kd.R_alloc | apply Kd.R_drewN | apply Kd.R_drew)); exact Kd.R_mono HO234.out (fun _ hk => ⟨hk.1.1, ⟨hk.1.2, hk.2⟩⟩))⟩; have n1_ : Aside0 (Kd.R (Kd.int .i64) 3 w48 w.heap.size (fun k_ => some k_ ≠ (.slice Ao34 t238.length co34 : Value).ownBlock ∧ some k_ ≠ (.slice Ao43 t247.length co43 : Value).ownBlock ∧ some k_ ≠ (.slice Ao44 t250.length co44 : Value).ownBlock) (.slice Ao33 t235.length co33) t235) := ⟨by rw [← hq_]; exact (by (with_reducible repeat (first | apply Kd.R_alloc | apply Kd.R_drewN | apply Kd.R_drew)); exact HO237.out)⟩; have n2_ : Aside0 (Kd.R (Kd.int .i64) 3 w48 w.heap.size (fun k_ => some k_ ≠ (.slice Ao33 t235.length co33 : Value).ownBlock ∧ some k_ ≠ (.slice Ao43 t247.length co43 : Value).ownBlock ∧ some k_ ≠ (.slice Ao44 t250.length co44 : Value).ownBlock) (.slice Ao34 t238.length co34) t238) := ⟨by rw [← hq_]; exact (by (with_reducible repeat (first | apply Kd.R_alloc | apply Kd.R_drewN | apply Kd.R_drew)); exact HO240.out)⟩; have n3_ : Aside0 (Kd.R (Kd.int .u8) 5 w48 w.heap.size (fun k_ => some k_ ≠ (.slice Ao32 t232.length co32 : Value).ownBlock ∧ some k_ ≠ (.slice Ao39 t244.length co39 : Value).ownBlock ∧ some k_ ≠ (.slice Ao49 t260.length co49 : Value).ownBlock) (.slice Ao50 t241.length co50) t241) := ⟨by rw [← hq_]; exact (by (with_reducible repeat (first | apply Kd.R_alloc | apply Kd.R_drewN | apply Kd.R_drew)); exact Kd.R_mono HO243.out (fun _ hk => ⟨hk.1.1, ⟨hk.1.2, hk.2⟩⟩))⟩; have n4_ : Aside0 (Kd.R (Kd.int .u8) 5 w48 w.heap.size (fun k_ => some k_ ≠ (.slice Ao32 t232.length co32 : Value).ownBlock ∧ some k_ ≠ (.slice Ao50 t241.length co50 : Value).ownBlock ∧ some k_ ≠ (.slice Ao49 t260.length co49 : Value).ownBlock) (.slice Ao39 t244.length co39) t244) := ⟨by rw [← hq_]; exact (by (with_reducible repeat (first | apply Kd.R_alloc | apply Kd.R_drewN | apply Kd.R_drew)); exact Kd.R_mono HO246.out (fun _ hk => ⟨hk.1.1, ⟨hk.1.2, hk.2⟩⟩))⟩; have n5_ : Aside0 (Kd.R (Kd.int .i64) 3 w48 w.heap.size (fun k_ => some k_ ≠ (.slice Ao33 t235.length co33 : Value).ownBlock ∧ some k_ ≠ (.slice Ao34 t238.length co34 : Value).ownBlock ∧ some k_ ≠ (.slice Ao44 t250.length co44 : Value).ownBlock) (.slice Ao43 t247.length co43) t247) := ⟨by rw [← hq_]; exact (by (with_reducible repeat (first | apply Kd.R_alloc | apply Kd.R_drewN | apply Kd.R_drew)); exact HO249.out)⟩; have n6_ : Aside0 (Kd.R (Kd.int .i64) 3 w48 w.heap.size (fun k_ => some k_ ≠ (.slice Ao33 t235.length co33 : Value).ownBlock ∧ some k_ ≠ (.slice Ao34 t238.length co34 : Value).ownBlock ∧ some k_ ≠ (.slice Ao43 t247.length co43 : Value).ownBlock) (.slice Ao44 t250.length co44) t250) := ⟨by rw [← hq_]; exact (by (with_reducible repeat (first | apply Kd.R_alloc | apply Kd.R_drewN | apply Kd.R_drew)); exact HO252.out)⟩; have n7_ : Aside0 (Kd.R (Kd.int .u8) 5 w48 w.heap.size (fun k_ => some k_ ≠ (.slice Ao32 t232.length co32 : Value).ownBlock ∧ some k_ ≠ (.slice Ao50 t241.length co50 : Value).ownBlock ∧ some k_ ≠ (.slice Ao39 t244.length co39 : Value).ownBlock) (.slice Ao49 t260.length co49) t260) := ⟨by rw [← hq_]; exact (by (with_reducible repeat (first | apply Kd.R_alloc | apply Kd.R_drewN | apply Kd.R_drew)); exact Kd.R_mono HO262.out (fun _ hk => ⟨hk.1.1.2, ⟨hk.1.2, hk.2⟩⟩))⟩; have n8_ : Aside0 (w48.heap[gb223]? = some (.cells #[.int .i64 a0_0, .int .i64 a0_1, .int .i64 a0_2, .int .i64 a0_3, .int .i64 a0_4, .int .i64 a0_5] 45 (0, 0))) := ⟨by rw [← hq_]; exact (by (with_reducible repeat (first | refine blk_drewN ?_ _ | refine blk_drew ?_ | refine blk_alloc ?_ _)); exact BK223.out)⟩; have n9_ : Aside0 (w48.heap[gb224]? = some (.cells #[.slice A1_0 l1_0.length c1_0, .slice A1_1 l1_1.length c1_1, .slice A1_2 l1_2.length c1_2] 48 (0, 0))) := ⟨by rw [← hq_]; exact (by (with_reducible repeat (first | refine blk_drewN ?_ _ | refine blk_drew ?_ | refine blk_alloc ?_ _)); exact BK224.out)⟩; have n10_ : Aside0 (w48.heap[gb253]? = some (.cells #[.slice Ao39 t244.length co39, .slice Ao43 t247.length co43, .slice Ao44 t250.length co44] 53 (0, 0))) := ⟨by rw [← hq_]; exact (by (with_reducible repeat (first | refine blk_drewN ?_ _ | refine blk_drew ?_ | refine blk_alloc ?_ _)); exact BK253.out)⟩; have n11_ : Aside0 (Below w.heap.size w w48) := ⟨by rw [← hq_]; exact (by repeat (first | (with_reducible first | exact HB.out | apply below_alloc | apply pw_below_drewN | apply below_drew1 | refine below_set ?_ GE223.out | refine below_set ?_ GE224.out | refine below_set ?_ GE253.out) | exact HB.out))⟩; clear HO234 HO237 HO240 HO243 HO246 HO249 HO252 HO262 BK223 BK224 BK253 HB hq_; have HO234 := n0_; have HO237 := n1_; have HO240 := n2_; have HO243 := n3_; have HO246 := n4_; have HO249 := n5_; have HO252 := n6_; have HO262 := n7_; have BK223 := n8_; have BK224 := n9_; have BK253 := n10_; have HB := n11_; clear n0_ n1_ n2_ n3_ n4_ n5_ n6_ n7_ n8_ n9_ n10_ n11_; have hczr223_0 := blk_cell BK223.out 0; have hczr223_1 := blk_cell BK223.out 1; have hczr223_2 := blk_cell BK223.out 2; have hczr223_3 := blk_cell BK223.out 3; have hczr223_4 := blk_cell BK223.out 4; have hczr223_5 := blk_cell BK223.out 5; have hczr224_0 := blk_cell BK224.out 0; have hczr224_1 := blk_cell BK224.out 1; have hczr224_2 := blk_cell BK224.out 2; have hczr253_0 := blk_cell BK253.out 0; have hczr253_1 := blk_cell BK253.out 1; have hczr253_2 := blk_cell BK253.out 2))
        have n0_ := Aside0.mk (Kd.R_drew HO234.out)
        have n1_ := Aside0.mk (Kd.R_drew HO237.out)
        have n2_ := Aside0.mk (Kd.R_drew HO240.out)
        have n3_ := Aside0.mk (Kd.R_drew HO243.out)
        have n4_ := Aside0.mk (Kd.R_drew HO246.out)
        have n5_ := Aside0.mk (Kd.R_drew HO249.out)
        have n6_ := Aside0.mk (Kd.R_drew HO252.out)
        have n7_ := Aside0.mk (Kd.R_drew HO262.out)
        have n8_ := Aside0.mk (blk_drew BK223.out)
        have n9_ := Aside0.mk (blk_drew BK224.out)
        have n10_ := Aside0.mk (blk_drew BK253.out)
        have n11_ := Aside0.mk (below_drew1 HB.out)
        clear HO234
        clear HO237
        clear HO240
        clear HO243
        clear HO246
        clear HO249
        clear HO252
        clear HO262
        clear BK223
        clear BK224
        clear BK253
        clear HB
        have HO234 := n0_
        have HO237 := n1_
        have HO240 := n2_
        have HO243 := n3_
        have HO246 := n4_
        have HO249 := n5_
        have HO252 := n6_
        have HO262 := n7_
        have BK223 := n8_
        have BK224 := n9_
        have BK253 := n10_
        have HB := n11_
        clear n0_ n1_ n2_ n3_ n4_ n5_ n6_ n7_ n8_ n9_ n10_ n11_
        refine start_ (n := 5) (S := fun w' => w'.cell? ⟨gb253, 0, none⟩ = some (.slice Ao39 t244.length co39) ∧ w'.cell? ⟨gb253, 1, none⟩ = some (.slice Ao43 t247.length co43) ∧ w'.cell? ⟨gb253, 2, none⟩ = some (.slice Ao44 t250.length co44) ∧ w'.cell? ⟨gb224, 0, none⟩ = some (.slice A1_0 l1_0.length c1_0) ∧ w'.cell? ⟨gb224, 1, none⟩ = some (.slice A1_1 l1_1.length c1_1) ∧ w'.cell? ⟨gb224, 2, none⟩ = some (.slice A1_2 l1_2.length c1_2)) (ds := []) #[false, false, false, false, false] (by kernel_rfl) rfl rfl ⟨(blk_cell BK253.out 0).trans rfl, (blk_cell BK253.out 1).trans rfl, (blk_cell BK253.out 2).trans rfl, (blk_cell BK224.out 0).trans rfl, (blk_cell BK224.out 1).trans rfl, (blk_cell BK224.out 2).trans rfl⟩ (fun hHeld => ?_)
        generalize w48.drew = w51 at HO234 HO237 HO240 HO243 HO246 HO249 HO252 HO262 BK223 BK224 BK253 HB hHeld ⊢
        refine take_ (i := 0) (N := some 37) (v := ?_) (a' := ?_) #[true, false, false, false, false] rfl rfl (by kernel_rfl) (fun _ _ _ h => h) (Or.inl ⟨by rfl, ?_⟩) hHeld ?_ ?_
        rotate_left
        · rintro w' ⟨s0, s1, s2, s3, s4, s5⟩
          go_simp
          with_reducible rfl
        rotate_left
        · simp only [Act.put, List.setIfInBounds_toArray, List.set_cons_zero, List.set_cons_succ, i64_w, i32_w]
          rfl
        refine take_ (i := 1) (N := some 38) (v := ?_) (a' := ?_) #[true, true, false, false, false] rfl rfl (by kernel_rfl) (fun _ _ _ h => h) (Or.inl ⟨by rfl, ?_⟩) hHeld ?_ ?_
        rotate_left
        · rintro w' ⟨s0, s1, s2, s3, s4, s5⟩
          go_simp
          with_reducible rfl
        rotate_left
        · simp only [Act.put, List.setIfInBounds_toArray, List.set_cons_zero, List.set_cons_succ, i64_w, i32_w]
          rfl
        refine one_ (i := 2) (N := some 39) #[true, true, true, false, false] rfl rfl (by kernel_rfl) (by decide) (fun K hK => ?_)
        refine goes_ Try.func45 (by kernel_rfl) rfl #[.agg #[.slice A1_0 l1_0.length c1_0, .slice A1_1 l1_1.length c1_1, .slice A1_2 l1_2.length c1_2]] (by rfl) rfl rfl (by (try simp only [List.map_toArray, List.map_cons, List.map_nil]); first | done | rfl | (simp only [List.length_drop, List.length_take]; rfl)) ?_
        with_reducible refine (laws_toPool.calls k _ _ l1_0 _ _ l1_1 _ _ l1_2 t264 t267 t270 _ ?side1 ?side2 ?side3 ?side4 ?side5 ?side6 A19.out).mono ?_
        (case side1 => repeat (first | exact (Kd.C_below HR1_0.out HB.out) | (with_reducible refine Kd.C_alloc ?_ _) | (with_reducible refine Kd.C_drewN ?_ _) | (with_reducible refine Kd.C_drew ?_)))
        (case side2 => exact HC1_0.out)
        (case side3 => repeat (first | exact (Kd.C_below HR1_1.out HB.out) | (with_reducible refine Kd.C_alloc ?_ _) | (with_reducible refine Kd.C_drewN ?_ _) | (with_reducible refine Kd.C_drew ?_)))
        (case side4 => exact HC1_1.out)
        (case side5 => repeat (first | exact (Kd.C_below HR1_2.out HB.out) | (with_reducible refine Kd.C_alloc ?_ _) | (with_reducible refine Kd.C_drewN ?_ _) | (with_reducible refine Kd.C_drew ?_)))
        (case side6 => exact HC1_2.out)
        rintro e w52 ⟨v265, v268, v271, rfl, ho0, ho1, ho2, hb⟩
        refine ⟨_, rfl, ?_⟩
        have n0_ := Aside0.mk (Kd.R_elder' (by (with_reducible repeat (first | apply Kd.R_alloc | apply Kd.R_drewN | apply Kd.R_drew)); exact HO234.out) (Kd.R_base ho0) hb)
        have n1_ := Aside0.mk (Kd.R_mono (Kd.R_told (Kd.R_told (Kd.R_old (by (with_reducible repeat (first | apply Kd.R_alloc | apply Kd.R_drewN | apply Kd.R_drew)); exact HO237.out) hb) (Kd.R_base ho1)) (Kd.R_base ho2)) (fun _ h_ => h_.1))
        have n2_ := Aside0.mk (Kd.R_mono (Kd.R_told (Kd.R_told (Kd.R_old (by (with_reducible repeat (first | apply Kd.R_alloc | apply Kd.R_drewN | apply Kd.R_drew)); exact HO240.out) hb) (Kd.R_base ho1)) (Kd.R_base ho2)) (fun _ h_ => h_.1))
        have n3_ := Aside0.mk (Kd.R_elder' (by (with_reducible repeat (first | apply Kd.R_alloc | apply Kd.R_drewN | apply Kd.R_drew)); exact HO243.out) (Kd.R_base ho0) hb)
        have n4_ := Aside0.mk (Kd.R_elder' (by (with_reducible repeat (first | apply Kd.R_alloc | apply Kd.R_drewN | apply Kd.R_drew)); exact HO246.out) (Kd.R_base ho0) hb)
        have n5_ := Aside0.mk (Kd.R_mono (Kd.R_told (Kd.R_told (Kd.R_old (by (with_reducible repeat (first | apply Kd.R_alloc | apply Kd.R_drewN | apply Kd.R_drew)); exact HO249.out) hb) (Kd.R_base ho1)) (Kd.R_base ho2)) (fun _ h_ => h_.1))
        have n6_ := Aside0.mk (Kd.R_mono (Kd.R_told (Kd.R_told (Kd.R_old (by (with_reducible repeat (first | apply Kd.R_alloc | apply Kd.R_drewN | apply Kd.R_drew)); exact HO252.out) hb) (Kd.R_base ho1)) (Kd.R_base ho2)) (fun _ h_ => h_.1))
        have n7_ := Aside0.mk (Kd.R_elder' (by (with_reducible repeat (first | apply Kd.R_alloc | apply Kd.R_drewN | apply Kd.R_drew)); exact HO262.out) (Kd.R_base ho0) hb)
        have n8_ := Aside0.mk (Kd.R_lower (Kd.R_new' (Kd.R_new' (Kd.R_new' (Kd.R_new' ho0 (Kd.R_lt (by (with_reducible repeat (first | apply Kd.R_alloc | apply Kd.R_drewN | apply Kd.R_drew)); exact HO234.out))) (Kd.R_lt (by (with_reducible repeat (first | apply Kd.R_alloc | apply Kd.R_drewN | apply Kd.R_drew)); exact HO243.out))) (Kd.R_lt (by (with_reducible repeat (first | apply Kd.R_alloc | apply Kd.R_drewN | apply Kd.R_drew)); exact HO246.out))) (Kd.R_lt (by (with_reducible repeat (first | apply Kd.R_alloc | apply Kd.R_drewN | apply Kd.R_drew)); exact HO262.out))) (below_size (by repeat (first | (with_reducible first | exact HB.out | apply below_alloc | apply pw_below_drewN | apply below_drew1 | refine below_set ?_ GE223.out | refine below_set ?_ GE224.out | refine below_set ?_ GE253.out) | exact HB.out))))
        have n9_ := Aside0.mk (Kd.R_lower (Kd.R_new' (Kd.R_new' (Kd.R_new' (Kd.R_new' ho1 (Kd.R_lt (by (with_reducible repeat (first | apply Kd.R_alloc | apply Kd.R_drewN | apply Kd.R_drew)); exact HO237.out))) (Kd.R_lt (by (with_reducible repeat (first | apply Kd.R_alloc | apply Kd.R_drewN | apply Kd.R_drew)); exact HO240.out))) (Kd.R_lt (by (with_reducible repeat (first | apply Kd.R_alloc | apply Kd.R_drewN | apply Kd.R_drew)); exact HO249.out))) (Kd.R_lt (by (with_reducible repeat (first | apply Kd.R_alloc | apply Kd.R_drewN | apply Kd.R_drew)); exact HO252.out))) (below_size (by repeat (first | (with_reducible first | exact HB.out | apply below_alloc | apply pw_below_drewN | apply below_drew1 | refine below_set ?_ GE223.out | refine below_set ?_ GE224.out | refine below_set ?_ GE253.out) | exact HB.out))))
        have n10_ := Aside0.mk (Kd.R_lower (Kd.R_new' (Kd.R_new' (Kd.R_new' (Kd.R_new' ho2 (Kd.R_lt (by (with_reducible repeat (first | apply Kd.R_alloc | apply Kd.R_drewN | apply Kd.R_drew)); exact HO237.out))) (Kd.R_lt (by (with_reducible repeat (first | apply Kd.R_alloc | apply Kd.R_drewN | apply Kd.R_drew)); exact HO240.out))) (Kd.R_lt (by (with_reducible repeat (first | apply Kd.R_alloc | apply Kd.R_drewN | apply Kd.R_drew)); exact HO249.out))) (Kd.R_lt (by (with_reducible repeat (first | apply Kd.R_alloc | apply Kd.R_drewN | apply Kd.R_drew)); exact HO252.out))) (below_size (by repeat (first | (with_reducible first | exact HB.out | apply below_alloc | apply pw_below_drewN | apply below_drew1 | refine below_set ?_ GE223.out | refine below_set ?_ GE224.out | refine below_set ?_ GE253.out) | exact HB.out))))
        have n11_ := Aside0.mk (blk_below (g := gb223) (o := .cells #[.int .i64 a0_0, .int .i64 a0_1, .int .i64 a0_2, .int .i64 a0_3, .int .i64 a0_4, .int .i64 a0_5] 45 (0, 0)) (by (with_reducible repeat (first | refine blk_drewN ?_ _ | refine blk_drew ?_ | refine blk_alloc ?_ _)); exact BK223.out) hb)
        have n12_ := Aside0.mk (blk_below (g := gb224) (o := .cells #[.slice A1_0 l1_0.length c1_0, .slice A1_1 l1_1.length c1_1, .slice A1_2 l1_2.length c1_2] 48 (0, 0)) (by (with_reducible repeat (first | refine blk_drewN ?_ _ | refine blk_drew ?_ | refine blk_alloc ?_ _)); exact BK224.out) hb)
        have n13_ := Aside0.mk (blk_below (g := gb253) (o := .cells #[.slice Ao39 t244.length co39, .slice Ao43 t247.length co43, .slice Ao44 t250.length co44] 53 (0, 0)) (by (with_reducible repeat (first | refine blk_drewN ?_ _ | refine blk_drew ?_ | refine blk_alloc ?_ _)); exact BK253.out) hb)
        have n14_ := Aside0.mk (below_step (by repeat (first | (with_reducible first | exact HB.out | apply below_alloc | apply pw_below_drewN | apply below_drew1 | refine below_set ?_ GE223.out | refine below_set ?_ GE224.out | refine below_set ?_ GE253.out) | exact HB.out)) hb)
        clear HO234
        clear HO237
        clear HO240
        clear HO243
        clear HO246
        clear HO249
        clear HO252
        clear HO262
        clear BK223
        clear BK224
        clear BK253
        clear HB
        have HO234 := n0_
        have HO237 := n1_
        have HO240 := n2_
        have HO243 := n3_
        have HO246 := n4_
        have HO249 := n5_
        have HO252 := n6_
        have HO262 := n7_
        have HO266 := n8_
        have HO269 := n9_
        have HO272 := n10_
        have BK223 := n11_
        have BK224 := n12_
        have BK253 := n13_
        have HB := n14_
        clear n0_ n1_ n2_ n3_ n4_ n5_ n6_ n7_ n8_ n9_ n10_ n11_ n12_ n13_ n14_
        (try clear hb)
        (try clear hb2)
        (try clear hk)
        (try clear hi)
        (try clear ho0)
        (try clear ho1)
        (try clear ho2)
        obtain ⟨Ao53, co53, eo53⟩ := Kd.R_slice HO266.out
        (first | subst eo53 | (injection eo53 with f1_ f2_ f3_; have f4_ := f1_.symm; have f5_ := f3_.symm; clear f1_ f2_ f3_; subst f4_; subst f5_))
        obtain ⟨Ao54, co54, eo54⟩ := Kd.R_slice HO269.out
        (first | subst eo54 | (injection eo54 with f1_ f2_ f3_; have f4_ := f1_.symm; have f5_ := f3_.symm; clear f1_ f2_ f3_; subst f4_; subst f5_))
        obtain ⟨Ao55, co55, eo55⟩ := Kd.R_slice HO272.out
        (first | subst eo55 | (injection eo55 with f1_ f2_ f3_; have f4_ := f1_.symm; have f5_ := f3_.symm; clear f1_ f2_ f3_; subst f4_; subst f5_))
        refine hK.out _ _ (by first | exact ⟨(blk_cell BK253.out 0).trans rfl, (blk_cell BK253.out 1).trans rfl, (blk_cell BK253.out 2).trans rfl, (blk_cell BK224.out 0).trans rfl, (blk_cell BK224.out 1).trans rfl, (blk_cell BK224.out 2).trans rfl⟩ | exact hHeld) (fun hHeld => ?_)
        clear hK K
        refine norm_ (a' := ?_) ?_ ?_
        rotate_left
        · show Act.put _ (some 39) _ = _
          simp only [Act.put, List.setIfInBounds_toArray, List.set_cons_zero, List.set_cons_succ, i64_w, i32_w]
          rfl
        refine one_ (i := 3) (N := some 40) #[true, true, true, true, false] rfl rfl (by kernel_rfl) (by decide) (fun K hK => ?_)
        refine goes_ Try.func47 (by kernel_rfl) rfl #[.agg #[.slice Ao39 t244.length co39, .slice Ao43 t247.length co43, .slice Ao44 t250.length co44], .agg #[.slice Ao53 t264.length co53, .slice Ao54 t267.length co54, .slice Ao55 t270.length co55]] (by rfl) rfl rfl (by (try simp only [List.map_toArray, List.map_cons, List.map_nil]); first | done | rfl | (simp only [List.length_drop, List.length_take]; rfl)) ?_
        with_reducible refine (laws_eqPool.calls k _ _ t244 _ _ t247 _ _ t250 _ _ t264 _ _ t267 _ _ t270 true _ ?side1 ?side2 ?side3 ?side4 ?side5 ?side6 ?side7 ?side8 ?side9 ?side10 ?side11 ?side12 A20.out).mono ?_
        (case side1 => repeat (first | exact (Kd.R_reads' HO246.out).2.2 | (with_reducible refine Kd.C_alloc ?_ _) | (with_reducible refine Kd.C_drewN ?_ _) | (with_reducible refine Kd.C_drew ?_)))
        (case side2 => exact (Kd.R_reads' HO246.out).2.1)
        (case side3 => repeat (first | exact (Kd.R_reads' HO249.out).2.2 | (with_reducible refine Kd.C_alloc ?_ _) | (with_reducible refine Kd.C_drewN ?_ _) | (with_reducible refine Kd.C_drew ?_)))
        (case side4 => exact (Kd.R_reads' HO249.out).2.1)
        (case side5 => repeat (first | exact (Kd.R_reads' HO252.out).2.2 | (with_reducible refine Kd.C_alloc ?_ _) | (with_reducible refine Kd.C_drewN ?_ _) | (with_reducible refine Kd.C_drew ?_)))
        (case side6 => exact (Kd.R_reads' HO252.out).2.1)
        (case side7 => repeat (first | exact (Kd.R_reads' HO266.out).2.2 | (with_reducible refine Kd.C_alloc ?_ _) | (with_reducible refine Kd.C_drewN ?_ _) | (with_reducible refine Kd.C_drew ?_)))
        (case side8 => exact (Kd.R_reads' HO266.out).2.1)
        (case side9 => repeat (first | exact (Kd.R_reads' HO269.out).2.2 | (with_reducible refine Kd.C_alloc ?_ _) | (with_reducible refine Kd.C_drewN ?_ _) | (with_reducible refine Kd.C_drew ?_)))
        (case side10 => exact (Kd.R_reads' HO269.out).2.1)
        (case side11 => repeat (first | exact (Kd.R_reads' HO272.out).2.2 | (with_reducible refine Kd.C_alloc ?_ _) | (with_reducible refine Kd.C_drewN ?_ _) | (with_reducible refine Kd.C_drew ?_)))
        (case side12 => exact (Kd.R_reads' HO272.out).2.1)
        rintro e w56 ⟨rfl, hb⟩
        refine ⟨_, rfl, ?_⟩
        have n0_ := Aside0.mk (Kd.R_below (by (with_reducible repeat (first | apply Kd.R_alloc | apply Kd.R_drewN | apply Kd.R_drew)); exact HO234.out) hb)
        have n1_ := Aside0.mk (Kd.R_below (by (with_reducible repeat (first | apply Kd.R_alloc | apply Kd.R_drewN | apply Kd.R_drew)); exact HO237.out) hb)
        have n2_ := Aside0.mk (Kd.R_below (by (with_reducible repeat (first | apply Kd.R_alloc | apply Kd.R_drewN | apply Kd.R_drew)); exact HO240.out) hb)
        have n3_ := Aside0.mk (Kd.R_below (by (with_reducible repeat (first | apply Kd.R_alloc | apply Kd.R_drewN | apply Kd.R_drew)); exact HO243.out) hb)
        have n4_ := Aside0.mk (Kd.R_below (by (with_reducible repeat (first | apply Kd.R_alloc | apply Kd.R_drewN | apply Kd.R_drew)); exact HO246.out) hb)
        have n5_ := Aside0.mk (Kd.R_below (by (with_reducible repeat (first | apply Kd.R_alloc | apply Kd.R_drewN | apply Kd.R_drew)); exact HO249.out) hb)
        have n6_ := Aside0.mk (Kd.R_below (by (with_reducible repeat (first | apply Kd.R_alloc | apply Kd.R_drewN | apply Kd.R_drew)); exact HO252.out) hb)
        have n7_ := Aside0.mk (Kd.R_below (by (with_reducible repeat (first | apply Kd.R_alloc | apply Kd.R_drewN | apply Kd.R_drew)); exact HO262.out) hb)
        have n8_ := Aside0.mk (Kd.R_below (by (with_reducible repeat (first | apply Kd.R_alloc | apply Kd.R_drewN | apply Kd.R_drew)); exact HO266.out) hb)
        have n9_ := Aside0.mk (Kd.R_below (by (with_reducible repeat (first | apply Kd.R_alloc | apply Kd.R_drewN | apply Kd.R_drew)); exact HO269.out) hb)
        have n10_ := Aside0.mk (Kd.R_below (by (with_reducible repeat (first | apply Kd.R_alloc | apply Kd.R_drewN | apply Kd.R_drew)); exact HO272.out) hb)
        have n11_ := Aside0.mk (blk_below (g := gb223) (o := .cells #[.int .i64 a0_0, .int .i64 a0_1, .int .i64 a0_2, .int .i64 a0_3, .int .i64 a0_4, .int .i64 a0_5] 45 (0, 0)) (by (with_reducible repeat (first | refine blk_drewN ?_ _ | refine blk_drew ?_ | refine blk_alloc ?_ _)); exact BK223.out) hb)
        have n12_ := Aside0.mk (blk_below (g := gb224) (o := .cells #[.slice A1_0 l1_0.length c1_0, .slice A1_1 l1_1.length c1_1, .slice A1_2 l1_2.length c1_2] 48 (0, 0)) (by (with_reducible repeat (first | refine blk_drewN ?_ _ | refine blk_drew ?_ | refine blk_alloc ?_ _)); exact BK224.out) hb)
        have n13_ := Aside0.mk (blk_below (g := gb253) (o := .cells #[.slice Ao39 t244.length co39, .slice Ao43 t247.length co43, .slice Ao44 t250.length co44] 53 (0, 0)) (by (with_reducible repeat (first | refine blk_drewN ?_ _ | refine blk_drew ?_ | refine blk_alloc ?_ _)); exact BK253.out) hb)
        have n14_ := Aside0.mk (below_step (by repeat (first | (with_reducible first | exact HB.out | apply below_alloc | apply pw_below_drewN | apply below_drew1 | refine below_set ?_ GE223.out | refine below_set ?_ GE224.out | refine below_set ?_ GE253.out) | exact HB.out)) hb)
        clear HO234
        clear HO237
        clear HO240
        clear HO243
        clear HO246
        clear HO249
        clear HO252
        clear HO262
        clear HO266
        clear HO269
        clear HO272
        clear BK223
        clear BK224
        clear BK253
        clear HB
        have HO234 := n0_
        have HO237 := n1_
        have HO240 := n2_
        have HO243 := n3_
        have HO246 := n4_
        have HO249 := n5_
        have HO252 := n6_
        have HO262 := n7_
        have HO266 := n8_
        have HO269 := n9_
        have HO272 := n10_
        have BK223 := n11_
        have BK224 := n12_
        have BK253 := n13_
        have HB := n14_
        clear n0_ n1_ n2_ n3_ n4_ n5_ n6_ n7_ n8_ n9_ n10_ n11_ n12_ n13_ n14_
        (try clear hb)
        (try clear hb2)
        (try clear hk)
        (try clear hi)
        refine hK.out _ _ (by first | exact ⟨(blk_cell BK253.out 0).trans rfl, (blk_cell BK253.out 1).trans rfl, (blk_cell BK253.out 2).trans rfl, (blk_cell BK224.out 0).trans rfl, (blk_cell BK224.out 1).trans rfl, (blk_cell BK224.out 2).trans rfl⟩ | exact hHeld) (fun hHeld => ?_)
        clear hK K
        refine norm_ (a' := ?_) ?_ ?_
        rotate_left
        · show Act.put _ (some 40) _ = _
          simp only [Act.put, List.setIfInBounds_toArray, List.set_cons_zero, List.set_cons_succ, i64_w, i32_w]
          rfl
        refine pure_ (i := 4) (N := some 41) (v := ?_) (a' := ?_) #[true, true, true, true, true] rfl rfl (by kernel_rfl) (fun _ _ _ h => h) (Or.inl ⟨by rfl, ?_⟩) ?_ ?_
        rotate_left
        · intro w'
          go_simp
          with_reducible rfl
        rotate_left
        · simp only [Act.put, List.setIfInBounds_toArray, List.set_cons_zero, List.set_cons_succ, i64_w, i32_w]
          rfl
        refine done_ (by kernel_rfl) ?_
        have hcz57_0 : w56.cell? ⟨gb253, 0, none⟩ = some (.slice Ao39 t244.length co39) := (blk_cell BK253.out 0).trans rfl
        have hcz57_1 : w56.cell? ⟨gb253, 1, none⟩ = some (.slice Ao43 t247.length co43) := (blk_cell BK253.out 1).trans rfl
        have hcz57_2 : w56.cell? ⟨gb253, 2, none⟩ = some (.slice Ao44 t250.length co44) := (blk_cell BK253.out 2).trans rfl
        have hfz57_0 := blk_frozen BK253.out 0
        have hfz57_1 := blk_frozen BK253.out 1
        have hfz57_2 := blk_frozen BK253.out 2
        go_upto_region 14 with (first | ((with_reducible refine gate_callee (f := 50) rfl ?_); refine goesL_ (some 44) rfl rfl Try.func50 (by kernel_rfl) rfl #[.agg #[.slice Ao39 t244.length co39, .slice Ao43 t247.length co43, .slice Ao44 t250.length co44], .int .i64 1] rfl (by (try simp only [List.map_toArray, List.map_cons, List.map_nil]); first | done | rfl | (simp only [List.length_drop, List.length_take]; rfl)) ?_; (with_reducible refine (laws_markPool.calls k (fun k_ => some k_ = (.slice Ao39 t244.length co39 : Value).ownBlock) (.slice Ao39 t244.length co39) t244 (fun k_ => some k_ = (.slice Ao43 t247.length co43 : Value).ownBlock) (.slice Ao43 t247.length co43) t247 (fun k_ => some k_ = (.slice Ao44 t250.length co44 : Value).ownBlock) (.slice Ao44 t250.length co44) t250 1 t274 t275 t276 t277 w _ ?side1 ?side2 ?side3 ?side4 ?side5 ?side6 A22.out).mono ?_); (case side1 => repeat (first | (with_reducible first | exact HB.out | apply below_alloc | apply pw_below_drewN | apply below_drew1 | refine below_set ?_ GE223.out | refine below_set ?_ GE224.out | refine below_set ?_ GE253.out) | exact HB.out)); (case side2 => exact Kd.R_tight rfl HO246.out); (case side3 => exact Kd.R_tight rfl HO249.out); (case side4 => exact fun k_ e_ => (by have z_ := (HO249.out.1 k_ e_.symm); (try simp only [and_assoc] at z_); repeat (first | exact z_.1 | exact z_ | replace z_ := z_.2))); (case side5 => exact Kd.R_tight rfl HO252.out); (case side6 => exact fun k_ e_ => (by have z_ := (HO252.out.1 k_ e_.symm); (try simp only [and_assoc] at z_); repeat (first | exact z_.1 | exact z_ | replace z_ := z_.2))); rintro e w58 ⟨rfl, hy0, hy1, hy2, hb, hkp⟩; refine ⟨_, rfl, ?_⟩; have n0_ := Aside0.mk (blk_kept (by (with_reducible repeat (first | refine blk_drewN ?_ _ | refine blk_drew ?_ | refine blk_alloc ?_ _)); exact BK223.out) hkp (fun hs_ => Or.elim hs_ (fun e_ => (fun e_ => (Kd.R_ne HO246.out BK223.out (by decide)) e_) e_) (fun e_ => Or.elim e_ (fun e_ => (fun e_ => (Kd.R_ne HO249.out BK223.out (by decide)) e_) e_) (fun e_ => (fun e_ => (Kd.R_ne HO252.out BK223.out (by decide)) e_) e_)))); have n1_ := Aside0.mk (blk_kept (by (with_reducible repeat (first | refine blk_drewN ?_ _ | refine blk_drew ?_ | refine blk_alloc ?_ _)); exact BK224.out) hkp (fun hs_ => Or.elim hs_ (fun e_ => (fun e_ => (Kd.R_ne HO246.out BK224.out (by decide)) e_) e_) (fun e_ => Or.elim e_ (fun e_ => (fun e_ => (Kd.R_ne HO249.out BK224.out (by decide)) e_) e_) (fun e_ => (fun e_ => (Kd.R_ne HO252.out BK224.out (by decide)) e_) e_)))); have n2_ := Aside0.mk (Kd.R_mono (ok' := fun k_ => some k_ ≠ (.slice Ao50 t241.length co50 : Value).ownBlock ∧ some k_ ≠ (.slice Ao39 t244.length co39 : Value).ownBlock ∧ some k_ ≠ (.slice Ao49 t260.length co49 : Value).ownBlock ∧ some k_ ≠ (.slice Ao53 t264.length co53 : Value).ownBlock) (Kd.R_keptB ((Kd.R_apart' (Kd.R_apart' HO234.out (Kd.R_typed HO249.out) (by decide)) (Kd.R_typed HO252.out) (by decide))) hkp (fun k_ hk_ hs_ => Or.elim hs_ (fun e_ => (by have z_ := hk_; (try simp only [and_assoc] at z_); repeat (first | exact z_.1 e_ | exact z_ e_ | replace z_ := z_.2))) (fun e_ => Or.elim e_ (fun e_ => (by have z_ := hk_; (try simp only [and_assoc] at z_); repeat (first | exact z_.1 e_ | exact z_ e_ | replace z_ := z_.2))) (fun e_ => (by have z_ := hk_; (try simp only [and_assoc] at z_); repeat (first | exact z_.1 e_ | exact z_ e_ | replace z_ := z_.2)))))) (fun k_ hk_ => ⟨(by have z_ := hk_; (try simp only [and_assoc] at z_); repeat (first | exact z_.1 | exact z_ | replace z_ := z_.2)), (by have z_ := hk_; (try simp only [and_assoc] at z_); repeat (first | exact z_.1 | exact z_ | replace z_ := z_.2)), (by have z_ := hk_; (try simp only [and_assoc] at z_); repeat (first | exact z_.1 | exact z_ | replace z_ := z_.2)), (by have z_ := hk_; (try simp only [and_assoc] at z_); repeat (first | exact z_.1 | exact z_ | replace z_ := z_.2))⟩)); have n3_ := Aside0.mk (Kd.R_mono (ok' := fun k_ => some k_ ≠ (.slice Ao34 t238.length co34 : Value).ownBlock ∧ some k_ ≠ (.slice Ao43 t247.length co43 : Value).ownBlock ∧ some k_ ≠ (.slice Ao44 t250.length co44 : Value).ownBlock ∧ some k_ ≠ (.slice Ao54 t267.length co54 : Value).ownBlock ∧ some k_ ≠ (.slice Ao55 t270.length co55 : Value).ownBlock) (Kd.R_keptB ((Kd.R_apart' HO237.out (Kd.R_typed HO246.out) (by decide))) hkp (fun k_ hk_ hs_ => Or.elim hs_ (fun e_ => (by have z_ := hk_; (try simp only [and_assoc] at z_); repeat (first | exact z_.1 e_ | exact z_ e_ | replace z_ := z_.2))) (fun e_ => Or.elim e_ (fun e_ => (by have z_ := hk_; (try simp only [and_assoc] at z_); repeat (first | exact z_.1 e_ | exact z_ e_ | replace z_ := z_.2))) (fun e_ => (by have z_ := hk_; (try simp only [and_assoc] at z_); repeat (first | exact z_.1 e_ | exact z_ e_ | replace z_ := z_.2)))))) (fun k_ hk_ => ⟨(by have z_ := hk_; (try simp only [and_assoc] at z_); repeat (first | exact z_.1 | exact z_ | replace z_ := z_.2)), (by have z_ := hk_; (try simp only [and_assoc] at z_); repeat (first | exact z_.1 | exact z_ | replace z_ := z_.2)), (by have z_ := hk_; (try simp only [and_assoc] at z_); repeat (first | exact z_.1 | exact z_ | replace z_ := z_.2)), (by have z_ := hk_; (try simp only [and_assoc] at z_); repeat (first | exact z_.1 | exact z_ | replace z_ := z_.2)), (by have z_ := hk_; (try simp only [and_assoc] at z_); repeat (first | exact z_.1 | exact z_ | replace z_ := z_.2))⟩)); have n4_ := Aside0.mk (Kd.R_mono (ok' := fun k_ => some k_ ≠ (.slice Ao33 t235.length co33 : Value).ownBlock ∧ some k_ ≠ (.slice Ao43 t247.length co43 : Value).ownBlock ∧ some k_ ≠ (.slice Ao44 t250.length co44 : Value).ownBlock ∧ some k_ ≠ (.slice Ao54 t267.length co54 : Value).ownBlock ∧ some k_ ≠ (.slice Ao55 t270.length co55 : Value).ownBlock) (Kd.R_keptB ((Kd.R_apart' HO240.out (Kd.R_typed HO246.out) (by decide))) hkp (fun k_ hk_ hs_ => Or.elim hs_ (fun e_ => (by have z_ := hk_; (try simp only [and_assoc] at z_); repeat (first | exact z_.1 e_ | exact z_ e_ | replace z_ := z_.2))) (fun e_ => Or.elim e_ (fun e_ => (by have z_ := hk_; (try simp only [and_assoc] at z_); repeat (first | exact z_.1 e_ | exact z_ e_ | replace z_ := z_.2))) (fun e_ => (by have z_ := hk_; (try simp only [and_assoc] at z_); repeat (first | exact z_.1 e_ | exact z_ e_ | replace z_ := z_.2)))))) (fun k_ hk_ => ⟨(by have z_ := hk_; (try simp only [and_assoc] at z_); repeat (first | exact z_.1 | exact z_ | replace z_ := z_.2)), (by have z_ := hk_; (try simp only [and_assoc] at z_); repeat (first | exact z_.1 | exact z_ | replace z_ := z_.2)), (by have z_ := hk_; (try simp only [and_assoc] at z_); repeat (first | exact z_.1 | exact z_ | replace z_ := z_.2)), (by have z_ := hk_; (try simp only [and_assoc] at z_); repeat (first | exact z_.1 | exact z_ | replace z_ := z_.2)), (by have z_ := hk_; (try simp only [and_assoc] at z_); repeat (first | exact z_.1 | exact z_ | replace z_ := z_.2))⟩)); have n5_ := Aside0.mk (Kd.R_mono (ok' := fun k_ => some k_ ≠ (.slice Ao32 t232.length co32 : Value).ownBlock ∧ some k_ ≠ (.slice Ao39 t244.length co39 : Value).ownBlock ∧ some k_ ≠ (.slice Ao49 t260.length co49 : Value).ownBlock ∧ some k_ ≠ (.slice Ao53 t264.length co53 : Value).ownBlock) (Kd.R_keptB ((Kd.R_apart' (Kd.R_apart' HO243.out (Kd.R_typed HO249.out) (by decide)) (Kd.R_typed HO252.out) (by decide))) hkp (fun k_ hk_ hs_ => Or.elim hs_ (fun e_ => (by have z_ := hk_; (try simp only [and_assoc] at z_); repeat (first | exact z_.1 e_ | exact z_ e_ | replace z_ := z_.2))) (fun e_ => Or.elim e_ (fun e_ => (by have z_ := hk_; (try simp only [and_assoc] at z_); repeat (first | exact z_.1 e_ | exact z_ e_ | replace z_ := z_.2))) (fun e_ => (by have z_ := hk_; (try simp only [and_assoc] at z_); repeat (first | exact z_.1 e_ | exact z_ e_ | replace z_ := z_.2)))))) (fun k_ hk_ => ⟨(by have z_ := hk_; (try simp only [and_assoc] at z_); repeat (first | exact z_.1 | exact z_ | replace z_ := z_.2)), (by have z_ := hk_; (try simp only [and_assoc] at z_); repeat (first | exact z_.1 | exact z_ | replace z_ := z_.2)), (by have z_ := hk_; (try simp only [and_assoc] at z_); repeat (first | exact z_.1 | exact z_ | replace z_ := z_.2)), (by have z_ := hk_; (try simp only [and_assoc] at z_); repeat (first | exact z_.1 | exact z_ | replace z_ := z_.2))⟩)); have n6_ := Aside0.mk (Kd.R_reok rfl hy0 (fun k_ e_ => HO246.out.1 k_ e_)); have n7_ := Aside0.mk (Kd.R_reok rfl hy1 (fun k_ e_ => HO249.out.1 k_ e_)); have n8_ := Aside0.mk (Kd.R_reok rfl hy2 (fun k_ e_ => HO252.out.1 k_ e_)); have n9_ := Aside0.mk (blk_kept (by (with_reducible repeat (first | refine blk_drewN ?_ _ | refine blk_drew ?_ | refine blk_alloc ?_ _)); exact BK253.out) hkp (fun hs_ => Or.elim hs_ (fun e_ => (fun e_ => (Kd.R_ne HO246.out BK253.out (by decide)) e_) e_) (fun e_ => Or.elim e_ (fun e_ => (fun e_ => (Kd.R_ne HO249.out BK253.out (by decide)) e_) e_) (fun e_ => (fun e_ => (Kd.R_ne HO252.out BK253.out (by decide)) e_) e_)))); have n10_ := Aside0.mk (Kd.R_mono (ok' := fun k_ => some k_ ≠ (.slice Ao32 t232.length co32 : Value).ownBlock ∧ some k_ ≠ (.slice Ao50 t241.length co50 : Value).ownBlock ∧ some k_ ≠ (.slice Ao39 t244.length co39 : Value).ownBlock ∧ some k_ ≠ (.slice Ao53 t264.length co53 : Value).ownBlock) (Kd.R_keptB ((Kd.R_apart' (Kd.R_apart' HO262.out (Kd.R_typed HO249.out) (by decide)) (Kd.R_typed HO252.out) (by decide))) hkp (fun k_ hk_ hs_ => Or.elim hs_ (fun e_ => (by have z_ := hk_; (try simp only [and_assoc] at z_); repeat (first | exact z_.1 e_ | exact z_ e_ | replace z_ := z_.2))) (fun e_ => Or.elim e_ (fun e_ => (by have z_ := hk_; (try simp only [and_assoc] at z_); repeat (first | exact z_.1 e_ | exact z_ e_ | replace z_ := z_.2))) (fun e_ => (by have z_ := hk_; (try simp only [and_assoc] at z_); repeat (first | exact z_.1 e_ | exact z_ e_ | replace z_ := z_.2)))))) (fun k_ hk_ => ⟨(by have z_ := hk_; (try simp only [and_assoc] at z_); repeat (first | exact z_.1 | exact z_ | replace z_ := z_.2)), (by have z_ := hk_; (try simp only [and_assoc] at z_); repeat (first | exact z_.1 | exact z_ | replace z_ := z_.2)), (by have z_ := hk_; (try simp only [and_assoc] at z_); repeat (first | exact z_.1 | exact z_ | replace z_ := z_.2)), (by have z_ := hk_; (try simp only [and_assoc] at z_); repeat (first | exact z_.1 | exact z_ | replace z_ := z_.2))⟩)); have n11_ := Aside0.mk (Kd.R_mono (ok' := fun k_ => some k_ ≠ (.slice Ao32 t232.length co32 : Value).ownBlock ∧ some k_ ≠ (.slice Ao50 t241.length co50 : Value).ownBlock ∧ some k_ ≠ (.slice Ao39 t244.length co39 : Value).ownBlock ∧ some k_ ≠ (.slice Ao49 t260.length co49 : Value).ownBlock) (Kd.R_keptB ((Kd.R_apart' (Kd.R_apart' HO266.out (Kd.R_typed HO249.out) (by decide)) (Kd.R_typed HO252.out) (by decide))) hkp (fun k_ hk_ hs_ => Or.elim hs_ (fun e_ => (by have z_ := hk_; (try simp only [and_assoc] at z_); repeat (first | exact z_.1 e_ | exact z_ e_ | replace z_ := z_.2))) (fun e_ => Or.elim e_ (fun e_ => (by have z_ := hk_; (try simp only [and_assoc] at z_); repeat (first | exact z_.1 e_ | exact z_ e_ | replace z_ := z_.2))) (fun e_ => (by have z_ := hk_; (try simp only [and_assoc] at z_); repeat (first | exact z_.1 e_ | exact z_ e_ | replace z_ := z_.2)))))) (fun k_ hk_ => ⟨(by have z_ := hk_; (try simp only [and_assoc] at z_); repeat (first | exact z_.1 | exact z_ | replace z_ := z_.2)), (by have z_ := hk_; (try simp only [and_assoc] at z_); repeat (first | exact z_.1 | exact z_ | replace z_ := z_.2)), (by have z_ := hk_; (try simp only [and_assoc] at z_); repeat (first | exact z_.1 | exact z_ | replace z_ := z_.2)), (by have z_ := hk_; (try simp only [and_assoc] at z_); repeat (first | exact z_.1 | exact z_ | replace z_ := z_.2))⟩)); have n12_ := Aside0.mk (Kd.R_mono (ok' := fun k_ => some k_ ≠ (.slice Ao33 t235.length co33 : Value).ownBlock ∧ some k_ ≠ (.slice Ao34 t238.length co34 : Value).ownBlock ∧ some k_ ≠ (.slice Ao43 t247.length co43 : Value).ownBlock ∧ some k_ ≠ (.slice Ao44 t250.length co44 : Value).ownBlock ∧ some k_ ≠ (.slice Ao55 t270.length co55 : Value).ownBlock) (Kd.R_keptB ((Kd.R_apart' HO269.out (Kd.R_typed HO246.out) (by decide))) hkp (fun k_ hk_ hs_ => Or.elim hs_ (fun e_ => (by have z_ := hk_; (try simp only [and_assoc] at z_); repeat (first | exact z_.1 e_ | exact z_ e_ | replace z_ := z_.2))) (fun e_ => Or.elim e_ (fun e_ => (by have z_ := hk_; (try simp only [and_assoc] at z_); repeat (first | exact z_.1 e_ | exact z_ e_ | replace z_ := z_.2))) (fun e_ => (by have z_ := hk_; (try simp only [and_assoc] at z_); repeat (first | exact z_.1 e_ | exact z_ e_ | replace z_ := z_.2)))))) (fun k_ hk_ => ⟨(by have z_ := hk_; (try simp only [and_assoc] at z_); repeat (first | exact z_.1 | exact z_ | replace z_ := z_.2)), (by have z_ := hk_; (try simp only [and_assoc] at z_); repeat (first | exact z_.1 | exact z_ | replace z_ := z_.2)), (by have z_ := hk_; (try simp only [and_assoc] at z_); repeat (first | exact z_.1 | exact z_ | replace z_ := z_.2)), (by have z_ := hk_; (try simp only [and_assoc] at z_); repeat (first | exact z_.1 | exact z_ | replace z_ := z_.2)), (by have z_ := hk_; (try simp only [and_assoc] at z_); repeat (first | exact z_.1 | exact z_ | replace z_ := z_.2))⟩)); have n13_ := Aside0.mk (Kd.R_mono (ok' := fun k_ => some k_ ≠ (.slice Ao33 t235.length co33 : Value).ownBlock ∧ some k_ ≠ (.slice Ao34 t238.length co34 : Value).ownBlock ∧ some k_ ≠ (.slice Ao43 t247.length co43 : Value).ownBlock ∧ some k_ ≠ (.slice Ao44 t250.length co44 : Value).ownBlock ∧ some k_ ≠ (.slice Ao54 t267.length co54 : Value).ownBlock) (Kd.R_keptB ((Kd.R_apart' HO272.out (Kd.R_typed HO246.out) (by decide))) hkp (fun k_ hk_ hs_ => Or.elim hs_ (fun e_ => (by have z_ := hk_; (try simp only [and_assoc] at z_); repeat (first | exact z_.1 e_ | exact z_ e_ | replace z_ := z_.2))) (fun e_ => Or.elim e_ (fun e_ => (by have z_ := hk_; (try simp only [and_assoc] at z_); repeat (first | exact z_.1 e_ | exact z_ e_ | replace z_ := z_.2))) (fun e_ => (by have z_ := hk_; (try simp only [and_assoc] at z_); repeat (first | exact z_.1 e_ | exact z_ e_ | replace z_ := z_.2)))))) (fun k_ hk_ => ⟨(by have z_ := hk_; (try simp only [and_assoc] at z_); repeat (first | exact z_.1 | exact z_ | replace z_ := z_.2)), (by have z_ := hk_; (try simp only [and_assoc] at z_); repeat (first | exact z_.1 | exact z_ | replace z_ := z_.2)), (by have z_ := hk_; (try simp only [and_assoc] at z_); repeat (first | exact z_.1 | exact z_ | replace z_ := z_.2)), (by have z_ := hk_; (try simp only [and_assoc] at z_); repeat (first | exact z_.1 | exact z_ | replace z_ := z_.2)), (by have z_ := hk_; (try simp only [and_assoc] at z_); repeat (first | exact z_.1 | exact z_ | replace z_ := z_.2))⟩)); have n14_ := Aside0.mk (hb); clear BK223; clear BK224; clear HO234; clear HO237; clear HO240; clear HO243; clear HO246; clear HO249; clear HO252; clear BK253; clear HO262; clear HO266; clear HO269; clear HO272; clear HB; have BK223 := n0_; have BK224 := n1_; have HO234 := n2_; have HO237 := n3_; have HO240 := n4_; have HO243 := n5_; have HO246 := n6_; have HO249 := n7_; have HO252 := n8_; have BK253 := n9_; have HO262 := n10_; have HO266 := n11_; have HO269 := n12_; have HO272 := n13_; have HB := n14_; clear n0_ n1_ n2_ n3_ n4_ n5_ n6_ n7_ n8_ n9_ n10_ n11_ n12_ n13_ n14_; (try clear hb); (try clear hkp); (try clear hy0); (try clear hy1); (try clear hy2)))
        (try simp only [Act.put, List.setIfInBounds_toArray, List.set_cons_zero, List.set_cons_succ])
        go_cut [52] (fun v52 wc => ∃ (kq : Nat) (x52_22 : Bool), v52 = .bool x52_22 ∧ Aside0 (laws_FnExactChunkBytes.j0 kq a2 t241 t260 x52_22 a0_0 a0_1 a0_2 a0_3 a0_4 a0_5 l1_0 l1_1 l1_2 = some r) ∧ Aside0 (kq ≤ k) ∧ Aside0 (Kd.R (Kd.int .u8) 5 wc w.heap.size (fun k_ => some k_ ≠ ((.slice Ao49 t260.length co49) : Value).ownBlock ∧ some k_ ≠ ((.slice Ao39 t244.length co39) : Value).ownBlock) (.slice Ao50 t241.length co50) t241) ∧ Aside0 (Kd.R (Kd.int .u8) 5 wc w.heap.size (fun k_ => some k_ ≠ ((.slice Ao50 t241.length co50) : Value).ownBlock ∧ some k_ ≠ ((.slice Ao39 t244.length co39) : Value).ownBlock) (.slice Ao49 t260.length co49) t260) ∧ Aside0 (Kd.R (Kd.int .u8) 5 wc w.heap.size (fun k_ => some k_ ≠ ((.slice Ao50 t241.length co50) : Value).ownBlock ∧ some k_ ≠ ((.slice Ao49 t260.length co49) : Value).ownBlock) (.slice Ao39 t244.length co39) t275) ∧ Aside0 (Kd.R (Kd.int .i64) 3 wc w.heap.size (fun k_ => some k_ ≠ ((.slice Ao44 t250.length co44) : Value).ownBlock) (.slice Ao43 t247.length co43) t276) ∧ Aside0 (Kd.R (Kd.int .i64) 3 wc w.heap.size (fun k_ => some k_ ≠ ((.slice Ao43 t247.length co43) : Value).ownBlock) (.slice Ao44 t250.length co44) t277) ∧ Aside0 (wc.heap[gb223]? = some (.cells #[.int .i64 a0_0, .int .i64 a0_1, .int .i64 a0_2, .int .i64 a0_3, .int .i64 a0_4, .int .i64 a0_5] 45 (0, 0))) ∧ Aside0 (wc.heap[gb224]? = some (.cells #[(.slice A1_0 l1_0.length c1_0), (.slice A1_1 l1_1.length c1_1), (.slice A1_2 l1_2.length c1_2)] 48 (0, 0))) ∧ Aside0 (wc.heap[gb253]? = some (.cells #[(.slice Ao39 t244.length co39), (.slice Ao43 t247.length co43), (.slice Ao44 t250.length co44)] 53 (0, 0))) ∧ Aside0 (Below w.heap.size w wc))
        case first =>
          have H := HC23.out
          clear HC23
          by_cases c59 : t274 < 0
          · rw [if_pos c59] at H
            exact absurd H (by simp)
          · rw [if_neg c59] at H
            have c59b0 : decide (t274 < 0) = false := decide_eq_false c59
            clear c59
            (first | rw [c59b0] | (simp only [i64_w, i32_w]; rw [c59b0]) | skip)
            replace H := Option.bind_eq_some_iff.mp H
            obtain ⟨t278, A600, H⟩ := H
            replace H : (laws_FnExactChunkBytes.j0 k a2 t241 t260 (!t278) a0_0 a0_1 a0_2 a0_3 a0_4 a0_5 l1_0 l1_1 l1_2) = some r := H
            have A60 := Aside0.mk A600
            clear A600
            have H' := Aside0.mk H
            clear H
            go_wp2_with (first | (go_at_call 18; (with_reducible refine (laws_eqByteS.calls k _ _ t260 _ _ t241 t278 _ ?side1 ?side2 ?side3 ?side4 A60.out).mono ?_); (case side1 => repeat (first | exact (Kd.R_reads' HO262.out).2.2 | (with_reducible refine Kd.C_alloc ?_ _) | (with_reducible refine Kd.C_drewN ?_ _) | (with_reducible refine Kd.C_drew ?_))); (case side2 => exact (Kd.R_reads' HO262.out).2.1); (case side3 => repeat (first | exact (Kd.R_reads' HO243.out).2.2 | (with_reducible refine Kd.C_alloc ?_ _) | (with_reducible refine Kd.C_drewN ?_ _) | (with_reducible refine Kd.C_drew ?_))); (case side4 => exact (Kd.R_reads' HO243.out).2.1); rintro e w' ⟨rfl, ⟨nd, rfl⟩⟩))
            go_meet
            case rel => exact ⟨_, (!t278), (by first | rfl | (simp; done) | (simp [*]; done)), H', ⟨by first | omega | exact Nat.le_refl _⟩, ⟨by (with_reducible repeat (first | apply Kd.R_alloc | apply Kd.R_drewN | apply Kd.R_drew)); exact Kd.R_mono HO243.out (fun _ hk => ⟨(by have z_ := hk; (try simp only [and_assoc] at z_); repeat (first | exact z_.1 | exact z_ | replace z_ := z_.2)), (by have z_ := hk; (try simp only [and_assoc] at z_); repeat (first | exact z_.1 | exact z_ | replace z_ := z_.2))⟩)⟩, ⟨by (with_reducible repeat (first | apply Kd.R_alloc | apply Kd.R_drewN | apply Kd.R_drew)); exact Kd.R_mono HO262.out (fun _ hk => ⟨(by have z_ := hk; (try simp only [and_assoc] at z_); repeat (first | exact z_.1 | exact z_ | replace z_ := z_.2)), (by have z_ := hk; (try simp only [and_assoc] at z_); repeat (first | exact z_.1 | exact z_ | replace z_ := z_.2))⟩)⟩, ⟨by (with_reducible repeat (first | apply Kd.R_alloc | apply Kd.R_drewN | apply Kd.R_drew)); exact Kd.R_mono HO246.out (fun _ hk => ⟨(by have z_ := hk; (try simp only [and_assoc] at z_); repeat (first | exact z_.1 | exact z_ | replace z_ := z_.2)), (by have z_ := hk; (try simp only [and_assoc] at z_); repeat (first | exact z_.1 | exact z_ | replace z_ := z_.2))⟩)⟩, ⟨by (with_reducible repeat (first | apply Kd.R_alloc | apply Kd.R_drewN | apply Kd.R_drew)); exact Kd.R_mono HO249.out (fun _ hk => (by have z_ := hk; (try simp only [and_assoc] at z_); repeat (first | exact z_.1 | exact z_ | replace z_ := z_.2)))⟩, ⟨by (with_reducible repeat (first | apply Kd.R_alloc | apply Kd.R_drewN | apply Kd.R_drew)); exact Kd.R_mono HO252.out (fun _ hk => (by have z_ := hk; (try simp only [and_assoc] at z_); repeat (first | exact z_.1 | exact z_ | replace z_ := z_.2)))⟩, ⟨by (with_reducible repeat (first | refine blk_drewN ?_ _ | refine blk_drew ?_ | refine blk_alloc ?_ _)); exact BK223.out⟩, ⟨by (with_reducible repeat (first | refine blk_drewN ?_ _ | refine blk_drew ?_ | refine blk_alloc ?_ _)); exact BK224.out⟩, ⟨by (with_reducible repeat (first | refine blk_drewN ?_ _ | refine blk_drew ?_ | refine blk_alloc ?_ _)); exact BK253.out⟩, ⟨by repeat (first | (with_reducible first | exact HB.out | apply below_alloc | apply pw_below_drewN | apply below_drew1 | refine below_set ?_ GE223.out | refine below_set ?_ GE224.out | refine below_set ?_ GE253.out) | exact HB.out)⟩⟩
        case rest =>
          clear HC23
          try clear c1
          try clear p2
          try clear c4
          try clear c5
          try clear c18
          try clear c40
          try clear c41
          try clear c44
          try clear c45
          try clear c47
          try clear c48
          try clear c49
          try clear c50
          try clear c59
          try clear c59b0
          try clear hcz36_0
          try clear hcz36_1
          try clear hcz36_2
          try clear hcz42_0
          try clear hcz42_1
          try clear hcz42_2
          try clear hcz57_0
          try clear hcz57_1
          try clear hcz57_2
          try clear hfz36_0
          try clear hfz36_1
          try clear hfz36_2
          try clear hfz42_0
          try clear hfz42_1
          try clear hfz42_2
          try clear hfz57_0
          try clear hfz57_1
          try clear hfz57_2
          obtain ⟨kq, x52_22, rfl, HA, HJ22, HO_8, HO_10, HO_254000, HO_254001, HO_254002, BK223, BK224, BK253, HB⟩ := hcut
          have hl254000_22 := (Kd.R_reads' HO_254000.out).1
          rw [hl254000_22] at HO_254000
          (try simp only [hl254000_22])
          (try simp only [hl254000_22] at BK223)
          (try simp only [hl254000_22] at BK224)
          (try simp only [hl254000_22] at BK253)
          (try simp only [hl254000_22] at HO_8)
          (try simp only [hl254000_22] at HO_10)
          (try simp only [hl254000_22] at HO_254001)
          (try simp only [hl254000_22] at HO_254002)
          have hl254001_22 := (Kd.R_reads' HO_254001.out).1
          rw [hl254001_22] at HO_254001
          (try simp only [hl254001_22])
          (try simp only [hl254001_22] at BK223)
          (try simp only [hl254001_22] at BK224)
          (try simp only [hl254001_22] at BK253)
          (try simp only [hl254001_22] at HO_8)
          (try simp only [hl254001_22] at HO_10)
          (try simp only [hl254001_22] at HO_254000)
          (try simp only [hl254001_22] at HO_254002)
          have hl254002_22 := (Kd.R_reads' HO_254002.out).1
          rw [hl254002_22] at HO_254002
          (try simp only [hl254002_22])
          (try simp only [hl254002_22] at BK223)
          (try simp only [hl254002_22] at BK224)
          (try simp only [hl254002_22] at BK253)
          (try simp only [hl254002_22] at HO_8)
          (try simp only [hl254002_22] at HO_10)
          (try simp only [hl254002_22] at HO_254000)
          (try simp only [hl254002_22] at HO_254001)
          cases kq with
          | zero => exact absurd HA.out (by simp [laws_FnExactChunkBytes.j0])
          | succ kj22 =>
            have H := HA.out
            clear HA
            simp only [laws_FnExactChunkBytes.j0] at H
            by_cases c61 : x52_22 = true
            · subst c61
              have H1 : (none) = some r := by rw [if_pos rfl] at H; exact H
              clear H
              have H := H1
              clear H1
              exact absurd H (by simp)
            · replace c61 := Bool.eq_false_iff.mpr c61
              subst c61
              have H1 : ((laws_markByteS.f kj22 t260 1).bind fun bt279 => ((laws_heldByteS.f kj22 bt279.2 1).bind fun t281 => (if t281 < 0 then (none) else (if t281 = bt279.1 then ((laws_toConf.f a0_0 a0_1 a0_2 a0_3 a0_4 a0_5).bind fun bt282 => ((laws_toPool.f kj22 l1_0 l1_1 l1_2).bind fun bt288 => ((impl_ChunkBytes.f kj22 bt282.1 bt282.2.1 bt282.2.2.1 bt282.2.2.2.1 bt282.2.2.2.2.1 bt282.2.2.2.2.2 bt288.1 bt288.2.1 bt288.2.2 a2).bind fun t297 => ((laws_eqByteS.f kj22 t297 t241).bind fun t300 => (if t300 = true then ((laws_heldByteS.f kj22 bt279.2 1).bind fun t301 => (if t301 < 0 then (none) else (if t301 = bt279.1 then (some true) else (none)))) else (none)))))) else (none))))) = some r := by rw [if_neg (show ¬ (false = true) by decide)] at H; exact H
              clear H
              have H := H1
              clear H1
              replace H := Option.bind_eq_some_iff.mp H
              obtain ⟨⟨t279, t280⟩, A620, H⟩ := H
              replace H : ((laws_heldByteS.f kj22 t280 1).bind fun t281 => (if t281 < 0 then (none) else (if t281 = t279 then ((laws_toConf.f a0_0 a0_1 a0_2 a0_3 a0_4 a0_5).bind fun bt282 => ((laws_toPool.f kj22 l1_0 l1_1 l1_2).bind fun bt288 => ((impl_ChunkBytes.f kj22 bt282.1 bt282.2.1 bt282.2.2.1 bt282.2.2.2.1 bt282.2.2.2.2.1 bt282.2.2.2.2.2 bt288.1 bt288.2.1 bt288.2.2 a2).bind fun t297 => ((laws_eqByteS.f kj22 t297 t241).bind fun t300 => (if t300 = true then ((laws_heldByteS.f kj22 t280 1).bind fun t301 => (if t301 < 0 then (none) else (if t301 = t279 then (some true) else (none)))) else (none)))))) else (none)))) = some r := H
              have A62 := Aside0.mk A620
              clear A620
              replace H := Option.bind_eq_some_iff.mp H
              obtain ⟨t281, A630, H⟩ := H
              replace H : (if t281 < 0 then (none) else (if t281 = t279 then ((laws_toConf.f a0_0 a0_1 a0_2 a0_3 a0_4 a0_5).bind fun bt282 => ((laws_toPool.f kj22 l1_0 l1_1 l1_2).bind fun bt288 => ((impl_ChunkBytes.f kj22 bt282.1 bt282.2.1 bt282.2.2.1 bt282.2.2.2.1 bt282.2.2.2.2.1 bt282.2.2.2.2.2 bt288.1 bt288.2.1 bt288.2.2 a2).bind fun t297 => ((laws_eqByteS.f kj22 t297 t241).bind fun t300 => (if t300 = true then ((laws_heldByteS.f kj22 t280 1).bind fun t301 => (if t301 < 0 then (none) else (if t301 = t279 then (some true) else (none)))) else (none)))))) else (none))) = some r := H
              have A63 := Aside0.mk A630
              clear A630
              by_cases c64 : t281 < 0
              · rw [if_pos c64] at H
                exact absurd H (by simp)
              · rw [if_neg c64] at H
                have c64b0 : decide (t281 < 0) = false := decide_eq_false c64
                clear c64
                by_cases c65 : t281 = t279
                · rw [if_pos c65] at H
                  have c65b0 : (t281 == t279) = true := beq_iff_eq.mpr c65
                  have c65b1 : (t281 != t279) = false := bne_eq_false_iff_eq.mpr c65
                  clear c65
                  replace H := Option.bind_eq_some_iff.mp H
                  obtain ⟨⟨t282, t283, t284, t285, t286, t287⟩, A660, H⟩ := H
                  replace H : ((laws_toPool.f kj22 l1_0 l1_1 l1_2).bind fun bt288 => ((impl_ChunkBytes.f kj22 t282 t283 t284 t285 t286 t287 bt288.1 bt288.2.1 bt288.2.2 a2).bind fun t297 => ((laws_eqByteS.f kj22 t297 t241).bind fun t300 => (if t300 = true then ((laws_heldByteS.f kj22 t280 1).bind fun t301 => (if t301 < 0 then (none) else (if t301 = t279 then (some true) else (none)))) else (none))))) = some r := H
                  have A66 := Aside0.mk A660
                  clear A660
                  replace H := Option.bind_eq_some_iff.mp H
                  obtain ⟨⟨t288, t291, t294⟩, A670, H⟩ := H
                  replace H : ((impl_ChunkBytes.f kj22 t282 t283 t284 t285 t286 t287 t288 t291 t294 a2).bind fun t297 => ((laws_eqByteS.f kj22 t297 t241).bind fun t300 => (if t300 = true then ((laws_heldByteS.f kj22 t280 1).bind fun t301 => (if t301 < 0 then (none) else (if t301 = t279 then (some true) else (none)))) else (none)))) = some r := H
                  have A67 := Aside0.mk A670
                  clear A670
                  replace H := Option.bind_eq_some_iff.mp H
                  obtain ⟨t297, A680, H⟩ := H
                  replace H : ((laws_eqByteS.f kj22 t297 t241).bind fun t300 => (if t300 = true then ((laws_heldByteS.f kj22 t280 1).bind fun t301 => (if t301 < 0 then (none) else (if t301 = t279 then (some true) else (none)))) else (none))) = some r := H
                  have A68 := Aside0.mk A680
                  clear A680
                  replace H := Option.bind_eq_some_iff.mp H
                  obtain ⟨t300, A690, H⟩ := H
                  replace H : (if t300 = true then ((laws_heldByteS.f kj22 t280 1).bind fun t301 => (if t301 < 0 then (none) else (if t301 = t279 then (some true) else (none)))) else (none)) = some r := H
                  have A69 := Aside0.mk A690
                  clear A690
                  by_cases c70 : t300 = true
                  · subst c70
                    have H1 : ((laws_heldByteS.f kj22 t280 1).bind fun t301 => (if t301 < 0 then (none) else (if t301 = t279 then (some true) else (none)))) = some r := by rw [if_pos rfl] at H; exact H
                    clear H
                    have H := H1
                    clear H1
                    replace H := Option.bind_eq_some_iff.mp H
                    obtain ⟨t301, A710, H⟩ := H
                    replace H : (if t301 < 0 then (none) else (if t301 = t279 then (some true) else (none))) = some r := H
                    have A71 := Aside0.mk A710
                    clear A710
                    by_cases c72 : t301 < 0
                    · rw [if_pos c72] at H
                      exact absurd H (by simp)
                    · rw [if_neg c72] at H
                      have c72b0 : decide (t301 < 0) = false := decide_eq_false c72
                      clear c72
                      by_cases c73 : t301 = t279
                      · rw [if_pos c73] at H
                        have c73b0 : (t301 == t279) = true := beq_iff_eq.mpr c73
                        have c73b1 : (t301 != t279) = false := bne_eq_false_iff_eq.mpr c73
                        clear c73
                        obtain rfl := Option.some.inj H
                        try go_wp2_with (first | ((with_reducible refine gate_callee (f := 19) rfl ?_); refine goesL_ (some 55) rfl rfl Try.func19 (by kernel_rfl) rfl #[.slice Ao49 t260.length co49, .int .i64 1] rfl (by (try simp only [List.map_toArray, List.map_cons, List.map_nil]); first | done | rfl | (simp only [List.length_drop, List.length_take]; rfl)) ?_; (with_reducible refine (laws_markByteS.calls kj22 (fun k_ => some k_ = (.slice Ao49 t260.length co49 : Value).ownBlock) (.slice Ao49 t260.length co49) t260 1 t279 t280 w _ ?side1 ?side2 A62.out).mono ?_); (case side1 => repeat (first | (with_reducible first | exact HB.out | apply below_alloc | apply pw_below_drewN | apply below_drew1 | refine below_set ?_ GE223.out | refine below_set ?_ GE224.out | refine below_set ?_ GE253.out) | exact HB.out)); (case side2 => exact Kd.R_tight rfl HO_10.out); rintro e w74 ⟨rfl, hy0, hb, hkp⟩; refine ⟨_, rfl, ?_⟩; have n0_ := Aside0.mk (Kd.R_mono (ok' := fun k_ => some k_ ≠ (.slice Ao49 t260.length co49 : Value).ownBlock ∧ some k_ ≠ (.slice Ao39 t275.length co39 : Value).ownBlock) (Kd.R_keptB (HO_8.out) hkp (fun k_ hk_ hs_ => (hk_.1) hs_)) (fun k_ hk_ => ⟨hk_.1.1, hk_.1.2⟩)); have n1_ := Aside0.mk (Kd.R_reok rfl hy0 (fun k_ e_ => HO_10.out.1 k_ e_)); have n2_ := Aside0.mk (Kd.R_mono (ok' := fun k_ => some k_ ≠ (.slice Ao50 t241.length co50 : Value).ownBlock ∧ some k_ ≠ (.slice Ao49 t260.length co49 : Value).ownBlock) (Kd.R_keptB (HO_254000.out) hkp (fun k_ hk_ hs_ => (hk_.2) hs_)) (fun k_ hk_ => ⟨hk_.1.1, hk_.1.2⟩)); have n3_ := Aside0.mk (Kd.R_mono (ok' := fun k_ => some k_ ≠ (.slice Ao44 t277.length co44 : Value).ownBlock) (Kd.R_keptB ((Kd.R_apart' HO_254001.out (Kd.R_typed HO_10.out) (by decide))) hkp (fun k_ hk_ hs_ => (hk_.2) hs_)) (fun k_ hk_ => hk_.1.1)); have n4_ := Aside0.mk (Kd.R_mono (ok' := fun k_ => some k_ ≠ (.slice Ao43 t276.length co43 : Value).ownBlock) (Kd.R_keptB ((Kd.R_apart' HO_254002.out (Kd.R_typed HO_10.out) (by decide))) hkp (fun k_ hk_ hs_ => (hk_.2) hs_)) (fun k_ hk_ => hk_.1.1)); have n5_ := Aside0.mk (blk_kept (by (with_reducible repeat (first | refine blk_drewN ?_ _ | refine blk_drew ?_ | refine blk_alloc ?_ _)); exact BK223.out) hkp (fun hs_ => (fun e_ => (Kd.R_ne HO_10.out BK223.out (by decide)) e_) hs_)); have n6_ := Aside0.mk (blk_kept (by (with_reducible repeat (first | refine blk_drewN ?_ _ | refine blk_drew ?_ | refine blk_alloc ?_ _)); exact BK224.out) hkp (fun hs_ => (fun e_ => (Kd.R_ne HO_10.out BK224.out (by decide)) e_) hs_)); have n7_ := Aside0.mk (blk_kept (by (with_reducible repeat (first | refine blk_drewN ?_ _ | refine blk_drew ?_ | refine blk_alloc ?_ _)); exact BK253.out) hkp (fun hs_ => (fun e_ => (Kd.R_ne HO_10.out BK253.out (by decide)) e_) hs_)); have n8_ := Aside0.mk (hb); clear HO_8; clear HO_10; clear HO_254000; clear HO_254001; clear HO_254002; clear BK223; clear BK224; clear BK253; clear HB; have HO_8 := n0_; have HO_10 := n1_; have HO_254000 := n2_; have HO_254001 := n3_; have HO_254002 := n4_; have BK223 := n5_; have BK224 := n6_; have BK253 := n7_; have HB := n8_; clear n0_ n1_ n2_ n3_ n4_ n5_ n6_ n7_ n8_; (try clear hb); (try clear hkp); (try clear hy0)) | ((with_reducible refine gate_callee (f := 20) rfl ?_); refine goesL_ (some 58) rfl rfl Try.func20 (by kernel_rfl) rfl #[.slice Ao49 t280.length co49, .int .i64 1] rfl (by (try simp only [List.map_toArray, List.map_cons, List.map_nil]); first | done | (rw [show t280.length = t260.length from (Kd.R_reads' HO_10.out).1.symm] <;> rfl) | rfl | (simp only [List.length_drop, List.length_take]; rfl)) ?_; (with_reducible refine (laws_heldByteS.calls kj22 _ _ t280 1 t281 _ ?side1 ?side2 A63.out).mono ?_); (case side1 => repeat (first | exact (Kd.R_reads' HO_10.out).2.2 | (with_reducible refine Kd.C_alloc ?_ _) | (with_reducible refine Kd.C_drewN ?_ _) | (with_reducible refine Kd.C_drew ?_))); (case side2 => rw [show t280.length = t260.length from (Kd.R_reads' HO_10.out).1.symm]; exact (Kd.R_reads' HO_10.out).2.1); rintro e w' ⟨rfl, ⟨nd, rfl⟩⟩; refine ⟨_, rfl, ?_⟩))
                        (try (rw [drewN_self w74]; generalize hq_ : World.drewN w74 _ = w74; have n0_ : Aside0 (Kd.R (Kd.int .u8) 5 w74 w.heap.size (fun k_ => some k_ ≠ (.slice Ao39 t275.length co39 : Value).ownBlock ∧ some k_ ≠ (.slice Ao50 t241.length co50 : Value).ownBlock) (.slice Ao49 t260.length co49) t280) := ⟨by rw [← hq_]; exact (by (with_reducible repeat (first | apply Kd.R_alloc | apply Kd.R_drewN | apply Kd.R_drew)); exact Kd.R_mono HO_10.out (fun _ hk => ⟨hk.2, hk.1⟩))⟩; have n1_ : Aside0 (Kd.R (Kd.int .u8) 5 w74 w.heap.size (fun k_ => some k_ ≠ (.slice Ao49 t260.length co49 : Value).ownBlock ∧ some k_ ≠ (.slice Ao50 t241.length co50 : Value).ownBlock) (.slice Ao39 t275.length co39) t275) := ⟨by rw [← hq_]; exact (by (with_reducible repeat (first | apply Kd.R_alloc | apply Kd.R_drewN | apply Kd.R_drew)); exact Kd.R_mono HO_254000.out (fun _ hk => ⟨hk.2, hk.1⟩))⟩; have n2_ : Aside0 (Kd.R (Kd.int .i64) 3 w74 w.heap.size (fun k_ => some k_ ≠ (.slice Ao44 t277.length co44 : Value).ownBlock) (.slice Ao43 t276.length co43) t276) := ⟨by rw [← hq_]; exact (by (with_reducible repeat (first | apply Kd.R_alloc | apply Kd.R_drewN | apply Kd.R_drew)); exact HO_254001.out)⟩; have n3_ : Aside0 (Kd.R (Kd.int .i64) 3 w74 w.heap.size (fun k_ => some k_ ≠ (.slice Ao43 t276.length co43 : Value).ownBlock) (.slice Ao44 t277.length co44) t277) := ⟨by rw [← hq_]; exact (by (with_reducible repeat (first | apply Kd.R_alloc | apply Kd.R_drewN | apply Kd.R_drew)); exact HO_254002.out)⟩; have n4_ : Aside0 (Kd.R (Kd.int .u8) 5 w74 w.heap.size (fun k_ => some k_ ≠ (.slice Ao49 t260.length co49 : Value).ownBlock ∧ some k_ ≠ (.slice Ao39 t275.length co39 : Value).ownBlock) (.slice Ao50 t241.length co50) t241) := ⟨by rw [← hq_]; exact (by (with_reducible repeat (first | apply Kd.R_alloc | apply Kd.R_drewN | apply Kd.R_drew)); exact HO_8.out)⟩; have n5_ : Aside0 (w74.heap[gb223]? = some (.cells #[.int .i64 a0_0, .int .i64 a0_1, .int .i64 a0_2, .int .i64 a0_3, .int .i64 a0_4, .int .i64 a0_5] 45 (0, 0))) := ⟨by rw [← hq_]; exact (by (with_reducible repeat (first | refine blk_drewN ?_ _ | refine blk_drew ?_ | refine blk_alloc ?_ _)); exact BK223.out)⟩; have n6_ : Aside0 (w74.heap[gb224]? = some (.cells #[.slice A1_0 l1_0.length c1_0, .slice A1_1 l1_1.length c1_1, .slice A1_2 l1_2.length c1_2] 48 (0, 0))) := ⟨by rw [← hq_]; exact (by (with_reducible repeat (first | refine blk_drewN ?_ _ | refine blk_drew ?_ | refine blk_alloc ?_ _)); exact BK224.out)⟩; have n7_ : Aside0 (w74.heap[gb253]? = some (.cells #[.slice Ao39 t275.length co39, .slice Ao43 t276.length co43, .slice Ao44 t277.length co44] 53 (0, 0))) := ⟨by rw [← hq_]; exact (by (with_reducible repeat (first | refine blk_drewN ?_ _ | refine blk_drew ?_ | refine blk_alloc ?_ _)); exact BK253.out)⟩; have n8_ : Aside0 (Below w.heap.size w w74) := ⟨by rw [← hq_]; exact (by repeat (first | (with_reducible first | exact HB.out | apply below_alloc | apply pw_below_drewN | apply below_drew1 | refine below_set ?_ GE223.out | refine below_set ?_ GE224.out | refine below_set ?_ GE253.out) | exact HB.out))⟩; clear HO_10 HO_254000 HO_254001 HO_254002 HO_8 BK223 BK224 BK253 HB hq_; have HO_10 := n0_; have HO_254000 := n1_; have HO_254001 := n2_; have HO_254002 := n3_; have HO_8 := n4_; have BK223 := n5_; have BK224 := n6_; have BK253 := n7_; have HB := n8_; clear n0_ n1_ n2_ n3_ n4_ n5_ n6_ n7_ n8_; have hczr223_0 := blk_cell BK223.out 0; have hczr223_1 := blk_cell BK223.out 1; have hczr223_2 := blk_cell BK223.out 2; have hczr223_3 := blk_cell BK223.out 3; have hczr223_4 := blk_cell BK223.out 4; have hczr223_5 := blk_cell BK223.out 5; have hczr224_0 := blk_cell BK224.out 0; have hczr224_1 := blk_cell BK224.out 1; have hczr224_2 := blk_cell BK224.out 2; have hczr253_0 := blk_cell BK253.out 0; have hczr253_1 := blk_cell BK253.out 1; have hczr253_2 := blk_cell BK253.out 2))
                        have n0_ := Aside0.mk (Kd.R_drew HO_8.out)
                        have n1_ := Aside0.mk (Kd.R_drew HO_10.out)
                        have n2_ := Aside0.mk (Kd.R_drew HO_254000.out)
                        have n3_ := Aside0.mk (Kd.R_drew HO_254001.out)
                        have n4_ := Aside0.mk (Kd.R_drew HO_254002.out)
                        have n5_ := Aside0.mk (blk_drew BK223.out)
                        have n6_ := Aside0.mk (blk_drew BK224.out)
                        have n7_ := Aside0.mk (blk_drew BK253.out)
                        have n8_ := Aside0.mk (below_drew1 HB.out)
                        clear HO_8
                        clear HO_10
                        clear HO_254000
                        clear HO_254001
                        clear HO_254002
                        clear BK223
                        clear BK224
                        clear BK253
                        clear HB
                        have HO_8 := n0_
                        have HO_10 := n1_
                        have HO_254000 := n2_
                        have HO_254001 := n3_
                        have HO_254002 := n4_
                        have BK223 := n5_
                        have BK224 := n6_
                        have BK253 := n7_
                        have HB := n8_
                        clear n0_ n1_ n2_ n3_ n4_ n5_ n6_ n7_ n8_
                        refine start_ (n := 7) (S := fun w' => w'.cell? ⟨gb223, 0, none⟩ = some (.int .i64 a0_0) ∧ w'.cell? ⟨gb223, 1, none⟩ = some (.int .i64 a0_1) ∧ w'.cell? ⟨gb223, 2, none⟩ = some (.int .i64 a0_2) ∧ w'.cell? ⟨gb223, 3, none⟩ = some (.int .i64 a0_3) ∧ w'.cell? ⟨gb223, 4, none⟩ = some (.int .i64 a0_4) ∧ w'.cell? ⟨gb223, 5, none⟩ = some (.int .i64 a0_5) ∧ w'.cell? ⟨gb224, 0, none⟩ = some (.slice A1_0 l1_0.length c1_0) ∧ w'.cell? ⟨gb224, 1, none⟩ = some (.slice A1_1 l1_1.length c1_1) ∧ w'.cell? ⟨gb224, 2, none⟩ = some (.slice A1_2 l1_2.length c1_2)) (ds := []) #[false, false, false, false, false, false, false] (by kernel_rfl) rfl rfl ⟨(blk_cell BK223.out 0).trans rfl, (blk_cell BK223.out 1).trans rfl, (blk_cell BK223.out 2).trans rfl, (blk_cell BK223.out 3).trans rfl, (blk_cell BK223.out 4).trans rfl, (blk_cell BK223.out 5).trans rfl, (blk_cell BK224.out 0).trans rfl, (blk_cell BK224.out 1).trans rfl, (blk_cell BK224.out 2).trans rfl⟩ (fun hHeld => ?_)
                        generalize w74.drew = w75 at HO_8 HO_10 HO_254000 HO_254001 HO_254002 BK223 BK224 BK253 HB hHeld ⊢
                        refine pure_ (i := 4) (N := some 68) (v := ?_) (a' := ?_) #[false, false, false, false, true, false, false] rfl rfl (by kernel_rfl) (fun _ _ _ h => h) (Or.inl ⟨by rfl, ?_⟩) ?_ ?_
                        rotate_left
                        · intro w'
                          go_simp
                          with_reducible rfl
                        rotate_left
                        · simp only [Act.put, List.setIfInBounds_toArray, List.set_cons_zero, List.set_cons_succ, i64_w, i32_w]
                          rfl
                        refine take_ (i := 0) (N := some 64) (v := ?_) (a' := ?_) #[true, false, false, false, true, false, false] rfl rfl (by kernel_rfl) (fun _ _ _ h => h) (Or.inl ⟨by rfl, ?_⟩) hHeld ?_ ?_
                        rotate_left
                        · rintro w' ⟨s0, s1, s2, s3, s4, s5, s6, s7, s8⟩
                          go_simp
                          with_reducible rfl
                        rotate_left
                        · simp only [Act.put, List.setIfInBounds_toArray, List.set_cons_zero, List.set_cons_succ, i64_w, i32_w]
                          rfl
                        refine take_ (i := 2) (N := some 66) (v := ?_) (a' := ?_) #[true, false, true, false, true, false, false] rfl rfl (by kernel_rfl) (fun _ _ _ h => h) (Or.inl ⟨by rfl, ?_⟩) hHeld ?_ ?_
                        rotate_left
                        · rintro w' ⟨s0, s1, s2, s3, s4, s5, s6, s7, s8⟩
                          go_simp
                          with_reducible rfl
                        rotate_left
                        · simp only [Act.put, List.setIfInBounds_toArray, List.set_cons_zero, List.set_cons_succ, i64_w, i32_w]
                          rfl
                        refine one_ (i := 1) (N := some 65) #[true, true, true, false, true, false, false] rfl rfl (by kernel_rfl) (by decide) (fun K hK => ?_)
                        refine goes_ Try.func44 (by kernel_rfl) rfl #[.agg #[.int .i64 a0_0, .int .i64 a0_1, .int .i64 a0_2, .int .i64 a0_3, .int .i64 a0_4, .int .i64 a0_5]] (by rfl) rfl rfl (by (try simp only [List.map_toArray, List.map_cons, List.map_nil]); first | done | rfl | (simp only [List.length_drop, List.length_take]; rfl)) ?_
                        with_reducible refine (laws_toConf.calls a0_0 a0_1 a0_2 a0_3 a0_4 a0_5 t282 t283 t284 t285 t286 t287 _ A66.out).mono ?_
                        rintro e w76 ⟨rfl, hb⟩
                        refine ⟨_, rfl, ?_⟩
                        have n0_ := Aside0.mk (Kd.R_below (by (with_reducible repeat (first | apply Kd.R_alloc | apply Kd.R_drewN | apply Kd.R_drew)); exact HO_8.out) hb)
                        have n1_ := Aside0.mk (Kd.R_below (by (with_reducible repeat (first | apply Kd.R_alloc | apply Kd.R_drewN | apply Kd.R_drew)); exact HO_10.out) hb)
                        have n2_ := Aside0.mk (Kd.R_below (by (with_reducible repeat (first | apply Kd.R_alloc | apply Kd.R_drewN | apply Kd.R_drew)); exact HO_254000.out) hb)
                        have n3_ := Aside0.mk (Kd.R_below (by (with_reducible repeat (first | apply Kd.R_alloc | apply Kd.R_drewN | apply Kd.R_drew)); exact HO_254001.out) hb)
                        have n4_ := Aside0.mk (Kd.R_below (by (with_reducible repeat (first | apply Kd.R_alloc | apply Kd.R_drewN | apply Kd.R_drew)); exact HO_254002.out) hb)
                        have n5_ := Aside0.mk (blk_below (g := gb223) (o := .cells #[.int .i64 a0_0, .int .i64 a0_1, .int .i64 a0_2, .int .i64 a0_3, .int .i64 a0_4, .int .i64 a0_5] 45 (0, 0)) (by (with_reducible repeat (first | refine blk_drewN ?_ _ | refine blk_drew ?_ | refine blk_alloc ?_ _)); exact BK223.out) hb)
                        have n6_ := Aside0.mk (blk_below (g := gb224) (o := .cells #[.slice A1_0 l1_0.length c1_0, .slice A1_1 l1_1.length c1_1, .slice A1_2 l1_2.length c1_2] 48 (0, 0)) (by (with_reducible repeat (first | refine blk_drewN ?_ _ | refine blk_drew ?_ | refine blk_alloc ?_ _)); exact BK224.out) hb)
                        have n7_ := Aside0.mk (blk_below (g := gb253) (o := .cells #[.slice Ao39 t275.length co39, .slice Ao43 t276.length co43, .slice Ao44 t277.length co44] 53 (0, 0)) (by (with_reducible repeat (first | refine blk_drewN ?_ _ | refine blk_drew ?_ | refine blk_alloc ?_ _)); exact BK253.out) hb)
                        have n8_ := Aside0.mk (below_step (by repeat (first | (with_reducible first | exact HB.out | apply below_alloc | apply pw_below_drewN | apply below_drew1 | refine below_set ?_ GE223.out | refine below_set ?_ GE224.out | refine below_set ?_ GE253.out) | exact HB.out)) hb)
                        clear HO_8
                        clear HO_10
                        clear HO_254000
                        clear HO_254001
                        clear HO_254002
                        clear BK223
                        clear BK224
                        clear BK253
                        clear HB
                        have HO_8 := n0_
                        have HO_10 := n1_
                        have HO_254000 := n2_
                        have HO_254001 := n3_
                        have HO_254002 := n4_
                        have BK223 := n5_
                        have BK224 := n6_
                        have BK253 := n7_
                        have HB := n8_
                        clear n0_ n1_ n2_ n3_ n4_ n5_ n6_ n7_ n8_
                        (try clear hb)
                        (try clear hb2)
                        (try clear hk)
                        (try clear hi)
                        refine hK.out _ _ (by first | exact ⟨(blk_cell BK223.out 0).trans rfl, (blk_cell BK223.out 1).trans rfl, (blk_cell BK223.out 2).trans rfl, (blk_cell BK223.out 3).trans rfl, (blk_cell BK223.out 4).trans rfl, (blk_cell BK223.out 5).trans rfl, (blk_cell BK224.out 0).trans rfl, (blk_cell BK224.out 1).trans rfl, (blk_cell BK224.out 2).trans rfl⟩ | exact hHeld) (fun hHeld => ?_)
                        clear hK K
                        refine norm_ (a' := ?_) ?_ ?_
                        rotate_left
                        · show Act.put _ (some 65) _ = _
                          simp only [Act.put, List.setIfInBounds_toArray, List.set_cons_zero, List.set_cons_succ, i64_w, i32_w]
                          rfl
                        refine one_ (i := 3) (N := some 67) #[true, true, true, true, true, false, false] rfl rfl (by kernel_rfl) (by decide) (fun K hK => ?_)
                        refine goes_ Try.func45 (by kernel_rfl) rfl #[.agg #[.slice A1_0 l1_0.length c1_0, .slice A1_1 l1_1.length c1_1, .slice A1_2 l1_2.length c1_2]] (by rfl) rfl rfl (by (try simp only [List.map_toArray, List.map_cons, List.map_nil]); first | done | rfl | (simp only [List.length_drop, List.length_take]; rfl)) ?_
                        with_reducible refine (laws_toPool.calls kj22 _ _ l1_0 _ _ l1_1 _ _ l1_2 t288 t291 t294 _ ?side1 ?side2 ?side3 ?side4 ?side5 ?side6 A67.out).mono ?_
                        (case side1 => repeat (first | exact (Kd.C_below HR1_0.out HB.out) | (with_reducible refine Kd.C_alloc ?_ _) | (with_reducible refine Kd.C_drewN ?_ _) | (with_reducible refine Kd.C_drew ?_)))
                        (case side2 => exact HC1_0.out)
                        (case side3 => repeat (first | exact (Kd.C_below HR1_1.out HB.out) | (with_reducible refine Kd.C_alloc ?_ _) | (with_reducible refine Kd.C_drewN ?_ _) | (with_reducible refine Kd.C_drew ?_)))
                        (case side4 => exact HC1_1.out)
                        (case side5 => repeat (first | exact (Kd.C_below HR1_2.out HB.out) | (with_reducible refine Kd.C_alloc ?_ _) | (with_reducible refine Kd.C_drewN ?_ _) | (with_reducible refine Kd.C_drew ?_)))
                        (case side6 => exact HC1_2.out)
                        rintro e w77 ⟨v289, v292, v295, rfl, ho0, ho1, ho2, hb⟩
                        refine ⟨_, rfl, ?_⟩
                        have n0_ := Aside0.mk (Kd.R_elder' (by (with_reducible repeat (first | apply Kd.R_alloc | apply Kd.R_drewN | apply Kd.R_drew)); exact HO_8.out) (Kd.R_base ho0) hb)
                        have n1_ := Aside0.mk (Kd.R_elder' (by (with_reducible repeat (first | apply Kd.R_alloc | apply Kd.R_drewN | apply Kd.R_drew)); exact HO_10.out) (Kd.R_base ho0) hb)
                        have n2_ := Aside0.mk (Kd.R_elder' (by (with_reducible repeat (first | apply Kd.R_alloc | apply Kd.R_drewN | apply Kd.R_drew)); exact HO_254000.out) (Kd.R_base ho0) hb)
                        have n3_ := Aside0.mk (Kd.R_mono (Kd.R_told (Kd.R_told (Kd.R_old (by (with_reducible repeat (first | apply Kd.R_alloc | apply Kd.R_drewN | apply Kd.R_drew)); exact HO_254001.out) hb) (Kd.R_base ho1)) (Kd.R_base ho2)) (fun _ h_ => h_.1))
                        have n4_ := Aside0.mk (Kd.R_mono (Kd.R_told (Kd.R_told (Kd.R_old (by (with_reducible repeat (first | apply Kd.R_alloc | apply Kd.R_drewN | apply Kd.R_drew)); exact HO_254002.out) hb) (Kd.R_base ho1)) (Kd.R_base ho2)) (fun _ h_ => h_.1))
                        have n5_ := Aside0.mk (Kd.R_lower (Kd.R_new' (Kd.R_new' (Kd.R_new' ho0 (Kd.R_lt (by (with_reducible repeat (first | apply Kd.R_alloc | apply Kd.R_drewN | apply Kd.R_drew)); exact HO_8.out))) (Kd.R_lt (by (with_reducible repeat (first | apply Kd.R_alloc | apply Kd.R_drewN | apply Kd.R_drew)); exact HO_10.out))) (Kd.R_lt (by (with_reducible repeat (first | apply Kd.R_alloc | apply Kd.R_drewN | apply Kd.R_drew)); exact HO_254000.out))) (below_size (by repeat (first | (with_reducible first | exact HB.out | apply below_alloc | apply pw_below_drewN | apply below_drew1 | refine below_set ?_ GE223.out | refine below_set ?_ GE224.out | refine below_set ?_ GE253.out) | exact HB.out))))
                        have n6_ := Aside0.mk (Kd.R_lower (Kd.R_new' (Kd.R_new' ho1 (Kd.R_lt (by (with_reducible repeat (first | apply Kd.R_alloc | apply Kd.R_drewN | apply Kd.R_drew)); exact HO_254001.out))) (Kd.R_lt (by (with_reducible repeat (first | apply Kd.R_alloc | apply Kd.R_drewN | apply Kd.R_drew)); exact HO_254002.out))) (below_size (by repeat (first | (with_reducible first | exact HB.out | apply below_alloc | apply pw_below_drewN | apply below_drew1 | refine below_set ?_ GE223.out | refine below_set ?_ GE224.out | refine below_set ?_ GE253.out) | exact HB.out))))
                        have n7_ := Aside0.mk (Kd.R_lower (Kd.R_new' (Kd.R_new' ho2 (Kd.R_lt (by (with_reducible repeat (first | apply Kd.R_alloc | apply Kd.R_drewN | apply Kd.R_drew)); exact HO_254001.out))) (Kd.R_lt (by (with_reducible repeat (first | apply Kd.R_alloc | apply Kd.R_drewN | apply Kd.R_drew)); exact HO_254002.out))) (below_size (by repeat (first | (with_reducible first | exact HB.out | apply below_alloc | apply pw_below_drewN | apply below_drew1 | refine below_set ?_ GE223.out | refine below_set ?_ GE224.out | refine below_set ?_ GE253.out) | exact HB.out))))
                        have n8_ := Aside0.mk (blk_below (g := gb223) (o := .cells #[.int .i64 a0_0, .int .i64 a0_1, .int .i64 a0_2, .int .i64 a0_3, .int .i64 a0_4, .int .i64 a0_5] 45 (0, 0)) (by (with_reducible repeat (first | refine blk_drewN ?_ _ | refine blk_drew ?_ | refine blk_alloc ?_ _)); exact BK223.out) hb)
                        have n9_ := Aside0.mk (blk_below (g := gb224) (o := .cells #[.slice A1_0 l1_0.length c1_0, .slice A1_1 l1_1.length c1_1, .slice A1_2 l1_2.length c1_2] 48 (0, 0)) (by (with_reducible repeat (first | refine blk_drewN ?_ _ | refine blk_drew ?_ | refine blk_alloc ?_ _)); exact BK224.out) hb)
                        have n10_ := Aside0.mk (blk_below (g := gb253) (o := .cells #[.slice Ao39 t275.length co39, .slice Ao43 t276.length co43, .slice Ao44 t277.length co44] 53 (0, 0)) (by (with_reducible repeat (first | refine blk_drewN ?_ _ | refine blk_drew ?_ | refine blk_alloc ?_ _)); exact BK253.out) hb)
                        have n11_ := Aside0.mk (below_step (by repeat (first | (with_reducible first | exact HB.out | apply below_alloc | apply pw_below_drewN | apply below_drew1 | refine below_set ?_ GE223.out | refine below_set ?_ GE224.out | refine below_set ?_ GE253.out) | exact HB.out)) hb)
                        clear HO_8
                        clear HO_10
                        clear HO_254000
                        clear HO_254001
                        clear HO_254002
                        clear BK223
                        clear BK224
                        clear BK253
                        clear HB
                        have HO_8 := n0_
                        have HO_10 := n1_
                        have HO_254000 := n2_
                        have HO_254001 := n3_
                        have HO_254002 := n4_
                        have HO290 := n5_
                        have HO293 := n6_
                        have HO296 := n7_
                        have BK223 := n8_
                        have BK224 := n9_
                        have BK253 := n10_
                        have HB := n11_
                        clear n0_ n1_ n2_ n3_ n4_ n5_ n6_ n7_ n8_ n9_ n10_ n11_
                        (try clear hb)
                        (try clear hb2)
                        (try clear hk)
                        (try clear hi)
                        (try clear ho0)
                        (try clear ho1)
                        (try clear ho2)
                        obtain ⟨Ao78, co78, eo78⟩ := Kd.R_slice HO290.out
                        (first | subst eo78 | (injection eo78 with f1_ f2_ f3_; have f4_ := f1_.symm; have f5_ := f3_.symm; clear f1_ f2_ f3_; subst f4_; subst f5_))
                        obtain ⟨Ao79, co79, eo79⟩ := Kd.R_slice HO293.out
                        (first | subst eo79 | (injection eo79 with f1_ f2_ f3_; have f4_ := f1_.symm; have f5_ := f3_.symm; clear f1_ f2_ f3_; subst f4_; subst f5_))
                        obtain ⟨Ao80, co80, eo80⟩ := Kd.R_slice HO296.out
                        (first | subst eo80 | (injection eo80 with f1_ f2_ f3_; have f4_ := f1_.symm; have f5_ := f3_.symm; clear f1_ f2_ f3_; subst f4_; subst f5_))
                        refine hK.out _ _ (by first | exact ⟨(blk_cell BK223.out 0).trans rfl, (blk_cell BK223.out 1).trans rfl, (blk_cell BK223.out 2).trans rfl, (blk_cell BK223.out 3).trans rfl, (blk_cell BK223.out 4).trans rfl, (blk_cell BK223.out 5).trans rfl, (blk_cell BK224.out 0).trans rfl, (blk_cell BK224.out 1).trans rfl, (blk_cell BK224.out 2).trans rfl⟩ | exact hHeld) (fun hHeld => ?_)
                        clear hK K
                        refine norm_ (a' := ?_) ?_ ?_
                        rotate_left
                        · show Act.put _ (some 67) _ = _
                          simp only [Act.put, List.setIfInBounds_toArray, List.set_cons_zero, List.set_cons_succ, i64_w, i32_w]
                          rfl
                        refine one_ (i := 5) (N := some 69) #[true, true, true, true, true, true, false] rfl rfl (by kernel_rfl) (by decide) (fun K hK => ?_)
                        refine goes_ Try.func49 (by kernel_rfl) rfl #[.agg #[.int .i64 t282, .int .i64 t283, .int .i64 t284, .int .i64 t285, .int .i64 t286, .int .i64 t287], .agg #[.slice Ao78 t288.length co78, .slice Ao79 t291.length co79, .slice Ao80 t294.length co80], .int .i64 a2] (by rfl) rfl rfl (by (try simp only [List.map_toArray, List.map_cons, List.map_nil]); first | done | rfl | (simp only [List.length_drop, List.length_take]; rfl)) ?_
                        with_reducible refine (impl_ChunkBytes.calls kj22 t282 t283 t284 t285 t286 t287 _ _ t288 _ _ t291 _ _ t294 a2 t297 _ ?side1 ?side2 ?side3 ?side4 ?side5 ?side6 A68.out).mono ?_
                        (case side1 => repeat (first | exact (Kd.R_reads' HO290.out).2.2 | (with_reducible refine Kd.C_alloc ?_ _) | (with_reducible refine Kd.C_drewN ?_ _) | (with_reducible refine Kd.C_drew ?_)))
                        (case side2 => exact (Kd.R_reads' HO290.out).2.1)
                        (case side3 => repeat (first | exact (Kd.R_reads' HO293.out).2.2 | (with_reducible refine Kd.C_alloc ?_ _) | (with_reducible refine Kd.C_drewN ?_ _) | (with_reducible refine Kd.C_drew ?_)))
                        (case side4 => exact (Kd.R_reads' HO293.out).2.1)
                        (case side5 => repeat (first | exact (Kd.R_reads' HO296.out).2.2 | (with_reducible refine Kd.C_alloc ?_ _) | (with_reducible refine Kd.C_drewN ?_ _) | (with_reducible refine Kd.C_drew ?_)))
                        (case side6 => exact (Kd.R_reads' HO296.out).2.1)
                        rintro e w81 ⟨v298, rfl, ho0, hb⟩
                        refine ⟨_, rfl, ?_⟩
                        have n0_ := Aside0.mk (Kd.R_elder' (by (with_reducible repeat (first | apply Kd.R_alloc | apply Kd.R_drewN | apply Kd.R_drew)); exact HO_8.out) (Kd.R_base ho0) hb)
                        have n1_ := Aside0.mk (Kd.R_elder' (by (with_reducible repeat (first | apply Kd.R_alloc | apply Kd.R_drewN | apply Kd.R_drew)); exact HO_10.out) (Kd.R_base ho0) hb)
                        have n2_ := Aside0.mk (Kd.R_elder' (by (with_reducible repeat (first | apply Kd.R_alloc | apply Kd.R_drewN | apply Kd.R_drew)); exact HO_254000.out) (Kd.R_base ho0) hb)
                        have n3_ := Aside0.mk (Kd.R_below (by (with_reducible repeat (first | apply Kd.R_alloc | apply Kd.R_drewN | apply Kd.R_drew)); exact HO_254001.out) hb)
                        have n4_ := Aside0.mk (Kd.R_below (by (with_reducible repeat (first | apply Kd.R_alloc | apply Kd.R_drewN | apply Kd.R_drew)); exact HO_254002.out) hb)
                        have n5_ := Aside0.mk (Kd.R_elder' (by (with_reducible repeat (first | apply Kd.R_alloc | apply Kd.R_drewN | apply Kd.R_drew)); exact HO290.out) (Kd.R_base ho0) hb)
                        have n6_ := Aside0.mk (Kd.R_below (by (with_reducible repeat (first | apply Kd.R_alloc | apply Kd.R_drewN | apply Kd.R_drew)); exact HO293.out) hb)
                        have n7_ := Aside0.mk (Kd.R_below (by (with_reducible repeat (first | apply Kd.R_alloc | apply Kd.R_drewN | apply Kd.R_drew)); exact HO296.out) hb)
                        have n8_ := Aside0.mk (Kd.R_lower (Kd.R_new' (Kd.R_new' (Kd.R_new' (Kd.R_new' ho0 (Kd.R_lt (by (with_reducible repeat (first | apply Kd.R_alloc | apply Kd.R_drewN | apply Kd.R_drew)); exact HO_8.out))) (Kd.R_lt (by (with_reducible repeat (first | apply Kd.R_alloc | apply Kd.R_drewN | apply Kd.R_drew)); exact HO_10.out))) (Kd.R_lt (by (with_reducible repeat (first | apply Kd.R_alloc | apply Kd.R_drewN | apply Kd.R_drew)); exact HO_254000.out))) (Kd.R_lt (by (with_reducible repeat (first | apply Kd.R_alloc | apply Kd.R_drewN | apply Kd.R_drew)); exact HO290.out))) (below_size (by repeat (first | (with_reducible first | exact HB.out | apply below_alloc | apply pw_below_drewN | apply below_drew1 | refine below_set ?_ GE223.out | refine below_set ?_ GE224.out | refine below_set ?_ GE253.out) | exact HB.out))))
                        have n9_ := Aside0.mk (blk_below (g := gb223) (o := .cells #[.int .i64 a0_0, .int .i64 a0_1, .int .i64 a0_2, .int .i64 a0_3, .int .i64 a0_4, .int .i64 a0_5] 45 (0, 0)) (by (with_reducible repeat (first | refine blk_drewN ?_ _ | refine blk_drew ?_ | refine blk_alloc ?_ _)); exact BK223.out) hb)
                        have n10_ := Aside0.mk (blk_below (g := gb224) (o := .cells #[.slice A1_0 l1_0.length c1_0, .slice A1_1 l1_1.length c1_1, .slice A1_2 l1_2.length c1_2] 48 (0, 0)) (by (with_reducible repeat (first | refine blk_drewN ?_ _ | refine blk_drew ?_ | refine blk_alloc ?_ _)); exact BK224.out) hb)
                        have n11_ := Aside0.mk (blk_below (g := gb253) (o := .cells #[.slice Ao39 t275.length co39, .slice Ao43 t276.length co43, .slice Ao44 t277.length co44] 53 (0, 0)) (by (with_reducible repeat (first | refine blk_drewN ?_ _ | refine blk_drew ?_ | refine blk_alloc ?_ _)); exact BK253.out) hb)
                        have n12_ := Aside0.mk (below_step (by repeat (first | (with_reducible first | exact HB.out | apply below_alloc | apply pw_below_drewN | apply below_drew1 | refine below_set ?_ GE223.out | refine below_set ?_ GE224.out | refine below_set ?_ GE253.out) | exact HB.out)) hb)
                        clear HO_8
                        clear HO_10
                        clear HO_254000
                        clear HO_254001
                        clear HO_254002
                        clear HO290
                        clear HO293
                        clear HO296
                        clear BK223
                        clear BK224
                        clear BK253
                        clear HB
                        have HO_8 := n0_
                        have HO_10 := n1_
                        have HO_254000 := n2_
                        have HO_254001 := n3_
                        have HO_254002 := n4_
                        have HO290 := n5_
                        have HO293 := n6_
                        have HO296 := n7_
                        have HO299 := n8_
                        have BK223 := n9_
                        have BK224 := n10_
                        have BK253 := n11_
                        have HB := n12_
                        clear n0_ n1_ n2_ n3_ n4_ n5_ n6_ n7_ n8_ n9_ n10_ n11_ n12_
                        (try clear hb)
                        (try clear hb2)
                        (try clear hk)
                        (try clear hi)
                        (try clear ho0)
                        refine hK.out _ _ (by first | exact ⟨(blk_cell BK223.out 0).trans rfl, (blk_cell BK223.out 1).trans rfl, (blk_cell BK223.out 2).trans rfl, (blk_cell BK223.out 3).trans rfl, (blk_cell BK223.out 4).trans rfl, (blk_cell BK223.out 5).trans rfl, (blk_cell BK224.out 0).trans rfl, (blk_cell BK224.out 1).trans rfl, (blk_cell BK224.out 2).trans rfl⟩ | exact hHeld) (fun hHeld => ?_)
                        clear hK K
                        refine norm_ (a' := ?_) ?_ ?_
                        rotate_left
                        · show Act.put _ (some 69) _ = _
                          simp only [Act.put, List.setIfInBounds_toArray, List.set_cons_zero, List.set_cons_succ, i64_w, i32_w]
                          rfl
                        refine pure_ (i := 6) (N := some 14) (v := ?_) (a' := ?_) #[true, true, true, true, true, true, true] rfl rfl (by kernel_rfl) (fun _ _ _ h => h) (Or.inl ⟨by rfl, ?_⟩) ?_ ?_
                        rotate_left
                        · intro w'
                          go_simp
                          with_reducible rfl
                        rotate_left
                        · simp only [Act.put, List.setIfInBounds_toArray, List.set_cons_zero, List.set_cons_succ, i64_w, i32_w]
                          rfl
                        refine done_ (by kernel_rfl) ?_
                        obtain ⟨Ao82, co82, eo82⟩ := Kd.R_slice HO299.out
                        subst eo82
                        try go_wp2_with (first | ((with_reducible refine gate_callee (f := 18) rfl ?_); refine goesL_ (some 72) rfl rfl Try.func18 (by kernel_rfl) rfl #[.slice Ao82 t297.length co82, .slice Ao50 t241.length co50] rfl (by (try simp only [List.map_toArray, List.map_cons, List.map_nil]); first | done | rfl | (simp only [List.length_drop, List.length_take]; rfl)) ?_; (with_reducible refine (laws_eqByteS.calls kj22 _ _ t297 _ _ t241 true _ ?side1 ?side2 ?side3 ?side4 A69.out).mono ?_); (case side1 => repeat (first | exact (Kd.R_reads' HO299.out).2.2 | (with_reducible refine Kd.C_alloc ?_ _) | (with_reducible refine Kd.C_drewN ?_ _) | (with_reducible refine Kd.C_drew ?_))); (case side2 => exact (Kd.R_reads' HO299.out).2.1); (case side3 => repeat (first | exact (Kd.R_reads' HO_8.out).2.2 | (with_reducible refine Kd.C_alloc ?_ _) | (with_reducible refine Kd.C_drewN ?_ _) | (with_reducible refine Kd.C_drew ?_))); (case side4 => exact (Kd.R_reads' HO_8.out).2.1); rintro e w' ⟨rfl, ⟨nd, rfl⟩⟩; refine ⟨_, rfl, ?_⟩) | ((with_reducible refine gate_callee (f := 20) rfl ?_); refine goesL_ (some 76) rfl rfl Try.func20 (by kernel_rfl) rfl #[.slice Ao49 t280.length co49, .int .i64 1] rfl (by (try simp only [List.map_toArray, List.map_cons, List.map_nil]); first | done | (rw [show t280.length = t260.length from (Kd.R_reads' HO_10.out).1.symm] <;> rfl) | rfl | (simp only [List.length_drop, List.length_take]; rfl)) ?_; (with_reducible refine (laws_heldByteS.calls kj22 _ _ t280 1 t301 _ ?side1 ?side2 A71.out).mono ?_); (case side1 => repeat (first | exact (Kd.R_reads' HO_10.out).2.2 | (with_reducible refine Kd.C_alloc ?_ _) | (with_reducible refine Kd.C_drewN ?_ _) | (with_reducible refine Kd.C_drew ?_))); (case side2 => rw [show t280.length = t260.length from (Kd.R_reads' HO_10.out).1.symm]; exact (Kd.R_reads' HO_10.out).2.1); rintro e w' ⟨rfl, ⟨nd, rfl⟩⟩; refine ⟨_, rfl, ?_⟩))
                        go_ret
                        exact ⟨by first | rfl | (simp [errW_none, errW_some] <;> rfl) | (simp [*, errW_none, errW_some] <;> rfl), by repeat (first | (with_reducible first | exact HB.out | apply below_alloc | apply pw_below_drewN | apply below_drew1 | refine below_set ?_ GE223.out | refine below_set ?_ GE224.out | refine below_set ?_ GE253.out) | exact HB.out)⟩
                      · rw [if_neg c73] at H
                        exact absurd H (by simp)
                  · replace c70 := Bool.eq_false_iff.mpr c70
                    subst c70
                    have H1 : (none) = some r := by rw [if_neg (show ¬ (false = true) by decide)] at H; exact H
                    clear H
                    have H := H1
                    clear H1
                    exact absurd H (by simp)
                · rw [if_neg c65] at H
                  exact absurd H (by simp)
      · replace c21 := Bool.eq_false_iff.mpr c21
        subst c21
        have H1 : (none) = some r := by rw [if_neg (show ¬ (false = true) by decide)] at H; exact H
        clear H
        have H := H1
        clear H1
        exact absurd H (by simp)
    · replace c18 := Bool.eq_false_iff.mpr c18
      subst c18
      have H1 : (none) = some r := by rw [if_neg (show ¬ (false = true) by decide)] at H; exact H
      clear H
      have H := H1
      clear H1
      exact absurd H (by simp)

end Go.Proofs.Ytamelcmioliapaa.QFnExactChunkBytes
