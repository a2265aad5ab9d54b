/- What the functions that the law FnExactNodeOk reaches compute, as plain functions, and that the code computes just that (by a program of this session's; the library's functions by hand). No condition. -/
import Derived.Test.YtnloeihhimcblaaQFnExactNodeOkx0
import Derived.Test.YtnloeihhimcblaaQFnExactNodeOkx11
namespace Go.Proofs.Ytnloeihhimcblaa.QFnExactNodeOk
open Go.RowKit Go.Proofs.YtnloeihhimcblaaW.PrintWords Go.Proofs.YtnloeihhimcblaaW.PrintLast Go.Proofs.YtnloeihhimcblaaW.PrintMore
attribute [local go_sem] max2_int min2_int max_two min_two max_three min_three max_four min_four   -- for this text's walks alone
set_option linter.unusedVariables false
set_option linter.unusedSimpArgs false

/-! ### impl_Thing_107: function 107 (by hand) -/
def impl_Thing_107.ix : Nat → List (S84) → Int → Int → Int → Int → Int → Int → Int → Option Int
 | 0, _, _, _, _, _, _, _, _ => none
 | k + 1, l, b0, b1, b2, b3, b4, b5, x => if x < (l.length : Int) then (if 0 ≤ x then ((impl_ThingOk.f k b0 b1 b2 b3 b4 b5 (rd_T84 l x).f0 (rd_T84 l x).f1 (rd_T84 l x).f2).bind fun b => (if b = true then (impl_Thing_107.ix k l b0 b1 b2 b3 b4 b5 (wrap64 (x + 1))) else (some x))) else (none)) else (some (-1))
def impl_Thing_107.f (k : Nat) (l0 : List (S84)) (a1_0 : Int) (a1_1 : Int) (a1_2 : Int) (a1_3 : Int) (a1_4 : Int) (a1_5 : Int) : Option (Bool) := (impl_Thing_107.ix k l0 a1_0 a1_1 a1_2 a1_3 a1_4 a1_5 0).bind fun z => some (decide (z ≥ 0))
theorem impl_Thing_107.mono_l : ∀ k, (∀ y0 y1 y2 y3 y4 y5 y6 y7, LeO (impl_Thing_107.ix k y0 y1 y2 y3 y4 y5 y6 y7) (impl_Thing_107.ix (k + 1) y0 y1 y2 y3 y4 y5 y6 y7))
 | 0 => fun _ _ _ _ _ _ _ _ r h => by simp [impl_Thing_107.ix] at h
 | k + 1 => by
  have ih0 := impl_Thing_107.mono_l k
  ·intro y0 y1 y2 y3 y4 y5 y6 y7
   unfold impl_Thing_107.ix
   repeat' first
   | (with_reducible exact ih0 _ _ _ _ _ _ _ _)
   | (with_reducible exact impl_ThingOk.mono _ _ _ _ _ _ _ _ _ _)
   | (with_reducible exact LeO.refl _)
   | (with_reducible exact LeO.none _)
   | (with_reducible refine LeO.ite ?_ ?_)
   | (with_reducible refine LeO.bind ?_ (fun _ => ?_))
   | exact ih0 _ _ _ _ _ _ _ _
   | exact impl_ThingOk.mono _ _ _ _ _ _ _ _ _ _
   | exact LeO.none _
   | refine LeO.ite ?_ ?_
   | refine LeO.bind ?_ (fun _ => ?_)
theorem impl_Thing_107.mono : ∀ a0 a1 a2 a3 a4 a5 a6 k, LeO (impl_Thing_107.f k a0 a1 a2 a3 a4 a5 a6) (impl_Thing_107.f (k + 1) a0 a1 a2 a3 a4 a5 a6) := by
 intro a0 a1 a2 a3 a4 a5 a6 k
 unfold impl_Thing_107.f
 exact LeO.bind (impl_Thing_107.mono_l k _ _ _ _ _ _ _ _) (fun _ => LeO.refl _)
set_option maxHeartbeats 8000000 in
set_option maxRecDepth 100000 in
theorem impl_Thing_107.clo (k : Nat) (b0 b1 b2 b3 b4 b5 t0 t1 t2 : Int) (r : Bool) (gb : Nat) (w : World) (hb : w.heap[gb]? = some (.cells #[.int .i64 b0, .int .i64 b1, .int .i64 b2, .int .i64 b3, .int .i64 b4, .int .i64 b5] 60 (0, 0))) (h : impl_ThingOk.f k b0 b1 b2 b3 b4 b5 t0 t1 t2 = some r) :
  Calls Try.prog 108 #[.agg #[.int .i64 t0, .int .i64 t1, .int .i64 t2], .pointer (some ⟨gb, 0, none⟩)] w fun e w' => e = .returned (.bool (!r)) ∧ Below w.heap.size w w' := by
 have hu1 := Try.underlying60
 have hu2 := Try.underlying84
 have BK := Aside0.mk hb
 have HH := Aside0.mk h
 have HB := Aside0.mk (Below.refl w.heap.size w)
 clear hb h
 go_enter Try.func108, Try.ntmps108
 go_wp2_with (first | ((with_reducible refine gate_dst (N := 2) rfl ?_); refine box_event ?hg (N := 2) ?hd (cs := #[.int .i64 t0, .int .i64 t1, .int .i64 t2]) (t := 84) ?hr ?_; (case hd => rfl); (case hg => rfl); (case hr => first | (go_simp; done) | (go_simp; rfl)); intro gt hg w1 hbox hb1; have n0_ := Aside0.mk (below_step q43t hb1); have n1_ := Aside0.mk (blk_below (by (with_reducible repeat (first | refine blk_drewN ?_ _ | refine blk_drew ?_ | refine blk_alloc ?_ _)); exact BK.out) hb1); clear HB BK; have HB := n0_; have BK := n1_; clear n0_ n1_; have BT := Aside0.mk hbox; clear hbox hb1 hg; have hcc0 : w1.cell? ⟨gb, 0, none⟩ = some (.int .i64 b0) := (blk_cell BK.out 0).trans rfl; have hcc1 : w1.cell? ⟨gb, 1, none⟩ = some (.int .i64 b1) := (blk_cell BK.out 1).trans rfl; have hcc2 : w1.cell? ⟨gb, 2, none⟩ = some (.int .i64 b2) := (blk_cell BK.out 2).trans rfl; have hcc3 : w1.cell? ⟨gb, 3, none⟩ = some (.int .i64 b3) := (blk_cell BK.out 3).trans rfl; have hcc4 : w1.cell? ⟨gb, 4, none⟩ = some (.int .i64 b4) := (blk_cell BK.out 4).trans rfl; have hcc5 : w1.cell? ⟨gb, 5, none⟩ = some (.int .i64 b5) := (blk_cell BK.out 5).trans rfl; have hct0 : w1.cell? ⟨gt, 0, none⟩ = some (.int .i64 t0) := (blk_cell BT.out 0).trans rfl; have hct1 : w1.cell? ⟨gt, 1, none⟩ = some (.int .i64 t1) := (blk_cell BT.out 1).trans rfl; have hct2 : w1.cell? ⟨gt, 2, none⟩ = some (.int .i64 t2) := (blk_cell BT.out 2).trans rfl) | (go_at_call 109; refine (impl_ThingOk.calls k b0 b1 b2 b3 b4 b5 t0 t1 t2 r _ HH.out).mono ?_; rintro e w2 ⟨rfl, hb2⟩; have n0_ := Aside0.mk (below_step q43t hb2); clear HB; have HB := n0_; clear n0_ hb2))
 go_ret
 exact ⟨rfl, by repeat (first | (with_reducible first | exact HB.out | apply below_alloc | apply pw_below_drewN | apply below_drew1) | exact HB.out)⟩
set_option maxHeartbeats 8000000 in
set_option maxRecDepth 100000 in
theorem impl_Thing_107.index (k : Nat) (A0 : Option Addr) (c0 : Nat) (l0 : List (S84)) (b0 b1 b2 b3 b4 b5 : Int) (z : Int) (gb : Nat) (w : World) (hr0 : Kd.C k84 w A0 l0.length l0) (hb : w.heap[gb]? = some (.cells #[.int .i64 b0, .int .i64 b1, .int .i64 b2, .int .i64 b3, .int .i64 b4, .int .i64 b5] 60 (0, 0))) (h : impl_Thing_107.ix k l0 b0 b1 b2 b3 b4 b5 0 = some z) :
  Calls Try.prog 133 #[.slice A0 l0.length c0, .func (.func 108) #[] #[.pointer (some ⟨gb, 0, none⟩)]] w fun e w' => e = .returned (.int .i64 z) ∧ Below w.heap.size w w' := by
 have hu2 := Try.underlying84
 have HR0 := Aside0.mk hr0
 have BK := Aside0.mk hb
 clear hr0 hb
 have HB := Aside0.mk (Below.refl w.heap.size w)
 have H' := Aside0.mk h
 clear h
 go_enter Try.func133, Try.ntmps133
 go_wp2
 go_loopg [8] k (fun kq v8 w' => ∃ (x8_1 : Int), v8 = .int .i64 x8_1 ∧ Aside0 (impl_Thing_107.ix kq l0 b0 b1 b2 b3 b4 b5 x8_1 = some z) ∧ Aside0 (kq ≤ k) ∧ Aside0 (Below w.heap.size w w'))
 case atStart => exact ⟨(0), q69t, H', ⟨Nat.le_refl _⟩, ⟨by repeat (first | (with_reducible first | exact HB.out | apply below_alloc | apply pw_below_drewN | apply below_drew1) | exact HB.out)⟩⟩
 case round =>
  clear H' HB
  obtain ⟨x8_1, rfl, HA, HK1, HB⟩ := hrel
  cases gk with
  | zero => exact absurd HA.out (by simp [impl_Thing_107.ix])
  | succ k1 =>
   have H := HA.out
   clear HA
   simp only [impl_Thing_107.ix] at H
   by_cases c3 : x8_1 < (l0.length : Int)
   ·rw [if_pos c3] at H
    have c3b0 : decide (x8_1 < (l0.length : Int)) = true := decide_eq_true c3
    by_cases c4 : 0 ≤ x8_1
    ·rw [if_pos c4] at H
     have c4b0 : decide (0 ≤ x8_1) = true := decide_eq_true c4
     replace H := Option.bind_eq_some_iff.mp H
     obtain ⟨t, A6, H⟩ := H
     replace A6 := Aside0.mk A6
     obtain ⟨ad, e0, hx0, hx1, hx2⟩ := at_T84 (Kd.C_below HR0.out HB.out) x8_1 c4 c3
     cases e0
     have BW := Aside0.mk (blk_below BK.out HB.out)
     have p5 := eq_true c4
     have q5 := eq_true c3
     clear c3 c4
     by_cases c7 : t = true
     ·subst c7
      rw [if_pos rfl] at H
      have H' := Aside0.mk H
      clear H
      go_wp2_with (go_at_call 108; refine (impl_Thing_107.clo k1 b0 b1 b2 b3 b4 b5 _ _ _ true gb _ (by (with_reducible repeat (first | refine blk_drewN ?_ _ | refine blk_drew ?_ | refine blk_alloc ?_ _)); exact BW.out) A6.out).mono ?_; rintro e w2 ⟨rfl, hb2⟩; have n0_ := Aside0.mk (below_step q43t hb2); clear HB; have HB := n0_; clear n0_ hb2)
      go_roundg k1
      case measure => have := HK1.out; omega
      case rel => exact ⟨(wrap64 (x8_1 + 1)), q69t, H', ⟨by have := HK1.out; omega⟩, ⟨by repeat (first | (with_reducible first | exact HB.out | apply below_alloc | apply pw_below_drewN | apply below_drew1) | exact HB.out)⟩⟩
     ·replace c7 := Bool.eq_false_iff.mpr c7
      subst c7
      rw [if_neg (show ¬ (false = true) by decide)] at H
      obtain rfl := Option.some.inj H
      clear H
      go_wp2_with (go_at_call 108; refine (impl_Thing_107.clo k1 b0 b1 b2 b3 b4 b5 _ _ _ false gb _ (by (with_reducible repeat (first | refine blk_drewN ?_ _ | refine blk_drew ?_ | refine blk_alloc ?_ _)); exact BW.out) A6.out).mono ?_; rintro e w2 ⟨rfl, hb2⟩; have n0_ := Aside0.mk (below_step q43t hb2); clear HB; have HB := n0_; clear n0_ hb2)
      go_ret
      exact ⟨rfl, by repeat (first | (with_reducible first | exact HB.out | apply below_alloc | apply pw_below_drewN | apply below_drew1) | exact HB.out)⟩
    ·rw [if_neg c4] at H
     exact absurd H (by simp)
   ·rw [if_neg c3] at H
    have c3b0 : decide (x8_1 < (l0.length : Int)) = false := decide_eq_false c3
    clear c3
    obtain rfl := Option.some.inj H
    clear H
    go_wp2
    go_ret
    exact ⟨rfl, by repeat (first | (with_reducible first | exact HB.out | apply below_alloc | apply pw_below_drewN | apply below_drew1) | exact HB.out)⟩
set_option maxHeartbeats 8000000 in
set_option maxRecDepth 100000 in
theorem impl_Thing_107.calls (k : Nat) (A0 : Option Addr) (c0 : Nat) (l0 : List (S84)) (a1_0 : Int) (a1_1 : Int) (a1_2 : Int) (a1_3 : Int) (a1_4 : Int) (a1_5 : Int) (r : Bool) (w : World) (hr0 : Kd.C k84 w A0 l0.length l0) (hc0 : l0.length ≤ c0) (h : impl_Thing_107.f k l0 a1_0 a1_1 a1_2 a1_3 a1_4 a1_5 = some r) (gb : Nat) (hb : w.heap[gb]? = some (.cells #[.int .i64 a1_0, .int .i64 a1_1, .int .i64 a1_2, .int .i64 a1_3, .int .i64 a1_4, .int .i64 a1_5] 60 (0, 0))) :
  Calls Try.prog 107 #[.slice A0 l0.length c0, .func (.func 108) #[] #[.pointer (some ⟨gb, 0, none⟩)]] w fun e w' => e = .returned (.bool r) ∧ Below w.heap.size w w' := by
 unfold impl_Thing_107.f at h
 obtain ⟨z, hz, h⟩ := Option.bind_eq_some_iff.mp h
 obtain rfl := Option.some.inj h
 clear h
 have HR0 := Aside0.mk hr0
 have BK := Aside0.mk hb
 have HZ := Aside0.mk hz
 clear hr0 hb hz
 go_enter Try.func107, Try.ntmps107
 go_wp2_with (go_at_call 133; refine (impl_Thing_107.index k A0 c0 l0 a1_0 a1_1 a1_2 a1_3 a1_4 a1_5 z gb _ (by repeat (first | exact HR0.out | (with_reducible refine Kd.C_alloc ?_ _) | (with_reducible refine Kd.C_drewN ?_ _) | (with_reducible refine Kd.C_drew ?_))) (by (with_reducible repeat (first | refine blk_drewN ?_ _ | refine blk_drew ?_ | refine blk_alloc ?_ _)); exact BK.out) HZ.out).mono ?_; rintro e w2 ⟨rfl, hb2⟩; have HB := Aside0.mk hb2; clear hb2)
 go_ret
 exact ⟨by first | rfl | (simp; done) | (simp [*]; done), by repeat (first | (with_reducible first | exact HB.out | apply below_alloc | apply pw_below_drewN | apply below_drew1) | exact HB.out)⟩

end Go.Proofs.Ytnloeihhimcblaa.QFnExactNodeOk
