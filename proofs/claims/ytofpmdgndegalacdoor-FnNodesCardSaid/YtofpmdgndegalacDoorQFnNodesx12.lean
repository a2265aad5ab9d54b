/- What the functions that the law FnNodes reaches compute, as plain functions, and that the code computes just that (by a program of this session's; the library's functions by hand). No condition. -/
import Derived.Test.YtofpmdgndegalacDoorQFnNodesx0
import Derived.Test.YtofpmdgndegalacDoorQFnNodesx11
namespace Go.Proofs.YtofpmdgndegalacDoor.QFnNodes
open Go.RowKit Go.Proofs.YtofpmdgndegalacDoorW.PrintWords Go.Proofs.YtofpmdgndegalacDoorW.PrintLast Go.Proofs.YtofpmdgndegalacDoorW.PrintMore
attribute [local go_sem] max2_int min2_int max_two min_two max_three min_three max_four min_four   -- for this text's walks alone
set_option linter.unusedVariables false
set_option linter.unusedSimpArgs false

/-! ### impl_Thing_36: function 36 (by hand) -/
def impl_Thing_36.ix : Nat → List (S33) → Int → Int → Int → Int → Int → Int → Int → Option Int
 | 0, _, _, _, _, _, _, _, _ => none
 | k + 1, l, b0, b1, b2, b3, b4, b5, x => if x < (l.length : Int) then (if 0 ≤ x then ((impl_ThingOk.f k b0 b1 b2 b3 b4 b5 (rd_T33 l x).f0 (rd_T33 l x).f1 (rd_T33 l x).f2).bind fun b => (if b = true then (impl_Thing_36.ix k l b0 b1 b2 b3 b4 b5 (wrap64 (x + 1))) else (some x))) else (none)) else (some (-1))
def impl_Thing_36.f (k : Nat) (l0 : List (S33)) (aj : Int) (ai : Int) (ak : Int) (ap : Int) (aq : Int) (ao : Int) : Option (Bool) := (impl_Thing_36.ix k l0 aj ai ak ap aq ao 0).bind fun z => some (decide (z ≥ 0))
set_option maxHeartbeats 8000000 in
set_option maxRecDepth 100000 in
theorem impl_Thing_36.clo (k : Nat) (b0 b1 b2 b3 b4 b5 t0 t1 t2 : Int) (r : Bool) (gb : Nat) (w : World) (hb : w.heap[gb]? = some (.cells #[b0, b1, b2, b3, b4, b5] 25 (0, 0))) (h : impl_ThingOk.f k b0 b1 b2 b3 b4 b5 t0 t1 t2 = some r) :
  Calls Tryd.prog 37 #[.agg #[t0, t1, t2], .pointer (some ⟨gb, 0, none⟩)] w fun e w' => e = .returned (.bool (!r)) ∧ Below w.heap.size w w' := by
 have hu1 := Tryd.underlying25
 have hu2 := Tryd.underlying33
 have BK := Aside0.mk hb
 have HH := Aside0.mk h
 have HB := am (Below.refl w.heap.size w)
 clear hb h
 go_enter Tryd.func37, Tryd.ntmps37
 go_wp2_with (first | ((with_reducible refine gate_dst (N := 2) rfl ?_); refine box_ev 2 #[t0, t1, t2] 33 ?_; intro gt hg w1 hbox hb1; replace HB := am (below_step q68t hb1); replace BK := am (blk_below (by (with_reducible repeat (first | refine blk_drewN ?_ _ | refine blk_drew ?_ | refine blk_alloc ?_ _)); exact BK.out) hb1); have BT := Aside0.mk hbox; clear hbox hb1 hg; have hcc0 : w1.cell? ⟨gb, 0, none⟩ = some (.int .i64 b0) := (blk_cell BK.out 0).trans rfl; have hcc1 : w1.cell? ⟨gb, 1, none⟩ = some (.int .i64 b1) := (blk_cell BK.out 1).trans rfl; have hcc2 : w1.cell? ⟨gb, 2, none⟩ = some (.int .i64 b2) := (blk_cell BK.out 2).trans rfl; have hcc3 : w1.cell? ⟨gb, 3, none⟩ = some (.int .i64 b3) := (blk_cell BK.out 3).trans rfl; have hcc4 : w1.cell? ⟨gb, 4, none⟩ = some (.int .i64 b4) := (blk_cell BK.out 4).trans rfl; have hcc5 : w1.cell? ⟨gb, 5, none⟩ = some (.int .i64 b5) := (blk_cell BK.out 5).trans rfl; have hct0 : w1.cell? ⟨gt, 0, none⟩ = some (.int .i64 t0) := (blk_cell BT.out 0).trans rfl; have hct1 : w1.cell? ⟨gt, 1, none⟩ = some (.int .i64 t1) := (blk_cell BT.out 1).trans rfl; have hct2 : w1.cell? ⟨gt, 2, none⟩ = some (.int .i64 t2) := (blk_cell BT.out 2).trans rfl) | (go_at_call 11; refine (impl_ThingOk.calls k b0 b1 b2 b3 b4 b5 t0 t1 t2 r _ HH.out).mono ?_; rintro e w2 ⟨rfl, hb2⟩; have n0_ := am (below_step q68t hb2); clear HB; have HB := n0_; clear n0_ hb2))
 go_ret
 exact ⟨rfl, q68t⟩
set_option maxHeartbeats 8000000 in
set_option maxRecDepth 100000 in
theorem impl_Thing_36.index (k : Nat) (A0 : Option Addr) (c0 : Nat) (l0 : List (S33)) (b0 b1 b2 b3 b4 b5 : Int) (z : Int) (gb : Nat) (w : World) (hr0 : Kd.C k33 w A0 l0.length l0) (hb : w.heap[gb]? = some (.cells #[b0, b1, b2, b3, b4, b5] 25 (0, 0))) (h : impl_Thing_36.ix k l0 b0 b1 b2 b3 b4 b5 0 = some z) :
  Calls Tryd.prog 56 #[.slice A0 l0.length c0, .func (.func 37) #[] #[.pointer (some ⟨gb, 0, none⟩)]] w fun e w' => e = .returned (.int .i64 z) ∧ Below w.heap.size w w' := by
 have hu2 := Tryd.underlying33
 have bX := Aside0.mk hr0
 have BK := Aside0.mk hb
 clear hr0 hb
 have HB := am (Below.refl w.heap.size w)
 have H' := Aside0.mk h
 clear h
 go_enter Tryd.func56, Tryd.ntmps56
 go_wp2
 go_loopg [8] k (fun kq v8 w' => ∃ (bH : Int), v8 = .int .i64 bH ∧ Aside0 (impl_Thing_36.ix kq l0 b0 b1 b2 b3 b4 b5 bH = some z) ∧ Aside0 (kq ≤ k) ∧ Aside0 (Below w.heap.size w w'))
 case atStart => exact ⟨(0), q121t, H', ⟨Nat.le_refl _⟩, ⟨q68t⟩⟩
 case round =>
  clear H' HB
  obtain ⟨bH, rfl, HA, HK1, HB⟩ := hrel
  cases gk with
  | zero => exact absurd HA.out (by simp [impl_Thing_36.ix])
  | succ k1 =>
   have H := HA.out
   clear HA
   simp only [impl_Thing_36.ix] at H
   by_cases c3 : bH < (l0.length : Int)
   rotate_left
   ·rw [if_neg c3] at H
    have d8 : decide (bH < (l0.length : Int)) = false := decide_eq_false c3
    clear c3
    obtain rfl := Option.some.inj H
    clear H
    go_wp2
    go_ret
    exact ⟨rfl, q68t⟩
   rw [if_pos c3] at H
   have d8 : decide (bH < (l0.length : Int)) = true := decide_eq_true c3
   by_cases c4 : 0 ≤ bH
   rotate_left
   ·rw [if_neg c4] at H
    exact absurd H q126t
   rw [if_pos c4] at H
   have en : decide (0 ≤ bH) = true := decide_eq_true c4
   replace H := Option.bind_eq_some_iff.mp H
   obtain ⟨t, A6, H⟩ := H
   replace A6 := Aside0.mk A6
   obtain ⟨ad, e0, hx0, hx1, hx2⟩ := at_T33 (Kd.C_below bX.out HB.out) bH c4 c3
   cases e0
   have BW := am (blk_below BK.out HB.out)
   have p5 := eq_true c4
   have q5 := eq_true c3
   clear c3 c4
   by_cases c7 : t = true
   ·subst c7
    rw [if_pos rfl] at H
    have H' := Aside0.mk H
    clear H
    go_wp2_with (go_at_call 37; refine (impl_Thing_36.clo k1 b0 b1 b2 b3 b4 b5 _ _ _ true gb _ (by (with_reducible repeat (first | refine blk_drewN ?_ _ | refine blk_drew ?_ | refine blk_alloc ?_ _)); exact BW.out) A6.out).mono ?_; rintro e w2 ⟨rfl, hb2⟩; have n0_ := am (below_step q68t hb2); clear HB; have HB := n0_; clear n0_ hb2)
    go_roundg k1
    case measure => have := HK1.out; omega
    case rel => exact ⟨(wrap64 (bH + 1)), q121t, H', ⟨q124t⟩, ⟨q68t⟩⟩
   replace c7 := Bool.eq_false_iff.mpr c7
   subst c7
   rw [if_neg (show ¬ (false = true) by decide)] at H
   obtain rfl := Option.some.inj H
   clear H
   go_wp2_with (go_at_call 37; refine (impl_Thing_36.clo k1 b0 b1 b2 b3 b4 b5 _ _ _ false gb _ (by (with_reducible repeat (first | refine blk_drewN ?_ _ | refine blk_drew ?_ | refine blk_alloc ?_ _)); exact BW.out) A6.out).mono ?_; rintro e w2 ⟨rfl, hb2⟩; have n0_ := am (below_step q68t hb2); clear HB; have HB := n0_; clear n0_ hb2)
   go_ret
   exact ⟨rfl, q68t⟩
set_option maxHeartbeats 8000000 in
set_option maxRecDepth 100000 in
theorem impl_Thing_36.calls (k : Nat) (A0 : Option Addr) (c0 : Nat) (l0 : List (S33)) (aj : Int) (ai : Int) (ak : Int) (ap : Int) (aq : Int) (ao : Int) (r : Bool) (w : World) (hr0 : Kd.C k33 w A0 l0.length l0) (hc0 : l0.length ≤ c0) (h : impl_Thing_36.f k l0 aj ai ak ap aq ao = some r) (gb : Nat) (hb : w.heap[gb]? = some (.cells #[aj, ai, ak, ap, aq, ao] 25 (0, 0))) :
  Calls Tryd.prog 36 #[.slice A0 l0.length c0, .func (.func 37) #[] #[.pointer (some ⟨gb, 0, none⟩)]] w fun e w' => e = .returned (.bool r) ∧ Below w.heap.size w w' := by
 unfold impl_Thing_36.f at h
 obtain ⟨z, hz, h⟩ := Option.bind_eq_some_iff.mp h
 obtain rfl := Option.some.inj h
 clear h
 have bX := Aside0.mk hr0
 have BK := Aside0.mk hb
 have HZ := Aside0.mk hz
 clear hr0 hb hz
 go_enter Tryd.func36, Tryd.ntmps36
 go_wp2_with (go_at_call 56; refine (impl_Thing_36.index k A0 c0 l0 aj ai ak ap aq ao z gb _ (by repeat (first | exact bX.out | (with_reducible refine Kd.C_alloc ?_ _) | (with_reducible refine Kd.C_drewN ?_ _) | (with_reducible refine Kd.C_drew ?_))) (by (with_reducible repeat (first | refine blk_drewN ?_ _ | refine blk_drew ?_ | refine blk_alloc ?_ _)); exact BK.out) HZ.out).mono ?_; rintro e w2 ⟨rfl, hb2⟩; have HB := Aside0.mk hb2; clear hb2)
 go_ret
 exact ⟨q121t, q68t⟩

end Go.Proofs.YtofpmdgndegalacDoor.QFnNodes
