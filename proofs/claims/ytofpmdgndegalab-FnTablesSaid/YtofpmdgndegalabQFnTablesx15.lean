/- What the functions that the law FnTables reaches compute, as plain functions, and that the code computes just that (by a program of this session's; the library's functions by hand). No condition. -/
import Derived.Test.YtofpmdgndegalabQFnTablesx0
import Derived.Test.YtofpmdgndegalabQFnTablesx2
import Derived.Test.YtofpmdgndegalabQFnTablesx6
import Derived.Test.YtofpmdgndegalabQFnTablesx14
namespace Go.Proofs.Ytofpmdgndegalab.QFnTables
open Go.RowKit Go.Proofs.YtofpmdgndegalabW.PrintWords Go.Proofs.YtofpmdgndegalabW.PrintLast Go.Proofs.YtofpmdgndegalabW.PrintMore
attribute [local go_sem] max2_int min2_int max_two min_two max_three min_three max_four min_four   -- for this text's walks alone
set_option linter.unusedVariables false
set_option linter.unusedSimpArgs false

attribute [local go_sem high] eqA74
/-! ### impl_Thing_56: function 56 -/
def impl_Thing_56.l0 : Nat → List (S74) → List (S74) → Int → Int → Option (Bool)
 | 0, _, _, _, _ => none
 | k + 1, x0, x1, x12, x13 => if x13 < x12 then (if 0 ≤ x13 then (if x13 < (x0.length : Int) then (if x13 < (x1.length : Int) then (if (!(((rd_T74 x0 x13).f0) == ((rd_T74 x1 x13).f0)) || (!(((rd_T74 x0 x13).f1) == ((rd_T74 x1 x13).f1)) || (!(((rd_T74 x0 x13).f2) == ((rd_T74 x1 x13).f2))))) = true then (some false) else (impl_Thing_56.l0 k x0 x1 x12 (wrap64 (x13 + 1)))) else (none)) else (none)) else (none)) else (some true)
def impl_Thing_56.f (k : Nat) (l0 : List (S74)) (l1 : List (S74)) : Option (Bool) := if (l0.length : Int) = (l1.length : Int) then (impl_Thing_56.l0 k l0 l1 (l0.length : Int) 0) else (some false)
theorem impl_Thing_56.mono_l : ∀ k, (∀ y0 y1 y2 y3, LeO (impl_Thing_56.l0 k y0 y1 y2 y3) (impl_Thing_56.l0 (k + 1) y0 y1 y2 y3))
 | 0 => fun _ _ _ _ r h => by simp [impl_Thing_56.l0] at h
 | k + 1 => by
  have ih0 := impl_Thing_56.mono_l k
  ·intro y0 y1 y2 y3
   unfold impl_Thing_56.l0
   repeat' first
   | (with_reducible exact ih0 _ _ _ _)
   | (with_reducible exact LeO.refl _)
   | (with_reducible exact LeO.none _)
   | (with_reducible refine LeO.ite ?_ ?_)
   | (with_reducible refine LeO.bind ?_ (fun _ => ?_))
   | exact ih0 _ _ _ _
   | exact LeO.none _
   | refine LeO.ite ?_ ?_
   | refine LeO.bind ?_ (fun _ => ?_)
theorem impl_Thing_56.mono : ∀ a0 a1 k, LeO (impl_Thing_56.f k a0 a1) (impl_Thing_56.f (k + 1) a0 a1) := by
 intro a0 a1 k
 have ih0 := impl_Thing_56.mono_l k
 unfold impl_Thing_56.f
 repeat' first
   | (with_reducible exact ih0 _ _ _ _)
   | (with_reducible exact LeO.refl _)
   | (with_reducible exact LeO.none _)
   | (with_reducible refine LeO.ite ?_ ?_)
   | (with_reducible refine LeO.bind ?_ (fun _ => ?_))
   | exact ih0 _ _ _ _
   | exact LeO.none _
   | refine LeO.ite ?_ ?_
   | refine LeO.bind ?_ (fun _ => ?_)
set_option maxHeartbeats 8000000 in
set_option maxRecDepth 100000 in
theorem impl_Thing_56.calls (k : Nat) (A0 : Option Addr) (c0 : Nat) (l0 : List (S74)) (A1 : Option Addr) (c1 : Nat) (l1 : List (S74)) (r : Bool) (w : World) (hr0 : Kd.C k74 w A0 l0.length l0) (hc0 : l0.length ≤ c0) (hr1 : Kd.C k74 w A1 l1.length l1) (hc1 : l1.length ≤ c1) (h : impl_Thing_56.f k l0 l1 = some r) :
  Calls Try.prog 56 #[.slice A0 l0.length c0, .slice A1 l1.length c1] w fun e w' => e = .returned (.bool r) ∧ Drawn0 w w' := by
 have hu74 := Try.underlying74
 have HR0 := Aside0.mk hr0
 have HC0 := Aside0.mk hc0
 clear hr0 hc0
 have HR1 := Aside0.mk hr1
 have HC1 := Aside0.mk hc1
 clear hr1 hc1
 have H : (if (l0.length : Int) = (l1.length : Int) then (impl_Thing_56.l0 k l0 l1 (l0.length : Int) 0) else (some false)) = some r := h
 clear h
 by_cases c3 : (l0.length : Int) = (l1.length : Int)
 rotate_left
 ·rw [if_neg c3] at H
  have c3b0 : ((l0.length : Int) == (l1.length : Int)) = false := beq_eq_false_iff_ne.mpr c3
  have c3b1 : ((l0.length : Int) != (l1.length : Int)) = true := bne_iff_ne.mpr c3
  have c3b2 : (l0.length == l1.length) = false := by first | simpa using c3 | (simp at c3 ⊢; omega)
  obtain rfl := Option.some.inj H
  go_enter Try.func56, Try.ntmps56
  go_wp2
  repeat (go_quiet (fail); try go_wp2)
  go_ret
  exact ⟨q81t, q75t⟩
 rw [if_pos c3] at H
 have c3b0 : ((l0.length : Int) == (l1.length : Int)) = true := beq_iff_eq.mpr c3
 have c3b1 : ((l0.length : Int) != (l1.length : Int)) = false := bne_eq_false_iff_eq.mpr c3
 have c3b2 : (l0.length == l1.length) = true := by first | simpa using c3 | (simp at c3 ⊢; omega)
 clear c3
 have H' := Aside0.mk H
 clear H
 go_enter Try.func56, Try.ntmps56
 go_wp2
 repeat (go_quiet (fail); try go_wp2)
 go_loopg [13] k (fun kq v13 w' => ∃ (x13_1 : Int), v13 = .int .i64 x13_1 ∧ Aside0 (impl_Thing_56.l0 kq l0 l1 (l0.length : Int) x13_1 = some r) ∧ Aside0 (kq ≤ k) ∧ Drawn0 w w')
 case atStart => exact ⟨(0), q81t, H', ⟨Nat.le_refl _⟩, q75t⟩
 case round =>
  clear H'
  try clear c1
  try clear p2
  try clear c3
  try clear c3b0
  try clear c3b1
  try clear c3b2
  obtain ⟨x13_1, rfl, HA, HK1, ⟨m1, rfl⟩⟩ := hrel
  cases gk with
  | zero => exact absurd HA.out (by simp [impl_Thing_56.l0])
  | succ k1 =>
   have H := HA.out
   clear HA
   simp only [impl_Thing_56.l0] at H
   by_cases c4 : x13_1 < (l0.length : Int)
   rotate_left
   ·rw [if_neg c4] at H
    have c4b0 : decide (x13_1 < (l0.length : Int)) = false := decide_eq_false c4
    clear c4
    obtain rfl := Option.some.inj H
    go_wp2
    repeat (go_quiet (fail); try go_wp2)
    go_ret
    exact ⟨q81t, q75t⟩
   rw [if_pos c4] at H
   have c4b0 : decide (x13_1 < (l0.length : Int)) = true := decide_eq_true c4
   clear c4
   by_cases c5 : 0 ≤ x13_1
   rotate_left
   ·rw [if_neg c5] at H
    exact absurd H q87t
   rw [if_pos c5] at H
   have c5b0 : decide (0 ≤ x13_1) = true := decide_eq_true c5
   clear c5
   by_cases c6 : x13_1 < (l0.length : Int)
   rotate_left
   ·rw [if_neg c6] at H
    exact absurd H q87t
   rw [if_pos c6] at H
   have c6b0 : decide (x13_1 < (l0.length : Int)) = true := decide_eq_true c6
   clear c6
   by_cases c7 : x13_1 < (l1.length : Int)
   rotate_left
   ·rw [if_neg c7] at H
    exact absurd H q87t
   rw [if_pos c7] at H
   have c7b0 : decide (x13_1 < (l1.length : Int)) = true := decide_eq_true c7
   clear c7
   by_cases c8 : (!(((rd_T74 l0 x13_1).f0) == ((rd_T74 l1 x13_1).f0)) || (!(((rd_T74 l0 x13_1).f1) == ((rd_T74 l1 x13_1).f1)) || (!(((rd_T74 l0 x13_1).f2) == ((rd_T74 l1 x13_1).f2))))) = true
   ·rw [if_pos c8] at H
    have c8b0 : (!(((rd_T74 l0 x13_1).f0) == ((rd_T74 l1 x13_1).f0)) || (!(((rd_T74 l0 x13_1).f1) == ((rd_T74 l1 x13_1).f1)) || (!(((rd_T74 l0 x13_1).f2) == ((rd_T74 l1 x13_1).f2))))) = true := c8
    clear c8
    obtain rfl := Option.some.inj H
    have p645 : 0 ≤ (x13_1 : Int) := of_decide_eq_true q76t
    have q645 : x13_1 < (l0.length : Int) := of_decide_eq_true q76t
    obtain ⟨ad645, e645, hx645_0, hx645_1, hx645_2⟩ := at_T74 HR0.out x13_1 p645 q645
    cases e645
    replace p645 := eq_true p645
    replace q645 := eq_true q645
    have p646 : 0 ≤ (x13_1 : Int) := of_decide_eq_true q76t
    have q646 : x13_1 < (l1.length : Int) := of_decide_eq_true q76t
    obtain ⟨ad646, e646, hx646_0, hx646_1, hx646_2⟩ := at_T74 HR1.out x13_1 p646 q646
    cases e646
    replace p646 := eq_true p646
    replace q646 := eq_true q646
    go_wp2
    repeat (go_quiet (fail); try go_wp2)
    go_ret
    exact ⟨q81t, q75t⟩
   rw [if_neg c8] at H
   have c8b0 : (!(((rd_T74 l0 x13_1).f0) == ((rd_T74 l1 x13_1).f0)) || (!(((rd_T74 l0 x13_1).f1) == ((rd_T74 l1 x13_1).f1)) || (!(((rd_T74 l0 x13_1).f2) == ((rd_T74 l1 x13_1).f2))))) = false := by simpa using c8
   clear c8
   have H' := Aside0.mk H
   clear H
   have p645 : 0 ≤ (x13_1 : Int) := of_decide_eq_true q76t
   have q645 : x13_1 < (l0.length : Int) := of_decide_eq_true q76t
   obtain ⟨ad645, e645, hx645_0, hx645_1, hx645_2⟩ := at_T74 HR0.out x13_1 p645 q645
   cases e645
   replace p645 := eq_true p645
   replace q645 := eq_true q645
   have p646 : 0 ≤ (x13_1 : Int) := of_decide_eq_true q76t
   have q646 : x13_1 < (l1.length : Int) := of_decide_eq_true q76t
   obtain ⟨ad646, e646, hx646_0, hx646_1, hx646_2⟩ := at_T74 HR1.out x13_1 p646 q646
   cases e646
   replace p646 := eq_true p646
   replace q646 := eq_true q646
   go_wp2
   repeat (go_quiet (fail); try go_wp2)
   go_roundg k1
   case measure => have := HK1.out; omega
   case rel => exact ⟨(wrap64 (x13_1 + 1)), q81t, H', ⟨q84t⟩, q75t⟩

/-! ### impl_SameNode: function 44 -/
def impl_SameNode.f (k : Nat) (a0_0 : Int) (a0_1 : Int) (a0_2 : Int) (a0_3 : Int) (a0_4 : Int) (a0_5 : Int) (a0_6 : Int) (a0_7 : Int) (l0_8 : List Int) (a0_9 : Int) (a0_10 : Int) (l0_11 : List (S74)) (l0_12 : List Int) (a1_0 : Int) (a1_1 : Int) (a1_2 : Int) (a1_3 : Int) (a1_4 : Int) (a1_5 : Int) (a1_6 : Int) (a1_7 : Int) (l1_8 : List Int) (a1_9 : Int) (a1_10 : Int) (l1_11 : List (S74)) (l1_12 : List Int) : Option (Bool) := if a0_0 = a1_0 then (if a0_1 = a1_1 then (if a0_2 = a1_2 then (if a0_3 = a1_3 then (if a0_4 = a1_4 then (if a0_5 = a1_5 then (if a0_6 = a1_6 then (if a0_7 = a1_7 then ((slices_Equal_int_int.f k l0_8 l1_8).bind fun t649 => (if t649 = true then (if a0_9 = a1_9 then (if a0_10 = a1_10 then ((impl_Thing_56.f k l0_11 l1_11).bind fun t650 => (if t650 = true then ((slices_Equal_int_int.f k l0_12 l1_12).bind fun t651 => (some t651)) else (some false))) else (some false)) else (some false)) else (some false))) else (some false)) else (some false)) else (some false)) else (some false)) else (some false)) else (some false)) else (some false)) else (some false)
theorem impl_SameNode.mono : ∀ a0 a1 a2 a3 a4 a5 a6 a7 a8 a9 a10 a11 a12 a13 a14 a15 a16 a17 a18 a19 a20 a21 a22 a23 a24 a25 k, LeO (impl_SameNode.f k a0 a1 a2 a3 a4 a5 a6 a7 a8 a9 a10 a11 a12 a13 a14 a15 a16 a17 a18 a19 a20 a21 a22 a23 a24 a25) (impl_SameNode.f (k + 1) a0 a1 a2 a3 a4 a5 a6 a7 a8 a9 a10 a11 a12 a13 a14 a15 a16 a17 a18 a19 a20 a21 a22 a23 a24 a25) := by
 intro a0 a1 a2 a3 a4 a5 a6 a7 a8 a9 a10 a11 a12 a13 a14 a15 a16 a17 a18 a19 a20 a21 a22 a23 a24 a25 k
 unfold impl_SameNode.f
 repeat' first
   | (with_reducible exact impl_Thing_56.mono _ _ _)
   | (with_reducible exact slices_Equal_int_int.mono _ _ _)
   | (with_reducible exact LeO.refl _)
   | (with_reducible exact LeO.none _)
   | (with_reducible refine LeO.ite ?_ ?_)
   | (with_reducible refine LeO.bind ?_ (fun _ => ?_))
   | exact impl_Thing_56.mono _ _ _
   | exact slices_Equal_int_int.mono _ _ _
   | exact LeO.none _
   | refine LeO.ite ?_ ?_
   | refine LeO.bind ?_ (fun _ => ?_)
set_option maxHeartbeats 8000000 in
set_option maxRecDepth 100000 in
theorem impl_SameNode.calls (k : Nat) (a0_0 : Int) (a0_1 : Int) (a0_2 : Int) (a0_3 : Int) (a0_4 : Int) (a0_5 : Int) (a0_6 : Int) (a0_7 : Int) (A0_8 : Option Addr) (c0_8 : Nat) (l0_8 : List Int) (a0_9 : Int) (a0_10 : Int) (A0_11 : Option Addr) (c0_11 : Nat) (l0_11 : List (S74)) (A0_12 : Option Addr) (c0_12 : Nat) (l0_12 : List Int) (a1_0 : Int) (a1_1 : Int) (a1_2 : Int) (a1_3 : Int) (a1_4 : Int) (a1_5 : Int) (a1_6 : Int) (a1_7 : Int) (A1_8 : Option Addr) (c1_8 : Nat) (l1_8 : List Int) (a1_9 : Int) (a1_10 : Int) (A1_11 : Option Addr) (c1_11 : Nat) (l1_11 : List (S74)) (A1_12 : Option Addr) (c1_12 : Nat) (l1_12 : List Int) (r : Bool) (w : World) (hr0_8 : Kd.C (Kd.int .i64) w A0_8 l0_8.length l0_8) (hc0_8 : l0_8.length ≤ c0_8) (hr0_11 : Kd.C k74 w A0_11 l0_11.length l0_11) (hc0_11 : l0_11.length ≤ c0_11) (hr0_12 : Kd.C (Kd.int .i64) w A0_12 l0_12.length l0_12) (hc0_12 : l0_12.length ≤ c0_12) (hr1_8 : Kd.C (Kd.int .i64) w A1_8 l1_8.length l1_8) (hc1_8 : l1_8.length ≤ c1_8) (hr1_11 : Kd.C k74 w A1_11 l1_11.length l1_11) (hc1_11 : l1_11.length ≤ c1_11) (hr1_12 : Kd.C (Kd.int .i64) w A1_12 l1_12.length l1_12) (hc1_12 : l1_12.length ≤ c1_12) (h : impl_SameNode.f k a0_0 a0_1 a0_2 a0_3 a0_4 a0_5 a0_6 a0_7 l0_8 a0_9 a0_10 l0_11 l0_12 a1_0 a1_1 a1_2 a1_3 a1_4 a1_5 a1_6 a1_7 l1_8 a1_9 a1_10 l1_11 l1_12 = some r) :
  Calls Try.prog 44 #[.agg #[.int .i64 a0_0, .int .i64 a0_1, .int .i64 a0_2, .int .i64 a0_3, .int .i64 a0_4, .int .i64 a0_5, .int .i64 a0_6, .int .i64 a0_7, .slice A0_8 l0_8.length c0_8, .int .i64 a0_9, .int .i64 a0_10, .slice A0_11 l0_11.length c0_11, .slice A0_12 l0_12.length c0_12], .agg #[.int .i64 a1_0, .int .i64 a1_1, .int .i64 a1_2, .int .i64 a1_3, .int .i64 a1_4, .int .i64 a1_5, .int .i64 a1_6, .int .i64 a1_7, .slice A1_8 l1_8.length c1_8, .int .i64 a1_9, .int .i64 a1_10, .slice A1_11 l1_11.length c1_11, .slice A1_12 l1_12.length c1_12]] w fun e w' => e = .returned (.bool r) ∧ Below w.heap.size w w' := by
 have hu48 := Try.underlying48
 have HR0_8 := Aside0.mk hr0_8
 have HC0_8 := Aside0.mk hc0_8
 clear hr0_8 hc0_8
 have HR0_11 := Aside0.mk hr0_11
 have HC0_11 := Aside0.mk hc0_11
 clear hr0_11 hc0_11
 have HR0_12 := Aside0.mk hr0_12
 have HC0_12 := Aside0.mk hc0_12
 clear hr0_12 hc0_12
 have HR1_8 := Aside0.mk hr1_8
 have HC1_8 := Aside0.mk hc1_8
 clear hr1_8 hc1_8
 have HR1_11 := Aside0.mk hr1_11
 have HC1_11 := Aside0.mk hc1_11
 clear hr1_11 hc1_11
 have HR1_12 := Aside0.mk hr1_12
 have HC1_12 := Aside0.mk hc1_12
 clear hr1_12 hc1_12
 have HB := Aside0.mk (Below.refl w.heap.size w)
 have H : (if a0_0 = a1_0 then (if a0_1 = a1_1 then (if a0_2 = a1_2 then (if a0_3 = a1_3 then (if a0_4 = a1_4 then (if a0_5 = a1_5 then (if a0_6 = a1_6 then (if a0_7 = a1_7 then ((slices_Equal_int_int.f k l0_8 l1_8).bind fun t649 => (if t649 = true then (if a0_9 = a1_9 then (if a0_10 = a1_10 then ((impl_Thing_56.f k l0_11 l1_11).bind fun t650 => (if t650 = true then ((slices_Equal_int_int.f k l0_12 l1_12).bind fun t651 => (some t651)) else (some false))) else (some false)) else (some false)) else (some false))) else (some false)) else (some false)) else (some false)) else (some false)) else (some false)) else (some false)) else (some false)) else (some false)) = some r := h
 clear h
 by_cases c3 : a0_0 = a1_0
 rotate_left
 ·rw [if_neg c3] at H
  have c3b0 : (a0_0 == a1_0) = false := beq_eq_false_iff_ne.mpr c3
  have c3b1 : (a0_0 != a1_0) = true := bne_iff_ne.mpr c3
  obtain rfl := Option.some.inj H
  go_enter Try.func44, Try.ntmps44
  go_wp2_with (first | ((with_reducible refine gate_dst (N := 2) rfl ?_); refine box_ev 2 #[.int .i64 a0_0, .int .i64 a0_1, .int .i64 a0_2, .int .i64 a0_3, .int .i64 a0_4, .int .i64 a0_5, .int .i64 a0_6, .int .i64 a0_7, .slice A0_8 l0_8.length c0_8, .int .i64 a0_9, .int .i64 a0_10, .slice A0_11 l0_11.length c0_11, .slice A0_12 l0_12.length c0_12] 48 ?_; intro gb647 hg w78 hbox hb; have BK647 := Aside0.mk (hbox); have GW647 := Aside0.mk ((q48t : w.heap.size ≤ gb647)); have GE647 := Aside0.mk ((q48t : w.heap.size ≤ gb647)); replace HB := Aside0.mk (below_step q53t hb); clear hb hbox hg) | ((with_reducible refine gate_dst (N := 3) rfl ?_); refine box_ev 3 #[.int .i64 a1_0, .int .i64 a1_1, .int .i64 a1_2, .int .i64 a1_3, .int .i64 a1_4, .int .i64 a1_5, .int .i64 a1_6, .int .i64 a1_7, .slice A1_8 l1_8.length c1_8, .int .i64 a1_9, .int .i64 a1_10, .slice A1_11 l1_11.length c1_11, .slice A1_12 l1_12.length c1_12] 48 ?_; intro gb648 hg w79 hbox hb; have BK648 := Aside0.mk (hbox); have GW648 := Aside0.mk ((q26t : w.heap.size ≤ gb648)); have GE648 := Aside0.mk ((q26t : w.heap.size ≤ gb648)); replace HB := Aside0.mk (below_step q33t hb); have NB647_648 := Aside0.mk ((q79t : gb647 ≠ gb648)); have NB648_647 := Aside0.mk ((q80t : gb648 ≠ gb647)); replace BK647 := blb BK647 hb; clear hb hbox hg; have hnb80 := NB647_648.out; have hnc80 := NB648_647.out; obtain ⟨hcz81_0, hcz81_1, hcz81_2, hcz81_3, hcz81_4, hcz81_5, hcz81_6, hcz81_7, hcz81_8, hcz81_9, hcz81_10, hcz81_11, hcz81_12⟩ := qc13 BK647.out; obtain ⟨hfz81_0, hfz81_1, hfz81_2, hfz81_3, hfz81_4, hfz81_5, hfz81_6, hfz81_7, hfz81_8, hfz81_9, hfz81_10, hfz81_11, hfz81_12⟩ := qf13 BK647.out; obtain ⟨hcz82_0, hcz82_1, hcz82_2, hcz82_3, hcz82_4, hcz82_5, hcz82_6, hcz82_7, hcz82_8, hcz82_9, hcz82_10, hcz82_11, hcz82_12⟩ := qc13 BK648.out; obtain ⟨hfz82_0, hfz82_1, hfz82_2, hfz82_3, hfz82_4, hfz82_5, hfz82_6, hfz82_7, hfz82_8, hfz82_9, hfz82_10, hfz82_11, hfz82_12⟩ := qf13 BK648.out))
  go_ret
  exact ⟨q73t, q33t⟩
 rw [if_pos c3] at H
 have c3b0 : (a0_0 == a1_0) = true := beq_iff_eq.mpr c3
 have c3b1 : (a0_0 != a1_0) = false := bne_eq_false_iff_eq.mpr c3
 clear c3
 by_cases c4 : a0_1 = a1_1
 rotate_left
 ·rw [if_neg c4] at H
  have c4b0 : (a0_1 == a1_1) = false := beq_eq_false_iff_ne.mpr c4
  have c4b1 : (a0_1 != a1_1) = true := bne_iff_ne.mpr c4
  obtain rfl := Option.some.inj H
  go_enter Try.func44, Try.ntmps44
  go_wp2_with (first | ((with_reducible refine gate_dst (N := 2) rfl ?_); refine box_ev 2 #[.int .i64 a0_0, .int .i64 a0_1, .int .i64 a0_2, .int .i64 a0_3, .int .i64 a0_4, .int .i64 a0_5, .int .i64 a0_6, .int .i64 a0_7, .slice A0_8 l0_8.length c0_8, .int .i64 a0_9, .int .i64 a0_10, .slice A0_11 l0_11.length c0_11, .slice A0_12 l0_12.length c0_12] 48 ?_; intro gb647 hg w73 hbox hb; have BK647 := Aside0.mk (hbox); have GW647 := Aside0.mk ((q48t : w.heap.size ≤ gb647)); have GE647 := Aside0.mk ((q48t : w.heap.size ≤ gb647)); replace HB := Aside0.mk (below_step q53t hb); clear hb hbox hg) | ((with_reducible refine gate_dst (N := 3) rfl ?_); refine box_ev 3 #[.int .i64 a1_0, .int .i64 a1_1, .int .i64 a1_2, .int .i64 a1_3, .int .i64 a1_4, .int .i64 a1_5, .int .i64 a1_6, .int .i64 a1_7, .slice A1_8 l1_8.length c1_8, .int .i64 a1_9, .int .i64 a1_10, .slice A1_11 l1_11.length c1_11, .slice A1_12 l1_12.length c1_12] 48 ?_; intro gb648 hg w74 hbox hb; have BK648 := Aside0.mk (hbox); have GW648 := Aside0.mk ((q26t : w.heap.size ≤ gb648)); have GE648 := Aside0.mk ((q26t : w.heap.size ≤ gb648)); replace HB := Aside0.mk (below_step q33t hb); have NB647_648 := Aside0.mk ((q79t : gb647 ≠ gb648)); have NB648_647 := Aside0.mk ((q80t : gb648 ≠ gb647)); replace BK647 := blb BK647 hb; clear hb hbox hg; have hnb75 := NB647_648.out; have hnc75 := NB648_647.out; obtain ⟨hcz76_0, hcz76_1, hcz76_2, hcz76_3, hcz76_4, hcz76_5, hcz76_6, hcz76_7, hcz76_8, hcz76_9, hcz76_10, hcz76_11, hcz76_12⟩ := qc13 BK647.out; obtain ⟨hfz76_0, hfz76_1, hfz76_2, hfz76_3, hfz76_4, hfz76_5, hfz76_6, hfz76_7, hfz76_8, hfz76_9, hfz76_10, hfz76_11, hfz76_12⟩ := qf13 BK647.out; obtain ⟨hcz77_0, hcz77_1, hcz77_2, hcz77_3, hcz77_4, hcz77_5, hcz77_6, hcz77_7, hcz77_8, hcz77_9, hcz77_10, hcz77_11, hcz77_12⟩ := qc13 BK648.out; obtain ⟨hfz77_0, hfz77_1, hfz77_2, hfz77_3, hfz77_4, hfz77_5, hfz77_6, hfz77_7, hfz77_8, hfz77_9, hfz77_10, hfz77_11, hfz77_12⟩ := qf13 BK648.out))
  go_ret
  exact ⟨q73t, q33t⟩
 rw [if_pos c4] at H
 have c4b0 : (a0_1 == a1_1) = true := beq_iff_eq.mpr c4
 have c4b1 : (a0_1 != a1_1) = false := bne_eq_false_iff_eq.mpr c4
 clear c4
 by_cases c5 : a0_2 = a1_2
 rotate_left
 ·rw [if_neg c5] at H
  have c5b0 : (a0_2 == a1_2) = false := beq_eq_false_iff_ne.mpr c5
  have c5b1 : (a0_2 != a1_2) = true := bne_iff_ne.mpr c5
  obtain rfl := Option.some.inj H
  go_enter Try.func44, Try.ntmps44
  go_wp2_with (first | ((with_reducible refine gate_dst (N := 2) rfl ?_); refine box_ev 2 #[.int .i64 a0_0, .int .i64 a0_1, .int .i64 a0_2, .int .i64 a0_3, .int .i64 a0_4, .int .i64 a0_5, .int .i64 a0_6, .int .i64 a0_7, .slice A0_8 l0_8.length c0_8, .int .i64 a0_9, .int .i64 a0_10, .slice A0_11 l0_11.length c0_11, .slice A0_12 l0_12.length c0_12] 48 ?_; intro gb647 hg w68 hbox hb; have BK647 := Aside0.mk (hbox); have GW647 := Aside0.mk ((q48t : w.heap.size ≤ gb647)); have GE647 := Aside0.mk ((q48t : w.heap.size ≤ gb647)); replace HB := Aside0.mk (below_step q53t hb); clear hb hbox hg) | ((with_reducible refine gate_dst (N := 3) rfl ?_); refine box_ev 3 #[.int .i64 a1_0, .int .i64 a1_1, .int .i64 a1_2, .int .i64 a1_3, .int .i64 a1_4, .int .i64 a1_5, .int .i64 a1_6, .int .i64 a1_7, .slice A1_8 l1_8.length c1_8, .int .i64 a1_9, .int .i64 a1_10, .slice A1_11 l1_11.length c1_11, .slice A1_12 l1_12.length c1_12] 48 ?_; intro gb648 hg w69 hbox hb; have BK648 := Aside0.mk (hbox); have GW648 := Aside0.mk ((q26t : w.heap.size ≤ gb648)); have GE648 := Aside0.mk ((q26t : w.heap.size ≤ gb648)); replace HB := Aside0.mk (below_step q33t hb); have NB647_648 := Aside0.mk ((q79t : gb647 ≠ gb648)); have NB648_647 := Aside0.mk ((q80t : gb648 ≠ gb647)); replace BK647 := blb BK647 hb; clear hb hbox hg; have hnb70 := NB647_648.out; have hnc70 := NB648_647.out; obtain ⟨hcz71_0, hcz71_1, hcz71_2, hcz71_3, hcz71_4, hcz71_5, hcz71_6, hcz71_7, hcz71_8, hcz71_9, hcz71_10, hcz71_11, hcz71_12⟩ := qc13 BK647.out; obtain ⟨hfz71_0, hfz71_1, hfz71_2, hfz71_3, hfz71_4, hfz71_5, hfz71_6, hfz71_7, hfz71_8, hfz71_9, hfz71_10, hfz71_11, hfz71_12⟩ := qf13 BK647.out; obtain ⟨hcz72_0, hcz72_1, hcz72_2, hcz72_3, hcz72_4, hcz72_5, hcz72_6, hcz72_7, hcz72_8, hcz72_9, hcz72_10, hcz72_11, hcz72_12⟩ := qc13 BK648.out; obtain ⟨hfz72_0, hfz72_1, hfz72_2, hfz72_3, hfz72_4, hfz72_5, hfz72_6, hfz72_7, hfz72_8, hfz72_9, hfz72_10, hfz72_11, hfz72_12⟩ := qf13 BK648.out))
  go_ret
  exact ⟨q73t, q33t⟩
 rw [if_pos c5] at H
 have c5b0 : (a0_2 == a1_2) = true := beq_iff_eq.mpr c5
 have c5b1 : (a0_2 != a1_2) = false := bne_eq_false_iff_eq.mpr c5
 clear c5
 by_cases c6 : a0_3 = a1_3
 rotate_left
 ·rw [if_neg c6] at H
  have c6b0 : (a0_3 == a1_3) = false := beq_eq_false_iff_ne.mpr c6
  have c6b1 : (a0_3 != a1_3) = true := bne_iff_ne.mpr c6
  obtain rfl := Option.some.inj H
  go_enter Try.func44, Try.ntmps44
  go_wp2_with (first | ((with_reducible refine gate_dst (N := 2) rfl ?_); refine box_ev 2 #[.int .i64 a0_0, .int .i64 a0_1, .int .i64 a0_2, .int .i64 a0_3, .int .i64 a0_4, .int .i64 a0_5, .int .i64 a0_6, .int .i64 a0_7, .slice A0_8 l0_8.length c0_8, .int .i64 a0_9, .int .i64 a0_10, .slice A0_11 l0_11.length c0_11, .slice A0_12 l0_12.length c0_12] 48 ?_; intro gb647 hg w63 hbox hb; have BK647 := Aside0.mk (hbox); have GW647 := Aside0.mk ((q48t : w.heap.size ≤ gb647)); have GE647 := Aside0.mk ((q48t : w.heap.size ≤ gb647)); replace HB := Aside0.mk (below_step q53t hb); clear hb hbox hg) | ((with_reducible refine gate_dst (N := 3) rfl ?_); refine box_ev 3 #[.int .i64 a1_0, .int .i64 a1_1, .int .i64 a1_2, .int .i64 a1_3, .int .i64 a1_4, .int .i64 a1_5, .int .i64 a1_6, .int .i64 a1_7, .slice A1_8 l1_8.length c1_8, .int .i64 a1_9, .int .i64 a1_10, .slice A1_11 l1_11.length c1_11, .slice A1_12 l1_12.length c1_12] 48 ?_; intro gb648 hg w64 hbox hb; have BK648 := Aside0.mk (hbox); have GW648 := Aside0.mk ((q26t : w.heap.size ≤ gb648)); have GE648 := Aside0.mk ((q26t : w.heap.size ≤ gb648)); replace HB := Aside0.mk (below_step q33t hb); have NB647_648 := Aside0.mk ((q79t : gb647 ≠ gb648)); have NB648_647 := Aside0.mk ((q80t : gb648 ≠ gb647)); replace BK647 := blb BK647 hb; clear hb hbox hg; have hnb65 := NB647_648.out; have hnc65 := NB648_647.out; obtain ⟨hcz66_0, hcz66_1, hcz66_2, hcz66_3, hcz66_4, hcz66_5, hcz66_6, hcz66_7, hcz66_8, hcz66_9, hcz66_10, hcz66_11, hcz66_12⟩ := qc13 BK647.out; obtain ⟨hfz66_0, hfz66_1, hfz66_2, hfz66_3, hfz66_4, hfz66_5, hfz66_6, hfz66_7, hfz66_8, hfz66_9, hfz66_10, hfz66_11, hfz66_12⟩ := qf13 BK647.out; obtain ⟨hcz67_0, hcz67_1, hcz67_2, hcz67_3, hcz67_4, hcz67_5, hcz67_6, hcz67_7, hcz67_8, hcz67_9, hcz67_10, hcz67_11, hcz67_12⟩ := qc13 BK648.out; obtain ⟨hfz67_0, hfz67_1, hfz67_2, hfz67_3, hfz67_4, hfz67_5, hfz67_6, hfz67_7, hfz67_8, hfz67_9, hfz67_10, hfz67_11, hfz67_12⟩ := qf13 BK648.out))
  go_ret
  exact ⟨q73t, q33t⟩
 rw [if_pos c6] at H
 have c6b0 : (a0_3 == a1_3) = true := beq_iff_eq.mpr c6
 have c6b1 : (a0_3 != a1_3) = false := bne_eq_false_iff_eq.mpr c6
 clear c6
 by_cases c7 : a0_4 = a1_4
 rotate_left
 ·rw [if_neg c7] at H
  have c7b0 : (a0_4 == a1_4) = false := beq_eq_false_iff_ne.mpr c7
  have c7b1 : (a0_4 != a1_4) = true := bne_iff_ne.mpr c7
  obtain rfl := Option.some.inj H
  go_enter Try.func44, Try.ntmps44
  go_wp2_with (first | ((with_reducible refine gate_dst (N := 2) rfl ?_); refine box_ev 2 #[.int .i64 a0_0, .int .i64 a0_1, .int .i64 a0_2, .int .i64 a0_3, .int .i64 a0_4, .int .i64 a0_5, .int .i64 a0_6, .int .i64 a0_7, .slice A0_8 l0_8.length c0_8, .int .i64 a0_9, .int .i64 a0_10, .slice A0_11 l0_11.length c0_11, .slice A0_12 l0_12.length c0_12] 48 ?_; intro gb647 hg w58 hbox hb; have BK647 := Aside0.mk (hbox); have GW647 := Aside0.mk ((q48t : w.heap.size ≤ gb647)); have GE647 := Aside0.mk ((q48t : w.heap.size ≤ gb647)); replace HB := Aside0.mk (below_step q53t hb); clear hb hbox hg) | ((with_reducible refine gate_dst (N := 3) rfl ?_); refine box_ev 3 #[.int .i64 a1_0, .int .i64 a1_1, .int .i64 a1_2, .int .i64 a1_3, .int .i64 a1_4, .int .i64 a1_5, .int .i64 a1_6, .int .i64 a1_7, .slice A1_8 l1_8.length c1_8, .int .i64 a1_9, .int .i64 a1_10, .slice A1_11 l1_11.length c1_11, .slice A1_12 l1_12.length c1_12] 48 ?_; intro gb648 hg w59 hbox hb; have BK648 := Aside0.mk (hbox); have GW648 := Aside0.mk ((q26t : w.heap.size ≤ gb648)); have GE648 := Aside0.mk ((q26t : w.heap.size ≤ gb648)); replace HB := Aside0.mk (below_step q33t hb); have NB647_648 := Aside0.mk ((q79t : gb647 ≠ gb648)); have NB648_647 := Aside0.mk ((q80t : gb648 ≠ gb647)); replace BK647 := blb BK647 hb; clear hb hbox hg; have hnb60 := NB647_648.out; have hnc60 := NB648_647.out; obtain ⟨hcz61_0, hcz61_1, hcz61_2, hcz61_3, hcz61_4, hcz61_5, hcz61_6, hcz61_7, hcz61_8, hcz61_9, hcz61_10, hcz61_11, hcz61_12⟩ := qc13 BK647.out; obtain ⟨hfz61_0, hfz61_1, hfz61_2, hfz61_3, hfz61_4, hfz61_5, hfz61_6, hfz61_7, hfz61_8, hfz61_9, hfz61_10, hfz61_11, hfz61_12⟩ := qf13 BK647.out; obtain ⟨hcz62_0, hcz62_1, hcz62_2, hcz62_3, hcz62_4, hcz62_5, hcz62_6, hcz62_7, hcz62_8, hcz62_9, hcz62_10, hcz62_11, hcz62_12⟩ := qc13 BK648.out; obtain ⟨hfz62_0, hfz62_1, hfz62_2, hfz62_3, hfz62_4, hfz62_5, hfz62_6, hfz62_7, hfz62_8, hfz62_9, hfz62_10, hfz62_11, hfz62_12⟩ := qf13 BK648.out))
  go_ret
  exact ⟨q73t, q33t⟩
 rw [if_pos c7] at H
 have c7b0 : (a0_4 == a1_4) = true := beq_iff_eq.mpr c7
 have c7b1 : (a0_4 != a1_4) = false := bne_eq_false_iff_eq.mpr c7
 clear c7
 by_cases c8 : a0_5 = a1_5
 rotate_left
 ·rw [if_neg c8] at H
  have c8b0 : (a0_5 == a1_5) = false := beq_eq_false_iff_ne.mpr c8
  have c8b1 : (a0_5 != a1_5) = true := bne_iff_ne.mpr c8
  obtain rfl := Option.some.inj H
  go_enter Try.func44, Try.ntmps44
  go_wp2_with (first | ((with_reducible refine gate_dst (N := 2) rfl ?_); refine box_ev 2 #[.int .i64 a0_0, .int .i64 a0_1, .int .i64 a0_2, .int .i64 a0_3, .int .i64 a0_4, .int .i64 a0_5, .int .i64 a0_6, .int .i64 a0_7, .slice A0_8 l0_8.length c0_8, .int .i64 a0_9, .int .i64 a0_10, .slice A0_11 l0_11.length c0_11, .slice A0_12 l0_12.length c0_12] 48 ?_; intro gb647 hg w53 hbox hb; have BK647 := Aside0.mk (hbox); have GW647 := Aside0.mk ((q48t : w.heap.size ≤ gb647)); have GE647 := Aside0.mk ((q48t : w.heap.size ≤ gb647)); replace HB := Aside0.mk (below_step q53t hb); clear hb hbox hg) | ((with_reducible refine gate_dst (N := 3) rfl ?_); refine box_ev 3 #[.int .i64 a1_0, .int .i64 a1_1, .int .i64 a1_2, .int .i64 a1_3, .int .i64 a1_4, .int .i64 a1_5, .int .i64 a1_6, .int .i64 a1_7, .slice A1_8 l1_8.length c1_8, .int .i64 a1_9, .int .i64 a1_10, .slice A1_11 l1_11.length c1_11, .slice A1_12 l1_12.length c1_12] 48 ?_; intro gb648 hg w54 hbox hb; have BK648 := Aside0.mk (hbox); have GW648 := Aside0.mk ((q26t : w.heap.size ≤ gb648)); have GE648 := Aside0.mk ((q26t : w.heap.size ≤ gb648)); replace HB := Aside0.mk (below_step q33t hb); have NB647_648 := Aside0.mk ((q79t : gb647 ≠ gb648)); have NB648_647 := Aside0.mk ((q80t : gb648 ≠ gb647)); replace BK647 := blb BK647 hb; clear hb hbox hg; have hnb55 := NB647_648.out; have hnc55 := NB648_647.out; obtain ⟨hcz56_0, hcz56_1, hcz56_2, hcz56_3, hcz56_4, hcz56_5, hcz56_6, hcz56_7, hcz56_8, hcz56_9, hcz56_10, hcz56_11, hcz56_12⟩ := qc13 BK647.out; obtain ⟨hfz56_0, hfz56_1, hfz56_2, hfz56_3, hfz56_4, hfz56_5, hfz56_6, hfz56_7, hfz56_8, hfz56_9, hfz56_10, hfz56_11, hfz56_12⟩ := qf13 BK647.out; obtain ⟨hcz57_0, hcz57_1, hcz57_2, hcz57_3, hcz57_4, hcz57_5, hcz57_6, hcz57_7, hcz57_8, hcz57_9, hcz57_10, hcz57_11, hcz57_12⟩ := qc13 BK648.out; obtain ⟨hfz57_0, hfz57_1, hfz57_2, hfz57_3, hfz57_4, hfz57_5, hfz57_6, hfz57_7, hfz57_8, hfz57_9, hfz57_10, hfz57_11, hfz57_12⟩ := qf13 BK648.out))
  go_ret
  exact ⟨q73t, q33t⟩
 rw [if_pos c8] at H
 have c8b0 : (a0_5 == a1_5) = true := beq_iff_eq.mpr c8
 have c8b1 : (a0_5 != a1_5) = false := bne_eq_false_iff_eq.mpr c8
 clear c8
 by_cases c9 : a0_6 = a1_6
 rotate_left
 ·rw [if_neg c9] at H
  have c9b0 : (a0_6 == a1_6) = false := beq_eq_false_iff_ne.mpr c9
  have c9b1 : (a0_6 != a1_6) = true := bne_iff_ne.mpr c9
  obtain rfl := Option.some.inj H
  go_enter Try.func44, Try.ntmps44
  go_wp2_with (first | ((with_reducible refine gate_dst (N := 2) rfl ?_); refine box_ev 2 #[.int .i64 a0_0, .int .i64 a0_1, .int .i64 a0_2, .int .i64 a0_3, .int .i64 a0_4, .int .i64 a0_5, .int .i64 a0_6, .int .i64 a0_7, .slice A0_8 l0_8.length c0_8, .int .i64 a0_9, .int .i64 a0_10, .slice A0_11 l0_11.length c0_11, .slice A0_12 l0_12.length c0_12] 48 ?_; intro gb647 hg w48 hbox hb; have BK647 := Aside0.mk (hbox); have GW647 := Aside0.mk ((q48t : w.heap.size ≤ gb647)); have GE647 := Aside0.mk ((q48t : w.heap.size ≤ gb647)); replace HB := Aside0.mk (below_step q53t hb); clear hb hbox hg) | ((with_reducible refine gate_dst (N := 3) rfl ?_); refine box_ev 3 #[.int .i64 a1_0, .int .i64 a1_1, .int .i64 a1_2, .int .i64 a1_3, .int .i64 a1_4, .int .i64 a1_5, .int .i64 a1_6, .int .i64 a1_7, .slice A1_8 l1_8.length c1_8, .int .i64 a1_9, .int .i64 a1_10, .slice A1_11 l1_11.length c1_11, .slice A1_12 l1_12.length c1_12] 48 ?_; intro gb648 hg w49 hbox hb; have BK648 := Aside0.mk (hbox); have GW648 := Aside0.mk ((q26t : w.heap.size ≤ gb648)); have GE648 := Aside0.mk ((q26t : w.heap.size ≤ gb648)); replace HB := Aside0.mk (below_step q33t hb); have NB647_648 := Aside0.mk ((q79t : gb647 ≠ gb648)); have NB648_647 := Aside0.mk ((q80t : gb648 ≠ gb647)); replace BK647 := blb BK647 hb; clear hb hbox hg; have hnb50 := NB647_648.out; have hnc50 := NB648_647.out; obtain ⟨hcz51_0, hcz51_1, hcz51_2, hcz51_3, hcz51_4, hcz51_5, hcz51_6, hcz51_7, hcz51_8, hcz51_9, hcz51_10, hcz51_11, hcz51_12⟩ := qc13 BK647.out; obtain ⟨hfz51_0, hfz51_1, hfz51_2, hfz51_3, hfz51_4, hfz51_5, hfz51_6, hfz51_7, hfz51_8, hfz51_9, hfz51_10, hfz51_11, hfz51_12⟩ := qf13 BK647.out; obtain ⟨hcz52_0, hcz52_1, hcz52_2, hcz52_3, hcz52_4, hcz52_5, hcz52_6, hcz52_7, hcz52_8, hcz52_9, hcz52_10, hcz52_11, hcz52_12⟩ := qc13 BK648.out; obtain ⟨hfz52_0, hfz52_1, hfz52_2, hfz52_3, hfz52_4, hfz52_5, hfz52_6, hfz52_7, hfz52_8, hfz52_9, hfz52_10, hfz52_11, hfz52_12⟩ := qf13 BK648.out))
  go_ret
  exact ⟨q73t, q33t⟩
 rw [if_pos c9] at H
 have c9b0 : (a0_6 == a1_6) = true := beq_iff_eq.mpr c9
 have c9b1 : (a0_6 != a1_6) = false := bne_eq_false_iff_eq.mpr c9
 clear c9
 by_cases c10 : a0_7 = a1_7
 rotate_left
 ·rw [if_neg c10] at H
  have c10b0 : (a0_7 == a1_7) = false := beq_eq_false_iff_ne.mpr c10
  have c10b1 : (a0_7 != a1_7) = true := bne_iff_ne.mpr c10
  obtain rfl := Option.some.inj H
  go_enter Try.func44, Try.ntmps44
  go_wp2_with (first | ((with_reducible refine gate_dst (N := 2) rfl ?_); refine box_ev 2 #[.int .i64 a0_0, .int .i64 a0_1, .int .i64 a0_2, .int .i64 a0_3, .int .i64 a0_4, .int .i64 a0_5, .int .i64 a0_6, .int .i64 a0_7, .slice A0_8 l0_8.length c0_8, .int .i64 a0_9, .int .i64 a0_10, .slice A0_11 l0_11.length c0_11, .slice A0_12 l0_12.length c0_12] 48 ?_; intro gb647 hg w43 hbox hb; have BK647 := Aside0.mk (hbox); have GW647 := Aside0.mk ((q48t : w.heap.size ≤ gb647)); have GE647 := Aside0.mk ((q48t : w.heap.size ≤ gb647)); replace HB := Aside0.mk (below_step q53t hb); clear hb hbox hg) | ((with_reducible refine gate_dst (N := 3) rfl ?_); refine box_ev 3 #[.int .i64 a1_0, .int .i64 a1_1, .int .i64 a1_2, .int .i64 a1_3, .int .i64 a1_4, .int .i64 a1_5, .int .i64 a1_6, .int .i64 a1_7, .slice A1_8 l1_8.length c1_8, .int .i64 a1_9, .int .i64 a1_10, .slice A1_11 l1_11.length c1_11, .slice A1_12 l1_12.length c1_12] 48 ?_; intro gb648 hg w44 hbox hb; have BK648 := Aside0.mk (hbox); have GW648 := Aside0.mk ((q26t : w.heap.size ≤ gb648)); have GE648 := Aside0.mk ((q26t : w.heap.size ≤ gb648)); replace HB := Aside0.mk (below_step q33t hb); have NB647_648 := Aside0.mk ((q79t : gb647 ≠ gb648)); have NB648_647 := Aside0.mk ((q80t : gb648 ≠ gb647)); replace BK647 := blb BK647 hb; clear hb hbox hg; have hnb45 := NB647_648.out; have hnc45 := NB648_647.out; obtain ⟨hcz46_0, hcz46_1, hcz46_2, hcz46_3, hcz46_4, hcz46_5, hcz46_6, hcz46_7, hcz46_8, hcz46_9, hcz46_10, hcz46_11, hcz46_12⟩ := qc13 BK647.out; obtain ⟨hfz46_0, hfz46_1, hfz46_2, hfz46_3, hfz46_4, hfz46_5, hfz46_6, hfz46_7, hfz46_8, hfz46_9, hfz46_10, hfz46_11, hfz46_12⟩ := qf13 BK647.out; obtain ⟨hcz47_0, hcz47_1, hcz47_2, hcz47_3, hcz47_4, hcz47_5, hcz47_6, hcz47_7, hcz47_8, hcz47_9, hcz47_10, hcz47_11, hcz47_12⟩ := qc13 BK648.out; obtain ⟨hfz47_0, hfz47_1, hfz47_2, hfz47_3, hfz47_4, hfz47_5, hfz47_6, hfz47_7, hfz47_8, hfz47_9, hfz47_10, hfz47_11, hfz47_12⟩ := qf13 BK648.out))
  go_ret
  exact ⟨q73t, q33t⟩
 rw [if_pos c10] at H
 have c10b0 : (a0_7 == a1_7) = true := beq_iff_eq.mpr c10
 have c10b1 : (a0_7 != a1_7) = false := bne_eq_false_iff_eq.mpr c10
 clear c10
 replace H := Option.bind_eq_some_iff.mp H
 obtain ⟨t649, A110, H⟩ := H
 try dsimp only at H
 have A11 := Aside0.mk A110
 clear A110
 by_cases c12 : t649 = true
 rotate_left
 ·replace c12 := Bool.eq_false_iff.mpr c12
  subst c12
  rw [if_neg (show ¬ (false = true) by decide)] at H
  obtain rfl := Option.some.inj H
  go_enter Try.func44, Try.ntmps44
  go_wp2_with (first | ((with_reducible refine gate_dst (N := 2) rfl ?_); refine box_ev 2 #[.int .i64 a0_0, .int .i64 a0_1, .int .i64 a0_2, .int .i64 a0_3, .int .i64 a0_4, .int .i64 a0_5, .int .i64 a0_6, .int .i64 a0_7, .slice A0_8 l0_8.length c0_8, .int .i64 a0_9, .int .i64 a0_10, .slice A0_11 l0_11.length c0_11, .slice A0_12 l0_12.length c0_12] 48 ?_; intro gb647 hg w38 hbox hb; have BK647 := Aside0.mk (hbox); have GW647 := Aside0.mk ((q48t : w.heap.size ≤ gb647)); have GE647 := Aside0.mk ((q48t : w.heap.size ≤ gb647)); replace HB := Aside0.mk (below_step q53t hb); clear hb hbox hg) | ((with_reducible refine gate_dst (N := 3) rfl ?_); refine box_ev 3 #[.int .i64 a1_0, .int .i64 a1_1, .int .i64 a1_2, .int .i64 a1_3, .int .i64 a1_4, .int .i64 a1_5, .int .i64 a1_6, .int .i64 a1_7, .slice A1_8 l1_8.length c1_8, .int .i64 a1_9, .int .i64 a1_10, .slice A1_11 l1_11.length c1_11, .slice A1_12 l1_12.length c1_12] 48 ?_; intro gb648 hg w39 hbox hb; have BK648 := Aside0.mk (hbox); have GW648 := Aside0.mk ((q26t : w.heap.size ≤ gb648)); have GE648 := Aside0.mk ((q26t : w.heap.size ≤ gb648)); replace HB := Aside0.mk (below_step q33t hb); have NB647_648 := Aside0.mk ((q79t : gb647 ≠ gb648)); have NB648_647 := Aside0.mk ((q80t : gb648 ≠ gb647)); replace BK647 := blb BK647 hb; clear hb hbox hg; have hnb40 := NB647_648.out; have hnc40 := NB648_647.out; obtain ⟨hcz41_0, hcz41_1, hcz41_2, hcz41_3, hcz41_4, hcz41_5, hcz41_6, hcz41_7, hcz41_8, hcz41_9, hcz41_10, hcz41_11, hcz41_12⟩ := qc13 BK647.out; obtain ⟨hfz41_0, hfz41_1, hfz41_2, hfz41_3, hfz41_4, hfz41_5, hfz41_6, hfz41_7, hfz41_8, hfz41_9, hfz41_10, hfz41_11, hfz41_12⟩ := qf13 BK647.out; obtain ⟨hcz42_0, hcz42_1, hcz42_2, hcz42_3, hcz42_4, hcz42_5, hcz42_6, hcz42_7, hcz42_8, hcz42_9, hcz42_10, hcz42_11, hcz42_12⟩ := qc13 BK648.out; obtain ⟨hfz42_0, hfz42_1, hfz42_2, hfz42_3, hfz42_4, hfz42_5, hfz42_6, hfz42_7, hfz42_8, hfz42_9, hfz42_10, hfz42_11, hfz42_12⟩ := qf13 BK648.out) | (go_at_call 55; (with_reducible refine (slices_Equal_int_int.calls k _ _ l0_8 _ _ l1_8 false _ ?side1 ?side2 ?side3 ?side4 A11.out).mono ?_); (case side1 => exact sC (Kd.C_below HR0_8.out HB.out)); (case side2 => exact HC0_8.out); (case side3 => exact sC (Kd.C_below HR1_8.out HB.out)); (case side4 => exact HC1_8.out); rintro e w' ⟨rfl, ⟨nd, rfl⟩⟩))
  go_ret
  exact ⟨q73t, q33t⟩
 subst c12
 rw [if_pos rfl] at H
 by_cases c13 : a0_9 = a1_9
 rotate_left
 ·rw [if_neg c13] at H
  have c13b0 : (a0_9 == a1_9) = false := beq_eq_false_iff_ne.mpr c13
  have c13b1 : (a0_9 != a1_9) = true := bne_iff_ne.mpr c13
  obtain rfl := Option.some.inj H
  go_enter Try.func44, Try.ntmps44
  go_wp2_with (first | ((with_reducible refine gate_dst (N := 2) rfl ?_); refine box_ev 2 #[.int .i64 a0_0, .int .i64 a0_1, .int .i64 a0_2, .int .i64 a0_3, .int .i64 a0_4, .int .i64 a0_5, .int .i64 a0_6, .int .i64 a0_7, .slice A0_8 l0_8.length c0_8, .int .i64 a0_9, .int .i64 a0_10, .slice A0_11 l0_11.length c0_11, .slice A0_12 l0_12.length c0_12] 48 ?_; intro gb647 hg w33 hbox hb; have BK647 := Aside0.mk (hbox); have GW647 := Aside0.mk ((q48t : w.heap.size ≤ gb647)); have GE647 := Aside0.mk ((q48t : w.heap.size ≤ gb647)); replace HB := Aside0.mk (below_step q53t hb); clear hb hbox hg) | ((with_reducible refine gate_dst (N := 3) rfl ?_); refine box_ev 3 #[.int .i64 a1_0, .int .i64 a1_1, .int .i64 a1_2, .int .i64 a1_3, .int .i64 a1_4, .int .i64 a1_5, .int .i64 a1_6, .int .i64 a1_7, .slice A1_8 l1_8.length c1_8, .int .i64 a1_9, .int .i64 a1_10, .slice A1_11 l1_11.length c1_11, .slice A1_12 l1_12.length c1_12] 48 ?_; intro gb648 hg w34 hbox hb; have BK648 := Aside0.mk (hbox); have GW648 := Aside0.mk ((q26t : w.heap.size ≤ gb648)); have GE648 := Aside0.mk ((q26t : w.heap.size ≤ gb648)); replace HB := Aside0.mk (below_step q33t hb); have NB647_648 := Aside0.mk ((q79t : gb647 ≠ gb648)); have NB648_647 := Aside0.mk ((q80t : gb648 ≠ gb647)); replace BK647 := blb BK647 hb; clear hb hbox hg; have hnb35 := NB647_648.out; have hnc35 := NB648_647.out; obtain ⟨hcz36_0, hcz36_1, hcz36_2, hcz36_3, hcz36_4, hcz36_5, hcz36_6, hcz36_7, hcz36_8, hcz36_9, hcz36_10, hcz36_11, hcz36_12⟩ := qc13 BK647.out; obtain ⟨hfz36_0, hfz36_1, hfz36_2, hfz36_3, hfz36_4, hfz36_5, hfz36_6, hfz36_7, hfz36_8, hfz36_9, hfz36_10, hfz36_11, hfz36_12⟩ := qf13 BK647.out; obtain ⟨hcz37_0, hcz37_1, hcz37_2, hcz37_3, hcz37_4, hcz37_5, hcz37_6, hcz37_7, hcz37_8, hcz37_9, hcz37_10, hcz37_11, hcz37_12⟩ := qc13 BK648.out; obtain ⟨hfz37_0, hfz37_1, hfz37_2, hfz37_3, hfz37_4, hfz37_5, hfz37_6, hfz37_7, hfz37_8, hfz37_9, hfz37_10, hfz37_11, hfz37_12⟩ := qf13 BK648.out) | (go_at_call 55; (with_reducible refine (slices_Equal_int_int.calls k _ _ l0_8 _ _ l1_8 true _ ?side1 ?side2 ?side3 ?side4 A11.out).mono ?_); (case side1 => exact sC (Kd.C_below HR0_8.out HB.out)); (case side2 => exact HC0_8.out); (case side3 => exact sC (Kd.C_below HR1_8.out HB.out)); (case side4 => exact HC1_8.out); rintro e w' ⟨rfl, ⟨nd, rfl⟩⟩))
  go_ret
  exact ⟨q73t, q33t⟩
 rw [if_pos c13] at H
 have c13b0 : (a0_9 == a1_9) = true := beq_iff_eq.mpr c13
 have c13b1 : (a0_9 != a1_9) = false := bne_eq_false_iff_eq.mpr c13
 clear c13
 by_cases c14 : a0_10 = a1_10
 ·rw [if_pos c14] at H
  have c14b0 : (a0_10 == a1_10) = true := beq_iff_eq.mpr c14
  have c14b1 : (a0_10 != a1_10) = false := bne_eq_false_iff_eq.mpr c14
  clear c14
  replace H := Option.bind_eq_some_iff.mp H
  obtain ⟨t650, A150, H⟩ := H
  try dsimp only at H
  have A15 := Aside0.mk A150
  clear A150
  by_cases c16 : t650 = true
  ·subst c16
   rw [if_pos rfl] at H
   replace H := Option.bind_eq_some_iff.mp H
   obtain ⟨t651, A170, H⟩ := H
   try dsimp only at H
   have A17 := Aside0.mk A170
   clear A170
   obtain rfl := Option.some.inj H
   go_enter Try.func44, Try.ntmps44
   go_wp2_with (first | ((with_reducible refine gate_dst (N := 2) rfl ?_); refine box_ev 2 #[.int .i64 a0_0, .int .i64 a0_1, .int .i64 a0_2, .int .i64 a0_3, .int .i64 a0_4, .int .i64 a0_5, .int .i64 a0_6, .int .i64 a0_7, .slice A0_8 l0_8.length c0_8, .int .i64 a0_9, .int .i64 a0_10, .slice A0_11 l0_11.length c0_11, .slice A0_12 l0_12.length c0_12] 48 ?_; intro gb647 hg w18 hbox hb; have BK647 := Aside0.mk (hbox); have GW647 := Aside0.mk ((q48t : w.heap.size ≤ gb647)); have GE647 := Aside0.mk ((q48t : w.heap.size ≤ gb647)); replace HB := Aside0.mk (below_step q53t hb); clear hb hbox hg) | ((with_reducible refine gate_dst (N := 3) rfl ?_); refine box_ev 3 #[.int .i64 a1_0, .int .i64 a1_1, .int .i64 a1_2, .int .i64 a1_3, .int .i64 a1_4, .int .i64 a1_5, .int .i64 a1_6, .int .i64 a1_7, .slice A1_8 l1_8.length c1_8, .int .i64 a1_9, .int .i64 a1_10, .slice A1_11 l1_11.length c1_11, .slice A1_12 l1_12.length c1_12] 48 ?_; intro gb648 hg w19 hbox hb; have BK648 := Aside0.mk (hbox); have GW648 := Aside0.mk ((q26t : w.heap.size ≤ gb648)); have GE648 := Aside0.mk ((q26t : w.heap.size ≤ gb648)); replace HB := Aside0.mk (below_step q33t hb); have NB647_648 := Aside0.mk ((q79t : gb647 ≠ gb648)); have NB648_647 := Aside0.mk ((q80t : gb648 ≠ gb647)); replace BK647 := blb BK647 hb; clear hb hbox hg; have hnb20 := NB647_648.out; have hnc20 := NB648_647.out; obtain ⟨hcz21_0, hcz21_1, hcz21_2, hcz21_3, hcz21_4, hcz21_5, hcz21_6, hcz21_7, hcz21_8, hcz21_9, hcz21_10, hcz21_11, hcz21_12⟩ := qc13 BK647.out; obtain ⟨hfz21_0, hfz21_1, hfz21_2, hfz21_3, hfz21_4, hfz21_5, hfz21_6, hfz21_7, hfz21_8, hfz21_9, hfz21_10, hfz21_11, hfz21_12⟩ := qf13 BK647.out; obtain ⟨hcz22_0, hcz22_1, hcz22_2, hcz22_3, hcz22_4, hcz22_5, hcz22_6, hcz22_7, hcz22_8, hcz22_9, hcz22_10, hcz22_11, hcz22_12⟩ := qc13 BK648.out; obtain ⟨hfz22_0, hfz22_1, hfz22_2, hfz22_3, hfz22_4, hfz22_5, hfz22_6, hfz22_7, hfz22_8, hfz22_9, hfz22_10, hfz22_11, hfz22_12⟩ := qf13 BK648.out) | (go_at_call 55; (with_reducible refine (slices_Equal_int_int.calls k _ _ l0_8 _ _ l1_8 true _ ?side1 ?side2 ?side3 ?side4 A11.out).mono ?_); (case side1 => exact sC (Kd.C_below HR0_8.out HB.out)); (case side2 => exact HC0_8.out); (case side3 => exact sC (Kd.C_below HR1_8.out HB.out)); (case side4 => exact HC1_8.out); rintro e w' ⟨rfl, ⟨nd, rfl⟩⟩) | (go_at_call 56; (with_reducible refine (impl_Thing_56.calls k _ _ l0_11 _ _ l1_11 true _ ?side1 ?side2 ?side3 ?side4 A15.out).mono ?_); (case side1 => repeat (first | exact (Kd.C_below HR0_11.out q33t) | (with_reducible refine Kd.C_alloc ?_ _) | (with_reducible refine Kd.C_drewN ?_ _) | (with_reducible refine Kd.C_drew ?_))); (case side2 => exact HC0_11.out); (case side3 => repeat (first | exact (Kd.C_below HR1_11.out q33t) | (with_reducible refine Kd.C_alloc ?_ _) | (with_reducible refine Kd.C_drewN ?_ _) | (with_reducible refine Kd.C_drew ?_))); (case side4 => exact HC1_11.out); rintro e w' ⟨rfl, ⟨nd, rfl⟩⟩) | (go_at_call 55; (with_reducible refine (slices_Equal_int_int.calls k _ _ l0_12 _ _ l1_12 t651 _ ?side1 ?side2 ?side3 ?side4 A17.out).mono ?_); (case side1 => repeat (first | exact (Kd.C_below HR0_12.out q33t) | (with_reducible refine Kd.C_alloc ?_ _) | (with_reducible refine Kd.C_drewN ?_ _) | (with_reducible refine Kd.C_drew ?_))); (case side2 => exact HC0_12.out); (case side3 => repeat (first | exact (Kd.C_below HR1_12.out q33t) | (with_reducible refine Kd.C_alloc ?_ _) | (with_reducible refine Kd.C_drewN ?_ _) | (with_reducible refine Kd.C_drew ?_))); (case side4 => exact HC1_12.out); rintro e w' ⟨rfl, ⟨nd, rfl⟩⟩))
   go_ret
   exact ⟨q73t, q33t⟩
  replace c16 := Bool.eq_false_iff.mpr c16
  subst c16
  rw [if_neg (show ¬ (false = true) by decide)] at H
  obtain rfl := Option.some.inj H
  go_enter Try.func44, Try.ntmps44
  go_wp2_with (first | ((with_reducible refine gate_dst (N := 2) rfl ?_); refine box_ev 2 #[.int .i64 a0_0, .int .i64 a0_1, .int .i64 a0_2, .int .i64 a0_3, .int .i64 a0_4, .int .i64 a0_5, .int .i64 a0_6, .int .i64 a0_7, .slice A0_8 l0_8.length c0_8, .int .i64 a0_9, .int .i64 a0_10, .slice A0_11 l0_11.length c0_11, .slice A0_12 l0_12.length c0_12] 48 ?_; intro gb647 hg w23 hbox hb; have BK647 := Aside0.mk (hbox); have GW647 := Aside0.mk ((q48t : w.heap.size ≤ gb647)); have GE647 := Aside0.mk ((q48t : w.heap.size ≤ gb647)); replace HB := Aside0.mk (below_step q53t hb); clear hb hbox hg) | ((with_reducible refine gate_dst (N := 3) rfl ?_); refine box_ev 3 #[.int .i64 a1_0, .int .i64 a1_1, .int .i64 a1_2, .int .i64 a1_3, .int .i64 a1_4, .int .i64 a1_5, .int .i64 a1_6, .int .i64 a1_7, .slice A1_8 l1_8.length c1_8, .int .i64 a1_9, .int .i64 a1_10, .slice A1_11 l1_11.length c1_11, .slice A1_12 l1_12.length c1_12] 48 ?_; intro gb648 hg w24 hbox hb; have BK648 := Aside0.mk (hbox); have GW648 := Aside0.mk ((q26t : w.heap.size ≤ gb648)); have GE648 := Aside0.mk ((q26t : w.heap.size ≤ gb648)); replace HB := Aside0.mk (below_step q33t hb); have NB647_648 := Aside0.mk ((q79t : gb647 ≠ gb648)); have NB648_647 := Aside0.mk ((q80t : gb648 ≠ gb647)); replace BK647 := blb BK647 hb; clear hb hbox hg; have hnb25 := NB647_648.out; have hnc25 := NB648_647.out; obtain ⟨hcz26_0, hcz26_1, hcz26_2, hcz26_3, hcz26_4, hcz26_5, hcz26_6, hcz26_7, hcz26_8, hcz26_9, hcz26_10, hcz26_11, hcz26_12⟩ := qc13 BK647.out; obtain ⟨hfz26_0, hfz26_1, hfz26_2, hfz26_3, hfz26_4, hfz26_5, hfz26_6, hfz26_7, hfz26_8, hfz26_9, hfz26_10, hfz26_11, hfz26_12⟩ := qf13 BK647.out; obtain ⟨hcz27_0, hcz27_1, hcz27_2, hcz27_3, hcz27_4, hcz27_5, hcz27_6, hcz27_7, hcz27_8, hcz27_9, hcz27_10, hcz27_11, hcz27_12⟩ := qc13 BK648.out; obtain ⟨hfz27_0, hfz27_1, hfz27_2, hfz27_3, hfz27_4, hfz27_5, hfz27_6, hfz27_7, hfz27_8, hfz27_9, hfz27_10, hfz27_11, hfz27_12⟩ := qf13 BK648.out) | (go_at_call 55; (with_reducible refine (slices_Equal_int_int.calls k _ _ l0_8 _ _ l1_8 true _ ?side1 ?side2 ?side3 ?side4 A11.out).mono ?_); (case side1 => exact sC (Kd.C_below HR0_8.out HB.out)); (case side2 => exact HC0_8.out); (case side3 => exact sC (Kd.C_below HR1_8.out HB.out)); (case side4 => exact HC1_8.out); rintro e w' ⟨rfl, ⟨nd, rfl⟩⟩) | (go_at_call 56; (with_reducible refine (impl_Thing_56.calls k _ _ l0_11 _ _ l1_11 false _ ?side1 ?side2 ?side3 ?side4 A15.out).mono ?_); (case side1 => repeat (first | exact (Kd.C_below HR0_11.out q33t) | (with_reducible refine Kd.C_alloc ?_ _) | (with_reducible refine Kd.C_drewN ?_ _) | (with_reducible refine Kd.C_drew ?_))); (case side2 => exact HC0_11.out); (case side3 => repeat (first | exact (Kd.C_below HR1_11.out q33t) | (with_reducible refine Kd.C_alloc ?_ _) | (with_reducible refine Kd.C_drewN ?_ _) | (with_reducible refine Kd.C_drew ?_))); (case side4 => exact HC1_11.out); rintro e w' ⟨rfl, ⟨nd, rfl⟩⟩))
  go_ret
  exact ⟨q73t, q33t⟩
 rw [if_neg c14] at H
 have c14b0 : (a0_10 == a1_10) = false := beq_eq_false_iff_ne.mpr c14
 have c14b1 : (a0_10 != a1_10) = true := bne_iff_ne.mpr c14
 obtain rfl := Option.some.inj H
 go_enter Try.func44, Try.ntmps44
 go_wp2_with (first | ((with_reducible refine gate_dst (N := 2) rfl ?_); refine box_ev 2 #[.int .i64 a0_0, .int .i64 a0_1, .int .i64 a0_2, .int .i64 a0_3, .int .i64 a0_4, .int .i64 a0_5, .int .i64 a0_6, .int .i64 a0_7, .slice A0_8 l0_8.length c0_8, .int .i64 a0_9, .int .i64 a0_10, .slice A0_11 l0_11.length c0_11, .slice A0_12 l0_12.length c0_12] 48 ?_; intro gb647 hg w28 hbox hb; have BK647 := Aside0.mk (hbox); have GW647 := Aside0.mk ((q48t : w.heap.size ≤ gb647)); have GE647 := Aside0.mk ((q48t : w.heap.size ≤ gb647)); replace HB := Aside0.mk (below_step q53t hb); clear hb hbox hg) | ((with_reducible refine gate_dst (N := 3) rfl ?_); refine box_ev 3 #[.int .i64 a1_0, .int .i64 a1_1, .int .i64 a1_2, .int .i64 a1_3, .int .i64 a1_4, .int .i64 a1_5, .int .i64 a1_6, .int .i64 a1_7, .slice A1_8 l1_8.length c1_8, .int .i64 a1_9, .int .i64 a1_10, .slice A1_11 l1_11.length c1_11, .slice A1_12 l1_12.length c1_12] 48 ?_; intro gb648 hg w29 hbox hb; have BK648 := Aside0.mk (hbox); have GW648 := Aside0.mk ((q26t : w.heap.size ≤ gb648)); have GE648 := Aside0.mk ((q26t : w.heap.size ≤ gb648)); replace HB := Aside0.mk (below_step q33t hb); have NB647_648 := Aside0.mk ((q79t : gb647 ≠ gb648)); have NB648_647 := Aside0.mk ((q80t : gb648 ≠ gb647)); replace BK647 := blb BK647 hb; clear hb hbox hg; have hnb30 := NB647_648.out; have hnc30 := NB648_647.out; obtain ⟨hcz31_0, hcz31_1, hcz31_2, hcz31_3, hcz31_4, hcz31_5, hcz31_6, hcz31_7, hcz31_8, hcz31_9, hcz31_10, hcz31_11, hcz31_12⟩ := qc13 BK647.out; obtain ⟨hfz31_0, hfz31_1, hfz31_2, hfz31_3, hfz31_4, hfz31_5, hfz31_6, hfz31_7, hfz31_8, hfz31_9, hfz31_10, hfz31_11, hfz31_12⟩ := qf13 BK647.out; obtain ⟨hcz32_0, hcz32_1, hcz32_2, hcz32_3, hcz32_4, hcz32_5, hcz32_6, hcz32_7, hcz32_8, hcz32_9, hcz32_10, hcz32_11, hcz32_12⟩ := qc13 BK648.out; obtain ⟨hfz32_0, hfz32_1, hfz32_2, hfz32_3, hfz32_4, hfz32_5, hfz32_6, hfz32_7, hfz32_8, hfz32_9, hfz32_10, hfz32_11, hfz32_12⟩ := qf13 BK648.out) | (go_at_call 55; (with_reducible refine (slices_Equal_int_int.calls k _ _ l0_8 _ _ l1_8 true _ ?side1 ?side2 ?side3 ?side4 A11.out).mono ?_); (case side1 => exact sC (Kd.C_below HR0_8.out HB.out)); (case side2 => exact HC0_8.out); (case side3 => exact sC (Kd.C_below HR1_8.out HB.out)); (case side4 => exact HC1_8.out); rintro e w' ⟨rfl, ⟨nd, rfl⟩⟩))
 go_ret
 exact ⟨q73t, q33t⟩

/-! ### impl_Node_43: function 43 -/
def impl_Node_43.l0 : Nat → List (S48) → List (S48) → Int → Int → Option (Bool)
 | 0, _, _, _, _ => none
 | k + 1, x1, x15, x16, x17 => if x17 < x16 then (if 0 ≤ x17 then (if x17 < (x15.length : Int) then (if x17 < (x1.length : Int) then ((impl_SameNode.f k ((rd_T48 x15 x17).f0) ((rd_T48 x15 x17).f1) ((rd_T48 x15 x17).f2) ((rd_T48 x15 x17).f3) ((rd_T48 x15 x17).f4) ((rd_T48 x15 x17).f5) ((rd_T48 x15 x17).f6) ((rd_T48 x15 x17).f7) ((rd_T48 x15 x17).f8) ((rd_T48 x15 x17).f9) ((rd_T48 x15 x17).f10) ((rd_T48 x15 x17).f11) ((rd_T48 x15 x17).f12) ((rd_T48 x1 x17).f0) ((rd_T48 x1 x17).f1) ((rd_T48 x1 x17).f2) ((rd_T48 x1 x17).f3) ((rd_T48 x1 x17).f4) ((rd_T48 x1 x17).f5) ((rd_T48 x1 x17).f6) ((rd_T48 x1 x17).f7) ((rd_T48 x1 x17).f8) ((rd_T48 x1 x17).f9) ((rd_T48 x1 x17).f10) ((rd_T48 x1 x17).f11) ((rd_T48 x1 x17).f12)).bind fun t656 => (if t656 = true then (impl_Node_43.l0 k x1 x15 x16 (wrap64 (x17 + 1))) else (some false))) else (none)) else (none)) else (none)) else (some true)
def impl_Node_43.f (k : Nat) (l0 : List (S48)) (l1 : List (S48))  : Option (Bool) := if (l0.length : Int) = (l1.length : Int) then (impl_Node_43.l0 k l1 l0 (l0.length : Int) 0) else (some false)
theorem impl_Node_43.mono_l : ∀ k, (∀ y0 y1 y2 y3, LeO (impl_Node_43.l0 k y0 y1 y2 y3) (impl_Node_43.l0 (k + 1) y0 y1 y2 y3))
 | 0 => fun _ _ _ _ r h => by simp [impl_Node_43.l0] at h
 | k + 1 => by
  have ih0 := impl_Node_43.mono_l k
  ·intro y0 y1 y2 y3
   unfold impl_Node_43.l0
   repeat' first
   | (with_reducible exact ih0 _ _ _ _)
   | (with_reducible exact impl_SameNode.mono _ _ _ _ _ _ _ _ _ _ _ _ _ _ _ _ _ _ _ _ _ _ _ _ _ _ _)
   | (with_reducible exact LeO.refl _)
   | (with_reducible exact LeO.none _)
   | (with_reducible refine LeO.ite ?_ ?_)
   | (with_reducible refine LeO.bind ?_ (fun _ => ?_))
   | exact ih0 _ _ _ _
   | exact impl_SameNode.mono _ _ _ _ _ _ _ _ _ _ _ _ _ _ _ _ _ _ _ _ _ _ _ _ _ _ _
   | exact LeO.none _
   | refine LeO.ite ?_ ?_
   | refine LeO.bind ?_ (fun _ => ?_)
theorem impl_Node_43.mono : ∀ a0 a1 k, LeO (impl_Node_43.f k a0 a1) (impl_Node_43.f (k + 1) a0 a1) := by
 intro a0 a1 k
 have ih0 := impl_Node_43.mono_l k
 unfold impl_Node_43.f
 repeat' first
   | (with_reducible exact ih0 _ _ _ _)
   | (with_reducible exact impl_SameNode.mono _ _ _ _ _ _ _ _ _ _ _ _ _ _ _ _ _ _ _ _ _ _ _ _ _ _ _)
   | (with_reducible exact LeO.refl _)
   | (with_reducible exact LeO.none _)
   | (with_reducible refine LeO.ite ?_ ?_)
   | (with_reducible refine LeO.bind ?_ (fun _ => ?_))
   | exact ih0 _ _ _ _
   | exact impl_SameNode.mono _ _ _ _ _ _ _ _ _ _ _ _ _ _ _ _ _ _ _ _ _ _ _ _ _ _ _
   | exact LeO.none _
   | refine LeO.ite ?_ ?_
   | refine LeO.bind ?_ (fun _ => ?_)
set_option maxHeartbeats 8000000 in
set_option maxRecDepth 100000 in
theorem impl_Node_43.calls (k : Nat) (A0 : Option Addr) (c0 : Nat) (l0 : List (S48)) (A1 : Option Addr) (c1 : Nat) (l1 : List (S48))  (r : Bool) (w : World) (hr0 : Kd.C k48 w A0 l0.length l0) (hc0 : l0.length ≤ c0) (hr1 : Kd.C k48 w A1 l1.length l1) (hc1 : l1.length ≤ c1) (h : impl_Node_43.f k l0 l1 = some r) :
  Calls Try.prog 43 #[.slice A0 l0.length c0, .slice A1 l1.length c1, .func (.func 44) #[] #[]] w fun e w' => e = .returned (.bool r) ∧ Below w.heap.size w w' := by
 have hu48 := Try.underlying48
 have HR0 := Aside0.mk hr0
 have HC0 := Aside0.mk hc0
 clear hr0 hc0
 have HR1 := Aside0.mk hr1
 have HC1 := Aside0.mk hc1
 clear hr1 hc1
 have HB := Aside0.mk (Below.refl w.heap.size w)
 have H : (if (l0.length : Int) = (l1.length : Int) then (impl_Node_43.l0 k l1 l0 (l0.length : Int) 0) else (some false)) = some r := h
 clear h
 by_cases c4 : (l0.length : Int) = (l1.length : Int)
 rotate_left
 ·rw [if_neg c4] at H
  have c4b0 : ((l0.length : Int) == (l1.length : Int)) = false := beq_eq_false_iff_ne.mpr c4
  have c4b1 : ((l0.length : Int) != (l1.length : Int)) = true := bne_iff_ne.mpr c4
  have c4b2 : (l0.length == l1.length) = false := by first | simpa using c4 | (simp at c4 ⊢; omega)
  obtain rfl := Option.some.inj H
  go_enter Try.func43, Try.ntmps43
  go_wp2
  go_ret
  exact ⟨q73t, q53t⟩
 rw [if_pos c4] at H
 have c4b0 : ((l0.length : Int) == (l1.length : Int)) = true := beq_iff_eq.mpr c4
 have c4b1 : ((l0.length : Int) != (l1.length : Int)) = false := bne_eq_false_iff_eq.mpr c4
 have c4b2 : (l0.length == l1.length) = true := by first | simpa using c4 | (simp at c4 ⊢; omega)
 clear c4
 have H' := Aside0.mk H
 clear H
 go_enter Try.func43, Try.ntmps43
 go_wp2
 go_loopg [17] k (fun kq v17 w' => ∃ (x17_1 : Int), v17 = .int .i64 x17_1 ∧ Aside0 (impl_Node_43.l0 kq l1 l0 (l0.length : Int) x17_1 = some r) ∧ Aside0 (kq ≤ k) ∧ Aside0 (Below w.heap.size w w'))
 case atStart => exact ⟨(0), q81t, H', ⟨Nat.le_refl _⟩, ⟨q53t⟩⟩
 case round =>
  clear H'
  try clear c1
  try clear p2
  try clear c4
  try clear c4b0
  try clear c4b1
  try clear c4b2
  obtain ⟨x17_1, rfl, HA, HK1, HB⟩ := hrel
  cases gk with
  | zero => exact absurd HA.out (by simp [impl_Node_43.l0])
  | succ k1 =>
   have H := HA.out
   clear HA
   simp only [impl_Node_43.l0] at H
   by_cases c5 : x17_1 < (l0.length : Int)
   rotate_left
   ·rw [if_neg c5] at H
    have c5b0 : decide (x17_1 < (l0.length : Int)) = false := decide_eq_false c5
    clear c5
    obtain rfl := Option.some.inj H
    go_wp2
    go_ret
    exact ⟨q73t, q53t⟩
   rw [if_pos c5] at H
   have c5b0 : decide (x17_1 < (l0.length : Int)) = true := decide_eq_true c5
   clear c5
   by_cases c6 : 0 ≤ x17_1
   rotate_left
   ·rw [if_neg c6] at H
    exact absurd H q87t
   rw [if_pos c6] at H
   have c6b0 : decide (0 ≤ x17_1) = true := decide_eq_true c6
   clear c6
   by_cases c7 : x17_1 < (l0.length : Int)
   rotate_left
   ·rw [if_neg c7] at H
    exact absurd H q87t
   rw [if_pos c7] at H
   have c7b0 : decide (x17_1 < (l0.length : Int)) = true := decide_eq_true c7
   clear c7
   by_cases c8 : x17_1 < (l1.length : Int)
   rotate_left
   ·rw [if_neg c8] at H
    exact absurd H q87t
   rw [if_pos c8] at H
   have c8b0 : decide (x17_1 < (l1.length : Int)) = true := decide_eq_true c8
   clear c8
   replace H := Option.bind_eq_some_iff.mp H
   obtain ⟨t656, A90, H⟩ := H
   try dsimp only at H
   have A9 := Aside0.mk A90
   clear A90
   by_cases c10 : t656 = true
   ·subst c10
    rw [if_pos rfl] at H
    have H' := Aside0.mk H
    clear H
    have p652 : 0 ≤ (x17_1 : Int) := of_decide_eq_true q76t
    have q652 : x17_1 < (l0.length : Int) := of_decide_eq_true q76t
    obtain ⟨ad652, A652_8, c652_8, A652_11, c652_11, A652_12, c652_12, e652, hx652_0, hx652_1, hx652_2, hx652_3, hx652_4, hx652_5, hx652_6, hx652_7, hx652_8, hx652_9, hx652_10, hx652_11, hx652_12, hl652_8, hi652_8, hl652_11, hi652_11, hl652_12, hi652_12⟩ := at_T48 HR0.out x17_1 p652 q652
    cases e652
    replace hx652_0 := hbt HB hx652_0
    replace hx652_1 := hbt HB hx652_1
    replace hx652_2 := hbt HB hx652_2
    replace hx652_3 := hbt HB hx652_3
    replace hx652_4 := hbt HB hx652_4
    replace hx652_5 := hbt HB hx652_5
    replace hx652_6 := hbt HB hx652_6
    replace hx652_7 := hbt HB hx652_7
    replace hx652_8 := hbt HB hx652_8
    replace hx652_9 := hbt HB hx652_9
    replace hx652_10 := hbt HB hx652_10
    replace hx652_11 := hbt HB hx652_11
    replace hx652_12 := hbt HB hx652_12
    have HR652_8 := Aside0.mk hi652_8
    have HC652_8 := Aside0.mk hl652_8
    clear hi652_8 hl652_8
    have HR652_11 := Aside0.mk hi652_11
    have HC652_11 := Aside0.mk hl652_11
    clear hi652_11 hl652_11
    have HR652_12 := Aside0.mk hi652_12
    have HC652_12 := Aside0.mk hl652_12
    clear hi652_12 hl652_12
    replace p652 := eq_true p652
    replace q652 := eq_true q652
    go_wp2_with (first | ((with_reducible refine gate_dst (N := 8) rfl ?_); refine box_ev 8 #[.int .i64 0, .int .i64 0, .int .i64 0, .int .i64 0, .int .i64 0, .int .i64 0, .int .i64 0, .int .i64 0, .slice none 0 0, .int .i64 0, .int .i64 0, .slice none 0 0, .slice none 0 0] 48 ?_; intro gb653 hg w11 hbox hb; have BK653 := Aside0.mk (hbox); have GW653 := Aside0.mk ((q48t : w.heap.size ≤ gb653)); have GE653 := Aside0.mk ((q48t : w.heap.size ≤ gb653)); replace HB := Aside0.mk (below_step q53t hb); clear hb hbox hg; obtain ⟨hcz12_0, hcz12_1, hcz12_2, hcz12_3, hcz12_4, hcz12_5, hcz12_6, hcz12_7, hcz12_8, hcz12_9, hcz12_10, hcz12_11, hcz12_12⟩ := qc13 BK653.out; obtain ⟨hfz12_0, hfz12_1, hfz12_2, hfz12_3, hfz12_4, hfz12_5, hfz12_6, hfz12_7, hfz12_8, hfz12_9, hfz12_10, hfz12_11, hfz12_12⟩ := qf13 BK653.out; have p654 : 0 ≤ (x17_1 : Int) := of_decide_eq_true q76t; have q654 : x17_1 < (l1.length : Int) := of_decide_eq_true q76t; obtain ⟨ad654, A654_8, c654_8, A654_11, c654_11, A654_12, c654_12, e654, hx654_0, hx654_1, hx654_2, hx654_3, hx654_4, hx654_5, hx654_6, hx654_7, hx654_8, hx654_9, hx654_10, hx654_11, hx654_12, hl654_8, hi654_8, hl654_11, hi654_11, hl654_12, hi654_12⟩ := at_T48 HR1.out x17_1 p654 q654; cases e654; have hn654_0 : ad654.block ≠ gb653 := Nat.ne_of_lt (Nat.lt_of_lt_of_le q74t GW653.out); have hn654_1 : ad654.block ≠ gb653 := Nat.ne_of_lt (Nat.lt_of_lt_of_le q74t GW653.out); have hn654_2 : ad654.block ≠ gb653 := Nat.ne_of_lt (Nat.lt_of_lt_of_le q74t GW653.out); have hn654_3 : ad654.block ≠ gb653 := Nat.ne_of_lt (Nat.lt_of_lt_of_le q74t GW653.out); have hn654_4 : ad654.block ≠ gb653 := Nat.ne_of_lt (Nat.lt_of_lt_of_le q74t GW653.out); have hn654_5 : ad654.block ≠ gb653 := Nat.ne_of_lt (Nat.lt_of_lt_of_le q74t GW653.out); have hn654_6 : ad654.block ≠ gb653 := Nat.ne_of_lt (Nat.lt_of_lt_of_le q74t GW653.out); have hn654_7 : ad654.block ≠ gb653 := Nat.ne_of_lt (Nat.lt_of_lt_of_le q74t GW653.out); have hn654_8 : ad654.block ≠ gb653 := Nat.ne_of_lt (Nat.lt_of_lt_of_le q74t GW653.out); have hn654_9 : ad654.block ≠ gb653 := Nat.ne_of_lt (Nat.lt_of_lt_of_le q74t GW653.out); have hn654_10 : ad654.block ≠ gb653 := Nat.ne_of_lt (Nat.lt_of_lt_of_le q74t GW653.out); have hn654_11 : ad654.block ≠ gb653 := Nat.ne_of_lt (Nat.lt_of_lt_of_le q74t GW653.out); have hn654_12 : ad654.block ≠ gb653 := Nat.ne_of_lt (Nat.lt_of_lt_of_le q74t GW653.out); replace hx654_0 := hbt HB hx654_0; replace hx654_1 := hbt HB hx654_1; replace hx654_2 := hbt HB hx654_2; replace hx654_3 := hbt HB hx654_3; replace hx654_4 := hbt HB hx654_4; replace hx654_5 := hbt HB hx654_5; replace hx654_6 := hbt HB hx654_6; replace hx654_7 := hbt HB hx654_7; replace hx654_8 := hbt HB hx654_8; replace hx654_9 := hbt HB hx654_9; replace hx654_10 := hbt HB hx654_10; replace hx654_11 := hbt HB hx654_11; replace hx654_12 := hbt HB hx654_12; have HR654_8 := Aside0.mk hi654_8; have HC654_8 := Aside0.mk hl654_8; clear hi654_8 hl654_8; have HR654_11 := Aside0.mk hi654_11; have HC654_11 := Aside0.mk hl654_11; clear hi654_11 hl654_11; have HR654_12 := Aside0.mk hi654_12; have HC654_12 := Aside0.mk hl654_12; clear hi654_12 hl654_12; have nf_ := cf13 ⟨gb653, 0, none⟩ (.int .i64 ((rd_T48 l0 x17_1).f0)) hx654_0 hx654_1 hx654_2 hx654_3 hx654_4 hx654_5 hx654_6 hx654_7 hx654_8 hx654_9 hx654_10 hx654_11 hx654_12; clear hx654_0 hx654_1 hx654_2 hx654_3 hx654_4 hx654_5 hx654_6 hx654_7 hx654_8 hx654_9 hx654_10 hx654_11 hx654_12; obtain ⟨hx654_0, hx654_1, hx654_2, hx654_3, hx654_4, hx654_5, hx654_6, hx654_7, hx654_8, hx654_9, hx654_10, hx654_11, hx654_12⟩ := nf_; have nf_ := cf13 ⟨gb653, 1, none⟩ (.int .i64 ((rd_T48 l0 x17_1).f1)) hx654_0 hx654_1 hx654_2 hx654_3 hx654_4 hx654_5 hx654_6 hx654_7 hx654_8 hx654_9 hx654_10 hx654_11 hx654_12; clear hx654_0 hx654_1 hx654_2 hx654_3 hx654_4 hx654_5 hx654_6 hx654_7 hx654_8 hx654_9 hx654_10 hx654_11 hx654_12; obtain ⟨hx654_0, hx654_1, hx654_2, hx654_3, hx654_4, hx654_5, hx654_6, hx654_7, hx654_8, hx654_9, hx654_10, hx654_11, hx654_12⟩ := nf_; have nf_ := cf13 ⟨gb653, 2, none⟩ (.int .i64 ((rd_T48 l0 x17_1).f2)) hx654_0 hx654_1 hx654_2 hx654_3 hx654_4 hx654_5 hx654_6 hx654_7 hx654_8 hx654_9 hx654_10 hx654_11 hx654_12; clear hx654_0 hx654_1 hx654_2 hx654_3 hx654_4 hx654_5 hx654_6 hx654_7 hx654_8 hx654_9 hx654_10 hx654_11 hx654_12; obtain ⟨hx654_0, hx654_1, hx654_2, hx654_3, hx654_4, hx654_5, hx654_6, hx654_7, hx654_8, hx654_9, hx654_10, hx654_11, hx654_12⟩ := nf_; have nf_ := cf13 ⟨gb653, 3, none⟩ (.int .i64 ((rd_T48 l0 x17_1).f3)) hx654_0 hx654_1 hx654_2 hx654_3 hx654_4 hx654_5 hx654_6 hx654_7 hx654_8 hx654_9 hx654_10 hx654_11 hx654_12; clear hx654_0 hx654_1 hx654_2 hx654_3 hx654_4 hx654_5 hx654_6 hx654_7 hx654_8 hx654_9 hx654_10 hx654_11 hx654_12; obtain ⟨hx654_0, hx654_1, hx654_2, hx654_3, hx654_4, hx654_5, hx654_6, hx654_7, hx654_8, hx654_9, hx654_10, hx654_11, hx654_12⟩ := nf_; have nf_ := cf13 ⟨gb653, 4, none⟩ (.int .i64 ((rd_T48 l0 x17_1).f4)) hx654_0 hx654_1 hx654_2 hx654_3 hx654_4 hx654_5 hx654_6 hx654_7 hx654_8 hx654_9 hx654_10 hx654_11 hx654_12; clear hx654_0 hx654_1 hx654_2 hx654_3 hx654_4 hx654_5 hx654_6 hx654_7 hx654_8 hx654_9 hx654_10 hx654_11 hx654_12; obtain ⟨hx654_0, hx654_1, hx654_2, hx654_3, hx654_4, hx654_5, hx654_6, hx654_7, hx654_8, hx654_9, hx654_10, hx654_11, hx654_12⟩ := nf_; have nf_ := cf13 ⟨gb653, 5, none⟩ (.int .i64 ((rd_T48 l0 x17_1).f5)) hx654_0 hx654_1 hx654_2 hx654_3 hx654_4 hx654_5 hx654_6 hx654_7 hx654_8 hx654_9 hx654_10 hx654_11 hx654_12; clear hx654_0 hx654_1 hx654_2 hx654_3 hx654_4 hx654_5 hx654_6 hx654_7 hx654_8 hx654_9 hx654_10 hx654_11 hx654_12; obtain ⟨hx654_0, hx654_1, hx654_2, hx654_3, hx654_4, hx654_5, hx654_6, hx654_7, hx654_8, hx654_9, hx654_10, hx654_11, hx654_12⟩ := nf_; have nf_ := cf13 ⟨gb653, 6, none⟩ (.int .i64 ((rd_T48 l0 x17_1).f6)) hx654_0 hx654_1 hx654_2 hx654_3 hx654_4 hx654_5 hx654_6 hx654_7 hx654_8 hx654_9 hx654_10 hx654_11 hx654_12; clear hx654_0 hx654_1 hx654_2 hx654_3 hx654_4 hx654_5 hx654_6 hx654_7 hx654_8 hx654_9 hx654_10 hx654_11 hx654_12; obtain ⟨hx654_0, hx654_1, hx654_2, hx654_3, hx654_4, hx654_5, hx654_6, hx654_7, hx654_8, hx654_9, hx654_10, hx654_11, hx654_12⟩ := nf_; have nf_ := cf13 ⟨gb653, 7, none⟩ (.int .i64 ((rd_T48 l0 x17_1).f7)) hx654_0 hx654_1 hx654_2 hx654_3 hx654_4 hx654_5 hx654_6 hx654_7 hx654_8 hx654_9 hx654_10 hx654_11 hx654_12; clear hx654_0 hx654_1 hx654_2 hx654_3 hx654_4 hx654_5 hx654_6 hx654_7 hx654_8 hx654_9 hx654_10 hx654_11 hx654_12; obtain ⟨hx654_0, hx654_1, hx654_2, hx654_3, hx654_4, hx654_5, hx654_6, hx654_7, hx654_8, hx654_9, hx654_10, hx654_11, hx654_12⟩ := nf_; have nf_ := cf13 ⟨gb653, 8, none⟩ (.slice A652_8 ((rd_T48 l0 x17_1).f8).length c652_8) hx654_0 hx654_1 hx654_2 hx654_3 hx654_4 hx654_5 hx654_6 hx654_7 hx654_8 hx654_9 hx654_10 hx654_11 hx654_12; clear hx654_0 hx654_1 hx654_2 hx654_3 hx654_4 hx654_5 hx654_6 hx654_7 hx654_8 hx654_9 hx654_10 hx654_11 hx654_12; obtain ⟨hx654_0, hx654_1, hx654_2, hx654_3, hx654_4, hx654_5, hx654_6, hx654_7, hx654_8, hx654_9, hx654_10, hx654_11, hx654_12⟩ := nf_; have nf_ := cf13 ⟨gb653, 9, none⟩ (.int .i64 ((rd_T48 l0 x17_1).f9)) hx654_0 hx654_1 hx654_2 hx654_3 hx654_4 hx654_5 hx654_6 hx654_7 hx654_8 hx654_9 hx654_10 hx654_11 hx654_12; clear hx654_0 hx654_1 hx654_2 hx654_3 hx654_4 hx654_5 hx654_6 hx654_7 hx654_8 hx654_9 hx654_10 hx654_11 hx654_12; obtain ⟨hx654_0, hx654_1, hx654_2, hx654_3, hx654_4, hx654_5, hx654_6, hx654_7, hx654_8, hx654_9, hx654_10, hx654_11, hx654_12⟩ := nf_; have nf_ := cf13 ⟨gb653, 10, none⟩ (.int .i64 ((rd_T48 l0 x17_1).f10)) hx654_0 hx654_1 hx654_2 hx654_3 hx654_4 hx654_5 hx654_6 hx654_7 hx654_8 hx654_9 hx654_10 hx654_11 hx654_12; clear hx654_0 hx654_1 hx654_2 hx654_3 hx654_4 hx654_5 hx654_6 hx654_7 hx654_8 hx654_9 hx654_10 hx654_11 hx654_12; obtain ⟨hx654_0, hx654_1, hx654_2, hx654_3, hx654_4, hx654_5, hx654_6, hx654_7, hx654_8, hx654_9, hx654_10, hx654_11, hx654_12⟩ := nf_; have nf_ := cf13 ⟨gb653, 11, none⟩ (.slice A652_11 ((rd_T48 l0 x17_1).f11).length c652_11) hx654_0 hx654_1 hx654_2 hx654_3 hx654_4 hx654_5 hx654_6 hx654_7 hx654_8 hx654_9 hx654_10 hx654_11 hx654_12; clear hx654_0 hx654_1 hx654_2 hx654_3 hx654_4 hx654_5 hx654_6 hx654_7 hx654_8 hx654_9 hx654_10 hx654_11 hx654_12; obtain ⟨hx654_0, hx654_1, hx654_2, hx654_3, hx654_4, hx654_5, hx654_6, hx654_7, hx654_8, hx654_9, hx654_10, hx654_11, hx654_12⟩ := nf_; have nf_ := cf13 ⟨gb653, 12, none⟩ (.slice A652_12 ((rd_T48 l0 x17_1).f12).length c652_12) hx654_0 hx654_1 hx654_2 hx654_3 hx654_4 hx654_5 hx654_6 hx654_7 hx654_8 hx654_9 hx654_10 hx654_11 hx654_12; clear hx654_0 hx654_1 hx654_2 hx654_3 hx654_4 hx654_5 hx654_6 hx654_7 hx654_8 hx654_9 hx654_10 hx654_11 hx654_12; obtain ⟨hx654_0, hx654_1, hx654_2, hx654_3, hx654_4, hx654_5, hx654_6, hx654_7, hx654_8, hx654_9, hx654_10, hx654_11, hx654_12⟩ := nf_; clear hn654_0; clear hn654_1; clear hn654_2; clear hn654_3; clear hn654_4; clear hn654_5; clear hn654_6; clear hn654_7; clear hn654_8; clear hn654_9; clear hn654_10; clear hn654_11; clear hn654_12; replace p654 := eq_true p654; replace q654 := eq_true q654) | ((with_reducible refine gate_dst (N := 9) rfl ?_); refine box_ev 9 #[.int .i64 0, .int .i64 0, .int .i64 0, .int .i64 0, .int .i64 0, .int .i64 0, .int .i64 0, .int .i64 0, .slice none 0 0, .int .i64 0, .int .i64 0, .slice none 0 0, .slice none 0 0] 48 ?_; intro gb655 hg w13 hbox hb; have BK655 := Aside0.mk (hbox); have GW655 := Aside0.mk ((q26t : w.heap.size ≤ gb655)); have GE655 := Aside0.mk ((q26t : w.heap.size ≤ gb655)); replace HB := Aside0.mk (below_step q33t hb); have NB653_655 := Aside0.mk ((by rw [hg]; exact Nat.ne_of_lt (blk_lt (qbp BK653)) : gb653 ≠ gb655)); have NB655_653 := Aside0.mk ((by rw [hg]; exact Nat.ne_of_gt (blk_lt (qbp BK653)) : gb655 ≠ gb653)); replace BK653 := blp BK653 hb; clear hb hbox hg; have hnb14 := NB655_653.out; have hnc14 := NB653_655.out; obtain ⟨hcz15_0, hcz15_1, hcz15_2, hcz15_3, hcz15_4, hcz15_5, hcz15_6, hcz15_7, hcz15_8, hcz15_9, hcz15_10, hcz15_11, hcz15_12⟩ := qc13 BK655.out; obtain ⟨hfz15_0, hfz15_1, hfz15_2, hfz15_3, hfz15_4, hfz15_5, hfz15_6, hfz15_7, hfz15_8, hfz15_9, hfz15_10, hfz15_11, hfz15_12⟩ := qf13 BK655.out; obtain ⟨hcz16_0, hcz16_1, hcz16_2, hcz16_3, hcz16_4, hcz16_5, hcz16_6, hcz16_7, hcz16_8, hcz16_9, hcz16_10, hcz16_11, hcz16_12⟩ := qc13 BK653.out; obtain ⟨hfz16_0, hfz16_1, hfz16_2, hfz16_3, hfz16_4, hfz16_5, hfz16_6, hfz16_7, hfz16_8, hfz16_9, hfz16_10, hfz16_11, hfz16_12⟩ := qf13 BK653.out) | (go_at_call 44; (with_reducible refine (impl_SameNode.calls k1 ((rd_T48 l0 x17_1).f0) ((rd_T48 l0 x17_1).f1) ((rd_T48 l0 x17_1).f2) ((rd_T48 l0 x17_1).f3) ((rd_T48 l0 x17_1).f4) ((rd_T48 l0 x17_1).f5) ((rd_T48 l0 x17_1).f6) ((rd_T48 l0 x17_1).f7) _ _ ((rd_T48 l0 x17_1).f8) ((rd_T48 l0 x17_1).f9) ((rd_T48 l0 x17_1).f10) _ _ ((rd_T48 l0 x17_1).f11) _ _ ((rd_T48 l0 x17_1).f12) ((rd_T48 l1 x17_1).f0) ((rd_T48 l1 x17_1).f1) ((rd_T48 l1 x17_1).f2) ((rd_T48 l1 x17_1).f3) ((rd_T48 l1 x17_1).f4) ((rd_T48 l1 x17_1).f5) ((rd_T48 l1 x17_1).f6) ((rd_T48 l1 x17_1).f7) _ _ ((rd_T48 l1 x17_1).f8) ((rd_T48 l1 x17_1).f9) ((rd_T48 l1 x17_1).f10) _ _ ((rd_T48 l1 x17_1).f11) _ _ ((rd_T48 l1 x17_1).f12) true _ ?side1 ?side2 ?side3 ?side4 ?side5 ?side6 ?side7 ?side8 ?side9 ?side10 ?side11 ?side12 A9.out).mono ?_); (case side1 => exact Kd.C_below HR652_8.out q33t); (case side2 => exact HC652_8.out); (case side3 => exact Kd.C_below HR652_11.out q33t); (case side4 => exact HC652_11.out); (case side5 => exact Kd.C_below HR652_12.out q33t); (case side6 => exact HC652_12.out); (case side7 => exact Kd.C_below HR654_8.out q33t); (case side8 => exact HC654_8.out); (case side9 => exact Kd.C_below HR654_11.out q33t); (case side10 => exact HC654_11.out); (case side11 => exact Kd.C_below HR654_12.out q33t); (case side12 => exact HC654_12.out); rintro e w17 ⟨rfl, hb⟩; replace BK653 := Aside0.mk (blk_below (g := gb653) (o := .cells #[.int .i64 ((rd_T48 l0 x17_1).f0), .int .i64 ((rd_T48 l0 x17_1).f1), .int .i64 ((rd_T48 l0 x17_1).f2), .int .i64 ((rd_T48 l0 x17_1).f3), .int .i64 ((rd_T48 l0 x17_1).f4), .int .i64 ((rd_T48 l0 x17_1).f5), .int .i64 ((rd_T48 l0 x17_1).f6), .int .i64 ((rd_T48 l0 x17_1).f7), .slice A652_8 ((rd_T48 l0 x17_1).f8).length c652_8, .int .i64 ((rd_T48 l0 x17_1).f9), .int .i64 ((rd_T48 l0 x17_1).f10), .slice A652_11 ((rd_T48 l0 x17_1).f11).length c652_11, .slice A652_12 ((rd_T48 l0 x17_1).f12).length c652_12] 48 (0, 0)) (by (with_reducible repeat (first | refine blk_drewN ?_ _ | refine blk_drew ?_ | refine blk_alloc ?_ _)); refine blk_far ?_ NB653_655.out _; (with_reducible repeat (first | refine blk_drewN ?_ _ | refine blk_drew ?_ | refine blk_alloc ?_ _)); refine blk_far ?_ NB653_655.out _; (with_reducible repeat (first | refine blk_drewN ?_ _ | refine blk_drew ?_ | refine blk_alloc ?_ _)); refine blk_far ?_ NB653_655.out _; (with_reducible repeat (first | refine blk_drewN ?_ _ | refine blk_drew ?_ | refine blk_alloc ?_ _)); refine blk_far ?_ NB653_655.out _; (with_reducible repeat (first | refine blk_drewN ?_ _ | refine blk_drew ?_ | refine blk_alloc ?_ _)); refine blk_far ?_ NB653_655.out _; (with_reducible repeat (first | refine blk_drewN ?_ _ | refine blk_drew ?_ | refine blk_alloc ?_ _)); refine blk_far ?_ NB653_655.out _; (with_reducible repeat (first | refine blk_drewN ?_ _ | refine blk_drew ?_ | refine blk_alloc ?_ _)); refine blk_far ?_ NB653_655.out _; (with_reducible repeat (first | refine blk_drewN ?_ _ | refine blk_drew ?_ | refine blk_alloc ?_ _)); refine blk_far ?_ NB653_655.out _; (with_reducible repeat (first | refine blk_drewN ?_ _ | refine blk_drew ?_ | refine blk_alloc ?_ _)); refine blk_far ?_ NB653_655.out _; (with_reducible repeat (first | refine blk_drewN ?_ _ | refine blk_drew ?_ | refine blk_alloc ?_ _)); refine blk_far ?_ NB653_655.out _; (with_reducible repeat (first | refine blk_drewN ?_ _ | refine blk_drew ?_ | refine blk_alloc ?_ _)); refine blk_far ?_ NB653_655.out _; (with_reducible repeat (first | refine blk_drewN ?_ _ | refine blk_drew ?_ | refine blk_alloc ?_ _)); refine blk_far ?_ NB653_655.out _; (with_reducible repeat (first | refine blk_drewN ?_ _ | refine blk_drew ?_ | refine blk_alloc ?_ _)); refine blk_far ?_ NB653_655.out _; (with_reducible repeat (first | refine blk_drewN ?_ _ | refine blk_drew ?_ | refine blk_alloc ?_ _)); exact BK653.out) hb); replace BK655 := blp BK655 hb; replace HB := Aside0.mk (below_step q33t hb); (try clear hb); (try clear hb2); (try clear hk); (try clear hi)))
    go_roundg k1
    case measure => have := HK1.out; omega
    case rel => exact ⟨(wrap64 (x17_1 + 1)), q81t, H', ⟨q84t⟩, ⟨q33t⟩⟩
   replace c10 := Bool.eq_false_iff.mpr c10
   subst c10
   rw [if_neg (show ¬ (false = true) by decide)] at H
   obtain rfl := Option.some.inj H
   have p652 : 0 ≤ (x17_1 : Int) := of_decide_eq_true q76t
   have q652 : x17_1 < (l0.length : Int) := of_decide_eq_true q76t
   obtain ⟨ad652, A652_8, c652_8, A652_11, c652_11, A652_12, c652_12, e652, hx652_0, hx652_1, hx652_2, hx652_3, hx652_4, hx652_5, hx652_6, hx652_7, hx652_8, hx652_9, hx652_10, hx652_11, hx652_12, hl652_8, hi652_8, hl652_11, hi652_11, hl652_12, hi652_12⟩ := at_T48 HR0.out x17_1 p652 q652
   cases e652
   replace hx652_0 := hbt HB hx652_0
   replace hx652_1 := hbt HB hx652_1
   replace hx652_2 := hbt HB hx652_2
   replace hx652_3 := hbt HB hx652_3
   replace hx652_4 := hbt HB hx652_4
   replace hx652_5 := hbt HB hx652_5
   replace hx652_6 := hbt HB hx652_6
   replace hx652_7 := hbt HB hx652_7
   replace hx652_8 := hbt HB hx652_8
   replace hx652_9 := hbt HB hx652_9
   replace hx652_10 := hbt HB hx652_10
   replace hx652_11 := hbt HB hx652_11
   replace hx652_12 := hbt HB hx652_12
   have HR652_8 := Aside0.mk hi652_8
   have HC652_8 := Aside0.mk hl652_8
   clear hi652_8 hl652_8
   have HR652_11 := Aside0.mk hi652_11
   have HC652_11 := Aside0.mk hl652_11
   clear hi652_11 hl652_11
   have HR652_12 := Aside0.mk hi652_12
   have HC652_12 := Aside0.mk hl652_12
   clear hi652_12 hl652_12
   replace p652 := eq_true p652
   replace q652 := eq_true q652
   go_wp2_with (first | ((with_reducible refine gate_dst (N := 8) rfl ?_); refine box_ev 8 #[.int .i64 0, .int .i64 0, .int .i64 0, .int .i64 0, .int .i64 0, .int .i64 0, .int .i64 0, .int .i64 0, .slice none 0 0, .int .i64 0, .int .i64 0, .slice none 0 0, .slice none 0 0] 48 ?_; intro gb653 hg w18 hbox hb; have BK653 := Aside0.mk (hbox); have GW653 := Aside0.mk ((q48t : w.heap.size ≤ gb653)); have GE653 := Aside0.mk ((q48t : w.heap.size ≤ gb653)); replace HB := Aside0.mk (below_step q53t hb); clear hb hbox hg; obtain ⟨hcz19_0, hcz19_1, hcz19_2, hcz19_3, hcz19_4, hcz19_5, hcz19_6, hcz19_7, hcz19_8, hcz19_9, hcz19_10, hcz19_11, hcz19_12⟩ := qc13 BK653.out; obtain ⟨hfz19_0, hfz19_1, hfz19_2, hfz19_3, hfz19_4, hfz19_5, hfz19_6, hfz19_7, hfz19_8, hfz19_9, hfz19_10, hfz19_11, hfz19_12⟩ := qf13 BK653.out; have p654 : 0 ≤ (x17_1 : Int) := of_decide_eq_true q76t; have q654 : x17_1 < (l1.length : Int) := of_decide_eq_true q76t; obtain ⟨ad654, A654_8, c654_8, A654_11, c654_11, A654_12, c654_12, e654, hx654_0, hx654_1, hx654_2, hx654_3, hx654_4, hx654_5, hx654_6, hx654_7, hx654_8, hx654_9, hx654_10, hx654_11, hx654_12, hl654_8, hi654_8, hl654_11, hi654_11, hl654_12, hi654_12⟩ := at_T48 HR1.out x17_1 p654 q654; cases e654; have hn654_0 : ad654.block ≠ gb653 := Nat.ne_of_lt (Nat.lt_of_lt_of_le q74t GW653.out); have hn654_1 : ad654.block ≠ gb653 := Nat.ne_of_lt (Nat.lt_of_lt_of_le q74t GW653.out); have hn654_2 : ad654.block ≠ gb653 := Nat.ne_of_lt (Nat.lt_of_lt_of_le q74t GW653.out); have hn654_3 : ad654.block ≠ gb653 := Nat.ne_of_lt (Nat.lt_of_lt_of_le q74t GW653.out); have hn654_4 : ad654.block ≠ gb653 := Nat.ne_of_lt (Nat.lt_of_lt_of_le q74t GW653.out); have hn654_5 : ad654.block ≠ gb653 := Nat.ne_of_lt (Nat.lt_of_lt_of_le q74t GW653.out); have hn654_6 : ad654.block ≠ gb653 := Nat.ne_of_lt (Nat.lt_of_lt_of_le q74t GW653.out); have hn654_7 : ad654.block ≠ gb653 := Nat.ne_of_lt (Nat.lt_of_lt_of_le q74t GW653.out); have hn654_8 : ad654.block ≠ gb653 := Nat.ne_of_lt (Nat.lt_of_lt_of_le q74t GW653.out); have hn654_9 : ad654.block ≠ gb653 := Nat.ne_of_lt (Nat.lt_of_lt_of_le q74t GW653.out); have hn654_10 : ad654.block ≠ gb653 := Nat.ne_of_lt (Nat.lt_of_lt_of_le q74t GW653.out); have hn654_11 : ad654.block ≠ gb653 := Nat.ne_of_lt (Nat.lt_of_lt_of_le q74t GW653.out); have hn654_12 : ad654.block ≠ gb653 := Nat.ne_of_lt (Nat.lt_of_lt_of_le q74t GW653.out); replace hx654_0 := hbt HB hx654_0; replace hx654_1 := hbt HB hx654_1; replace hx654_2 := hbt HB hx654_2; replace hx654_3 := hbt HB hx654_3; replace hx654_4 := hbt HB hx654_4; replace hx654_5 := hbt HB hx654_5; replace hx654_6 := hbt HB hx654_6; replace hx654_7 := hbt HB hx654_7; replace hx654_8 := hbt HB hx654_8; replace hx654_9 := hbt HB hx654_9; replace hx654_10 := hbt HB hx654_10; replace hx654_11 := hbt HB hx654_11; replace hx654_12 := hbt HB hx654_12; have HR654_8 := Aside0.mk hi654_8; have HC654_8 := Aside0.mk hl654_8; clear hi654_8 hl654_8; have HR654_11 := Aside0.mk hi654_11; have HC654_11 := Aside0.mk hl654_11; clear hi654_11 hl654_11; have HR654_12 := Aside0.mk hi654_12; have HC654_12 := Aside0.mk hl654_12; clear hi654_12 hl654_12; have nf_ := cf13 ⟨gb653, 0, none⟩ (.int .i64 ((rd_T48 l0 x17_1).f0)) hx654_0 hx654_1 hx654_2 hx654_3 hx654_4 hx654_5 hx654_6 hx654_7 hx654_8 hx654_9 hx654_10 hx654_11 hx654_12; clear hx654_0 hx654_1 hx654_2 hx654_3 hx654_4 hx654_5 hx654_6 hx654_7 hx654_8 hx654_9 hx654_10 hx654_11 hx654_12; obtain ⟨hx654_0, hx654_1, hx654_2, hx654_3, hx654_4, hx654_5, hx654_6, hx654_7, hx654_8, hx654_9, hx654_10, hx654_11, hx654_12⟩ := nf_; have nf_ := cf13 ⟨gb653, 1, none⟩ (.int .i64 ((rd_T48 l0 x17_1).f1)) hx654_0 hx654_1 hx654_2 hx654_3 hx654_4 hx654_5 hx654_6 hx654_7 hx654_8 hx654_9 hx654_10 hx654_11 hx654_12; clear hx654_0 hx654_1 hx654_2 hx654_3 hx654_4 hx654_5 hx654_6 hx654_7 hx654_8 hx654_9 hx654_10 hx654_11 hx654_12; obtain ⟨hx654_0, hx654_1, hx654_2, hx654_3, hx654_4, hx654_5, hx654_6, hx654_7, hx654_8, hx654_9, hx654_10, hx654_11, hx654_12⟩ := nf_; have nf_ := cf13 ⟨gb653, 2, none⟩ (.int .i64 ((rd_T48 l0 x17_1).f2)) hx654_0 hx654_1 hx654_2 hx654_3 hx654_4 hx654_5 hx654_6 hx654_7 hx654_8 hx654_9 hx654_10 hx654_11 hx654_12; clear hx654_0 hx654_1 hx654_2 hx654_3 hx654_4 hx654_5 hx654_6 hx654_7 hx654_8 hx654_9 hx654_10 hx654_11 hx654_12; obtain ⟨hx654_0, hx654_1, hx654_2, hx654_3, hx654_4, hx654_5, hx654_6, hx654_7, hx654_8, hx654_9, hx654_10, hx654_11, hx654_12⟩ := nf_; have nf_ := cf13 ⟨gb653, 3, none⟩ (.int .i64 ((rd_T48 l0 x17_1).f3)) hx654_0 hx654_1 hx654_2 hx654_3 hx654_4 hx654_5 hx654_6 hx654_7 hx654_8 hx654_9 hx654_10 hx654_11 hx654_12; clear hx654_0 hx654_1 hx654_2 hx654_3 hx654_4 hx654_5 hx654_6 hx654_7 hx654_8 hx654_9 hx654_10 hx654_11 hx654_12; obtain ⟨hx654_0, hx654_1, hx654_2, hx654_3, hx654_4, hx654_5, hx654_6, hx654_7, hx654_8, hx654_9, hx654_10, hx654_11, hx654_12⟩ := nf_; have nf_ := cf13 ⟨gb653, 4, none⟩ (.int .i64 ((rd_T48 l0 x17_1).f4)) hx654_0 hx654_1 hx654_2 hx654_3 hx654_4 hx654_5 hx654_6 hx654_7 hx654_8 hx654_9 hx654_10 hx654_11 hx654_12; clear hx654_0 hx654_1 hx654_2 hx654_3 hx654_4 hx654_5 hx654_6 hx654_7 hx654_8 hx654_9 hx654_10 hx654_11 hx654_12; obtain ⟨hx654_0, hx654_1, hx654_2, hx654_3, hx654_4, hx654_5, hx654_6, hx654_7, hx654_8, hx654_9, hx654_10, hx654_11, hx654_12⟩ := nf_; have nf_ := cf13 ⟨gb653, 5, none⟩ (.int .i64 ((rd_T48 l0 x17_1).f5)) hx654_0 hx654_1 hx654_2 hx654_3 hx654_4 hx654_5 hx654_6 hx654_7 hx654_8 hx654_9 hx654_10 hx654_11 hx654_12; clear hx654_0 hx654_1 hx654_2 hx654_3 hx654_4 hx654_5 hx654_6 hx654_7 hx654_8 hx654_9 hx654_10 hx654_11 hx654_12; obtain ⟨hx654_0, hx654_1, hx654_2, hx654_3, hx654_4, hx654_5, hx654_6, hx654_7, hx654_8, hx654_9, hx654_10, hx654_11, hx654_12⟩ := nf_; have nf_ := cf13 ⟨gb653, 6, none⟩ (.int .i64 ((rd_T48 l0 x17_1).f6)) hx654_0 hx654_1 hx654_2 hx654_3 hx654_4 hx654_5 hx654_6 hx654_7 hx654_8 hx654_9 hx654_10 hx654_11 hx654_12; clear hx654_0 hx654_1 hx654_2 hx654_3 hx654_4 hx654_5 hx654_6 hx654_7 hx654_8 hx654_9 hx654_10 hx654_11 hx654_12; obtain ⟨hx654_0, hx654_1, hx654_2, hx654_3, hx654_4, hx654_5, hx654_6, hx654_7, hx654_8, hx654_9, hx654_10, hx654_11, hx654_12⟩ := nf_; have nf_ := cf13 ⟨gb653, 7, none⟩ (.int .i64 ((rd_T48 l0 x17_1).f7)) hx654_0 hx654_1 hx654_2 hx654_3 hx654_4 hx654_5 hx654_6 hx654_7 hx654_8 hx654_9 hx654_10 hx654_11 hx654_12; clear hx654_0 hx654_1 hx654_2 hx654_3 hx654_4 hx654_5 hx654_6 hx654_7 hx654_8 hx654_9 hx654_10 hx654_11 hx654_12; obtain ⟨hx654_0, hx654_1, hx654_2, hx654_3, hx654_4, hx654_5, hx654_6, hx654_7, hx654_8, hx654_9, hx654_10, hx654_11, hx654_12⟩ := nf_; have nf_ := cf13 ⟨gb653, 8, none⟩ (.slice A652_8 ((rd_T48 l0 x17_1).f8).length c652_8) hx654_0 hx654_1 hx654_2 hx654_3 hx654_4 hx654_5 hx654_6 hx654_7 hx654_8 hx654_9 hx654_10 hx654_11 hx654_12; clear hx654_0 hx654_1 hx654_2 hx654_3 hx654_4 hx654_5 hx654_6 hx654_7 hx654_8 hx654_9 hx654_10 hx654_11 hx654_12; obtain ⟨hx654_0, hx654_1, hx654_2, hx654_3, hx654_4, hx654_5, hx654_6, hx654_7, hx654_8, hx654_9, hx654_10, hx654_11, hx654_12⟩ := nf_; have nf_ := cf13 ⟨gb653, 9, none⟩ (.int .i64 ((rd_T48 l0 x17_1).f9)) hx654_0 hx654_1 hx654_2 hx654_3 hx654_4 hx654_5 hx654_6 hx654_7 hx654_8 hx654_9 hx654_10 hx654_11 hx654_12; clear hx654_0 hx654_1 hx654_2 hx654_3 hx654_4 hx654_5 hx654_6 hx654_7 hx654_8 hx654_9 hx654_10 hx654_11 hx654_12; obtain ⟨hx654_0, hx654_1, hx654_2, hx654_3, hx654_4, hx654_5, hx654_6, hx654_7, hx654_8, hx654_9, hx654_10, hx654_11, hx654_12⟩ := nf_; have nf_ := cf13 ⟨gb653, 10, none⟩ (.int .i64 ((rd_T48 l0 x17_1).f10)) hx654_0 hx654_1 hx654_2 hx654_3 hx654_4 hx654_5 hx654_6 hx654_7 hx654_8 hx654_9 hx654_10 hx654_11 hx654_12; clear hx654_0 hx654_1 hx654_2 hx654_3 hx654_4 hx654_5 hx654_6 hx654_7 hx654_8 hx654_9 hx654_10 hx654_11 hx654_12; obtain ⟨hx654_0, hx654_1, hx654_2, hx654_3, hx654_4, hx654_5, hx654_6, hx654_7, hx654_8, hx654_9, hx654_10, hx654_11, hx654_12⟩ := nf_; have nf_ := cf13 ⟨gb653, 11, none⟩ (.slice A652_11 ((rd_T48 l0 x17_1).f11).length c652_11) hx654_0 hx654_1 hx654_2 hx654_3 hx654_4 hx654_5 hx654_6 hx654_7 hx654_8 hx654_9 hx654_10 hx654_11 hx654_12; clear hx654_0 hx654_1 hx654_2 hx654_3 hx654_4 hx654_5 hx654_6 hx654_7 hx654_8 hx654_9 hx654_10 hx654_11 hx654_12; obtain ⟨hx654_0, hx654_1, hx654_2, hx654_3, hx654_4, hx654_5, hx654_6, hx654_7, hx654_8, hx654_9, hx654_10, hx654_11, hx654_12⟩ := nf_; have nf_ := cf13 ⟨gb653, 12, none⟩ (.slice A652_12 ((rd_T48 l0 x17_1).f12).length c652_12) hx654_0 hx654_1 hx654_2 hx654_3 hx654_4 hx654_5 hx654_6 hx654_7 hx654_8 hx654_9 hx654_10 hx654_11 hx654_12; clear hx654_0 hx654_1 hx654_2 hx654_3 hx654_4 hx654_5 hx654_6 hx654_7 hx654_8 hx654_9 hx654_10 hx654_11 hx654_12; obtain ⟨hx654_0, hx654_1, hx654_2, hx654_3, hx654_4, hx654_5, hx654_6, hx654_7, hx654_8, hx654_9, hx654_10, hx654_11, hx654_12⟩ := nf_; clear hn654_0; clear hn654_1; clear hn654_2; clear hn654_3; clear hn654_4; clear hn654_5; clear hn654_6; clear hn654_7; clear hn654_8; clear hn654_9; clear hn654_10; clear hn654_11; clear hn654_12; replace p654 := eq_true p654; replace q654 := eq_true q654) | ((with_reducible refine gate_dst (N := 9) rfl ?_); refine box_ev 9 #[.int .i64 0, .int .i64 0, .int .i64 0, .int .i64 0, .int .i64 0, .int .i64 0, .int .i64 0, .int .i64 0, .slice none 0 0, .int .i64 0, .int .i64 0, .slice none 0 0, .slice none 0 0] 48 ?_; intro gb655 hg w20 hbox hb; have BK655 := Aside0.mk (hbox); have GW655 := Aside0.mk ((q26t : w.heap.size ≤ gb655)); have GE655 := Aside0.mk ((q26t : w.heap.size ≤ gb655)); replace HB := Aside0.mk (below_step q33t hb); have NB653_655 := Aside0.mk ((by rw [hg]; exact Nat.ne_of_lt (blk_lt (qbp BK653)) : gb653 ≠ gb655)); have NB655_653 := Aside0.mk ((by rw [hg]; exact Nat.ne_of_gt (blk_lt (qbp BK653)) : gb655 ≠ gb653)); replace BK653 := blp BK653 hb; clear hb hbox hg; have hnb21 := NB655_653.out; have hnc21 := NB653_655.out; obtain ⟨hcz22_0, hcz22_1, hcz22_2, hcz22_3, hcz22_4, hcz22_5, hcz22_6, hcz22_7, hcz22_8, hcz22_9, hcz22_10, hcz22_11, hcz22_12⟩ := qc13 BK655.out; obtain ⟨hfz22_0, hfz22_1, hfz22_2, hfz22_3, hfz22_4, hfz22_5, hfz22_6, hfz22_7, hfz22_8, hfz22_9, hfz22_10, hfz22_11, hfz22_12⟩ := qf13 BK655.out; obtain ⟨hcz23_0, hcz23_1, hcz23_2, hcz23_3, hcz23_4, hcz23_5, hcz23_6, hcz23_7, hcz23_8, hcz23_9, hcz23_10, hcz23_11, hcz23_12⟩ := qc13 BK653.out; obtain ⟨hfz23_0, hfz23_1, hfz23_2, hfz23_3, hfz23_4, hfz23_5, hfz23_6, hfz23_7, hfz23_8, hfz23_9, hfz23_10, hfz23_11, hfz23_12⟩ := qf13 BK653.out) | (go_at_call 44; (with_reducible refine (impl_SameNode.calls k1 ((rd_T48 l0 x17_1).f0) ((rd_T48 l0 x17_1).f1) ((rd_T48 l0 x17_1).f2) ((rd_T48 l0 x17_1).f3) ((rd_T48 l0 x17_1).f4) ((rd_T48 l0 x17_1).f5) ((rd_T48 l0 x17_1).f6) ((rd_T48 l0 x17_1).f7) _ _ ((rd_T48 l0 x17_1).f8) ((rd_T48 l0 x17_1).f9) ((rd_T48 l0 x17_1).f10) _ _ ((rd_T48 l0 x17_1).f11) _ _ ((rd_T48 l0 x17_1).f12) ((rd_T48 l1 x17_1).f0) ((rd_T48 l1 x17_1).f1) ((rd_T48 l1 x17_1).f2) ((rd_T48 l1 x17_1).f3) ((rd_T48 l1 x17_1).f4) ((rd_T48 l1 x17_1).f5) ((rd_T48 l1 x17_1).f6) ((rd_T48 l1 x17_1).f7) _ _ ((rd_T48 l1 x17_1).f8) ((rd_T48 l1 x17_1).f9) ((rd_T48 l1 x17_1).f10) _ _ ((rd_T48 l1 x17_1).f11) _ _ ((rd_T48 l1 x17_1).f12) false _ ?side1 ?side2 ?side3 ?side4 ?side5 ?side6 ?side7 ?side8 ?side9 ?side10 ?side11 ?side12 A9.out).mono ?_); (case side1 => exact Kd.C_below HR652_8.out q33t); (case side2 => exact HC652_8.out); (case side3 => exact Kd.C_below HR652_11.out q33t); (case side4 => exact HC652_11.out); (case side5 => exact Kd.C_below HR652_12.out q33t); (case side6 => exact HC652_12.out); (case side7 => exact Kd.C_below HR654_8.out q33t); (case side8 => exact HC654_8.out); (case side9 => exact Kd.C_below HR654_11.out q33t); (case side10 => exact HC654_11.out); (case side11 => exact Kd.C_below HR654_12.out q33t); (case side12 => exact HC654_12.out); rintro e w24 ⟨rfl, hb⟩; replace BK653 := Aside0.mk (blk_below (g := gb653) (o := .cells #[.int .i64 ((rd_T48 l0 x17_1).f0), .int .i64 ((rd_T48 l0 x17_1).f1), .int .i64 ((rd_T48 l0 x17_1).f2), .int .i64 ((rd_T48 l0 x17_1).f3), .int .i64 ((rd_T48 l0 x17_1).f4), .int .i64 ((rd_T48 l0 x17_1).f5), .int .i64 ((rd_T48 l0 x17_1).f6), .int .i64 ((rd_T48 l0 x17_1).f7), .slice A652_8 ((rd_T48 l0 x17_1).f8).length c652_8, .int .i64 ((rd_T48 l0 x17_1).f9), .int .i64 ((rd_T48 l0 x17_1).f10), .slice A652_11 ((rd_T48 l0 x17_1).f11).length c652_11, .slice A652_12 ((rd_T48 l0 x17_1).f12).length c652_12] 48 (0, 0)) (by (with_reducible repeat (first | refine blk_drewN ?_ _ | refine blk_drew ?_ | refine blk_alloc ?_ _)); refine blk_far ?_ NB653_655.out _; (with_reducible repeat (first | refine blk_drewN ?_ _ | refine blk_drew ?_ | refine blk_alloc ?_ _)); refine blk_far ?_ NB653_655.out _; (with_reducible repeat (first | refine blk_drewN ?_ _ | refine blk_drew ?_ | refine blk_alloc ?_ _)); refine blk_far ?_ NB653_655.out _; (with_reducible repeat (first | refine blk_drewN ?_ _ | refine blk_drew ?_ | refine blk_alloc ?_ _)); refine blk_far ?_ NB653_655.out _; (with_reducible repeat (first | refine blk_drewN ?_ _ | refine blk_drew ?_ | refine blk_alloc ?_ _)); refine blk_far ?_ NB653_655.out _; (with_reducible repeat (first | refine blk_drewN ?_ _ | refine blk_drew ?_ | refine blk_alloc ?_ _)); refine blk_far ?_ NB653_655.out _; (with_reducible repeat (first | refine blk_drewN ?_ _ | refine blk_drew ?_ | refine blk_alloc ?_ _)); refine blk_far ?_ NB653_655.out _; (with_reducible repeat (first | refine blk_drewN ?_ _ | refine blk_drew ?_ | refine blk_alloc ?_ _)); refine blk_far ?_ NB653_655.out _; (with_reducible repeat (first | refine blk_drewN ?_ _ | refine blk_drew ?_ | refine blk_alloc ?_ _)); refine blk_far ?_ NB653_655.out _; (with_reducible repeat (first | refine blk_drewN ?_ _ | refine blk_drew ?_ | refine blk_alloc ?_ _)); refine blk_far ?_ NB653_655.out _; (with_reducible repeat (first | refine blk_drewN ?_ _ | refine blk_drew ?_ | refine blk_alloc ?_ _)); refine blk_far ?_ NB653_655.out _; (with_reducible repeat (first | refine blk_drewN ?_ _ | refine blk_drew ?_ | refine blk_alloc ?_ _)); refine blk_far ?_ NB653_655.out _; (with_reducible repeat (first | refine blk_drewN ?_ _ | refine blk_drew ?_ | refine blk_alloc ?_ _)); refine blk_far ?_ NB653_655.out _; (with_reducible repeat (first | refine blk_drewN ?_ _ | refine blk_drew ?_ | refine blk_alloc ?_ _)); exact BK653.out) hb); replace BK655 := blp BK655 hb; replace HB := Aside0.mk (below_step q33t hb); (try clear hb); (try clear hb2); (try clear hk); (try clear hi)))
   go_ret
   exact ⟨q73t, q33t⟩

/-! ### impl_SameTable: function 22 -/
def impl_SameTable.f (k : Nat) (l0 : List (S48)) (l1 : List (S48)) : Option (Bool) := (impl_Node_43.f k l0 l1).bind fun t657 => (some t657)
theorem impl_SameTable.mono : ∀ a0 a1 k, LeO (impl_SameTable.f k a0 a1) (impl_SameTable.f (k + 1) a0 a1) := by
 intro a0 a1 k
 unfold impl_SameTable.f
 repeat' first
   | (with_reducible exact impl_Node_43.mono _ _ _)
   | (with_reducible exact LeO.refl _)
   | (with_reducible exact LeO.none _)
   | (with_reducible refine LeO.ite ?_ ?_)
   | (with_reducible refine LeO.bind ?_ (fun _ => ?_))
   | exact impl_Node_43.mono _ _ _
   | exact LeO.none _
   | refine LeO.ite ?_ ?_
   | refine LeO.bind ?_ (fun _ => ?_)
set_option maxHeartbeats 8000000 in
set_option maxRecDepth 100000 in
theorem impl_SameTable.calls (k : Nat) (A0 : Option Addr) (c0 : Nat) (l0 : List (S48)) (A1 : Option Addr) (c1 : Nat) (l1 : List (S48)) (r : Bool) (w : World) (hr0 : Kd.C k48 w A0 l0.length l0) (hc0 : l0.length ≤ c0) (hr1 : Kd.C k48 w A1 l1.length l1) (hc1 : l1.length ≤ c1) (h : impl_SameTable.f k l0 l1 = some r) :
  Calls Try.prog 22 #[.slice A0 l0.length c0, .slice A1 l1.length c1] w fun e w' => e = .returned (.bool r) ∧ Below w.heap.size w w' := by
 have HR0 := Aside0.mk hr0
 have HC0 := Aside0.mk hc0
 clear hr0 hc0
 have HR1 := Aside0.mk hr1
 have HC1 := Aside0.mk hc1
 clear hr1 hc1
 have HB := Aside0.mk (Below.refl w.heap.size w)
 have H : ((impl_Node_43.f k l0 l1).bind fun t657 => (some t657)) = some r := h
 clear h
 replace H := Option.bind_eq_some_iff.mp H
 obtain ⟨t657, A30, H⟩ := H
 try dsimp only at H
 have A3 := Aside0.mk A30
 clear A30
 obtain rfl := Option.some.inj H
 go_enter Try.func22, Try.ntmps22
 go_wp2_with (first | ((with_reducible refine gate_callee (f := 43) rfl ?_); refine goesL_ (some 7) rfl rfl Try.func43 (by kernel_rfl) rfl #[.slice A0 l0.length c0, .slice A1 l1.length c1, .func (.func 44) #[] #[]] rfl q51t ?_; (with_reducible refine (impl_Node_43.calls k _ _ l0 _ _ l1  t657 _ ?side1 ?side2 ?side3 ?side4 A3.out).mono ?_); (case side1 => repeat (first | exact HR0.out | (with_reducible refine Kd.C_alloc ?_ _) | (with_reducible refine Kd.C_drewN ?_ _) | (with_reducible refine Kd.C_drew ?_))); (case side2 => exact HC0.out); (case side3 => repeat (first | exact HR1.out | (with_reducible refine Kd.C_alloc ?_ _) | (with_reducible refine Kd.C_drewN ?_ _) | (with_reducible refine Kd.C_drew ?_))); (case side4 => exact HC1.out); rintro e w4 ⟨rfl, hb⟩; refine ⟨_, rfl, ?_⟩; replace HB := Aside0.mk (below_step q53t hb); (try clear hb); (try clear hb2); (try clear hk); (try clear hi)))
 go_ret
 exact ⟨q73t, q53t⟩

/-! ### impl_HandleAt: function 23 -/
def impl_HandleAt.f (l0 : List (S48)) (a1 : Int) : Option (Int × Int) := (impl_isSlot.f l0 a1).bind fun t659 => (if t659 = true then (if 0 ≤ a1 then (if a1 < (l0.length : Int) then (some (a1, (rd_T48 l0 a1).f1)) else (none)) else (none)) else (some (0, 0)))
set_option maxHeartbeats 8000000 in
set_option maxRecDepth 100000 in
theorem impl_HandleAt.calls (A0 : Option Addr) (c0 : Nat) (l0 : List (S48)) (a1 : Int) (r1 : Int) (r2 : Int) (w : World) (hr0 : Kd.C k48 w A0 l0.length l0) (hc0 : l0.length ≤ c0) (h : impl_HandleAt.f l0 a1 = some (r1, r2)) :
  Calls Try.prog 23 #[.slice A0 l0.length c0, .int .i64 a1] w fun e w' => e = .returned (.agg #[.int .i64 r1, .int .i64 r2]) ∧ Below w.heap.size w w' := by
 have hu29 := Try.underlying29
 have HR0 := Aside0.mk hr0
 have HC0 := Aside0.mk hc0
 clear hr0 hc0
 have HB := Aside0.mk (Below.refl w.heap.size w)
 have H : ((impl_isSlot.f l0 a1).bind fun t659 => (if t659 = true then (if 0 ≤ a1 then (if a1 < (l0.length : Int) then (some (a1, (rd_T48 l0 a1).f1)) else (none)) else (none)) else (some (0, 0)))) = some (r1, r2) := h
 clear h
 replace H := Option.bind_eq_some_iff.mp H
 obtain ⟨t659, A30, H⟩ := H
 try dsimp only at H
 have A3 := Aside0.mk A30
 clear A30
 by_cases c4 : t659 = true
 ·subst c4
  rw [if_pos rfl] at H
  by_cases c5 : 0 ≤ a1
  rotate_left
  ·rw [if_neg c5] at H
   exact absurd H q87t
  rw [if_pos c5] at H
  have c5b0 : decide (0 ≤ a1) = true := decide_eq_true c5
  clear c5
  by_cases c6 : a1 < (l0.length : Int)
  rotate_left
  ·rw [if_neg c6] at H
   exact absurd H q87t
  rw [if_pos c6] at H
  have c6b0 : decide (a1 < (l0.length : Int)) = true := decide_eq_true c6
  clear c6
  simp only [Option.some.injEq, Prod.mk.injEq] at H
  obtain ⟨rfl, rfl⟩ := H
  go_enter Try.func23, Try.ntmps23
  go_wp2_with (first | ((with_reducible refine gate_dst (N := 4) rfl ?_); refine box_ev 4 #[.int .i64 0, .int .i64 0] 29 ?_; intro gb658 hg w7 hbox hb; have BK658 := Aside0.mk (hbox); have GW658 := Aside0.mk ((q48t : w.heap.size ≤ gb658)); have GE658 := Aside0.mk ((q48t : w.heap.size ≤ gb658)); replace HB := Aside0.mk (below_step q53t hb); clear hb hbox hg) | ((with_reducible refine gate_callee (f := 29) rfl ?_); refine goesL_ (some 7) rfl rfl Try.func29 (by kernel_rfl) rfl #[.slice A0 l0.length c0, .int .i64 a1] rfl q51t ?_; (with_reducible refine (impl_isSlot.calls _ _ l0 a1 true _ ?side1 ?side2 A3.out).mono ?_); (case side1 => exact sC (Kd.C_below HR0.out HB.out)); (case side2 => exact HC0.out); rintro e w' ⟨rfl, ⟨nd, rfl⟩⟩; refine ⟨_, rfl, ?_⟩; (try (rw [drewN_self w7]; generalize hq_ : World.drewN w7 _ = w7; replace BK658 : Aside0 (w7.heap[gb658]? = some (.cells #[.int .i64 0, .int .i64 0] 29 (0, 0))) := ⟨by rw [← hq_]; exact (qbk BK658)⟩; replace HB : Aside0 (Below w.heap.size w w7) := ⟨by rw [← hq_]; exact q33t⟩; clear hq_; have hczr658_0 := blk_cell BK658.out 0; have hczr658_1 := blk_cell BK658.out 1)); have p660 : 0 ≤ (a1 : Int) := of_decide_eq_true q76t; have q660 : a1 < (l0.length : Int) := of_decide_eq_true q76t; obtain ⟨ad660, A660_8, c660_8, A660_11, c660_11, A660_12, c660_12, e660, hx660_0, hx660_1, hx660_2, hx660_3, hx660_4, hx660_5, hx660_6, hx660_7, hx660_8, hx660_9, hx660_10, hx660_11, hx660_12, hl660_8, hi660_8, hl660_11, hi660_11, hl660_12, hi660_12⟩ := at_T48 HR0.out a1 p660 q660; cases e660; replace hx660_0 := hbt HB hx660_0; replace hx660_1 := hbt HB hx660_1; replace hx660_2 := hbt HB hx660_2; replace hx660_3 := hbt HB hx660_3; replace hx660_4 := hbt HB hx660_4; replace hx660_5 := hbt HB hx660_5; replace hx660_6 := hbt HB hx660_6; replace hx660_7 := hbt HB hx660_7; replace hx660_8 := hbt HB hx660_8; replace hx660_9 := hbt HB hx660_9; replace hx660_10 := hbt HB hx660_10; replace hx660_11 := hbt HB hx660_11; replace hx660_12 := hbt HB hx660_12; have HR660_8 := Aside0.mk hi660_8; have HC660_8 := Aside0.mk hl660_8; clear hi660_8 hl660_8; have HR660_11 := Aside0.mk hi660_11; have HC660_11 := Aside0.mk hl660_11; clear hi660_11 hl660_11; have HR660_12 := Aside0.mk hi660_12; have HC660_12 := Aside0.mk hl660_12; clear hi660_12 hl660_12; replace p660 := eq_true p660; replace q660 := eq_true q660; obtain ⟨hcz8_0, hcz8_1⟩ := qc2 BK658.out; obtain ⟨hfz8_0, hfz8_1⟩ := qf2 BK658.out))
  refine bodyPost_ret (results_cell_row rfl _ _ gb658 29 #[.int .i64 a1, .int .i64 ((rd_T48 l0 a1).f1)] (0, 0) _ rfl (qbp BK658) Try.underlying29 rfl (by kernel_rfl)) rfl ?_
  exact ⟨q73t, q33t⟩
 replace c4 := Bool.eq_false_iff.mpr c4
 subst c4
 rw [if_neg (show ¬ (false = true) by decide)] at H
 simp only [Option.some.injEq, Prod.mk.injEq] at H
 obtain ⟨rfl, rfl⟩ := H
 go_enter Try.func23, Try.ntmps23
 go_wp2_with (first | ((with_reducible refine gate_dst (N := 4) rfl ?_); refine box_ev 4 #[.int .i64 0, .int .i64 0] 29 ?_; intro gb658 hg w9 hbox hb; have BK658 := Aside0.mk (hbox); have GW658 := Aside0.mk ((q48t : w.heap.size ≤ gb658)); have GE658 := Aside0.mk ((q48t : w.heap.size ≤ gb658)); replace HB := Aside0.mk (below_step q53t hb); clear hb hbox hg) | ((with_reducible refine gate_callee (f := 29) rfl ?_); refine goesL_ (some 7) rfl rfl Try.func29 (by kernel_rfl) rfl #[.slice A0 l0.length c0, .int .i64 a1] rfl q51t ?_; (with_reducible refine (impl_isSlot.calls _ _ l0 a1 false _ ?side1 ?side2 A3.out).mono ?_); (case side1 => exact sC (Kd.C_below HR0.out HB.out)); (case side2 => exact HC0.out); rintro e w' ⟨rfl, ⟨nd, rfl⟩⟩; refine ⟨_, rfl, ?_⟩; (try (rw [drewN_self w9]; generalize hq_ : World.drewN w9 _ = w9; replace BK658 : Aside0 (w9.heap[gb658]? = some (.cells #[.int .i64 0, .int .i64 0] 29 (0, 0))) := ⟨by rw [← hq_]; exact (qbk BK658)⟩; replace HB : Aside0 (Below w.heap.size w w9) := ⟨by rw [← hq_]; exact q33t⟩; clear hq_; have hczr658_0 := blk_cell BK658.out 0; have hczr658_1 := blk_cell BK658.out 1)); obtain ⟨hcz10_0, hcz10_1⟩ := qc2 BK658.out; obtain ⟨hfz10_0, hfz10_1⟩ := qf2 BK658.out))
 refine bodyPost_ret (results_cell_row rfl _ _ gb658 29 #[.int .i64 0, .int .i64 0] (0, 0) _ rfl (qbp BK658) Try.underlying29 rfl (by kernel_rfl)) rfl ?_
 exact ⟨q73t, q33t⟩

end Go.Proofs.Ytofpmdgndegalab.QFnTables
