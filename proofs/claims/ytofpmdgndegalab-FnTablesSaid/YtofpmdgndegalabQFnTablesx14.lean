/- What the functions that the law FnTables reaches compute, as plain functions, and that the code computes just that (by a program of this session's; the library's functions by hand). No condition. -/
import Derived.Test.YtofpmdgndegalabQFnTablesx0
namespace Go.Proofs.Ytofpmdgndegalab.QFnTables
open Go.RowKit Go.Proofs.YtofpmdgndegalabW.PrintWords Go.Proofs.YtofpmdgndegalabW.PrintLast Go.Proofs.YtofpmdgndegalabW.PrintMore
attribute [local go_sem] max2_int min2_int max_two min_two max_three min_three max_four min_four   -- for this text's walks alone
set_option linter.unusedVariables false
set_option linter.unusedSimpArgs false

/-! ### impl_CountNodes: function 18 -/
def impl_CountNodes.l0 : Nat → Int → Int → List (S48) → Int → Int → Option (Int)
 | 0, _, _, _, _, _ => none
 | k + 1, x1, x5, x8, x9, x10 => if x10 < x9 then (if 0 ≤ x10 then (if x10 < (x8.length : Int) then (if ((rd_T48 x8 x10).f0) = x1 then (impl_CountNodes.l0 k x1 (wrap64 (x5 + 1)) x8 x9 (wrap64 (x10 + 1))) else (impl_CountNodes.l0 k x1 x5 x8 x9 (wrap64 (x10 + 1)))) else (none)) else (none)) else (some x5)
def impl_CountNodes.f (k : Nat) (l0 : List (S48)) (a1 : Int) : Option (Int) := impl_CountNodes.l0 k a1 0 l0 (l0.length : Int) 0
theorem impl_CountNodes.mono_l : ∀ k, (∀ y0 y1 y2 y3 y4, LeO (impl_CountNodes.l0 k y0 y1 y2 y3 y4) (impl_CountNodes.l0 (k + 1) y0 y1 y2 y3 y4))
 | 0 => fun _ _ _ _ _ r h => by simp [impl_CountNodes.l0] at h
 | k + 1 => by
  have ih0 := impl_CountNodes.mono_l k
  ·intro y0 y1 y2 y3 y4
   unfold impl_CountNodes.l0
   repeat' first
   | (with_reducible exact ih0 _ _ _ _ _)
   | (with_reducible exact LeO.refl _)
   | (with_reducible exact LeO.none _)
   | (with_reducible refine LeO.ite ?_ ?_)
   | (with_reducible refine LeO.bind ?_ (fun _ => ?_))
   | exact ih0 _ _ _ _ _
   | exact LeO.none _
   | refine LeO.ite ?_ ?_
   | refine LeO.bind ?_ (fun _ => ?_)
theorem impl_CountNodes.mono : ∀ a0 a1 k, LeO (impl_CountNodes.f k a0 a1) (impl_CountNodes.f (k + 1) a0 a1) := by
 intro a0 a1 k
 have ih0 := impl_CountNodes.mono_l k
 unfold impl_CountNodes.f
 repeat' first
   | (with_reducible exact ih0 _ _ _ _ _)
   | (with_reducible exact LeO.refl _)
   | (with_reducible exact LeO.none _)
   | (with_reducible refine LeO.ite ?_ ?_)
   | (with_reducible refine LeO.bind ?_ (fun _ => ?_))
   | exact ih0 _ _ _ _ _
   | exact LeO.none _
   | refine LeO.ite ?_ ?_
   | refine LeO.bind ?_ (fun _ => ?_)
set_option maxHeartbeats 8000000 in
set_option maxRecDepth 100000 in
theorem impl_CountNodes.calls (k : Nat) (A0 : Option Addr) (c0 : Nat) (l0 : List (S48)) (a1 : Int) (r : Int) (w : World) (hr0 : Kd.C k48 w A0 l0.length l0) (hc0 : l0.length ≤ c0) (h : impl_CountNodes.f k l0 a1 = some r) :
  Calls Try.prog 18 #[.slice A0 l0.length c0, .int .i64 a1] w fun e w' => e = .returned (.int .i64 r) ∧ Below w.heap.size w w' := by
 have hu48 := Try.underlying48
 have HR0 := Aside0.mk hr0
 have HC0 := Aside0.mk hc0
 clear hr0 hc0
 have HB := Aside0.mk (Below.refl w.heap.size w)
 have H : (impl_CountNodes.l0 k a1 0 l0 (l0.length : Int) 0) = some r := h
 clear h
 have H' := Aside0.mk H
 clear H
 go_enter Try.func18, Try.ntmps18
 go_wp2
 go_loopg [5, 10] k (fun kq v5 v10 w' => ∃ (x5_1 : Int) (x10_1 : Int), v5 = .int .i64 x5_1 ∧ v10 = .int .i64 x10_1 ∧ Aside0 (impl_CountNodes.l0 kq a1 x5_1 l0 (l0.length : Int) x10_1 = some r) ∧ Aside0 (kq ≤ k) ∧ Aside0 (Below w.heap.size w w'))
 case atStart => exact ⟨(0), (0), q81t, q81t, H', ⟨Nat.le_refl _⟩, ⟨q53t⟩⟩
 case round =>
  clear H'
  try clear c1
  try clear p2
  obtain ⟨x5_1, x10_1, rfl, rfl, HA, HK1, HB⟩ := hrel
  cases gk with
  | zero => exact absurd HA.out (by simp [impl_CountNodes.l0])
  | succ k1 =>
   have H := HA.out
   clear HA
   simp only [impl_CountNodes.l0] at H
   by_cases c3 : x10_1 < (l0.length : Int)
   rotate_left
   ·rw [if_neg c3] at H
    have c3b0 : decide (x10_1 < (l0.length : Int)) = false := decide_eq_false c3
    clear c3
    obtain rfl := Option.some.inj H
    go_wp2
    go_ret
    exact ⟨q73t, q53t⟩
   rw [if_pos c3] at H
   have c3b0 : decide (x10_1 < (l0.length : Int)) = true := decide_eq_true c3
   clear c3
   by_cases c4 : 0 ≤ x10_1
   rotate_left
   ·rw [if_neg c4] at H
    exact absurd H q87t
   rw [if_pos c4] at H
   have c4b0 : decide (0 ≤ x10_1) = true := decide_eq_true c4
   clear c4
   by_cases c5 : x10_1 < (l0.length : Int)
   rotate_left
   ·rw [if_neg c5] at H
    exact absurd H q87t
   rw [if_pos c5] at H
   have c5b0 : decide (x10_1 < (l0.length : Int)) = true := decide_eq_true c5
   clear c5
   by_cases c6 : ((rd_T48 l0 x10_1).f0) = a1
   ·rw [if_pos c6] at H
    have c6b0 : (((rd_T48 l0 x10_1).f0) == a1) = true := beq_iff_eq.mpr c6
    have c6b1 : (((rd_T48 l0 x10_1).f0) != a1) = false := bne_eq_false_iff_eq.mpr c6
    clear c6
    have H' := Aside0.mk H
    clear H
    have p635 : 0 ≤ (x10_1 : Int) := of_decide_eq_true q76t
    have q635 : x10_1 < (l0.length : Int) := of_decide_eq_true q76t
    obtain ⟨ad635, A635_8, c635_8, A635_11, c635_11, A635_12, c635_12, e635, hx635_0, hx635_1, hx635_2, hx635_3, hx635_4, hx635_5, hx635_6, hx635_7, hx635_8, hx635_9, hx635_10, hx635_11, hx635_12, hl635_8, hi635_8, hl635_11, hi635_11, hl635_12, hi635_12⟩ := at_T48 HR0.out x10_1 p635 q635
    cases e635
    replace hx635_0 := hbt HB hx635_0
    replace hx635_1 := hbt HB hx635_1
    replace hx635_2 := hbt HB hx635_2
    replace hx635_3 := hbt HB hx635_3
    replace hx635_4 := hbt HB hx635_4
    replace hx635_5 := hbt HB hx635_5
    replace hx635_6 := hbt HB hx635_6
    replace hx635_7 := hbt HB hx635_7
    replace hx635_8 := hbt HB hx635_8
    replace hx635_9 := hbt HB hx635_9
    replace hx635_10 := hbt HB hx635_10
    replace hx635_11 := hbt HB hx635_11
    replace hx635_12 := hbt HB hx635_12
    have HR635_8 := Aside0.mk hi635_8
    have HC635_8 := Aside0.mk hl635_8
    clear hi635_8 hl635_8
    have HR635_11 := Aside0.mk hi635_11
    have HC635_11 := Aside0.mk hl635_11
    clear hi635_11 hl635_11
    have HR635_12 := Aside0.mk hi635_12
    have HC635_12 := Aside0.mk hl635_12
    clear hi635_12 hl635_12
    replace p635 := eq_true p635
    replace q635 := eq_true q635
    go_wp2_with (first | ((with_reducible refine gate_dst (N := 7) rfl ?_); refine box_ev 7 #[.int .i64 0, .int .i64 0, .int .i64 0, .int .i64 0, .int .i64 0, .int .i64 0, .int .i64 0, .int .i64 0, .slice none 0 0, .int .i64 0, .int .i64 0, .slice none 0 0, .slice none 0 0] 48 ?_; intro gb636 hg w7 hbox hb; have BK636 := Aside0.mk (hbox); have GW636 := Aside0.mk ((q48t : w.heap.size ≤ gb636)); have GE636 := Aside0.mk ((q48t : w.heap.size ≤ gb636)); replace HB := Aside0.mk (below_step q53t hb); clear hb hbox hg; obtain ⟨hcz8_0, hcz8_1, hcz8_2, hcz8_3, hcz8_4, hcz8_5, hcz8_6, hcz8_7, hcz8_8, hcz8_9, hcz8_10, hcz8_11, hcz8_12⟩ := qc13 BK636.out; obtain ⟨hfz8_0, hfz8_1, hfz8_2, hfz8_3, hfz8_4, hfz8_5, hfz8_6, hfz8_7, hfz8_8, hfz8_9, hfz8_10, hfz8_11, hfz8_12⟩ := qf13 BK636.out))
    go_roundg k1
    case measure => have := HK1.out; omega
    case rel => exact ⟨(wrap64 (x5_1 + 1)), (wrap64 (x10_1 + 1)), q81t, q81t, H', ⟨q84t⟩, ⟨q33t⟩⟩
   rw [if_neg c6] at H
   have c6b0 : (((rd_T48 l0 x10_1).f0) == a1) = false := beq_eq_false_iff_ne.mpr c6
   have c6b1 : (((rd_T48 l0 x10_1).f0) != a1) = true := bne_iff_ne.mpr c6
   have H' := Aside0.mk H
   clear H
   have p635 : 0 ≤ (x10_1 : Int) := of_decide_eq_true q76t
   have q635 : x10_1 < (l0.length : Int) := of_decide_eq_true q76t
   obtain ⟨ad635, A635_8, c635_8, A635_11, c635_11, A635_12, c635_12, e635, hx635_0, hx635_1, hx635_2, hx635_3, hx635_4, hx635_5, hx635_6, hx635_7, hx635_8, hx635_9, hx635_10, hx635_11, hx635_12, hl635_8, hi635_8, hl635_11, hi635_11, hl635_12, hi635_12⟩ := at_T48 HR0.out x10_1 p635 q635
   cases e635
   replace hx635_0 := hbt HB hx635_0
   replace hx635_1 := hbt HB hx635_1
   replace hx635_2 := hbt HB hx635_2
   replace hx635_3 := hbt HB hx635_3
   replace hx635_4 := hbt HB hx635_4
   replace hx635_5 := hbt HB hx635_5
   replace hx635_6 := hbt HB hx635_6
   replace hx635_7 := hbt HB hx635_7
   replace hx635_8 := hbt HB hx635_8
   replace hx635_9 := hbt HB hx635_9
   replace hx635_10 := hbt HB hx635_10
   replace hx635_11 := hbt HB hx635_11
   replace hx635_12 := hbt HB hx635_12
   have HR635_8 := Aside0.mk hi635_8
   have HC635_8 := Aside0.mk hl635_8
   clear hi635_8 hl635_8
   have HR635_11 := Aside0.mk hi635_11
   have HC635_11 := Aside0.mk hl635_11
   clear hi635_11 hl635_11
   have HR635_12 := Aside0.mk hi635_12
   have HC635_12 := Aside0.mk hl635_12
   clear hi635_12 hl635_12
   replace p635 := eq_true p635
   replace q635 := eq_true q635
   go_wp2_with (first | ((with_reducible refine gate_dst (N := 7) rfl ?_); refine box_ev 7 #[.int .i64 0, .int .i64 0, .int .i64 0, .int .i64 0, .int .i64 0, .int .i64 0, .int .i64 0, .int .i64 0, .slice none 0 0, .int .i64 0, .int .i64 0, .slice none 0 0, .slice none 0 0] 48 ?_; intro gb636 hg w9 hbox hb; have BK636 := Aside0.mk (hbox); have GW636 := Aside0.mk ((q48t : w.heap.size ≤ gb636)); have GE636 := Aside0.mk ((q48t : w.heap.size ≤ gb636)); replace HB := Aside0.mk (below_step q53t hb); clear hb hbox hg; obtain ⟨hcz10_0, hcz10_1, hcz10_2, hcz10_3, hcz10_4, hcz10_5, hcz10_6, hcz10_7, hcz10_8, hcz10_9, hcz10_10, hcz10_11, hcz10_12⟩ := qc13 BK636.out; obtain ⟨hfz10_0, hfz10_1, hfz10_2, hfz10_3, hfz10_4, hfz10_5, hfz10_6, hfz10_7, hfz10_8, hfz10_9, hfz10_10, hfz10_11, hfz10_12⟩ := qf13 BK636.out))
   go_roundg k1
   case measure => have := HK1.out; omega
   case rel => exact ⟨(x5_1), (wrap64 (x10_1 + 1)), q81t, q81t, H', ⟨q84t⟩, ⟨q33t⟩⟩

/-! ### spec_CountNodes: function 19 -/
def spec_CountNodes.l0 : Nat → List (S48) → Int → Int → Int → Option (Int)
 | 0, _, _, _, _ => none
 | k + 1, x0, x1, x5, x6 => if x6 < (x0.length : Int) then (if 0 ≤ x6 then (if ((rd_T48 x0 x6).f0) = x1 then (spec_CountNodes.l0 k x0 x1 (wrap64 (x5 + 1)) (wrap64 (x6 + 1))) else (spec_CountNodes.l0 k x0 x1 x5 (wrap64 (x6 + 1)))) else (none)) else (some x5)
def spec_CountNodes.f (k : Nat) (l0 : List (S48)) (a1 : Int) : Option (Int) := spec_CountNodes.l0 k l0 a1 0 0
theorem spec_CountNodes.mono_l : ∀ k, (∀ y0 y1 y2 y3, LeO (spec_CountNodes.l0 k y0 y1 y2 y3) (spec_CountNodes.l0 (k + 1) y0 y1 y2 y3))
 | 0 => fun _ _ _ _ r h => by simp [spec_CountNodes.l0] at h
 | k + 1 => by
  have ih0 := spec_CountNodes.mono_l k
  ·intro y0 y1 y2 y3
   unfold spec_CountNodes.l0
   repeat' first
   | (with_reducible exact ih0 _ _ _ _)
   | (with_reducible exact LeO.refl _)
   | (with_reducible exact LeO.none _)
   | (with_reducible refine LeO.ite ?_ ?_)
   | (with_reducible refine LeO.bind ?_ (fun _ => ?_))
   | exact ih0 _ _ _ _
   | exact LeO.none _
   | refine LeO.ite ?_ ?_
   | refine LeO.bind ?_ (fun _ => ?_)
theorem spec_CountNodes.mono : ∀ a0 a1 k, LeO (spec_CountNodes.f k a0 a1) (spec_CountNodes.f (k + 1) a0 a1) := by
 intro a0 a1 k
 have ih0 := spec_CountNodes.mono_l k
 unfold spec_CountNodes.f
 repeat' first
   | (with_reducible exact ih0 _ _ _ _)
   | (with_reducible exact LeO.refl _)
   | (with_reducible exact LeO.none _)
   | (with_reducible refine LeO.ite ?_ ?_)
   | (with_reducible refine LeO.bind ?_ (fun _ => ?_))
   | exact ih0 _ _ _ _
   | exact LeO.none _
   | refine LeO.ite ?_ ?_
   | refine LeO.bind ?_ (fun _ => ?_)
set_option maxHeartbeats 8000000 in
set_option maxRecDepth 100000 in
theorem spec_CountNodes.calls (k : Nat) (A0 : Option Addr) (c0 : Nat) (l0 : List (S48)) (a1 : Int) (r : Int) (w : World) (hr0 : Kd.C k48 w A0 l0.length l0) (hc0 : l0.length ≤ c0) (h : spec_CountNodes.f k l0 a1 = some r) :
  Calls Try.prog 19 #[.slice A0 l0.length c0, .int .i64 a1] w fun e w' => e = .returned (.int .i64 r) ∧ Drawn0 w w' := by
 have HR0 := Aside0.mk hr0
 have HC0 := Aside0.mk hc0
 clear hr0 hc0
 have H : (spec_CountNodes.l0 k l0 a1 0 0) = some r := h
 clear h
 have H' := Aside0.mk H
 clear H
 go_enter Try.func19, Try.ntmps19
 go_wp2
 go_loopg [5, 6] k (fun kq v5 v6 w' => ∃ (x5_1 : Int) (x6_1 : Int), v5 = .int .i64 x5_1 ∧ v6 = .int .i64 x6_1 ∧ Aside0 (spec_CountNodes.l0 kq l0 a1 x5_1 x6_1 = some r) ∧ Aside0 (kq ≤ k) ∧ Drawn0 w w')
 case atStart => exact ⟨(0), (0), q81t, q81t, H', ⟨Nat.le_refl _⟩, q75t⟩
 case round =>
  clear H'
  try clear c1
  try clear p2
  obtain ⟨x5_1, x6_1, rfl, rfl, HA, HK1, ⟨m1, rfl⟩⟩ := hrel
  cases gk with
  | zero => exact absurd HA.out (by simp [spec_CountNodes.l0])
  | succ k1 =>
   have H := HA.out
   clear HA
   simp only [spec_CountNodes.l0] at H
   by_cases c3 : x6_1 < (l0.length : Int)
   rotate_left
   ·rw [if_neg c3] at H
    have c3b0 : decide (x6_1 < (l0.length : Int)) = false := decide_eq_false c3
    clear c3
    obtain rfl := Option.some.inj H
    go_wp2
    go_ret
    exact ⟨q81t, q75t⟩
   rw [if_pos c3] at H
   have c3b0 : decide (x6_1 < (l0.length : Int)) = true := decide_eq_true c3
   clear c3
   by_cases c4 : 0 ≤ x6_1
   rotate_left
   ·rw [if_neg c4] at H
    exact absurd H q87t
   rw [if_pos c4] at H
   have c4b0 : decide (0 ≤ x6_1) = true := decide_eq_true c4
   clear c4
   by_cases c5 : ((rd_T48 l0 x6_1).f0) = a1
   ·rw [if_pos c5] at H
    have c5b0 : (((rd_T48 l0 x6_1).f0) == a1) = true := beq_iff_eq.mpr c5
    have c5b1 : (((rd_T48 l0 x6_1).f0) != a1) = false := bne_eq_false_iff_eq.mpr c5
    clear c5
    have H' := Aside0.mk H
    clear H
    have p637 : 0 ≤ (x6_1 : Int) := of_decide_eq_true q76t
    have q637 : x6_1 < (l0.length : Int) := of_decide_eq_true q76t
    obtain ⟨ad637, A637_8, c637_8, A637_11, c637_11, A637_12, c637_12, e637, hx637_0, hx637_1, hx637_2, hx637_3, hx637_4, hx637_5, hx637_6, hx637_7, hx637_8, hx637_9, hx637_10, hx637_11, hx637_12, hl637_8, hi637_8, hl637_11, hi637_11, hl637_12, hi637_12⟩ := at_T48 HR0.out x6_1 p637 q637
    cases e637
    have HR637_8 := Aside0.mk hi637_8
    have HC637_8 := Aside0.mk hl637_8
    clear hi637_8 hl637_8
    have HR637_11 := Aside0.mk hi637_11
    have HC637_11 := Aside0.mk hl637_11
    clear hi637_11 hl637_11
    have HR637_12 := Aside0.mk hi637_12
    have HC637_12 := Aside0.mk hl637_12
    clear hi637_12 hl637_12
    replace p637 := eq_true p637
    replace q637 := eq_true q637
    go_wp2
    go_roundg k1
    case measure => have := HK1.out; omega
    case rel => exact ⟨(wrap64 (x5_1 + 1)), (wrap64 (x6_1 + 1)), q81t, q81t, H', ⟨q84t⟩, q75t⟩
   rw [if_neg c5] at H
   have c5b0 : (((rd_T48 l0 x6_1).f0) == a1) = false := beq_eq_false_iff_ne.mpr c5
   have c5b1 : (((rd_T48 l0 x6_1).f0) != a1) = true := bne_iff_ne.mpr c5
   have H' := Aside0.mk H
   clear H
   have p637 : 0 ≤ (x6_1 : Int) := of_decide_eq_true q76t
   have q637 : x6_1 < (l0.length : Int) := of_decide_eq_true q76t
   obtain ⟨ad637, A637_8, c637_8, A637_11, c637_11, A637_12, c637_12, e637, hx637_0, hx637_1, hx637_2, hx637_3, hx637_4, hx637_5, hx637_6, hx637_7, hx637_8, hx637_9, hx637_10, hx637_11, hx637_12, hl637_8, hi637_8, hl637_11, hi637_11, hl637_12, hi637_12⟩ := at_T48 HR0.out x6_1 p637 q637
   cases e637
   have HR637_8 := Aside0.mk hi637_8
   have HC637_8 := Aside0.mk hl637_8
   clear hi637_8 hl637_8
   have HR637_11 := Aside0.mk hi637_11
   have HC637_11 := Aside0.mk hl637_11
   clear hi637_11 hl637_11
   have HR637_12 := Aside0.mk hi637_12
   have HC637_12 := Aside0.mk hl637_12
   clear hi637_12 hl637_12
   replace p637 := eq_true p637
   replace q637 := eq_true q637
   go_wp2
   go_roundg k1
   case measure => have := HK1.out; omega
   case rel => exact ⟨(x5_1), (wrap64 (x6_1 + 1)), q81t, q81t, H', ⟨q84t⟩, q75t⟩

/-! ### impl_FreePlace_1: function 42 -/
def impl_FreePlace_1.f (a0_0 : Int) (a0_1 : Int) (a0_2 : Int) (a0_3 : Int) (a0_4 : Int) (a0_5 : Int) (a0_6 : Int) (a0_7 : Int) (l0_8 : List Int) (a0_9 : Int) (a0_10 : Int) (l0_11 : List (S74)) (l0_12 : List Int) : Option (Bool) := some (a0_0 == 0)
set_option maxHeartbeats 8000000 in
set_option maxRecDepth 100000 in
theorem impl_FreePlace_1.calls (a0_0 : Int) (a0_1 : Int) (a0_2 : Int) (a0_3 : Int) (a0_4 : Int) (a0_5 : Int) (a0_6 : Int) (a0_7 : Int) (A0_8 : Option Addr) (c0_8 : Nat) (l0_8 : List Int) (a0_9 : Int) (a0_10 : Int) (A0_11 : Option Addr) (c0_11 : Nat) (l0_11 : List (S74)) (A0_12 : Option Addr) (c0_12 : Nat) (l0_12 : List Int) (r : Bool) (w : World) (hr0_8 : Kd.C (Kd.int .i64) w A0_8 l0_8.length l0_8) (hc0_8 : l0_8.length ≤ c0_8) (hr0_11 : Kd.C k74 w A0_11 l0_11.length l0_11) (hc0_11 : l0_11.length ≤ c0_11) (hr0_12 : Kd.C (Kd.int .i64) w A0_12 l0_12.length l0_12) (hc0_12 : l0_12.length ≤ c0_12) (h : impl_FreePlace_1.f a0_0 a0_1 a0_2 a0_3 a0_4 a0_5 a0_6 a0_7 l0_8 a0_9 a0_10 l0_11 l0_12 = some r) :
  Calls Try.prog 42 #[.agg #[.int .i64 a0_0, .int .i64 a0_1, .int .i64 a0_2, .int .i64 a0_3, .int .i64 a0_4, .int .i64 a0_5, .int .i64 a0_6, .int .i64 a0_7, .slice A0_8 l0_8.length c0_8, .int .i64 a0_9, .int .i64 a0_10, .slice A0_11 l0_11.length c0_11, .slice A0_12 l0_12.length c0_12]] w fun e w' => e = .returned (.bool r) ∧ Below w.heap.size w w' := by
 have hu48 := Try.underlying48
 have HR0_8 := Aside0.mk hr0_8
 have HC0_8 := Aside0.mk hc0_8
 clear hr0_8 hc0_8
 have HR0_11 := Aside0.mk hr0_11
 have HC0_11 := Aside0.mk hc0_11
 clear hr0_11 hc0_11
 have HR0_12 := Aside0.mk hr0_12
 have HC0_12 := Aside0.mk hc0_12
 clear hr0_12 hc0_12
 have HB := Aside0.mk (Below.refl w.heap.size w)
 have H : (some (a0_0 == 0)) = some r := h
 clear h
 obtain rfl := Option.some.inj H
 go_enter Try.func42, Try.ntmps42
 go_wp2_with (first | ((with_reducible refine gate_dst (N := 1) rfl ?_); refine box_ev 1 #[.int .i64 a0_0, .int .i64 a0_1, .int .i64 a0_2, .int .i64 a0_3, .int .i64 a0_4, .int .i64 a0_5, .int .i64 a0_6, .int .i64 a0_7, .slice A0_8 l0_8.length c0_8, .int .i64 a0_9, .int .i64 a0_10, .slice A0_11 l0_11.length c0_11, .slice A0_12 l0_12.length c0_12] 48 ?_; intro gb638 hg w2 hbox hb; have BK638 := Aside0.mk (hbox); have GW638 := Aside0.mk ((q48t : w.heap.size ≤ gb638)); have GE638 := Aside0.mk ((q48t : w.heap.size ≤ gb638)); replace HB := Aside0.mk (below_step q53t hb); clear hb hbox hg; obtain ⟨hcz3_0, hcz3_1, hcz3_2, hcz3_3, hcz3_4, hcz3_5, hcz3_6, hcz3_7, hcz3_8, hcz3_9, hcz3_10, hcz3_11, hcz3_12⟩ := qc13 BK638.out; obtain ⟨hfz3_0, hfz3_1, hfz3_2, hfz3_3, hfz3_4, hfz3_5, hfz3_6, hfz3_7, hfz3_8, hfz3_9, hfz3_10, hfz3_11, hfz3_12⟩ := qf13 BK638.out))
 go_ret
 exact ⟨q73t, q33t⟩

/-! ### impl_Node_41: function 41 -/
def impl_Node_41.l0 : Nat → List (S48) → Int → Int → Option (Int)
 | 0, _, _, _ => none
 | k + 1, x0, x7, x8 => if x8 < x7 then (if 0 ≤ x8 then (if x8 < (x0.length : Int) then ((impl_FreePlace_1.f ((rd_T48 x0 x8).f0) ((rd_T48 x0 x8).f1) ((rd_T48 x0 x8).f2) ((rd_T48 x0 x8).f3) ((rd_T48 x0 x8).f4) ((rd_T48 x0 x8).f5) ((rd_T48 x0 x8).f6) ((rd_T48 x0 x8).f7) ((rd_T48 x0 x8).f8) ((rd_T48 x0 x8).f9) ((rd_T48 x0 x8).f10) ((rd_T48 x0 x8).f11) ((rd_T48 x0 x8).f12)).bind fun t640 => (if t640 = true then (some x8) else (impl_Node_41.l0 k x0 x7 (wrap64 (x8 + 1))))) else (none)) else (none)) else (some (-1))
def impl_Node_41.f (k : Nat) (l0 : List (S48))  : Option (Int) := impl_Node_41.l0 k l0 (l0.length : Int) 0
theorem impl_Node_41.mono_l : ∀ k, (∀ y0 y1 y2, LeO (impl_Node_41.l0 k y0 y1 y2) (impl_Node_41.l0 (k + 1) y0 y1 y2))
 | 0 => fun _ _ _ r h => by simp [impl_Node_41.l0] at h
 | k + 1 => by
  have ih0 := impl_Node_41.mono_l k
  ·intro y0 y1 y2
   unfold impl_Node_41.l0
   repeat' first
   | (with_reducible exact ih0 _ _ _)
   | (with_reducible exact LeO.refl _)
   | (with_reducible exact LeO.none _)
   | (with_reducible refine LeO.ite ?_ ?_)
   | (with_reducible refine LeO.bind ?_ (fun _ => ?_))
   | exact ih0 _ _ _
   | exact LeO.none _
   | refine LeO.ite ?_ ?_
   | refine LeO.bind ?_ (fun _ => ?_)
theorem impl_Node_41.mono : ∀ a0 k, LeO (impl_Node_41.f k a0) (impl_Node_41.f (k + 1) a0) := by
 intro a0 k
 have ih0 := impl_Node_41.mono_l k
 unfold impl_Node_41.f
 repeat' first
   | (with_reducible exact ih0 _ _ _)
   | (with_reducible exact LeO.refl _)
   | (with_reducible exact LeO.none _)
   | (with_reducible refine LeO.ite ?_ ?_)
   | (with_reducible refine LeO.bind ?_ (fun _ => ?_))
   | exact ih0 _ _ _
   | exact LeO.none _
   | refine LeO.ite ?_ ?_
   | refine LeO.bind ?_ (fun _ => ?_)
set_option maxHeartbeats 8000000 in
set_option maxRecDepth 100000 in
theorem impl_Node_41.calls (k : Nat) (A0 : Option Addr) (c0 : Nat) (l0 : List (S48))  (r : Int) (w : World) (hr0 : Kd.C k48 w A0 l0.length l0) (hc0 : l0.length ≤ c0) (h : impl_Node_41.f k l0 = some r) :
  Calls Try.prog 41 #[.slice A0 l0.length c0, .func (.func 42) #[] #[]] w fun e w' => e = .returned (.int .i64 r) ∧ Below w.heap.size w w' := by
 have hu48 := Try.underlying48
 have HR0 := Aside0.mk hr0
 have HC0 := Aside0.mk hc0
 clear hr0 hc0
 have HB := Aside0.mk (Below.refl w.heap.size w)
 have H : (impl_Node_41.l0 k l0 (l0.length : Int) 0) = some r := h
 clear h
 have H' := Aside0.mk H
 clear H
 go_enter Try.func41, Try.ntmps41
 go_wp2
 go_loopg [8] k (fun kq v8 w' => ∃ (x8_1 : Int), v8 = .int .i64 x8_1 ∧ Aside0 (impl_Node_41.l0 kq l0 (l0.length : Int) x8_1 = some r) ∧ Aside0 (kq ≤ k) ∧ Aside0 (Below w.heap.size w w'))
 case atStart => exact ⟨(0), q81t, H', ⟨Nat.le_refl _⟩, ⟨q53t⟩⟩
 case round =>
  clear H'
  try clear p2
  obtain ⟨x8_1, rfl, HA, HK1, HB⟩ := hrel
  cases gk with
  | zero => exact absurd HA.out (by simp [impl_Node_41.l0])
  | succ k1 =>
   have H := HA.out
   clear HA
   simp only [impl_Node_41.l0] at H
   by_cases c3 : x8_1 < (l0.length : Int)
   rotate_left
   ·rw [if_neg c3] at H
    have c3b0 : decide (x8_1 < (l0.length : Int)) = false := decide_eq_false c3
    clear c3
    obtain rfl := Option.some.inj H
    go_wp2
    go_ret
    exact ⟨q73t, q53t⟩
   rw [if_pos c3] at H
   have c3b0 : decide (x8_1 < (l0.length : Int)) = true := decide_eq_true c3
   clear c3
   by_cases c4 : 0 ≤ x8_1
   rotate_left
   ·rw [if_neg c4] at H
    exact absurd H q87t
   rw [if_pos c4] at H
   have c4b0 : decide (0 ≤ x8_1) = true := decide_eq_true c4
   clear c4
   by_cases c5 : x8_1 < (l0.length : Int)
   rotate_left
   ·rw [if_neg c5] at H
    exact absurd H q87t
   rw [if_pos c5] at H
   have c5b0 : decide (x8_1 < (l0.length : Int)) = true := decide_eq_true c5
   clear c5
   replace H := Option.bind_eq_some_iff.mp H
   obtain ⟨t640, A60, H⟩ := H
   try dsimp only at H
   have A6 := Aside0.mk A60
   clear A60
   by_cases c7 : t640 = true
   ·subst c7
    rw [if_pos rfl] at H
    obtain rfl := Option.some.inj H
    have p639 : 0 ≤ (x8_1 : Int) := of_decide_eq_true q76t
    have q639 : x8_1 < (l0.length : Int) := of_decide_eq_true q76t
    obtain ⟨ad639, A639_8, c639_8, A639_11, c639_11, A639_12, c639_12, e639, hx639_0, hx639_1, hx639_2, hx639_3, hx639_4, hx639_5, hx639_6, hx639_7, hx639_8, hx639_9, hx639_10, hx639_11, hx639_12, hl639_8, hi639_8, hl639_11, hi639_11, hl639_12, hi639_12⟩ := at_T48 HR0.out x8_1 p639 q639
    cases e639
    replace hx639_0 := hbt HB hx639_0
    replace hx639_1 := hbt HB hx639_1
    replace hx639_2 := hbt HB hx639_2
    replace hx639_3 := hbt HB hx639_3
    replace hx639_4 := hbt HB hx639_4
    replace hx639_5 := hbt HB hx639_5
    replace hx639_6 := hbt HB hx639_6
    replace hx639_7 := hbt HB hx639_7
    replace hx639_8 := hbt HB hx639_8
    replace hx639_9 := hbt HB hx639_9
    replace hx639_10 := hbt HB hx639_10
    replace hx639_11 := hbt HB hx639_11
    replace hx639_12 := hbt HB hx639_12
    have HR639_8 := Aside0.mk hi639_8
    have HC639_8 := Aside0.mk hl639_8
    clear hi639_8 hl639_8
    have HR639_11 := Aside0.mk hi639_11
    have HC639_11 := Aside0.mk hl639_11
    clear hi639_11 hl639_11
    have HR639_12 := Aside0.mk hi639_12
    have HC639_12 := Aside0.mk hl639_12
    clear hi639_12 hl639_12
    replace p639 := eq_true p639
    replace q639 := eq_true q639
    go_wp2_with (first | (go_at_call 42; (with_reducible refine (impl_FreePlace_1.calls ((rd_T48 l0 x8_1).f0) ((rd_T48 l0 x8_1).f1) ((rd_T48 l0 x8_1).f2) ((rd_T48 l0 x8_1).f3) ((rd_T48 l0 x8_1).f4) ((rd_T48 l0 x8_1).f5) ((rd_T48 l0 x8_1).f6) ((rd_T48 l0 x8_1).f7) _ _ ((rd_T48 l0 x8_1).f8) ((rd_T48 l0 x8_1).f9) ((rd_T48 l0 x8_1).f10) _ _ ((rd_T48 l0 x8_1).f11) _ _ ((rd_T48 l0 x8_1).f12) true _ ?side1 ?side2 ?side3 ?side4 ?side5 ?side6 A6.out).mono ?_); (case side1 => exact sC (Kd.C_below HR639_8.out HB.out)); (case side2 => exact HC639_8.out); (case side3 => exact sC (Kd.C_below HR639_11.out HB.out)); (case side4 => exact HC639_11.out); (case side5 => exact sC (Kd.C_below HR639_12.out HB.out)); (case side6 => exact HC639_12.out); rintro e w8 ⟨rfl, hb⟩; replace HB := Aside0.mk (below_step q53t hb); (try clear hb); (try clear hb2); (try clear hk); (try clear hi)))
    go_ret
    exact ⟨q73t, q53t⟩
   replace c7 := Bool.eq_false_iff.mpr c7
   subst c7
   rw [if_neg (show ¬ (false = true) by decide)] at H
   have H' := Aside0.mk H
   clear H
   have p639 : 0 ≤ (x8_1 : Int) := of_decide_eq_true q76t
   have q639 : x8_1 < (l0.length : Int) := of_decide_eq_true q76t
   obtain ⟨ad639, A639_8, c639_8, A639_11, c639_11, A639_12, c639_12, e639, hx639_0, hx639_1, hx639_2, hx639_3, hx639_4, hx639_5, hx639_6, hx639_7, hx639_8, hx639_9, hx639_10, hx639_11, hx639_12, hl639_8, hi639_8, hl639_11, hi639_11, hl639_12, hi639_12⟩ := at_T48 HR0.out x8_1 p639 q639
   cases e639
   replace hx639_0 := hbt HB hx639_0
   replace hx639_1 := hbt HB hx639_1
   replace hx639_2 := hbt HB hx639_2
   replace hx639_3 := hbt HB hx639_3
   replace hx639_4 := hbt HB hx639_4
   replace hx639_5 := hbt HB hx639_5
   replace hx639_6 := hbt HB hx639_6
   replace hx639_7 := hbt HB hx639_7
   replace hx639_8 := hbt HB hx639_8
   replace hx639_9 := hbt HB hx639_9
   replace hx639_10 := hbt HB hx639_10
   replace hx639_11 := hbt HB hx639_11
   replace hx639_12 := hbt HB hx639_12
   have HR639_8 := Aside0.mk hi639_8
   have HC639_8 := Aside0.mk hl639_8
   clear hi639_8 hl639_8
   have HR639_11 := Aside0.mk hi639_11
   have HC639_11 := Aside0.mk hl639_11
   clear hi639_11 hl639_11
   have HR639_12 := Aside0.mk hi639_12
   have HC639_12 := Aside0.mk hl639_12
   clear hi639_12 hl639_12
   replace p639 := eq_true p639
   replace q639 := eq_true q639
   go_wp2_with (first | (go_at_call 42; (with_reducible refine (impl_FreePlace_1.calls ((rd_T48 l0 x8_1).f0) ((rd_T48 l0 x8_1).f1) ((rd_T48 l0 x8_1).f2) ((rd_T48 l0 x8_1).f3) ((rd_T48 l0 x8_1).f4) ((rd_T48 l0 x8_1).f5) ((rd_T48 l0 x8_1).f6) ((rd_T48 l0 x8_1).f7) _ _ ((rd_T48 l0 x8_1).f8) ((rd_T48 l0 x8_1).f9) ((rd_T48 l0 x8_1).f10) _ _ ((rd_T48 l0 x8_1).f11) _ _ ((rd_T48 l0 x8_1).f12) false _ ?side1 ?side2 ?side3 ?side4 ?side5 ?side6 A6.out).mono ?_); (case side1 => exact sC (Kd.C_below HR639_8.out HB.out)); (case side2 => exact HC639_8.out); (case side3 => exact sC (Kd.C_below HR639_11.out HB.out)); (case side4 => exact HC639_11.out); (case side5 => exact sC (Kd.C_below HR639_12.out HB.out)); (case side6 => exact HC639_12.out); rintro e w9 ⟨rfl, hb⟩; replace HB := Aside0.mk (below_step q53t hb); (try clear hb); (try clear hb2); (try clear hk); (try clear hi)))
   go_roundg k1
   case measure => have := HK1.out; omega
   case rel => exact ⟨(wrap64 (x8_1 + 1)), q81t, H', ⟨q84t⟩, ⟨q53t⟩⟩

/-! ### impl_FreePlace: function 20 -/
def impl_FreePlace.f (k : Nat) (l0 : List (S48)) : Option (Int) := (impl_Node_41.f k l0).bind fun t641 => (some t641)
theorem impl_FreePlace.mono : ∀ a0 k, LeO (impl_FreePlace.f k a0) (impl_FreePlace.f (k + 1) a0) := by
 intro a0 k
 unfold impl_FreePlace.f
 repeat' first
   | (with_reducible exact impl_Node_41.mono _ _)
   | (with_reducible exact LeO.refl _)
   | (with_reducible exact LeO.none _)
   | (with_reducible refine LeO.ite ?_ ?_)
   | (with_reducible refine LeO.bind ?_ (fun _ => ?_))
   | exact impl_Node_41.mono _ _
   | exact LeO.none _
   | refine LeO.ite ?_ ?_
   | refine LeO.bind ?_ (fun _ => ?_)
set_option maxHeartbeats 8000000 in
set_option maxRecDepth 100000 in
theorem impl_FreePlace.calls (k : Nat) (A0 : Option Addr) (c0 : Nat) (l0 : List (S48)) (r : Int) (w : World) (hr0 : Kd.C k48 w A0 l0.length l0) (hc0 : l0.length ≤ c0) (h : impl_FreePlace.f k l0 = some r) :
  Calls Try.prog 20 #[.slice A0 l0.length c0] w fun e w' => e = .returned (.int .i64 r) ∧ Below w.heap.size w w' := by
 have HR0 := Aside0.mk hr0
 have HC0 := Aside0.mk hc0
 clear hr0 hc0
 have HB := Aside0.mk (Below.refl w.heap.size w)
 have H : ((impl_Node_41.f k l0).bind fun t641 => (some t641)) = some r := h
 clear h
 replace H := Option.bind_eq_some_iff.mp H
 obtain ⟨t641, A20, H⟩ := H
 try dsimp only at H
 have A2 := Aside0.mk A20
 clear A20
 obtain rfl := Option.some.inj H
 go_enter Try.func20, Try.ntmps20
 go_wp2_with (first | ((with_reducible refine gate_callee (f := 41) rfl ?_); refine goesL_ (some 4) rfl rfl Try.func41 (by kernel_rfl) rfl #[.slice A0 l0.length c0, .func (.func 42) #[] #[]] rfl q51t ?_; (with_reducible refine (impl_Node_41.calls k _ _ l0  t641 _ ?side1 ?side2 A2.out).mono ?_); (case side1 => repeat (first | exact HR0.out | (with_reducible refine Kd.C_alloc ?_ _) | (with_reducible refine Kd.C_drewN ?_ _) | (with_reducible refine Kd.C_drew ?_))); (case side2 => exact HC0.out); rintro e w3 ⟨rfl, hb⟩; refine ⟨_, rfl, ?_⟩; replace HB := Aside0.mk (below_step q53t hb); (try clear hb); (try clear hb2); (try clear hk); (try clear hi)))
 go_ret
 exact ⟨q73t, q53t⟩

/-! ### spec_FreePlace: function 21 -/
def spec_FreePlace.l0 : Nat → List (S48) → Int → Option (Int)
 | 0, _, _ => none
 | k + 1, x0, x3 => if x3 < (x0.length : Int) then (if 0 ≤ x3 then (if ((rd_T48 x0 x3).f0) = 0 then (some x3) else (spec_FreePlace.l0 k x0 (wrap64 (x3 + 1)))) else (none)) else (some (-1))
def spec_FreePlace.f (k : Nat) (l0 : List (S48)) : Option (Int) := spec_FreePlace.l0 k l0 0
theorem spec_FreePlace.mono_l : ∀ k, (∀ y0 y1, LeO (spec_FreePlace.l0 k y0 y1) (spec_FreePlace.l0 (k + 1) y0 y1))
 | 0 => fun _ _ r h => by simp [spec_FreePlace.l0] at h
 | k + 1 => by
  have ih0 := spec_FreePlace.mono_l k
  ·intro y0 y1
   unfold spec_FreePlace.l0
   repeat' first
   | (with_reducible exact ih0 _ _)
   | (with_reducible exact LeO.refl _)
   | (with_reducible exact LeO.none _)
   | (with_reducible refine LeO.ite ?_ ?_)
   | (with_reducible refine LeO.bind ?_ (fun _ => ?_))
   | exact ih0 _ _
   | exact LeO.none _
   | refine LeO.ite ?_ ?_
   | refine LeO.bind ?_ (fun _ => ?_)
theorem spec_FreePlace.mono : ∀ a0 k, LeO (spec_FreePlace.f k a0) (spec_FreePlace.f (k + 1) a0) := by
 intro a0 k
 have ih0 := spec_FreePlace.mono_l k
 unfold spec_FreePlace.f
 repeat' first
   | (with_reducible exact ih0 _ _)
   | (with_reducible exact LeO.refl _)
   | (with_reducible exact LeO.none _)
   | (with_reducible refine LeO.ite ?_ ?_)
   | (with_reducible refine LeO.bind ?_ (fun _ => ?_))
   | exact ih0 _ _
   | exact LeO.none _
   | refine LeO.ite ?_ ?_
   | refine LeO.bind ?_ (fun _ => ?_)
set_option maxHeartbeats 8000000 in
set_option maxRecDepth 100000 in
theorem spec_FreePlace.calls (k : Nat) (A0 : Option Addr) (c0 : Nat) (l0 : List (S48)) (r : Int) (w : World) (hr0 : Kd.C k48 w A0 l0.length l0) (hc0 : l0.length ≤ c0) (h : spec_FreePlace.f k l0 = some r) :
  Calls Try.prog 21 #[.slice A0 l0.length c0] w fun e w' => e = .returned (.int .i64 r) ∧ Drawn0 w w' := by
 have HR0 := Aside0.mk hr0
 have HC0 := Aside0.mk hc0
 clear hr0 hc0
 have H : (spec_FreePlace.l0 k l0 0) = some r := h
 clear h
 have H' := Aside0.mk H
 clear H
 go_enter Try.func21, Try.ntmps21
 go_wp2
 go_loopg [3] k (fun kq v3 w' => ∃ (x3_1 : Int), v3 = .int .i64 x3_1 ∧ Aside0 (spec_FreePlace.l0 kq l0 x3_1 = some r) ∧ Aside0 (kq ≤ k) ∧ Drawn0 w w')
 case atStart => exact ⟨(0), q81t, H', ⟨Nat.le_refl _⟩, q75t⟩
 case round =>
  clear H'
  obtain ⟨x3_1, rfl, HA, HK1, ⟨m1, rfl⟩⟩ := hrel
  cases gk with
  | zero => exact absurd HA.out (by simp [spec_FreePlace.l0])
  | succ k1 =>
   have H := HA.out
   clear HA
   simp only [spec_FreePlace.l0] at H
   by_cases c2 : x3_1 < (l0.length : Int)
   rotate_left
   ·rw [if_neg c2] at H
    have c2b0 : decide (x3_1 < (l0.length : Int)) = false := decide_eq_false c2
    clear c2
    obtain rfl := Option.some.inj H
    go_wp2
    go_ret
    exact ⟨q81t, q75t⟩
   rw [if_pos c2] at H
   have c2b0 : decide (x3_1 < (l0.length : Int)) = true := decide_eq_true c2
   clear c2
   by_cases c3 : 0 ≤ x3_1
   rotate_left
   ·rw [if_neg c3] at H
    exact absurd H q87t
   rw [if_pos c3] at H
   have c3b0 : decide (0 ≤ x3_1) = true := decide_eq_true c3
   clear c3
   by_cases c4 : ((rd_T48 l0 x3_1).f0) = 0
   ·rw [if_pos c4] at H
    have c4b0 : (((rd_T48 l0 x3_1).f0) == 0) = true := beq_iff_eq.mpr c4
    have c4b1 : (((rd_T48 l0 x3_1).f0) != 0) = false := bne_eq_false_iff_eq.mpr c4
    clear c4
    obtain rfl := Option.some.inj H
    have p642 : 0 ≤ (x3_1 : Int) := of_decide_eq_true q76t
    have q642 : x3_1 < (l0.length : Int) := of_decide_eq_true q76t
    obtain ⟨ad642, A642_8, c642_8, A642_11, c642_11, A642_12, c642_12, e642, hx642_0, hx642_1, hx642_2, hx642_3, hx642_4, hx642_5, hx642_6, hx642_7, hx642_8, hx642_9, hx642_10, hx642_11, hx642_12, hl642_8, hi642_8, hl642_11, hi642_11, hl642_12, hi642_12⟩ := at_T48 HR0.out x3_1 p642 q642
    cases e642
    have HR642_8 := Aside0.mk hi642_8
    have HC642_8 := Aside0.mk hl642_8
    clear hi642_8 hl642_8
    have HR642_11 := Aside0.mk hi642_11
    have HC642_11 := Aside0.mk hl642_11
    clear hi642_11 hl642_11
    have HR642_12 := Aside0.mk hi642_12
    have HC642_12 := Aside0.mk hl642_12
    clear hi642_12 hl642_12
    replace p642 := eq_true p642
    replace q642 := eq_true q642
    go_wp2
    go_ret
    exact ⟨q81t, q75t⟩
   rw [if_neg c4] at H
   have c4b0 : (((rd_T48 l0 x3_1).f0) == 0) = false := beq_eq_false_iff_ne.mpr c4
   have c4b1 : (((rd_T48 l0 x3_1).f0) != 0) = true := bne_iff_ne.mpr c4
   have H' := Aside0.mk H
   clear H
   have p642 : 0 ≤ (x3_1 : Int) := of_decide_eq_true q76t
   have q642 : x3_1 < (l0.length : Int) := of_decide_eq_true q76t
   obtain ⟨ad642, A642_8, c642_8, A642_11, c642_11, A642_12, c642_12, e642, hx642_0, hx642_1, hx642_2, hx642_3, hx642_4, hx642_5, hx642_6, hx642_7, hx642_8, hx642_9, hx642_10, hx642_11, hx642_12, hl642_8, hi642_8, hl642_11, hi642_11, hl642_12, hi642_12⟩ := at_T48 HR0.out x3_1 p642 q642
   cases e642
   have HR642_8 := Aside0.mk hi642_8
   have HC642_8 := Aside0.mk hl642_8
   clear hi642_8 hl642_8
   have HR642_11 := Aside0.mk hi642_11
   have HC642_11 := Aside0.mk hl642_11
   clear hi642_11 hl642_11
   have HR642_12 := Aside0.mk hi642_12
   have HC642_12 := Aside0.mk hl642_12
   clear hi642_12 hl642_12
   replace p642 := eq_true p642
   replace q642 := eq_true q642
   go_wp2
   go_roundg k1
   case measure => have := HK1.out; omega
   case rel => exact ⟨(wrap64 (x3_1 + 1)), q81t, H', ⟨q84t⟩, q75t⟩

/-! ### slices_Equal_int_int: function 55 -/
def slices_Equal_int_int.l0 : Nat → List Int → List Int → Int → Int → Option (Bool)
 | 0, _, _, _, _ => none
 | k + 1, x0, x1, x12, x13 => if x13 < x12 then (if 0 ≤ x13 then (if x13 < (x0.length : Int) then (if x13 < (x1.length : Int) then (if (rd x0 x13) = (rd x1 x13) then (slices_Equal_int_int.l0 k x0 x1 x12 (wrap64 (x13 + 1))) else (some false)) else (none)) else (none)) else (none)) else (some true)
def slices_Equal_int_int.f (k : Nat) (l0 : List Int) (l1 : List Int) : Option (Bool) := if (l0.length : Int) = (l1.length : Int) then (slices_Equal_int_int.l0 k l0 l1 (l0.length : Int) 0) else (some false)
theorem slices_Equal_int_int.mono_l : ∀ k, (∀ y0 y1 y2 y3, LeO (slices_Equal_int_int.l0 k y0 y1 y2 y3) (slices_Equal_int_int.l0 (k + 1) y0 y1 y2 y3))
 | 0 => fun _ _ _ _ r h => by simp [slices_Equal_int_int.l0] at h
 | k + 1 => by
  have ih0 := slices_Equal_int_int.mono_l k
  ·intro y0 y1 y2 y3
   unfold slices_Equal_int_int.l0
   repeat' first
   | (with_reducible exact ih0 _ _ _ _)
   | (with_reducible exact LeO.refl _)
   | (with_reducible exact LeO.none _)
   | (with_reducible refine LeO.ite ?_ ?_)
   | (with_reducible refine LeO.bind ?_ (fun _ => ?_))
   | exact ih0 _ _ _ _
   | exact LeO.none _
   | refine LeO.ite ?_ ?_
   | refine LeO.bind ?_ (fun _ => ?_)
theorem slices_Equal_int_int.mono : ∀ a0 a1 k, LeO (slices_Equal_int_int.f k a0 a1) (slices_Equal_int_int.f (k + 1) a0 a1) := by
 intro a0 a1 k
 have ih0 := slices_Equal_int_int.mono_l k
 unfold slices_Equal_int_int.f
 repeat' first
   | (with_reducible exact ih0 _ _ _ _)
   | (with_reducible exact LeO.refl _)
   | (with_reducible exact LeO.none _)
   | (with_reducible refine LeO.ite ?_ ?_)
   | (with_reducible refine LeO.bind ?_ (fun _ => ?_))
   | exact ih0 _ _ _ _
   | exact LeO.none _
   | refine LeO.ite ?_ ?_
   | refine LeO.bind ?_ (fun _ => ?_)
set_option maxHeartbeats 8000000 in
set_option maxRecDepth 100000 in
theorem slices_Equal_int_int.calls (k : Nat) (A0 : Option Addr) (c0 : Nat) (l0 : List Int) (A1 : Option Addr) (c1 : Nat) (l1 : List Int) (r : Bool) (w : World) (hr0 : Kd.C (Kd.int .i64) w A0 l0.length l0) (hc0 : l0.length ≤ c0) (hr1 : Kd.C (Kd.int .i64) w A1 l1.length l1) (hc1 : l1.length ≤ c1) (h : slices_Equal_int_int.f k l0 l1 = some r) :
  Calls Try.prog 55 #[.slice A0 l0.length c0, .slice A1 l1.length c1] w fun e w' => e = .returned (.bool r) ∧ Drawn0 w w' := by
 have HR0 := Aside0.mk hr0
 have HC0 := Aside0.mk hc0
 clear hr0 hc0
 have HR1 := Aside0.mk hr1
 have HC1 := Aside0.mk hc1
 clear hr1 hc1
 have H : (if (l0.length : Int) = (l1.length : Int) then (slices_Equal_int_int.l0 k l0 l1 (l0.length : Int) 0) else (some false)) = some r := h
 clear h
 by_cases c3 : (l0.length : Int) = (l1.length : Int)
 rotate_left
 ·rw [if_neg c3] at H
  have c3b0 : ((l0.length : Int) == (l1.length : Int)) = false := beq_eq_false_iff_ne.mpr c3
  have c3b1 : ((l0.length : Int) != (l1.length : Int)) = true := bne_iff_ne.mpr c3
  have c3b2 : (l0.length == l1.length) = false := by first | simpa using c3 | (simp at c3 ⊢; omega)
  obtain rfl := Option.some.inj H
  go_enter Try.func55, Try.ntmps55
  go_wp2
  repeat (go_quiet (fail); try go_wp2)
  go_ret
  exact ⟨q81t, q75t⟩
 rw [if_pos c3] at H
 have c3b0 : ((l0.length : Int) == (l1.length : Int)) = true := beq_iff_eq.mpr c3
 have c3b1 : ((l0.length : Int) != (l1.length : Int)) = false := bne_eq_false_iff_eq.mpr c3
 have c3b2 : (l0.length == l1.length) = true := by first | simpa using c3 | (simp at c3 ⊢; omega)
 clear c3
 have H' := Aside0.mk H
 clear H
 go_enter Try.func55, Try.ntmps55
 go_wp2
 repeat (go_quiet (fail); try go_wp2)
 go_loopg [13] k (fun kq v13 w' => ∃ (x13_1 : Int), v13 = .int .i64 x13_1 ∧ Aside0 (slices_Equal_int_int.l0 kq l0 l1 (l0.length : Int) x13_1 = some r) ∧ Aside0 (kq ≤ k) ∧ Drawn0 w w')
 case atStart => exact ⟨(0), q81t, H', ⟨Nat.le_refl _⟩, q75t⟩
 case round =>
  clear H'
  try clear c1
  try clear p2
  try clear c3
  try clear c3b0
  try clear c3b1
  try clear c3b2
  obtain ⟨x13_1, rfl, HA, HK1, ⟨m1, rfl⟩⟩ := hrel
  cases gk with
  | zero => exact absurd HA.out (by simp [slices_Equal_int_int.l0])
  | succ k1 =>
   have H := HA.out
   clear HA
   simp only [slices_Equal_int_int.l0] at H
   by_cases c4 : x13_1 < (l0.length : Int)
   rotate_left
   ·rw [if_neg c4] at H
    have c4b0 : decide (x13_1 < (l0.length : Int)) = false := decide_eq_false c4
    clear c4
    obtain rfl := Option.some.inj H
    go_wp2
    repeat (go_quiet (fail); try go_wp2)
    go_ret
    exact ⟨q81t, q75t⟩
   rw [if_pos c4] at H
   have c4b0 : decide (x13_1 < (l0.length : Int)) = true := decide_eq_true c4
   clear c4
   by_cases c5 : 0 ≤ x13_1
   rotate_left
   ·rw [if_neg c5] at H
    exact absurd H q87t
   rw [if_pos c5] at H
   have c5b0 : decide (0 ≤ x13_1) = true := decide_eq_true c5
   clear c5
   by_cases c6 : x13_1 < (l0.length : Int)
   rotate_left
   ·rw [if_neg c6] at H
    exact absurd H q87t
   rw [if_pos c6] at H
   have c6b0 : decide (x13_1 < (l0.length : Int)) = true := decide_eq_true c6
   clear c6
   by_cases c7 : x13_1 < (l1.length : Int)
   rotate_left
   ·rw [if_neg c7] at H
    exact absurd H q87t
   rw [if_pos c7] at H
   have c7b0 : decide (x13_1 < (l1.length : Int)) = true := decide_eq_true c7
   clear c7
   by_cases c8 : (rd l0 x13_1) = (rd l1 x13_1)
   ·rw [if_pos c8] at H
    have c8b0 : ((rd l0 x13_1) == (rd l1 x13_1)) = true := beq_iff_eq.mpr c8
    have c8b1 : ((rd l0 x13_1) != (rd l1 x13_1)) = false := bne_eq_false_iff_eq.mpr c8
    clear c8
    have H' := Aside0.mk H
    clear H
    have p643 : 0 ≤ (x13_1 : Int) := of_decide_eq_true q76t
    have q643 : x13_1 < (l0.length : Int) := of_decide_eq_true q76t
    obtain ⟨ad643, e643, hx643_0⟩ := Kd.at_int HR0.out x13_1 p643 q643
    cases e643
    replace p643 := eq_true p643
    replace q643 := eq_true q643
    have p644 : 0 ≤ (x13_1 : Int) := of_decide_eq_true q76t
    have q644 : x13_1 < (l1.length : Int) := of_decide_eq_true q76t
    obtain ⟨ad644, e644, hx644_0⟩ := Kd.at_int HR1.out x13_1 p644 q644
    cases e644
    replace p644 := eq_true p644
    replace q644 := eq_true q644
    go_wp2
    repeat (go_quiet (fail); try go_wp2)
    go_roundg k1
    case measure => have := HK1.out; omega
    case rel => exact ⟨(wrap64 (x13_1 + 1)), q81t, H', ⟨q84t⟩, q75t⟩
   rw [if_neg c8] at H
   have c8b0 : ((rd l0 x13_1) == (rd l1 x13_1)) = false := beq_eq_false_iff_ne.mpr c8
   have c8b1 : ((rd l0 x13_1) != (rd l1 x13_1)) = true := bne_iff_ne.mpr c8
   obtain rfl := Option.some.inj H
   have p643 : 0 ≤ (x13_1 : Int) := of_decide_eq_true q76t
   have q643 : x13_1 < (l0.length : Int) := of_decide_eq_true q76t
   obtain ⟨ad643, e643, hx643_0⟩ := Kd.at_int HR0.out x13_1 p643 q643
   cases e643
   replace p643 := eq_true p643
   replace q643 := eq_true q643
   have p644 : 0 ≤ (x13_1 : Int) := of_decide_eq_true q76t
   have q644 : x13_1 < (l1.length : Int) := of_decide_eq_true q76t
   obtain ⟨ad644, e644, hx644_0⟩ := Kd.at_int HR1.out x13_1 p644 q644
   cases e644
   replace p644 := eq_true p644
   replace q644 := eq_true q644
   go_wp2
   repeat (go_quiet (fail); try go_wp2)
   go_ret
   exact ⟨q81t, q75t⟩

end Go.Proofs.Ytofpmdgndegalab.QFnTables
