/- What the functions that the law FnNodes reaches compute, as plain functions, and that the code computes just that (by a program of this session's; the library's functions by hand). No condition. -/
import Derived.Test.YtofpmdgndegalacDoorQFnNodesx0
namespace Go.Proofs.YtofpmdgndegalacDoor.QFnNodes
open Go.RowKit Go.Proofs.YtofpmdgndegalacDoorW.PrintWords Go.Proofs.YtofpmdgndegalacDoorW.PrintLast Go.Proofs.YtofpmdgndegalacDoorW.PrintMore
attribute [local go_sem] max2_int min2_int max_two min_two max_three min_three max_four min_four   -- for this text's walks alone
set_option linter.unusedVariables false
set_option linter.unusedSimpArgs false

/-! ### spec_Bare: function 14 -/
def spec_Bare.f (aa : Int) (ab : Int) (ac : Int) (af : Int) (ag : Int) (ae : Int) (aJ : Int) (aK : Int) (av : List Int) (aM : Int) (aN : Int) (au : List (S33)) (ax : List Int) : Option (Bool) := if ac = 0 then (if af = 0 then (if ag = 0 then (if ae = 0 then (if aJ = 0 then (if aK = 0 then (if (av.length : Int) = 0 then (if aM = 0 then (if aN = 0 then (if (au.length : Int) = 0 then (some ((ax.length : Int) == 0)) else (some false)) else (some false)) else (some false)) else (some false)) else (some false)) else (some false)) else (some false)) else (some false)) else (some false)) else (some false)
set_option maxHeartbeats 8000000 in
set_option maxRecDepth 100000 in
theorem spec_Bare.calls (aa : Int) (ab : Int) (ac : Int) (af : Int) (ag : Int) (ae : Int) (aJ : Int) (aK : Int) (A0_8 : Option Addr) (c0_8 : Nat) (av : List Int) (aM : Int) (aN : Int) (A0_11 : Option Addr) (c0_11 : Nat) (au : List (S33)) (A0_12 : Option Addr) (c0_12 : Nat) (ax : List Int) (r : Bool) (w : World) (hr0_8 : Kd.C (Kd.int .i64) w A0_8 av.length av) (hc0_8 : av.length ≤ c0_8) (hr0_11 : Kd.C k33 w A0_11 au.length au) (hc0_11 : au.length ≤ c0_11) (hr0_12 : Kd.C (Kd.int .i64) w A0_12 ax.length ax) (hc0_12 : ax.length ≤ c0_12) (h : spec_Bare.f aa ab ac af ag ae aJ aK av aM aN au ax = some r) :
  Calls Tryd.prog 14 #[.agg #[aa, ab, ac, af, ag, ae, aJ, aK, .slice A0_8 av.length c0_8, aM, aN, .slice A0_11 au.length c0_11, .slice A0_12 ax.length c0_12]] w fun e w' => e = .returned (.bool r) ∧ Below w.heap.size w w' := by
 have hu29 := Tryd.underlying29
 have d1 := Aside0.mk hr0_8
 have ec := Aside0.mk hc0_8
 clear hr0_8 hc0_8
 have jA := Aside0.mk hr0_11
 have ml := Aside0.mk hc0_11
 clear hr0_11 hc0_11
 have jB := Aside0.mk hr0_12
 have ko := Aside0.mk hc0_12
 clear hr0_12 hc0_12
 have HB := am (Below.refl w.heap.size w)
 have H : (if ac = 0 then (if af = 0 then (if ag = 0 then (if ae = 0 then (if aJ = 0 then (if aK = 0 then (if (av.length : Int) = 0 then (if aM = 0 then (if aN = 0 then (if (au.length : Int) = 0 then (some ((ax.length : Int) == 0)) else (some false)) else (some false)) else (some false)) else (some false)) else (some false)) else (some false)) else (some false)) else (some false)) else (some false)) else (some false)) = some r := h
 clear h
 by_cases c2 : ac = 0
 rotate_left
 ·rw [if_neg c2] at H
  have ni : (ac == 0) = false := beq_eq_false_iff_ne.mpr c2
  have vB : (ac != 0) = true := bne_iff_ne.mpr c2
  obtain rfl := Option.some.inj H
  go_enter Tryd.func14, Tryd.ntmps14
  go_wp2_with (first | ((with_reducible refine gate_dst (N := 1) rfl ?_); (try (refine gate_guard q127t ?_; dsimp only)); refine box_ev 1 #[aa, ab, ac, af, ag, ae, aJ, aK, .slice A0_8 av.length c0_8, aM, aN, .slice A0_11 au.length c0_11, .slice A0_12 ax.length c0_12] 29 ?_; intro dt hg w32 hbox hb; have du := am (hbox); have lf := am ((q63t : w.heap.size ≤ dt)); have lg := am ((q63t : w.heap.size ≤ dt)); replace HB := am (below_step q68t hb); clear hb hbox hg; have mi := qc13 du.out; have kY := qf13 du.out))
  go_ret
  exact ⟨q114t, q47t⟩
 rw [if_pos c2] at H
 have ni : (ac == 0) = true := beq_iff_eq.mpr c2
 have vB : (ac != 0) = false := bne_eq_false_iff_eq.mpr c2
 clear c2
 by_cases c3 : af = 0
 rotate_left
 ·rw [if_neg c3] at H
  have d8 : (af == 0) = false := beq_eq_false_iff_ne.mpr c3
  have ip : (af != 0) = true := bne_iff_ne.mpr c3
  obtain rfl := Option.some.inj H
  go_enter Tryd.func14, Tryd.ntmps14
  go_wp2_with (first | ((with_reducible refine gate_dst (N := 1) rfl ?_); (try (refine gate_guard q127t ?_; dsimp only)); refine box_ev 1 #[aa, ab, ac, af, ag, ae, aJ, aK, .slice A0_8 av.length c0_8, aM, aN, .slice A0_11 au.length c0_11, .slice A0_12 ax.length c0_12] 29 ?_; intro dt hg w30 hbox hb; have du := am (hbox); have lf := am ((q63t : w.heap.size ≤ dt)); have lg := am ((q63t : w.heap.size ≤ dt)); replace HB := am (below_step q68t hb); clear hb hbox hg; have qi := qc13 du.out; have qj := qf13 du.out))
  go_ret
  exact ⟨q114t, q47t⟩
 rw [if_pos c3] at H
 have d8 : (af == 0) = true := beq_iff_eq.mpr c3
 have ip : (af != 0) = false := bne_eq_false_iff_eq.mpr c3
 clear c3
 by_cases c4 : ag = 0
 rotate_left
 ·rw [if_neg c4] at H
  have en : (ag == 0) = false := beq_eq_false_iff_ne.mpr c4
  have yF : (ag != 0) = true := bne_iff_ne.mpr c4
  obtain rfl := Option.some.inj H
  go_enter Tryd.func14, Tryd.ntmps14
  go_wp2_with (first | ((with_reducible refine gate_dst (N := 1) rfl ?_); (try (refine gate_guard q127t ?_; dsimp only)); refine box_ev 1 #[aa, ab, ac, af, ag, ae, aJ, aK, .slice A0_8 av.length c0_8, aM, aN, .slice A0_11 au.length c0_11, .slice A0_12 ax.length c0_12] 29 ?_; intro dt hg w28 hbox hb; have du := am (hbox); have lf := am ((q63t : w.heap.size ≤ dt)); have lg := am ((q63t : w.heap.size ≤ dt)); replace HB := am (below_step q68t hb); clear hb hbox hg; have tR := qc13 du.out; have tS := qf13 du.out))
  go_ret
  exact ⟨q114t, q47t⟩
 rw [if_pos c4] at H
 have en : (ag == 0) = true := beq_iff_eq.mpr c4
 have yF : (ag != 0) = false := bne_eq_false_iff_eq.mpr c4
 clear c4
 by_cases c5 : ae = 0
 rotate_left
 ·rw [if_neg c5] at H
  have gE : (ae == 0) = false := beq_eq_false_iff_ne.mpr c5
  have qk : (ae != 0) = true := bne_iff_ne.mpr c5
  obtain rfl := Option.some.inj H
  go_enter Tryd.func14, Tryd.ntmps14
  go_wp2_with (first | ((with_reducible refine gate_dst (N := 1) rfl ?_); (try (refine gate_guard q127t ?_; dsimp only)); refine box_ev 1 #[aa, ab, ac, af, ag, ae, aJ, aK, .slice A0_8 av.length c0_8, aM, aN, .slice A0_11 au.length c0_11, .slice A0_12 ax.length c0_12] 29 ?_; intro dt hg w26 hbox hb; have du := am (hbox); have lf := am ((q63t : w.heap.size ≤ dt)); have lg := am ((q63t : w.heap.size ≤ dt)); replace HB := am (below_step q68t hb); clear hb hbox hg; have gJ := qc13 du.out; have gj := qf13 du.out))
  go_ret
  exact ⟨q114t, q47t⟩
 rw [if_pos c5] at H
 have gE : (ae == 0) = true := beq_iff_eq.mpr c5
 have qk : (ae != 0) = false := bne_eq_false_iff_eq.mpr c5
 clear c5
 by_cases c6 : aJ = 0
 rotate_left
 ·rw [if_neg c6] at H
  have d9 : (aJ == 0) = false := beq_eq_false_iff_ne.mpr c6
  have gg : (aJ != 0) = true := bne_iff_ne.mpr c6
  obtain rfl := Option.some.inj H
  go_enter Tryd.func14, Tryd.ntmps14
  go_wp2_with (first | ((with_reducible refine gate_dst (N := 1) rfl ?_); (try (refine gate_guard q127t ?_; dsimp only)); refine box_ev 1 #[aa, ab, ac, af, ag, ae, aJ, aK, .slice A0_8 av.length c0_8, aM, aN, .slice A0_11 au.length c0_11, .slice A0_12 ax.length c0_12] 29 ?_; intro dt hg w24 hbox hb; have du := am (hbox); have lf := am ((q63t : w.heap.size ≤ dt)); have lg := am ((q63t : w.heap.size ≤ dt)); replace HB := am (below_step q68t hb); clear hb hbox hg; have lV := qc13 du.out; have lW := qf13 du.out))
  go_ret
  exact ⟨q114t, q47t⟩
 rw [if_pos c6] at H
 have d9 : (aJ == 0) = true := beq_iff_eq.mpr c6
 have gg : (aJ != 0) = false := bne_eq_false_iff_eq.mpr c6
 clear c6
 by_cases c7 : aK = 0
 rotate_left
 ·rw [if_neg c7] at H
  have eM : (aK == 0) = false := beq_eq_false_iff_ne.mpr c7
  have jJ : (aK != 0) = true := bne_iff_ne.mpr c7
  obtain rfl := Option.some.inj H
  go_enter Tryd.func14, Tryd.ntmps14
  go_wp2_with (first | ((with_reducible refine gate_dst (N := 1) rfl ?_); (try (refine gate_guard q127t ?_; dsimp only)); refine box_ev 1 #[aa, ab, ac, af, ag, ae, aJ, aK, .slice A0_8 av.length c0_8, aM, aN, .slice A0_11 au.length c0_11, .slice A0_12 ax.length c0_12] 29 ?_; intro dt hg w22 hbox hb; have du := am (hbox); have lf := am ((q63t : w.heap.size ≤ dt)); have lg := am ((q63t : w.heap.size ≤ dt)); replace HB := am (below_step q68t hb); clear hb hbox hg; have Eg := qc13 du.out; have Eh := qf13 du.out))
  go_ret
  exact ⟨q114t, q47t⟩
 rw [if_pos c7] at H
 have eM : (aK == 0) = true := beq_iff_eq.mpr c7
 have jJ : (aK != 0) = false := bne_eq_false_iff_eq.mpr c7
 clear c7
 by_cases c8 : (av.length : Int) = 0
 rotate_left
 ·rw [if_neg c8] at H
  have gu : ((av.length : Int) == 0) = false := beq_eq_false_iff_ne.mpr c8
  have mC : ((av.length : Int) != 0) = true := bne_iff_ne.mpr c8
  have WK : ¬ (av = []) := fun h_ => c8 (by rw [h_]; rfl)
  obtain rfl := Option.some.inj H
  go_enter Tryd.func14, Tryd.ntmps14
  go_wp2_with (first | ((with_reducible refine gate_dst (N := 1) rfl ?_); (try (refine gate_guard q127t ?_; dsimp only)); refine box_ev 1 #[aa, ab, ac, af, ag, ae, aJ, aK, .slice A0_8 av.length c0_8, aM, aN, .slice A0_11 au.length c0_11, .slice A0_12 ax.length c0_12] 29 ?_; intro dt hg w20 hbox hb; have du := am (hbox); have lf := am ((q63t : w.heap.size ≤ dt)); have lg := am ((q63t : w.heap.size ≤ dt)); replace HB := am (below_step q68t hb); clear hb hbox hg; have k0 := qc13 du.out; have ij := qf13 du.out))
  go_ret
  exact ⟨q114t, q47t⟩
 rw [if_pos c8] at H
 have gu : ((av.length : Int) == 0) = true := beq_iff_eq.mpr c8
 have mC : ((av.length : Int) != 0) = false := bne_eq_false_iff_eq.mpr c8
 clear c8
 by_cases c9 : aM = 0
 rotate_left
 ·rw [if_neg c9] at H
  have mD : (aM == 0) = false := beq_eq_false_iff_ne.mpr c9
  have pi : (aM != 0) = true := bne_iff_ne.mpr c9
  obtain rfl := Option.some.inj H
  go_enter Tryd.func14, Tryd.ntmps14
  go_wp2_with (first | ((with_reducible refine gate_dst (N := 1) rfl ?_); (try (refine gate_guard q127t ?_; dsimp only)); refine box_ev 1 #[aa, ab, ac, af, ag, ae, aJ, aK, .slice A0_8 av.length c0_8, aM, aN, .slice A0_11 au.length c0_11, .slice A0_12 ax.length c0_12] 29 ?_; intro dt hg w18 hbox hb; have du := am (hbox); have lf := am ((q63t : w.heap.size ≤ dt)); have lg := am ((q63t : w.heap.size ≤ dt)); replace HB := am (below_step q68t hb); clear hb hbox hg; have po := qc13 du.out; have ky := qf13 du.out))
  go_ret
  exact ⟨q114t, q47t⟩
 rw [if_pos c9] at H
 have mD : (aM == 0) = true := beq_iff_eq.mpr c9
 have pi : (aM != 0) = false := bne_eq_false_iff_eq.mpr c9
 clear c9
 by_cases c10 : aN = 0
 ·rw [if_pos c10] at H
  have eN : (aN == 0) = true := beq_iff_eq.mpr c10
  have jK : (aN != 0) = false := bne_eq_false_iff_eq.mpr c10
  clear c10
  by_cases c11 : (au.length : Int) = 0
  ·rw [if_pos c11] at H
   have kB : ((au.length : Int) == 0) = true := beq_iff_eq.mpr c11
   have oA : ((au.length : Int) != 0) = false := bne_eq_false_iff_eq.mpr c11
   clear c11
   obtain rfl := Option.some.inj H
   go_enter Tryd.func14, Tryd.ntmps14
   go_wp2_with (first | ((with_reducible refine gate_dst (N := 1) rfl ?_); (try (refine gate_guard q127t ?_; dsimp only)); refine box_ev 1 #[aa, ab, ac, af, ag, ae, aJ, aK, .slice A0_8 av.length c0_8, aM, aN, .slice A0_11 au.length c0_11, .slice A0_12 ax.length c0_12] 29 ?_; intro dt hg w12 hbox hb; have du := am (hbox); have lf := am ((q63t : w.heap.size ≤ dt)); have lg := am ((q63t : w.heap.size ≤ dt)); replace HB := am (below_step q68t hb); clear hb hbox hg; have kE := qc13 du.out; have kF := qf13 du.out))
   go_ret
   exact ⟨q114t, q47t⟩
  rw [if_neg c11] at H
  have kB : ((au.length : Int) == 0) = false := beq_eq_false_iff_ne.mpr c11
  have oA : ((au.length : Int) != 0) = true := bne_iff_ne.mpr c11
  have LD : ¬ (au = []) := fun h_ => c11 (by rw [h_]; rfl)
  obtain rfl := Option.some.inj H
  go_enter Tryd.func14, Tryd.ntmps14
  go_wp2_with (first | ((with_reducible refine gate_dst (N := 1) rfl ?_); (try (refine gate_guard q127t ?_; dsimp only)); refine box_ev 1 #[aa, ab, ac, af, ag, ae, aJ, aK, .slice A0_8 av.length c0_8, aM, aN, .slice A0_11 au.length c0_11, .slice A0_12 ax.length c0_12] 29 ?_; intro dt hg w14 hbox hb; have du := am (hbox); have lf := am ((q63t : w.heap.size ≤ dt)); have lg := am ((q63t : w.heap.size ≤ dt)); replace HB := am (below_step q68t hb); clear hb hbox hg; have mn := qc13 du.out; have iL := qf13 du.out))
  go_ret
  exact ⟨q114t, q47t⟩
 rw [if_neg c10] at H
 have eN : (aN == 0) = false := beq_eq_false_iff_ne.mpr c10
 have jK : (aN != 0) = true := bne_iff_ne.mpr c10
 obtain rfl := Option.some.inj H
 go_enter Tryd.func14, Tryd.ntmps14
 go_wp2_with (first | ((with_reducible refine gate_dst (N := 1) rfl ?_); (try (refine gate_guard q127t ?_; dsimp only)); refine box_ev 1 #[aa, ab, ac, af, ag, ae, aJ, aK, .slice A0_8 av.length c0_8, aM, aN, .slice A0_11 au.length c0_11, .slice A0_12 ax.length c0_12] 29 ?_; intro dt hg w16 hbox hb; have du := am (hbox); have lf := am ((q63t : w.heap.size ≤ dt)); have lg := am ((q63t : w.heap.size ≤ dt)); replace HB := am (below_step q68t hb); clear hb hbox hg; have qo := qc13 du.out; have k8 := qf13 du.out))
 go_ret
 exact ⟨q114t, q47t⟩

/-! ### spec_l7Has: function 57 -/
def spec_l7Has.l0 : Nat → List Int → Int → Int → Option (Bool)
 | 0, _, _, _ => none
 | k + 1, x0, x1, x5 => if x5 < (x0.length : Int) then (if 0 ≤ x5 then (if (rd x0 x5) = x1 then (some true) else (spec_l7Has.l0 k x0 x1 (wrap64 (x5 + 1)))) else (none)) else (some false)
def spec_l7Has.f (k : Nat) (l0 : List Int) (a1 : Int) : Option (Bool) := spec_l7Has.l0 k l0 a1 0
set_option maxHeartbeats 8000000 in
set_option maxRecDepth 100000 in
theorem spec_l7Has.calls (k : Nat) (A0 : Option Addr) (c0 : Nat) (l0 : List Int) (a1 : Int) (r : Bool) (w : World) (hr0 : Kd.C (Kd.int .i64) w A0 l0.length l0) (hc0 : l0.length ≤ c0) (h : spec_l7Has.f k l0 a1 = some r) :
  Calls Tryd.prog 57 #[.slice A0 l0.length c0, a1] w fun e w' => e = .returned (.bool r) ∧ Drawn0 w w' := by
 have bX := Aside0.mk hr0
 have d0 := Aside0.mk hc0
 clear hr0 hc0
 have H : (spec_l7Has.l0 k l0 a1 0) = some r := h
 clear h
 have H' := Aside0.mk H
 clear H
 go_enter Tryd.func57, Tryd.ntmps57
 go_wp2
 go_loopg [5] k (fun kq v5 w' => ∃ (aY : Int), v5 = .int .i64 aY ∧ Aside0 (spec_l7Has.l0 kq l0 a1 aY = some r) ∧ Aside0 (kq ≤ k) ∧ Drawn0 w w')
 case atStart => exact ⟨(0), q121t, H', ⟨Nat.le_refl _⟩, q116t⟩
 case round =>
  clear H'
  try clear p2
  obtain ⟨aY, rfl, HA, HK1, ⟨m1, rfl⟩⟩ := hrel
  cases gk with
  | zero => exact absurd HA.out (by simp [spec_l7Has.l0])
  | succ k1 =>
   have H := HA.out
   clear HA
   simp only [spec_l7Has.l0] at H
   by_cases c3 : aY < (l0.length : Int)
   rotate_left
   ·rw [if_neg c3] at H
    have d8 : decide (aY < (l0.length : Int)) = false := decide_eq_false c3
    clear c3
    obtain rfl := Option.some.inj H
    go_wp2
    go_ret
    exact ⟨q121t, q116t⟩
   rw [if_pos c3] at H
   have d8 : decide (aY < (l0.length : Int)) = true := decide_eq_true c3
   clear c3
   by_cases c4 : 0 ≤ aY
   rotate_left
   ·rw [if_neg c4] at H
    exact absurd H q126t
   rw [if_pos c4] at H
   have en : decide (0 ≤ aY) = true := decide_eq_true c4
   clear c4
   by_cases c5 : (rd l0 aY) = a1
   ·rw [if_pos c5] at H
    have gE : ((rd l0 aY) == a1) = true := beq_iff_eq.mpr c5
    have qk : ((rd l0 aY) != a1) = false := bne_eq_false_iff_eq.mpr c5
    clear c5
    obtain rfl := Option.some.inj H
    have p647 : 0 ≤ (aY : Int) := of_decide_eq_true q118t
    have q647 : aY < (l0.length : Int) := of_decide_eq_true q118t
    obtain ⟨LE, e647, LF⟩ := Kd.at_int bX.out aY p647 q647
    cases e647
    replace p647 := eq_true p647
    replace q647 := eq_true q647
    go_wp2
    go_ret
    exact ⟨q121t, q116t⟩
   rw [if_neg c5] at H
   have gE : ((rd l0 aY) == a1) = false := beq_eq_false_iff_ne.mpr c5
   have qk : ((rd l0 aY) != a1) = true := bne_iff_ne.mpr c5
   have H' := Aside0.mk H
   clear H
   have p647 : 0 ≤ (aY : Int) := of_decide_eq_true q118t
   have q647 : aY < (l0.length : Int) := of_decide_eq_true q118t
   obtain ⟨LE, e647, LF⟩ := Kd.at_int bX.out aY p647 q647
   cases e647
   replace p647 := eq_true p647
   replace q647 := eq_true q647
   go_wp2
   go_roundg k1
   case measure => have := HK1.out; omega
   case rel => exact ⟨(wrap64 (aY + 1)), q121t, H', ⟨q124t⟩, q116t⟩

end Go.Proofs.YtofpmdgndegalacDoor.QFnNodes
