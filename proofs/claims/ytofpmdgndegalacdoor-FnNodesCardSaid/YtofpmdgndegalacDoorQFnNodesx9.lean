/- What the functions that the law FnNodes reaches compute, as plain functions, and that the code computes just that (by a program of this session's; the library's functions by hand). No condition. -/
import Derived.Test.YtofpmdgndegalacDoorQFnNodesx0
import Derived.Test.YtofpmdgndegalacDoorQFnNodesx1
import Derived.Test.YtofpmdgndegalacDoorQFnNodesx8
namespace Go.Proofs.YtofpmdgndegalacDoor.QFnNodes
open Go.RowKit Go.Proofs.YtofpmdgndegalacDoorW.PrintWords Go.Proofs.YtofpmdgndegalacDoorW.PrintLast Go.Proofs.YtofpmdgndegalacDoorW.PrintMore
attribute [local go_sem] max2_int min2_int max_two min_two max_three min_three max_four min_four   -- for this text's walks alone
set_option linter.unusedVariables false
set_option linter.unusedSimpArgs false

attribute [local go_sem high] eqA33
/-! ### impl_Thing_46: function 46 -/
def impl_Thing_46.l0 : Nat → List (S33) → List (S33) → Int → Int → Option (Bool)
 | 0, _, _, _, _ => none
 | k + 1, x0, x1, x12, x13 => if x13 < x12 then (if 0 ≤ x13 then (if x13 < (x0.length : Int) then (if x13 < (x1.length : Int) then (if (!(((rd_T33 x0 x13).f0) == ((rd_T33 x1 x13).f0)) || (!(((rd_T33 x0 x13).f1) == ((rd_T33 x1 x13).f1)) || (!(((rd_T33 x0 x13).f2) == ((rd_T33 x1 x13).f2))))) = true then (some false) else (impl_Thing_46.l0 k x0 x1 x12 (wrap64 (x13 + 1)))) else (none)) else (none)) else (none)) else (some true)
def impl_Thing_46.f (k : Nat) (l0 : List (S33)) (l1 : List (S33)) : Option (Bool) := if (l0.length : Int) = (l1.length : Int) then (impl_Thing_46.l0 k l0 l1 (l0.length : Int) 0) else (some false)
set_option maxHeartbeats 8000000 in
set_option maxRecDepth 100000 in
theorem impl_Thing_46.calls (k : Nat) (A0 : Option Addr) (c0 : Nat) (l0 : List (S33)) (A1 : Option Addr) (c1 : Nat) (l1 : List (S33)) (r : Bool) (w : World) (hr0 : Kd.C k33 w A0 l0.length l0) (hc0 : l0.length ≤ c0) (hr1 : Kd.C k33 w A1 l1.length l1) (hc1 : l1.length ≤ c1) (h : impl_Thing_46.f k l0 l1 = some r) :
  Calls Tryd.prog 46 #[.slice A0 l0.length c0, .slice A1 l1.length c1] w fun e w' => e = .returned (.bool r) ∧ Drawn0 w w' := by
 have hu33 := Tryd.underlying33
 have bX := Aside0.mk hr0
 have d0 := Aside0.mk hc0
 clear hr0 hc0
 have gh := Aside0.mk hr1
 have pw := Aside0.mk hc1
 clear hr1 hc1
 have H : (if (l0.length : Int) = (l1.length : Int) then (impl_Thing_46.l0 k l0 l1 (l0.length : Int) 0) else (some false)) = some r := h
 clear h
 by_cases c3 : (l0.length : Int) = (l1.length : Int)
 rotate_left
 ·rw [if_neg c3] at H
  have d8 : ((l0.length : Int) == (l1.length : Int)) = false := beq_eq_false_iff_ne.mpr c3
  have ip : ((l0.length : Int) != (l1.length : Int)) = true := bne_iff_ne.mpr c3
  have nW : (l0.length == l1.length) = false := by first | simpa using c3 | (simp at c3 ⊢; omega)
  obtain rfl := Option.some.inj H
  go_enter Tryd.func46, Tryd.ntmps46
  go_wp2
  repeat (go_quiet (fail); try go_wp2)
  go_ret
  exact ⟨q121t, q116t⟩
 rw [if_pos c3] at H
 have d8 : ((l0.length : Int) == (l1.length : Int)) = true := beq_iff_eq.mpr c3
 have ip : ((l0.length : Int) != (l1.length : Int)) = false := bne_eq_false_iff_eq.mpr c3
 have nW : (l0.length == l1.length) = true := by first | simpa using c3 | (simp at c3 ⊢; omega)
 clear c3
 have H' := Aside0.mk H
 clear H
 go_enter Tryd.func46, Tryd.ntmps46
 go_wp2
 repeat (go_quiet (fail); try go_wp2)
 go_loopg [13] k (fun kq v13 w' => ∃ (ba : Int), v13 = .int .i64 ba ∧ Aside0 (impl_Thing_46.l0 kq l0 l1 (l0.length : Int) ba = some r) ∧ Aside0 (kq ≤ k) ∧ Drawn0 w w')
 case atStart => exact ⟨(0), q121t, H', ⟨Nat.le_refl _⟩, q116t⟩
 case round =>
  clear H'
  try clear c1
  try clear p2
  try clear c3
  try clear d8
  try clear ip
  try clear nW
  obtain ⟨ba, rfl, HA, HK1, ⟨m1, rfl⟩⟩ := hrel
  cases gk with
  | zero => exact absurd HA.out (by simp [impl_Thing_46.l0])
  | succ k1 =>
   have H := HA.out
   clear HA
   simp only [impl_Thing_46.l0] at H
   by_cases c4 : ba < (l0.length : Int)
   rotate_left
   ·rw [if_neg c4] at H
    have en : decide (ba < (l0.length : Int)) = false := decide_eq_false c4
    clear c4
    obtain rfl := Option.some.inj H
    go_wp2
    repeat (go_quiet (fail); try go_wp2)
    go_ret
    exact ⟨q121t, q116t⟩
   rw [if_pos c4] at H
   have en : decide (ba < (l0.length : Int)) = true := decide_eq_true c4
   clear c4
   by_cases c5 : 0 ≤ ba
   rotate_left
   ·rw [if_neg c5] at H
    exact absurd H q126t
   rw [if_pos c5] at H
   have gE : decide (0 ≤ ba) = true := decide_eq_true c5
   clear c5
   by_cases c6 : ba < (l0.length : Int)
   rotate_left
   ·rw [if_neg c6] at H
    exact absurd H q126t
   rw [if_pos c6] at H
   have d9 : decide (ba < (l0.length : Int)) = true := decide_eq_true c6
   clear c6
   by_cases c7 : ba < (l1.length : Int)
   rotate_left
   ·rw [if_neg c7] at H
    exact absurd H q126t
   rw [if_pos c7] at H
   have eM : decide (ba < (l1.length : Int)) = true := decide_eq_true c7
   clear c7
   by_cases c8 : (!(((rd_T33 l0 ba).f0) == ((rd_T33 l1 ba).f0)) || (!(((rd_T33 l0 ba).f1) == ((rd_T33 l1 ba).f1)) || (!(((rd_T33 l0 ba).f2) == ((rd_T33 l1 ba).f2))))) = true
   ·rw [if_pos c8] at H
    have gu : (!(((rd_T33 l0 ba).f0) == ((rd_T33 l1 ba).f0)) || (!(((rd_T33 l0 ba).f1) == ((rd_T33 l1 ba).f1)) || (!(((rd_T33 l0 ba).f2) == ((rd_T33 l1 ba).f2))))) = true := c8
    clear c8
    obtain rfl := Option.some.inj H
    have p577 : 0 ≤ (ba : Int) := of_decide_eq_true q118t
    have q577 : ba < (l0.length : Int) := of_decide_eq_true q118t
    obtain ⟨KF, e577, KG, KH, KI⟩ := at_T33 bX.out ba p577 q577
    cases e577
    replace p577 := eq_true p577
    replace q577 := eq_true q577
    have p578 : 0 ≤ (ba : Int) := of_decide_eq_true q118t
    have q578 : ba < (l1.length : Int) := of_decide_eq_true q118t
    obtain ⟨KJ, e578, KK, KL, KM⟩ := at_T33 gh.out ba p578 q578
    cases e578
    replace p578 := eq_true p578
    replace q578 := eq_true q578
    go_wp2
    repeat (go_quiet (fail); try go_wp2)
    go_ret
    exact ⟨q121t, q116t⟩
   rw [if_neg c8] at H
   have gu : (!(((rd_T33 l0 ba).f0) == ((rd_T33 l1 ba).f0)) || (!(((rd_T33 l0 ba).f1) == ((rd_T33 l1 ba).f1)) || (!(((rd_T33 l0 ba).f2) == ((rd_T33 l1 ba).f2))))) = false := by simpa using c8
   clear c8
   have H' := Aside0.mk H
   clear H
   have p577 : 0 ≤ (ba : Int) := of_decide_eq_true q118t
   have q577 : ba < (l0.length : Int) := of_decide_eq_true q118t
   obtain ⟨KF, e577, KG, KH, KI⟩ := at_T33 bX.out ba p577 q577
   cases e577
   replace p577 := eq_true p577
   replace q577 := eq_true q577
   have p578 : 0 ≤ (ba : Int) := of_decide_eq_true q118t
   have q578 : ba < (l1.length : Int) := of_decide_eq_true q118t
   obtain ⟨KJ, e578, KK, KL, KM⟩ := at_T33 gh.out ba p578 q578
   cases e578
   replace p578 := eq_true p578
   replace q578 := eq_true q578
   go_wp2
   repeat (go_quiet (fail); try go_wp2)
   go_roundg k1
   case measure => have := HK1.out; omega
   case rel => exact ⟨(wrap64 (ba + 1)), q121t, H', ⟨q124t⟩, q116t⟩

/-! ### impl_SameNode: function 15 -/
def impl_SameNode.f (k : Nat) (aa : Int) (ab : Int) (ac : Int) (af : Int) (ag : Int) (ae : Int) (aJ : Int) (aK : Int) (av : List Int) (aM : Int) (aN : Int) (au : List (S33)) (ax : List Int) (aj : Int) (ai : Int) (ak : Int) (ap : Int) (aq : Int) (ao : Int) (aQ : Int) (aT : Int) (an : List Int) (aH : Int) (aU : Int) (ar : List (S33)) (aC : List Int) : Option (Bool) := if aa = aj then (if ab = ai then (if ac = ak then (if af = ap then (if ag = aq then (if ae = ao then (if aJ = aQ then (if aK = aT then ((slices_Equal_int_int.f k av an).bind fun sw => (if sw = true then (if aM = aH then (if aN = aU then ((impl_Thing_46.f k au ar).bind fun sx => (if sx = true then ((slices_Equal_int_int.f k ax aC).bind fun sy => (some sy)) else (some false))) else (some false)) else (some false)) else (some false))) else (some false)) else (some false)) else (some false)) else (some false)) else (some false)) else (some false)) else (some false)) else (some false)
set_option maxHeartbeats 8000000 in
set_option maxRecDepth 100000 in
theorem impl_SameNode.calls (k : Nat) (aa : Int) (ab : Int) (ac : Int) (af : Int) (ag : Int) (ae : Int) (aJ : Int) (aK : Int) (A0_8 : Option Addr) (c0_8 : Nat) (av : List Int) (aM : Int) (aN : Int) (A0_11 : Option Addr) (c0_11 : Nat) (au : List (S33)) (A0_12 : Option Addr) (c0_12 : Nat) (ax : List Int) (aj : Int) (ai : Int) (ak : Int) (ap : Int) (aq : Int) (ao : Int) (aQ : Int) (aT : Int) (A1_8 : Option Addr) (c1_8 : Nat) (an : List Int) (aH : Int) (aU : Int) (A1_11 : Option Addr) (c1_11 : Nat) (ar : List (S33)) (A1_12 : Option Addr) (c1_12 : Nat) (aC : List Int) (r : Bool) (w : World) (hr0_8 : Kd.C (Kd.int .i64) w A0_8 av.length av) (hc0_8 : av.length ≤ c0_8) (hr0_11 : Kd.C k33 w A0_11 au.length au) (hc0_11 : au.length ≤ c0_11) (hr0_12 : Kd.C (Kd.int .i64) w A0_12 ax.length ax) (hc0_12 : ax.length ≤ c0_12) (hr1_8 : Kd.C (Kd.int .i64) w A1_8 an.length an) (hc1_8 : an.length ≤ c1_8) (hr1_11 : Kd.C k33 w A1_11 ar.length ar) (hc1_11 : ar.length ≤ c1_11) (hr1_12 : Kd.C (Kd.int .i64) w A1_12 aC.length aC) (hc1_12 : aC.length ≤ c1_12) (h : impl_SameNode.f k aa ab ac af ag ae aJ aK av aM aN au ax aj ai ak ap aq ao aQ aT an aH aU ar aC = some r) :
  Calls Tryd.prog 15 #[.agg #[aa, ab, ac, af, ag, ae, aJ, aK, .slice A0_8 av.length c0_8, aM, aN, .slice A0_11 au.length c0_11, .slice A0_12 ax.length c0_12], .agg #[aj, ai, ak, ap, aq, ao, aQ, aT, .slice A1_8 an.length c1_8, aH, aU, .slice A1_11 ar.length c1_11, .slice A1_12 aC.length c1_12]] w fun e w' => e = .returned (.bool r) ∧ Below w.heap.size w w' := by
 have hu29 := Tryd.underlying29
 have d1 := Aside0.mk hr0_8
 have ec := Aside0.mk hc0_8
 clear hr0_8 hc0_8
 have jA := Aside0.mk hr0_11
 have ml := Aside0.mk hc0_11
 clear hr0_11 hc0_11
 have jB := Aside0.mk hr0_12
 have ko := Aside0.mk hc0_12
 clear hr0_12 hc0_12
 have b6 := Aside0.mk hr1_8
 have ck := Aside0.mk hc1_8
 clear hr1_8 hc1_8
 have gv := Aside0.mk hr1_11
 have jE := Aside0.mk hc1_11
 clear hr1_11 hc1_11
 have ga := Aside0.mk hr1_12
 have hD := Aside0.mk hc1_12
 clear hr1_12 hc1_12
 have HB := am (Below.refl w.heap.size w)
 have H : (if aa = aj then (if ab = ai then (if ac = ak then (if af = ap then (if ag = aq then (if ae = ao then (if aJ = aQ then (if aK = aT then ((slices_Equal_int_int.f k av an).bind fun sw => (if sw = true then (if aM = aH then (if aN = aU then ((impl_Thing_46.f k au ar).bind fun sx => (if sx = true then ((slices_Equal_int_int.f k ax aC).bind fun sy => (some sy)) else (some false))) else (some false)) else (some false)) else (some false))) else (some false)) else (some false)) else (some false)) else (some false)) else (some false)) else (some false)) else (some false)) else (some false)) = some r := h
 clear h
 by_cases c3 : aa = aj
 rotate_left
 ·rw [if_neg c3] at H
  have d8 : (aa == aj) = false := beq_eq_false_iff_ne.mpr c3
  have ip : (aa != aj) = true := bne_iff_ne.mpr c3
  obtain rfl := Option.some.inj H
  go_enter Tryd.func15, Tryd.ntmps15
  go_wp2_with (first | ((with_reducible refine gate_dst (N := 2) rfl ?_); refine box_ev 2 #[aa, ab, ac, af, ag, ae, aJ, aK, .slice A0_8 av.length c0_8, aM, aN, .slice A0_11 au.length c0_11, .slice A0_12 ax.length c0_12] 29 ?_; intro bo hg w78 hbox hb; have bl := am (hbox); have jF := am ((q63t : w.heap.size ≤ bo)); have jG := am ((q63t : w.heap.size ≤ bo)); replace HB := am (below_step q68t hb); clear hb hbox hg) | ((with_reducible refine gate_dst (N := 3) rfl ?_); refine box_ev 3 #[aj, ai, ak, ap, aq, ao, aQ, aT, .slice A1_8 an.length c1_8, aH, aU, .slice A1_11 ar.length c1_11, .slice A1_12 aC.length c1_12] 29 ?_; intro bp hg w79 hbox hb; have cJ := am (hbox); have jH := am ((q41t : w.heap.size ≤ bp)); have jI := am ((q41t : w.heap.size ≤ bp)); replace HB := am (below_step q47t hb); have es := am ((q119t : bo ≠ bp)); have et := am ((q120t : bp ≠ bo)); replace bl := blb bl hb; clear hb hbox hg; have KN := es.out; have KO := et.out; have vk := qc13 bl.out; have vl := qf13 bl.out; have VV := qc13 cJ.out; have VW := qf13 cJ.out))
  go_ret
  exact ⟨q114t, q47t⟩
 rw [if_pos c3] at H
 have d8 : (aa == aj) = true := beq_iff_eq.mpr c3
 have ip : (aa != aj) = false := bne_eq_false_iff_eq.mpr c3
 clear c3
 by_cases c4 : ab = ai
 rotate_left
 ·rw [if_neg c4] at H
  have en : (ab == ai) = false := beq_eq_false_iff_ne.mpr c4
  have yF : (ab != ai) = true := bne_iff_ne.mpr c4
  obtain rfl := Option.some.inj H
  go_enter Tryd.func15, Tryd.ntmps15
  go_wp2_with (first | ((with_reducible refine gate_dst (N := 2) rfl ?_); refine box_ev 2 #[aa, ab, ac, af, ag, ae, aJ, aK, .slice A0_8 av.length c0_8, aM, aN, .slice A0_11 au.length c0_11, .slice A0_12 ax.length c0_12] 29 ?_; intro bo hg w73 hbox hb; have bl := am (hbox); have jF := am ((q63t : w.heap.size ≤ bo)); have jG := am ((q63t : w.heap.size ≤ bo)); replace HB := am (below_step q68t hb); clear hb hbox hg) | ((with_reducible refine gate_dst (N := 3) rfl ?_); refine box_ev 3 #[aj, ai, ak, ap, aq, ao, aQ, aT, .slice A1_8 an.length c1_8, aH, aU, .slice A1_11 ar.length c1_11, .slice A1_12 aC.length c1_12] 29 ?_; intro bp hg w74 hbox hb; have cJ := am (hbox); have jH := am ((q41t : w.heap.size ≤ bp)); have jI := am ((q41t : w.heap.size ≤ bp)); replace HB := am (below_step q47t hb); have es := am ((q119t : bo ≠ bp)); have et := am ((q120t : bp ≠ bo)); replace bl := blb bl hb; clear hb hbox hg; have VX := es.out; have VY := et.out; have VZ := qc13 bl.out; have V0 := qf13 bl.out; have pL := qc13 cJ.out; have pM := qf13 cJ.out))
  go_ret
  exact ⟨q114t, q47t⟩
 rw [if_pos c4] at H
 have en : (ab == ai) = true := beq_iff_eq.mpr c4
 have yF : (ab != ai) = false := bne_eq_false_iff_eq.mpr c4
 clear c4
 by_cases c5 : ac = ak
 rotate_left
 ·rw [if_neg c5] at H
  have gE : (ac == ak) = false := beq_eq_false_iff_ne.mpr c5
  have qk : (ac != ak) = true := bne_iff_ne.mpr c5
  obtain rfl := Option.some.inj H
  go_enter Tryd.func15, Tryd.ntmps15
  go_wp2_with (first | ((with_reducible refine gate_dst (N := 2) rfl ?_); refine box_ev 2 #[aa, ab, ac, af, ag, ae, aJ, aK, .slice A0_8 av.length c0_8, aM, aN, .slice A0_11 au.length c0_11, .slice A0_12 ax.length c0_12] 29 ?_; intro bo hg w68 hbox hb; have bl := am (hbox); have jF := am ((q63t : w.heap.size ≤ bo)); have jG := am ((q63t : w.heap.size ≤ bo)); replace HB := am (below_step q68t hb); clear hb hbox hg) | ((with_reducible refine gate_dst (N := 3) rfl ?_); refine box_ev 3 #[aj, ai, ak, ap, aq, ao, aQ, aT, .slice A1_8 an.length c1_8, aH, aU, .slice A1_11 ar.length c1_11, .slice A1_12 aC.length c1_12] 29 ?_; intro bp hg w69 hbox hb; have cJ := am (hbox); have jH := am ((q41t : w.heap.size ≤ bp)); have jI := am ((q41t : w.heap.size ≤ bp)); replace HB := am (below_step q47t hb); have es := am ((q119t : bo ≠ bp)); have et := am ((q120t : bp ≠ bo)); replace bl := blb bl hb; clear hb hbox hg; have BJ := es.out; have BL := et.out; have rc := qc13 bl.out; have re := qf13 bl.out; have EH := qc13 cJ.out; have EI := qf13 cJ.out))
  go_ret
  exact ⟨q114t, q47t⟩
 rw [if_pos c5] at H
 have gE : (ac == ak) = true := beq_iff_eq.mpr c5
 have qk : (ac != ak) = false := bne_eq_false_iff_eq.mpr c5
 clear c5
 by_cases c6 : af = ap
 rotate_left
 ·rw [if_neg c6] at H
  have d9 : (af == ap) = false := beq_eq_false_iff_ne.mpr c6
  have gg : (af != ap) = true := bne_iff_ne.mpr c6
  obtain rfl := Option.some.inj H
  go_enter Tryd.func15, Tryd.ntmps15
  go_wp2_with (first | ((with_reducible refine gate_dst (N := 2) rfl ?_); refine box_ev 2 #[aa, ab, ac, af, ag, ae, aJ, aK, .slice A0_8 av.length c0_8, aM, aN, .slice A0_11 au.length c0_11, .slice A0_12 ax.length c0_12] 29 ?_; intro bo hg w63 hbox hb; have bl := am (hbox); have jF := am ((q63t : w.heap.size ≤ bo)); have jG := am ((q63t : w.heap.size ≤ bo)); replace HB := am (below_step q68t hb); clear hb hbox hg) | ((with_reducible refine gate_dst (N := 3) rfl ?_); refine box_ev 3 #[aj, ai, ak, ap, aq, ao, aQ, aT, .slice A1_8 an.length c1_8, aH, aU, .slice A1_11 ar.length c1_11, .slice A1_12 aC.length c1_12] 29 ?_; intro bp hg w64 hbox hb; have cJ := am (hbox); have jH := am ((q41t : w.heap.size ≤ bp)); have jI := am ((q41t : w.heap.size ≤ bp)); replace HB := am (below_step q47t hb); have es := am ((q119t : bo ≠ bp)); have et := am ((q120t : bp ≠ bo)); replace bl := blb bl hb; clear hb hbox hg; have KP := es.out; have KQ := et.out; have vm := qc13 bl.out; have sA := qf13 bl.out; have yG := qc13 cJ.out; have vn := qf13 cJ.out))
  go_ret
  exact ⟨q114t, q47t⟩
 rw [if_pos c6] at H
 have d9 : (af == ap) = true := beq_iff_eq.mpr c6
 have gg : (af != ap) = false := bne_eq_false_iff_eq.mpr c6
 clear c6
 by_cases c7 : ag = aq
 rotate_left
 ·rw [if_neg c7] at H
  have eM : (ag == aq) = false := beq_eq_false_iff_ne.mpr c7
  have jJ : (ag != aq) = true := bne_iff_ne.mpr c7
  obtain rfl := Option.some.inj H
  go_enter Tryd.func15, Tryd.ntmps15
  go_wp2_with (first | ((with_reducible refine gate_dst (N := 2) rfl ?_); refine box_ev 2 #[aa, ab, ac, af, ag, ae, aJ, aK, .slice A0_8 av.length c0_8, aM, aN, .slice A0_11 au.length c0_11, .slice A0_12 ax.length c0_12] 29 ?_; intro bo hg w58 hbox hb; have bl := am (hbox); have jF := am ((q63t : w.heap.size ≤ bo)); have jG := am ((q63t : w.heap.size ≤ bo)); replace HB := am (below_step q68t hb); clear hb hbox hg) | ((with_reducible refine gate_dst (N := 3) rfl ?_); refine box_ev 3 #[aj, ai, ak, ap, aq, ao, aQ, aT, .slice A1_8 an.length c1_8, aH, aU, .slice A1_11 ar.length c1_11, .slice A1_12 aC.length c1_12] 29 ?_; intro bp hg w59 hbox hb; have cJ := am (hbox); have jH := am ((q41t : w.heap.size ≤ bp)); have jI := am ((q41t : w.heap.size ≤ bp)); replace HB := am (below_step q47t hb); have es := am ((q119t : bo ≠ bp)); have et := am ((q120t : bp ≠ bo)); replace bl := blb bl hb; clear hb hbox hg; have Kz := es.out; have KA := et.out; have sB := qc13 bl.out; have ql := qf13 bl.out; have uV := qc13 cJ.out; have uW := qf13 cJ.out))
  go_ret
  exact ⟨q114t, q47t⟩
 rw [if_pos c7] at H
 have eM : (ag == aq) = true := beq_iff_eq.mpr c7
 have jJ : (ag != aq) = false := bne_eq_false_iff_eq.mpr c7
 clear c7
 by_cases c8 : ae = ao
 rotate_left
 ·rw [if_neg c8] at H
  have gu : (ae == ao) = false := beq_eq_false_iff_ne.mpr c8
  have mC : (ae != ao) = true := bne_iff_ne.mpr c8
  obtain rfl := Option.some.inj H
  go_enter Tryd.func15, Tryd.ntmps15
  go_wp2_with (first | ((with_reducible refine gate_dst (N := 2) rfl ?_); refine box_ev 2 #[aa, ab, ac, af, ag, ae, aJ, aK, .slice A0_8 av.length c0_8, aM, aN, .slice A0_11 au.length c0_11, .slice A0_12 ax.length c0_12] 29 ?_; intro bo hg w53 hbox hb; have bl := am (hbox); have jF := am ((q63t : w.heap.size ≤ bo)); have jG := am ((q63t : w.heap.size ≤ bo)); replace HB := am (below_step q68t hb); clear hb hbox hg) | ((with_reducible refine gate_dst (N := 3) rfl ?_); refine box_ev 3 #[aj, ai, ak, ap, aq, ao, aQ, aT, .slice A1_8 an.length c1_8, aH, aU, .slice A1_11 ar.length c1_11, .slice A1_12 aC.length c1_12] 29 ?_; intro bp hg w54 hbox hb; have cJ := am (hbox); have jH := am ((q41t : w.heap.size ≤ bp)); have jI := am ((q41t : w.heap.size ≤ bp)); replace HB := am (below_step q47t hb); have es := am ((q119t : bo ≠ bp)); have et := am ((q120t : bp ≠ bo)); replace bl := blb bl hb; clear hb hbox hg; have xL := es.out; have xM := et.out; have nG := qc13 bl.out; have mb := qf13 bl.out; have qm := qc13 cJ.out; have ph := qf13 cJ.out))
  go_ret
  exact ⟨q114t, q47t⟩
 rw [if_pos c8] at H
 have gu : (ae == ao) = true := beq_iff_eq.mpr c8
 have mC : (ae != ao) = false := bne_eq_false_iff_eq.mpr c8
 clear c8
 by_cases c9 : aJ = aQ
 rotate_left
 ·rw [if_neg c9] at H
  have mD : (aJ == aQ) = false := beq_eq_false_iff_ne.mpr c9
  have pi : (aJ != aQ) = true := bne_iff_ne.mpr c9
  obtain rfl := Option.some.inj H
  go_enter Tryd.func15, Tryd.ntmps15
  go_wp2_with (first | ((with_reducible refine gate_dst (N := 2) rfl ?_); refine box_ev 2 #[aa, ab, ac, af, ag, ae, aJ, aK, .slice A0_8 av.length c0_8, aM, aN, .slice A0_11 au.length c0_11, .slice A0_12 ax.length c0_12] 29 ?_; intro bo hg w48 hbox hb; have bl := am (hbox); have jF := am ((q63t : w.heap.size ≤ bo)); have jG := am ((q63t : w.heap.size ≤ bo)); replace HB := am (below_step q68t hb); clear hb hbox hg) | ((with_reducible refine gate_dst (N := 3) rfl ?_); refine box_ev 3 #[aj, ai, ak, ap, aq, ao, aQ, aT, .slice A1_8 an.length c1_8, aH, aU, .slice A1_11 ar.length c1_11, .slice A1_12 aC.length c1_12] 29 ?_; intro bp hg w49 hbox hb; have cJ := am (hbox); have jH := am ((q41t : w.heap.size ≤ bp)); have jI := am ((q41t : w.heap.size ≤ bp)); replace HB := am (below_step q47t hb); have es := am ((q119t : bo ≠ bp)); have et := am ((q120t : bp ≠ bo)); replace bl := blb bl hb; clear hb hbox hg; have yD := es.out; have yE := et.out; have qn := qc13 bl.out; have pj := qf13 bl.out; have k6 := qc13 cJ.out; have kt := qf13 cJ.out))
  go_ret
  exact ⟨q114t, q47t⟩
 rw [if_pos c9] at H
 have mD : (aJ == aQ) = true := beq_iff_eq.mpr c9
 have pi : (aJ != aQ) = false := bne_eq_false_iff_eq.mpr c9
 clear c9
 by_cases c10 : aK = aT
 rotate_left
 ·rw [if_neg c10] at H
  have eN : (aK == aT) = false := beq_eq_false_iff_ne.mpr c10
  have jK : (aK != aT) = true := bne_iff_ne.mpr c10
  obtain rfl := Option.some.inj H
  go_enter Tryd.func15, Tryd.ntmps15
  go_wp2_with (first | ((with_reducible refine gate_dst (N := 2) rfl ?_); refine box_ev 2 #[aa, ab, ac, af, ag, ae, aJ, aK, .slice A0_8 av.length c0_8, aM, aN, .slice A0_11 au.length c0_11, .slice A0_12 ax.length c0_12] 29 ?_; intro bo hg w43 hbox hb; have bl := am (hbox); have jF := am ((q63t : w.heap.size ≤ bo)); have jG := am ((q63t : w.heap.size ≤ bo)); replace HB := am (below_step q68t hb); clear hb hbox hg) | ((with_reducible refine gate_dst (N := 3) rfl ?_); refine box_ev 3 #[aj, ai, ak, ap, aq, ao, aQ, aT, .slice A1_8 an.length c1_8, aH, aU, .slice A1_11 ar.length c1_11, .slice A1_12 aC.length c1_12] 29 ?_; intro bp hg w44 hbox hb; have cJ := am (hbox); have jH := am ((q41t : w.heap.size ≤ bp)); have jI := am ((q41t : w.heap.size ≤ bp)); replace HB := am (below_step q47t hb); have es := am ((q119t : bo ≠ bp)); have et := am ((q120t : bp ≠ bo)); replace bl := blb bl hb; clear hb hbox hg; have pQ := es.out; have pR := et.out; have nV := qc13 bl.out; have mB := qf13 bl.out; have nA := qc13 cJ.out; have l5 := qf13 cJ.out))
  go_ret
  exact ⟨q114t, q47t⟩
 rw [if_pos c10] at H
 have eN : (aK == aT) = true := beq_iff_eq.mpr c10
 have jK : (aK != aT) = false := bne_eq_false_iff_eq.mpr c10
 clear c10
 obtain ⟨sw, ku, H⟩ := bnd H
 try dsimp only at H
 by_cases c12 : sw = true
 rotate_left
 ·replace c12 := Bool.eq_false_iff.mpr c12
  subst c12
  rw [if_neg (show ¬ (false = true) by decide)] at H
  obtain rfl := Option.some.inj H
  go_enter Tryd.func15, Tryd.ntmps15
  go_wp2_with (first | ((with_reducible refine gate_dst (N := 2) rfl ?_); refine box_ev 2 #[aa, ab, ac, af, ag, ae, aJ, aK, .slice A0_8 av.length c0_8, aM, aN, .slice A0_11 au.length c0_11, .slice A0_12 ax.length c0_12] 29 ?_; intro bo hg w38 hbox hb; have bl := am (hbox); have jF := am ((q63t : w.heap.size ≤ bo)); have jG := am ((q63t : w.heap.size ≤ bo)); replace HB := am (below_step q68t hb); clear hb hbox hg) | ((with_reducible refine gate_dst (N := 3) rfl ?_); refine box_ev 3 #[aj, ai, ak, ap, aq, ao, aQ, aT, .slice A1_8 an.length c1_8, aH, aU, .slice A1_11 ar.length c1_11, .slice A1_12 aC.length c1_12] 29 ?_; intro bp hg w39 hbox hb; have cJ := am (hbox); have jH := am ((q41t : w.heap.size ≤ bp)); have jI := am ((q41t : w.heap.size ≤ bp)); replace HB := am (below_step q47t hb); have es := am ((q119t : bo ≠ bp)); have et := am ((q120t : bp ≠ bo)); replace bl := blb bl hb; clear hb hbox hg; have G5 := es.out; have G6 := et.out; have V1 := qc13 bl.out; have V2 := qf13 bl.out; have kK := qc13 cJ.out; have kL := qf13 cJ.out) | (go_at_call 45; (with_reducible refine (slices_Equal_int_int.calls k _ _ av _ _ an false _ ?side1 ?side2 ?side3 ?side4 ku.out).mono ?_); (case side1 => exact sC (Kd.C_below d1.out HB.out)); (case side2 => exact ec.out); (case side3 => exact sC (Kd.C_below b6.out HB.out)); (case side4 => exact ck.out); rintro e w' ⟨rfl, ⟨nd, rfl⟩⟩))
  go_ret
  exact ⟨q114t, q47t⟩
 subst c12
 rw [if_pos rfl] at H
 by_cases c13 : aM = aH
 rotate_left
 ·rw [if_neg c13] at H
  have k7 : (aM == aH) = false := beq_eq_false_iff_ne.mpr c13
  have pk : (aM != aH) = true := bne_iff_ne.mpr c13
  obtain rfl := Option.some.inj H
  go_enter Tryd.func15, Tryd.ntmps15
  go_wp2_with (first | ((with_reducible refine gate_dst (N := 2) rfl ?_); refine box_ev 2 #[aa, ab, ac, af, ag, ae, aJ, aK, .slice A0_8 av.length c0_8, aM, aN, .slice A0_11 au.length c0_11, .slice A0_12 ax.length c0_12] 29 ?_; intro bo hg w33 hbox hb; have bl := am (hbox); have jF := am ((q63t : w.heap.size ≤ bo)); have jG := am ((q63t : w.heap.size ≤ bo)); replace HB := am (below_step q68t hb); clear hb hbox hg) | ((with_reducible refine gate_dst (N := 3) rfl ?_); refine box_ev 3 #[aj, ai, ak, ap, aq, ao, aQ, aT, .slice A1_8 an.length c1_8, aH, aU, .slice A1_11 ar.length c1_11, .slice A1_12 aC.length c1_12] 29 ?_; intro bp hg w34 hbox hb; have cJ := am (hbox); have jH := am ((q41t : w.heap.size ≤ bp)); have jI := am ((q41t : w.heap.size ≤ bp)); replace HB := am (below_step q47t hb); have es := am ((q119t : bo ≠ bp)); have et := am ((q120t : bp ≠ bo)); replace bl := blb bl hb; clear hb hbox hg; have xc := es.out; have xd := et.out; have sD := qc13 bl.out; have sE := qf13 bl.out; have lX := qc13 cJ.out; have lY := qf13 cJ.out) | (go_at_call 45; (with_reducible refine (slices_Equal_int_int.calls k _ _ av _ _ an true _ ?side1 ?side2 ?side3 ?side4 ku.out).mono ?_); (case side1 => exact sC (Kd.C_below d1.out HB.out)); (case side2 => exact ec.out); (case side3 => exact sC (Kd.C_below b6.out HB.out)); (case side4 => exact ck.out); rintro e w' ⟨rfl, ⟨nd, rfl⟩⟩))
  go_ret
  exact ⟨q114t, q47t⟩
 rw [if_pos c13] at H
 have k7 : (aM == aH) = true := beq_iff_eq.mpr c13
 have pk : (aM != aH) = false := bne_eq_false_iff_eq.mpr c13
 clear c13
 by_cases c14 : aN = aU
 ·rw [if_pos c14] at H
  have vo : (aN == aU) = true := beq_iff_eq.mpr c14
  have KR : (aN != aU) = false := bne_eq_false_iff_eq.mpr c14
  clear c14
  obtain ⟨sx, tP, H⟩ := bnd H
  try dsimp only at H
  by_cases c16 : sx = true
  ·subst c16
   rw [if_pos rfl] at H
   obtain ⟨sy, sF, H⟩ := bnd H
   try dsimp only at H
   obtain rfl := Option.some.inj H
   go_enter Tryd.func15, Tryd.ntmps15
   go_wp2_with (first | ((with_reducible refine gate_dst (N := 2) rfl ?_); refine box_ev 2 #[aa, ab, ac, af, ag, ae, aJ, aK, .slice A0_8 av.length c0_8, aM, aN, .slice A0_11 au.length c0_11, .slice A0_12 ax.length c0_12] 29 ?_; intro bo hg w18 hbox hb; have bl := am (hbox); have jF := am ((q63t : w.heap.size ≤ bo)); have jG := am ((q63t : w.heap.size ≤ bo)); replace HB := am (below_step q68t hb); clear hb hbox hg) | ((with_reducible refine gate_dst (N := 3) rfl ?_); refine box_ev 3 #[aj, ai, ak, ap, aq, ao, aQ, aT, .slice A1_8 an.length c1_8, aH, aU, .slice A1_11 ar.length c1_11, .slice A1_12 aC.length c1_12] 29 ?_; intro bp hg w19 hbox hb; have cJ := am (hbox); have jH := am ((q41t : w.heap.size ≤ bp)); have jI := am ((q41t : w.heap.size ≤ bp)); replace HB := am (below_step q47t hb); have es := am ((q119t : bo ≠ bp)); have et := am ((q120t : bp ≠ bo)); replace bl := blb bl hb; clear hb hbox hg; have sd := es.out; have se := et.out; have k0 := qc13 bl.out; have ij := qf13 bl.out; have qI := qc13 cJ.out; have qJ := qf13 cJ.out) | (go_at_call 45; (with_reducible refine (slices_Equal_int_int.calls k _ _ av _ _ an true _ ?side1 ?side2 ?side3 ?side4 ku.out).mono ?_); (case side1 => exact sC (Kd.C_below d1.out HB.out)); (case side2 => exact ec.out); (case side3 => exact sC (Kd.C_below b6.out HB.out)); (case side4 => exact ck.out); rintro e w' ⟨rfl, ⟨nd, rfl⟩⟩) | (go_at_call 46; (with_reducible refine (impl_Thing_46.calls k _ _ au _ _ ar true _ ?side1 ?side2 ?side3 ?side4 tP.out).mono ?_); (case side1 => repeat (first | exact (Kd.C_below jA.out q47t) | (with_reducible refine Kd.C_alloc ?_ _) | (with_reducible refine Kd.C_drewN ?_ _) | (with_reducible refine Kd.C_drew ?_))); (case side2 => exact ml.out); (case side3 => repeat (first | exact (Kd.C_below gv.out q47t) | (with_reducible refine Kd.C_alloc ?_ _) | (with_reducible refine Kd.C_drewN ?_ _) | (with_reducible refine Kd.C_drew ?_))); (case side4 => exact jE.out); rintro e w' ⟨rfl, ⟨nd, rfl⟩⟩) | (go_at_call 45; (with_reducible refine (slices_Equal_int_int.calls k _ _ ax _ _ aC sy _ ?side1 ?side2 ?side3 ?side4 sF.out).mono ?_); (case side1 => repeat (first | exact (Kd.C_below jB.out q47t) | (with_reducible refine Kd.C_alloc ?_ _) | (with_reducible refine Kd.C_drewN ?_ _) | (with_reducible refine Kd.C_drew ?_))); (case side2 => exact ko.out); (case side3 => repeat (first | exact (Kd.C_below ga.out q47t) | (with_reducible refine Kd.C_alloc ?_ _) | (with_reducible refine Kd.C_drewN ?_ _) | (with_reducible refine Kd.C_drew ?_))); (case side4 => exact hD.out); rintro e w' ⟨rfl, ⟨nd, rfl⟩⟩))
   go_ret
   exact ⟨q114t, q47t⟩
  replace c16 := Bool.eq_false_iff.mpr c16
  subst c16
  rw [if_neg (show ¬ (false = true) by decide)] at H
  obtain rfl := Option.some.inj H
  go_enter Tryd.func15, Tryd.ntmps15
  go_wp2_with (first | ((with_reducible refine gate_dst (N := 2) rfl ?_); refine box_ev 2 #[aa, ab, ac, af, ag, ae, aJ, aK, .slice A0_8 av.length c0_8, aM, aN, .slice A0_11 au.length c0_11, .slice A0_12 ax.length c0_12] 29 ?_; intro bo hg w23 hbox hb; have bl := am (hbox); have jF := am ((q63t : w.heap.size ≤ bo)); have jG := am ((q63t : w.heap.size ≤ bo)); replace HB := am (below_step q68t hb); clear hb hbox hg) | ((with_reducible refine gate_dst (N := 3) rfl ?_); refine box_ev 3 #[aj, ai, ak, ap, aq, ao, aQ, aT, .slice A1_8 an.length c1_8, aH, aU, .slice A1_11 ar.length c1_11, .slice A1_12 aC.length c1_12] 29 ?_; intro bp hg w24 hbox hb; have cJ := am (hbox); have jH := am ((q41t : w.heap.size ≤ bp)); have jI := am ((q41t : w.heap.size ≤ bp)); replace HB := am (below_step q47t hb); have es := am ((q119t : bo ≠ bp)); have et := am ((q120t : bp ≠ bo)); replace bl := blb bl hb; clear hb hbox hg; have pz := es.out; have pA := et.out; have sG := qc13 bl.out; have sH := qf13 bl.out; have gJ := qc13 cJ.out; have gj := qf13 cJ.out) | (go_at_call 45; (with_reducible refine (slices_Equal_int_int.calls k _ _ av _ _ an true _ ?side1 ?side2 ?side3 ?side4 ku.out).mono ?_); (case side1 => exact sC (Kd.C_below d1.out HB.out)); (case side2 => exact ec.out); (case side3 => exact sC (Kd.C_below b6.out HB.out)); (case side4 => exact ck.out); rintro e w' ⟨rfl, ⟨nd, rfl⟩⟩) | (go_at_call 46; (with_reducible refine (impl_Thing_46.calls k _ _ au _ _ ar false _ ?side1 ?side2 ?side3 ?side4 tP.out).mono ?_); (case side1 => repeat (first | exact (Kd.C_below jA.out q47t) | (with_reducible refine Kd.C_alloc ?_ _) | (with_reducible refine Kd.C_drewN ?_ _) | (with_reducible refine Kd.C_drew ?_))); (case side2 => exact ml.out); (case side3 => repeat (first | exact (Kd.C_below gv.out q47t) | (with_reducible refine Kd.C_alloc ?_ _) | (with_reducible refine Kd.C_drewN ?_ _) | (with_reducible refine Kd.C_drew ?_))); (case side4 => exact jE.out); rintro e w' ⟨rfl, ⟨nd, rfl⟩⟩))
  go_ret
  exact ⟨q114t, q47t⟩
 rw [if_neg c14] at H
 have vo : (aN == aU) = false := beq_eq_false_iff_ne.mpr c14
 have KR : (aN != aU) = true := bne_iff_ne.mpr c14
 obtain rfl := Option.some.inj H
 go_enter Tryd.func15, Tryd.ntmps15
 go_wp2_with (first | ((with_reducible refine gate_dst (N := 2) rfl ?_); refine box_ev 2 #[aa, ab, ac, af, ag, ae, aJ, aK, .slice A0_8 av.length c0_8, aM, aN, .slice A0_11 au.length c0_11, .slice A0_12 ax.length c0_12] 29 ?_; intro bo hg w28 hbox hb; have bl := am (hbox); have jF := am ((q63t : w.heap.size ≤ bo)); have jG := am ((q63t : w.heap.size ≤ bo)); replace HB := am (below_step q68t hb); clear hb hbox hg) | ((with_reducible refine gate_dst (N := 3) rfl ?_); refine box_ev 3 #[aj, ai, ak, ap, aq, ao, aQ, aT, .slice A1_8 an.length c1_8, aH, aU, .slice A1_11 ar.length c1_11, .slice A1_12 aC.length c1_12] 29 ?_; intro bp hg w29 hbox hb; have cJ := am (hbox); have jH := am ((q41t : w.heap.size ≤ bp)); have jI := am ((q41t : w.heap.size ≤ bp)); replace HB := am (below_step q47t hb); have es := am ((q119t : bo ≠ bp)); have et := am ((q120t : bp ≠ bo)); replace bl := blb bl hb; clear hb hbox hg; have uM := es.out; have uN := et.out; have qi := qc13 bl.out; have qj := qf13 bl.out; have KS := qc13 cJ.out; have KT := qf13 cJ.out) | (go_at_call 45; (with_reducible refine (slices_Equal_int_int.calls k _ _ av _ _ an true _ ?side1 ?side2 ?side3 ?side4 ku.out).mono ?_); (case side1 => exact sC (Kd.C_below d1.out HB.out)); (case side2 => exact ec.out); (case side3 => exact sC (Kd.C_below b6.out HB.out)); (case side4 => exact ck.out); rintro e w' ⟨rfl, ⟨nd, rfl⟩⟩))
 go_ret
 exact ⟨q114t, q47t⟩

/-! ### impl_Bare: function 13 -/
def impl_Bare.f (k : Nat) (aa : Int) (ab : Int) (ac : Int) (af : Int) (ag : Int) (ae : Int) (aJ : Int) (aK : Int) (av : List Int) (aM : Int) (aN : Int) (au : List (S33)) (ax : List Int) : Option (Bool) := (impl_SameNode.f k aa ab ac af ag ae aJ aK av aM aN au ax aa ab 0 0 0 0 0 0 ([] : List Int) 0 0 ([] : List (S33)) ([] : List Int)).bind fun sI => (some sI)
set_option maxHeartbeats 8000000 in
set_option maxRecDepth 100000 in
theorem impl_Bare.calls (k : Nat) (aa : Int) (ab : Int) (ac : Int) (af : Int) (ag : Int) (ae : Int) (aJ : Int) (aK : Int) (A0_8 : Option Addr) (c0_8 : Nat) (av : List Int) (aM : Int) (aN : Int) (A0_11 : Option Addr) (c0_11 : Nat) (au : List (S33)) (A0_12 : Option Addr) (c0_12 : Nat) (ax : List Int) (r : Bool) (w : World) (hr0_8 : Kd.C (Kd.int .i64) w A0_8 av.length av) (hc0_8 : av.length ≤ c0_8) (hr0_11 : Kd.C k33 w A0_11 au.length au) (hc0_11 : au.length ≤ c0_11) (hr0_12 : Kd.C (Kd.int .i64) w A0_12 ax.length ax) (hc0_12 : ax.length ≤ c0_12) (h : impl_Bare.f k aa ab ac af ag ae aJ aK av aM aN au ax = some r) :
  Calls Tryd.prog 13 #[.agg #[aa, ab, ac, af, ag, ae, aJ, aK, .slice A0_8 av.length c0_8, aM, aN, .slice A0_11 au.length c0_11, .slice A0_12 ax.length c0_12]] w fun e w' => e = .returned (.bool r) ∧ Below w.heap.size w w' := by
 have hu29 := Tryd.underlying29
 have d1 := Aside0.mk hr0_8
 have ec := Aside0.mk hc0_8
 clear hr0_8 hc0_8
 have jA := Aside0.mk hr0_11
 have ml := Aside0.mk hc0_11
 clear hr0_11 hc0_11
 have jB := Aside0.mk hr0_12
 have ko := Aside0.mk hc0_12
 clear hr0_12 hc0_12
 have HB := am (Below.refl w.heap.size w)
 have H : ((impl_SameNode.f k aa ab ac af ag ae aJ aK av aM aN au ax aa ab 0 0 0 0 0 0 ([] : List Int) 0 0 ([] : List (S33)) ([] : List Int)).bind fun sI => (some sI)) = some r := h
 clear h
 obtain ⟨sI, A2, H⟩ := bnd H
 try dsimp only at H
 obtain rfl := Option.some.inj H
 go_enter Tryd.func13, Tryd.ntmps13
 go_wp2_with (first | ((with_reducible refine gate_dst (N := 1) rfl ?_); refine box_ev 1 #[aa, ab, ac, af, ag, ae, aJ, aK, .slice A0_8 av.length c0_8, aM, aN, .slice A0_11 au.length c0_11, .slice A0_12 ax.length c0_12] 29 ?_; intro EJ hg w3 hbox hb; have vp := am (hbox); have V3 := am ((q63t : w.heap.size ≤ EJ)); have V4 := am ((q63t : w.heap.size ≤ EJ)); replace HB := am (below_step q68t hb); clear hb hbox hg; have EK := qc13 vp.out; have EL := qf13 vp.out) | ((with_reducible refine gate_callee (f := 15) rfl ?_); refine goesL_ (some 9) rfl rfl Tryd.func15 (by kernel_rfl) rfl #[.agg #[aa, ab, ac, af, ag, ae, aJ, aK, .slice A0_8 av.length c0_8, aM, aN, .slice A0_11 au.length c0_11, .slice A0_12 ax.length c0_12], .agg #[aa, ab, .int .i64 0, .int .i64 0, .int .i64 0, .int .i64 0, .int .i64 0, .int .i64 0, .slice none 0 0, .int .i64 0, .int .i64 0, .slice none 0 0, .slice none 0 0]] rfl q66t ?_; (refine (impl_SameNode.calls k aa ab ac af ag ae aJ aK _ _ av aM aN _ _ au _ _ ax aa ab 0 0 0 0 0 0 _ _ ([] : List Int) 0 0 _ _ ([] : List (S33)) _ _ ([] : List Int) sI _ ?side1 ?side2 ?side3 ?side4 ?side5 ?side6 ?side7 ?side8 ?side9 ?side10 ?side11 ?side12 A2.out).mono ?_); (case side1 => exact sC (Kd.C_below d1.out HB.out)); (case side2 => exact ec.out); (case side3 => exact sC (Kd.C_below jA.out HB.out)); (case side4 => exact ml.out); (case side5 => exact sC (Kd.C_below jB.out HB.out)); (case side6 => exact ko.out); (case side7 => exact Kd.C_nil _ _); (case side8 => exact Nat.le_refl _); (case side9 => exact Kd.C_nil _ _); (case side10 => exact Nat.le_refl _); (case side11 => exact Kd.C_nil _ _); (case side12 => exact Nat.le_refl _); rintro e w5 ⟨rfl, hb⟩; refine ⟨_, rfl, ?_⟩; replace vp := blb vp hb; replace HB := am (below_step q47t hb); (try clear hb); (try clear hb2); (try clear hk); (try clear hi)))
 go_ret
 exact ⟨q114t, q47t⟩

/-! ### impl_within: function 32 -/
def impl_within.f (a0 : Int) (a1 : Int) (a2 : Int) : Option (Bool) := if a0 ≥ a1 then (some (decide (a0 ≤ a2))) else (some false)
set_option maxHeartbeats 8000000 in
set_option maxRecDepth 100000 in
theorem impl_within.calls (a0 : Int) (a1 : Int) (a2 : Int) (r : Bool) (w : World) (h : impl_within.f a0 a1 a2 = some r) :
  Calls Tryd.prog 32 #[a0, a1, a2] w fun e w' => e = .returned (.bool r) ∧ Drawn0 w w' := by
 have H : (if a0 ≥ a1 then (some (decide (a0 ≤ a2))) else (some false)) = some r := h
 clear h
 by_cases c4 : a0 ≥ a1
 ·rw [if_pos c4] at H
  have en : decide (a1 ≤ a0) = true := decide_eq_true c4
  clear c4
  obtain rfl := Option.some.inj H
  go_enter Tryd.func32, Tryd.ntmps32
  go_wp2
  go_ret
  exact ⟨q121t, q116t⟩
 ·rw [if_neg c4] at H
  have en : decide (a1 ≤ a0) = false := decide_eq_false c4
  clear c4
  obtain rfl := Option.some.inj H
  go_enter Tryd.func32, Tryd.ntmps32
  go_wp2
  go_ret
  exact ⟨q121t, q116t⟩

/-! ### impl_ConfOk: function 31 -/
def impl_ConfOk.f (aa : Int) (ab : Int) (ac : Int) (af : Int) (ag : Int) (ae : Int) : Option (Bool) := (impl_within.f aa 2 12).bind fun sJ => (if sJ = true then ((impl_within.f ab 8 16).bind fun sK => (if sK = true then ((impl_within.f ac 2 8).bind fun sL => (if sL = true then ((impl_within.f af 1 8).bind fun sM => (if sM = true then ((impl_within.f ag 1 16).bind fun sN => (if sN = true then ((impl_within.f ae 1 4).bind fun sO => (some sO)) else (some false))) else (some false))) else (some false))) else (some false))) else (some false))
set_option maxHeartbeats 8000000 in
set_option maxRecDepth 100000 in
theorem impl_ConfOk.calls (aa : Int) (ab : Int) (ac : Int) (af : Int) (ag : Int) (ae : Int) (r : Bool) (w : World) (h : impl_ConfOk.f aa ab ac af ag ae = some r) :
  Calls Tryd.prog 31 #[.agg #[aa, ab, ac, af, ag, ae]] w fun e w' => e = .returned (.bool r) ∧ Below w.heap.size w w' := by
 have hu25 := Tryd.underlying25
 have HB := am (Below.refl w.heap.size w)
 have H : ((impl_within.f aa 2 12).bind fun sJ => (if sJ = true then ((impl_within.f ab 8 16).bind fun sK => (if sK = true then ((impl_within.f ac 2 8).bind fun sL => (if sL = true then ((impl_within.f af 1 8).bind fun sM => (if sM = true then ((impl_within.f ag 1 16).bind fun sN => (if sN = true then ((impl_within.f ae 1 4).bind fun sO => (some sO)) else (some false))) else (some false))) else (some false))) else (some false))) else (some false))) = some r := h
 clear h
 obtain ⟨sJ, A2, H⟩ := bnd H
 try dsimp only at H
 by_cases c3 : sJ = true
 rotate_left
 ·replace c3 := Bool.eq_false_iff.mpr c3
  subst c3
  rw [if_neg (show ¬ (false = true) by decide)] at H
  obtain rfl := Option.some.inj H
  go_enter Tryd.func31, Tryd.ntmps31
  go_wp2_with (first | ((with_reducible refine gate_dst (N := 1) rfl ?_); refine box_ev 1 #[aa, ab, ac, af, ag, ae] 25 ?_; intro gc hg w23 hbox hb; have gf := am (hbox); have sP := am ((q63t : w.heap.size ≤ gc)); have sQ := am ((q63t : w.heap.size ≤ gc)); replace HB := am (below_step q68t hb); clear hb hbox hg; have uz := qc6 gf.out; have uA := qf6 gf.out) | ((with_reducible refine gate_callee (f := 32) rfl ?_); refine goesL_ (some 5) rfl rfl Tryd.func32 (by kernel_rfl) rfl #[aa, .int .i64 2, .int .i64 12] rfl q66t ?_; (with_reducible refine (impl_within.calls aa 2 12 false _ A2.out).mono ?_); rintro e w' ⟨rfl, ⟨nd, rfl⟩⟩; refine ⟨_, rfl, ?_⟩))
  go_ret
  exact ⟨q114t, q47t⟩
 subst c3
 rw [if_pos rfl] at H
 obtain ⟨sK, A4, H⟩ := bnd H
 try dsimp only at H
 by_cases c5 : sK = true
 rotate_left
 ·replace c5 := Bool.eq_false_iff.mpr c5
  subst c5
  rw [if_neg (show ¬ (false = true) by decide)] at H
  obtain rfl := Option.some.inj H
  go_enter Tryd.func31, Tryd.ntmps31
  go_wp2_with (first | ((with_reducible refine gate_dst (N := 1) rfl ?_); refine box_ev 1 #[aa, ab, ac, af, ag, ae] 25 ?_; intro gc hg w21 hbox hb; have gf := am (hbox); have sP := am ((q63t : w.heap.size ≤ gc)); have sQ := am ((q63t : w.heap.size ≤ gc)); replace HB := am (below_step q68t hb); clear hb hbox hg; have qI := qc6 gf.out; have qJ := qf6 gf.out) | ((with_reducible refine gate_callee (f := 32) rfl ?_); refine goesL_ (some 5) rfl rfl Tryd.func32 (by kernel_rfl) rfl #[aa, .int .i64 2, .int .i64 12] rfl q66t ?_; (with_reducible refine (impl_within.calls aa 2 12 true _ A2.out).mono ?_); rintro e w' ⟨rfl, ⟨nd, rfl⟩⟩; refine ⟨_, rfl, ?_⟩) | (go_at_call 32; (with_reducible refine (impl_within.calls ab 8 16 false _ A4.out).mono ?_); rintro e w' ⟨rfl, ⟨nd, rfl⟩⟩))
  go_ret
  exact ⟨q114t, q47t⟩
 subst c5
 rw [if_pos rfl] at H
 obtain ⟨sL, A6, H⟩ := bnd H
 try dsimp only at H
 by_cases c7 : sL = true
 rotate_left
 ·replace c7 := Bool.eq_false_iff.mpr c7
  subst c7
  rw [if_neg (show ¬ (false = true) by decide)] at H
  obtain rfl := Option.some.inj H
  go_enter Tryd.func31, Tryd.ntmps31
  go_wp2_with (first | ((with_reducible refine gate_dst (N := 1) rfl ?_); refine box_ev 1 #[aa, ab, ac, af, ag, ae] 25 ?_; intro gc hg w19 hbox hb; have gf := am (hbox); have sP := am ((q63t : w.heap.size ≤ gc)); have sQ := am ((q63t : w.heap.size ≤ gc)); replace HB := am (below_step q68t hb); clear hb hbox hg; have kG := qc6 gf.out; have kH := qf6 gf.out) | ((with_reducible refine gate_callee (f := 32) rfl ?_); refine goesL_ (some 5) rfl rfl Tryd.func32 (by kernel_rfl) rfl #[aa, .int .i64 2, .int .i64 12] rfl q66t ?_; (with_reducible refine (impl_within.calls aa 2 12 true _ A2.out).mono ?_); rintro e w' ⟨rfl, ⟨nd, rfl⟩⟩; refine ⟨_, rfl, ?_⟩) | (go_at_call 32; (with_reducible refine (impl_within.calls ab 8 16 true _ A4.out).mono ?_); rintro e w' ⟨rfl, ⟨nd, rfl⟩⟩) | (go_at_call 32; (with_reducible refine (impl_within.calls ac 2 8 false _ A6.out).mono ?_); rintro e w' ⟨rfl, ⟨nd, rfl⟩⟩))
  go_ret
  exact ⟨q114t, q47t⟩
 subst c7
 rw [if_pos rfl] at H
 obtain ⟨sM, A8, H⟩ := bnd H
 try dsimp only at H
 by_cases c9 : sM = true
 ·subst c9
  rw [if_pos rfl] at H
  obtain ⟨sN, jO, H⟩ := bnd H
  try dsimp only at H
  by_cases c11 : sN = true
  ·subst c11
   rw [if_pos rfl] at H
   obtain ⟨sO, xQ, H⟩ := bnd H
   try dsimp only at H
   obtain rfl := Option.some.inj H
   go_enter Tryd.func31, Tryd.ntmps31
   go_wp2_with (first | ((with_reducible refine gate_dst (N := 1) rfl ?_); refine box_ev 1 #[aa, ab, ac, af, ag, ae] 25 ?_; intro gc hg w13 hbox hb; have gf := am (hbox); have sP := am ((q63t : w.heap.size ≤ gc)); have sQ := am ((q63t : w.heap.size ≤ gc)); replace HB := am (below_step q68t hb); clear hb hbox hg; have nH := qc6 gf.out; have jz := qf6 gf.out) | ((with_reducible refine gate_callee (f := 32) rfl ?_); refine goesL_ (some 5) rfl rfl Tryd.func32 (by kernel_rfl) rfl #[aa, .int .i64 2, .int .i64 12] rfl q66t ?_; (with_reducible refine (impl_within.calls aa 2 12 true _ A2.out).mono ?_); rintro e w' ⟨rfl, ⟨nd, rfl⟩⟩; refine ⟨_, rfl, ?_⟩) | (go_at_call 32; (with_reducible refine (impl_within.calls ab 8 16 true _ A4.out).mono ?_); rintro e w' ⟨rfl, ⟨nd, rfl⟩⟩) | (go_at_call 32; (with_reducible refine (impl_within.calls ac 2 8 true _ A6.out).mono ?_); rintro e w' ⟨rfl, ⟨nd, rfl⟩⟩) | (go_at_call 32; (with_reducible refine (impl_within.calls af 1 8 true _ A8.out).mono ?_); rintro e w' ⟨rfl, ⟨nd, rfl⟩⟩) | (go_at_call 32; (with_reducible refine (impl_within.calls ag 1 16 true _ jO.out).mono ?_); rintro e w' ⟨rfl, ⟨nd, rfl⟩⟩) | (go_at_call 32; (with_reducible refine (impl_within.calls ae 1 4 sO _ xQ.out).mono ?_); rintro e w' ⟨rfl, ⟨nd, rfl⟩⟩))
   go_ret
   exact ⟨q114t, q47t⟩
  replace c11 := Bool.eq_false_iff.mpr c11
  subst c11
  rw [if_neg (show ¬ (false = true) by decide)] at H
  obtain rfl := Option.some.inj H
  go_enter Tryd.func31, Tryd.ntmps31
  go_wp2_with (first | ((with_reducible refine gate_dst (N := 1) rfl ?_); refine box_ev 1 #[aa, ab, ac, af, ag, ae] 25 ?_; intro gc hg w15 hbox hb; have gf := am (hbox); have sP := am ((q63t : w.heap.size ≤ gc)); have sQ := am ((q63t : w.heap.size ≤ gc)); replace HB := am (below_step q68t hb); clear hb hbox hg; have lZ := qc6 gf.out; have l3 := qf6 gf.out) | ((with_reducible refine gate_callee (f := 32) rfl ?_); refine goesL_ (some 5) rfl rfl Tryd.func32 (by kernel_rfl) rfl #[aa, .int .i64 2, .int .i64 12] rfl q66t ?_; (with_reducible refine (impl_within.calls aa 2 12 true _ A2.out).mono ?_); rintro e w' ⟨rfl, ⟨nd, rfl⟩⟩; refine ⟨_, rfl, ?_⟩) | (go_at_call 32; (with_reducible refine (impl_within.calls ab 8 16 true _ A4.out).mono ?_); rintro e w' ⟨rfl, ⟨nd, rfl⟩⟩) | (go_at_call 32; (with_reducible refine (impl_within.calls ac 2 8 true _ A6.out).mono ?_); rintro e w' ⟨rfl, ⟨nd, rfl⟩⟩) | (go_at_call 32; (with_reducible refine (impl_within.calls af 1 8 true _ A8.out).mono ?_); rintro e w' ⟨rfl, ⟨nd, rfl⟩⟩) | (go_at_call 32; (with_reducible refine (impl_within.calls ag 1 16 false _ jO.out).mono ?_); rintro e w' ⟨rfl, ⟨nd, rfl⟩⟩))
  go_ret
  exact ⟨q114t, q47t⟩
 replace c9 := Bool.eq_false_iff.mpr c9
 subst c9
 rw [if_neg (show ¬ (false = true) by decide)] at H
 obtain rfl := Option.some.inj H
 go_enter Tryd.func31, Tryd.ntmps31
 go_wp2_with (first | ((with_reducible refine gate_dst (N := 1) rfl ?_); refine box_ev 1 #[aa, ab, ac, af, ag, ae] 25 ?_; intro gc hg w17 hbox hb; have gf := am (hbox); have sP := am ((q63t : w.heap.size ≤ gc)); have sQ := am ((q63t : w.heap.size ≤ gc)); replace HB := am (below_step q68t hb); clear hb hbox hg; have rI := qc6 gf.out; have rJ := qf6 gf.out) | ((with_reducible refine gate_callee (f := 32) rfl ?_); refine goesL_ (some 5) rfl rfl Tryd.func32 (by kernel_rfl) rfl #[aa, .int .i64 2, .int .i64 12] rfl q66t ?_; (with_reducible refine (impl_within.calls aa 2 12 true _ A2.out).mono ?_); rintro e w' ⟨rfl, ⟨nd, rfl⟩⟩; refine ⟨_, rfl, ?_⟩) | (go_at_call 32; (with_reducible refine (impl_within.calls ab 8 16 true _ A4.out).mono ?_); rintro e w' ⟨rfl, ⟨nd, rfl⟩⟩) | (go_at_call 32; (with_reducible refine (impl_within.calls ac 2 8 true _ A6.out).mono ?_); rintro e w' ⟨rfl, ⟨nd, rfl⟩⟩) | (go_at_call 32; (with_reducible refine (impl_within.calls af 1 8 false _ A8.out).mono ?_); rintro e w' ⟨rfl, ⟨nd, rfl⟩⟩))
 go_ret
 exact ⟨q114t, q47t⟩

/-! ### slices_Index_int_int: function 53 -/
def slices_Index_int_int.l0 : Nat → List Int → Int → Int → Int → Option (Int)
 | 0, _, _, _, _ => none
 | k + 1, x0, x1, x7, x8 => if x8 < x7 then (if 0 ≤ x8 then (if x8 < (x0.length : Int) then (if x1 = (rd x0 x8) then (some x8) else (slices_Index_int_int.l0 k x0 x1 x7 (wrap64 (x8 + 1)))) else (none)) else (none)) else (some (-1))
def slices_Index_int_int.f (k : Nat) (l0 : List Int) (a1 : Int) : Option (Int) := slices_Index_int_int.l0 k l0 a1 (l0.length : Int) 0
set_option maxHeartbeats 8000000 in
set_option maxRecDepth 100000 in
theorem slices_Index_int_int.calls (k : Nat) (A0 : Option Addr) (c0 : Nat) (l0 : List Int) (a1 : Int) (r : Int) (w : World) (hr0 : Kd.C (Kd.int .i64) w A0 l0.length l0) (hc0 : l0.length ≤ c0) (h : slices_Index_int_int.f k l0 a1 = some r) :
  Calls Tryd.prog 53 #[.slice A0 l0.length c0, a1] w fun e w' => e = .returned (.int .i64 r) ∧ Drawn0 w w' := by
 have bX := Aside0.mk hr0
 have d0 := Aside0.mk hc0
 clear hr0 hc0
 have H : (slices_Index_int_int.l0 k l0 a1 (l0.length : Int) 0) = some r := h
 clear h
 have H' := Aside0.mk H
 clear H
 go_enter Tryd.func53, Tryd.ntmps53
 go_wp2
 go_loopg [8] k (fun kq v8 w' => ∃ (bH : Int), v8 = .int .i64 bH ∧ Aside0 (slices_Index_int_int.l0 kq l0 a1 (l0.length : Int) bH = some r) ∧ Aside0 (kq ≤ k) ∧ Drawn0 w w')
 case atStart => exact ⟨(0), q121t, H', ⟨Nat.le_refl _⟩, q116t⟩
 case round =>
  clear H'
  try clear p2
  obtain ⟨bH, rfl, HA, HK1, ⟨m1, rfl⟩⟩ := hrel
  cases gk with
  | zero => exact absurd HA.out (by simp [slices_Index_int_int.l0])
  | succ k1 =>
   have H := HA.out
   clear HA
   simp only [slices_Index_int_int.l0] at H
   by_cases c3 : bH < (l0.length : Int)
   rotate_left
   ·rw [if_neg c3] at H
    have d8 : decide (bH < (l0.length : Int)) = false := decide_eq_false c3
    clear c3
    obtain rfl := Option.some.inj H
    go_wp2
    go_ret
    exact ⟨q121t, q116t⟩
   rw [if_pos c3] at H
   have d8 : decide (bH < (l0.length : Int)) = true := decide_eq_true c3
   clear c3
   by_cases c4 : 0 ≤ bH
   rotate_left
   ·rw [if_neg c4] at H
    exact absurd H q126t
   rw [if_pos c4] at H
   have en : decide (0 ≤ bH) = true := decide_eq_true c4
   clear c4
   by_cases c5 : bH < (l0.length : Int)
   rotate_left
   ·rw [if_neg c5] at H
    exact absurd H q126t
   rw [if_pos c5] at H
   have gE : decide (bH < (l0.length : Int)) = true := decide_eq_true c5
   clear c5
   by_cases c6 : a1 = (rd l0 bH)
   ·rw [if_pos c6] at H
    have d9 : (a1 == (rd l0 bH)) = true := beq_iff_eq.mpr c6
    have gg : (a1 != (rd l0 bH)) = false := bne_eq_false_iff_eq.mpr c6
    clear c6
    obtain rfl := Option.some.inj H
    have p593 : 0 ≤ (bH : Int) := of_decide_eq_true q118t
    have q593 : bH < (l0.length : Int) := of_decide_eq_true q118t
    obtain ⟨KU, e593, KV⟩ := Kd.at_int bX.out bH p593 q593
    cases e593
    replace p593 := eq_true p593
    replace q593 := eq_true q593
    go_wp2
    go_ret
    exact ⟨q121t, q116t⟩
   rw [if_neg c6] at H
   have d9 : (a1 == (rd l0 bH)) = false := beq_eq_false_iff_ne.mpr c6
   have gg : (a1 != (rd l0 bH)) = true := bne_iff_ne.mpr c6
   have H' := Aside0.mk H
   clear H
   have p593 : 0 ≤ (bH : Int) := of_decide_eq_true q118t
   have q593 : bH < (l0.length : Int) := of_decide_eq_true q118t
   obtain ⟨KU, e593, KV⟩ := Kd.at_int bX.out bH p593 q593
   cases e593
   replace p593 := eq_true p593
   replace q593 := eq_true q593
   go_wp2
   go_roundg k1
   case measure => have := HK1.out; omega
   case rel => exact ⟨(wrap64 (bH + 1)), q121t, H', ⟨q124t⟩, q116t⟩

/-! ### slices_Contains_int_int: function 34 -/
def slices_Contains_int_int.f (k : Nat) (l0 : List Int) (a1 : Int) : Option (Bool) := (slices_Index_int_int.f k l0 a1).bind fun sR => (some (decide (sR ≥ 0)))
set_option maxHeartbeats 8000000 in
set_option maxRecDepth 100000 in
theorem slices_Contains_int_int.calls (k : Nat) (A0 : Option Addr) (c0 : Nat) (l0 : List Int) (a1 : Int) (r : Bool) (w : World) (hr0 : Kd.C (Kd.int .i64) w A0 l0.length l0) (hc0 : l0.length ≤ c0) (h : slices_Contains_int_int.f k l0 a1 = some r) :
  Calls Tryd.prog 34 #[.slice A0 l0.length c0, a1] w fun e w' => e = .returned (.bool r) ∧ Drawn0 w w' := by
 have bX := Aside0.mk hr0
 have d0 := Aside0.mk hc0
 clear hr0 hc0
 have H : ((slices_Index_int_int.f k l0 a1).bind fun sR => (some (decide (sR ≥ 0)))) = some r := h
 clear h
 obtain ⟨sR, A3, H⟩ := bnd H
 try dsimp only at H
 obtain rfl := Option.some.inj H
 go_enter Tryd.func34, Tryd.ntmps34
 go_wp2_with (first | ((with_reducible refine gate_callee (f := 53) rfl ?_); refine goesL_ (some 7) rfl rfl Tryd.func53 (by kernel_rfl) rfl #[.slice A0 l0.length c0, a1] rfl q66t ?_; (with_reducible refine (slices_Index_int_int.calls k _ _ l0 a1 sR _ ?side1 ?side2 A3.out).mono ?_); (case side1 => repeat (first | exact bX.out | (with_reducible refine Kd.C_alloc ?_ _) | (with_reducible refine Kd.C_drewN ?_ _) | (with_reducible refine Kd.C_drew ?_))); (case side2 => exact d0.out); rintro e w' ⟨rfl, ⟨nd, rfl⟩⟩; refine ⟨_, rfl, ?_⟩))
 go_ret
 exact ⟨q121t, q116t⟩

end Go.Proofs.YtofpmdgndegalacDoor.QFnNodes
