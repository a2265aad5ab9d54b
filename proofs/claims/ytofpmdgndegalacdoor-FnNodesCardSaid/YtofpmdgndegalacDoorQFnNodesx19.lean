/- What the functions that the law FnNodes reaches compute, as plain functions, and that the code computes just that (by a program of this session's; the library's functions by hand). No condition. -/
import Derived.Test.YtofpmdgndegalacDoorQFnNodesx0
namespace Go.Proofs.YtofpmdgndegalacDoor.QFnNodes
open Go.RowKit Go.Proofs.YtofpmdgndegalacDoorW.PrintWords Go.Proofs.YtofpmdgndegalacDoorW.PrintLast Go.Proofs.YtofpmdgndegalacDoorW.PrintMore
attribute [local go_sem] max2_int min2_int max_two min_two max_three min_three max_four min_four   -- for this text's walks alone
set_option linter.unusedVariables false
set_option linter.unusedSimpArgs false

/-! ### laws_sameInts: function 47 -/
def laws_sameInts.l0 : Nat → List Int → List Int → Int → Option (Bool)
 | 0, _, _, _ => none
 | k + 1, x0, x1, x5 => if x5 < (x0.length : Int) then (if 0 ≤ x5 then (if x5 < (x1.length : Int) then (if (rd x0 x5) = (rd x1 x5) then (laws_sameInts.l0 k x0 x1 (wrap64 (x5 + 1))) else (some false)) else (none)) else (none)) else (some true)
def laws_sameInts.f (k : Nat) (l0 : List Int) (l1 : List Int) : Option (Bool) := if (l0.length : Int) = (l1.length : Int) then (laws_sameInts.l0 k l0 l1 0) else (some false)
set_option maxHeartbeats 8000000 in
set_option maxRecDepth 100000 in
theorem laws_sameInts.calls (k : Nat) (A0 : Option Addr) (c0 : Nat) (l0 : List Int) (A1 : Option Addr) (c1 : Nat) (l1 : List Int) (r : Bool) (w : World) (hr0 : Kd.C (Kd.int .i64) w A0 l0.length l0) (hc0 : l0.length ≤ c0) (hr1 : Kd.C (Kd.int .i64) w A1 l1.length l1) (hc1 : l1.length ≤ c1) (h : laws_sameInts.f k l0 l1 = some r) :
  Calls Tryd.prog 47 #[.slice A0 l0.length c0, .slice A1 l1.length c1] w fun e w' => e = .returned (.bool r) ∧ Drawn0 w w' := by
 have bX := Aside0.mk hr0
 have d0 := Aside0.mk hc0
 clear hr0 hc0
 have gh := Aside0.mk hr1
 have pw := Aside0.mk hc1
 clear hr1 hc1
 have H : (if (l0.length : Int) = (l1.length : Int) then (laws_sameInts.l0 k l0 l1 0) else (some false)) = some r := h
 clear h
 by_cases c3 : (l0.length : Int) = (l1.length : Int)
 rotate_left
 ·rw [if_neg c3] at H
  have d8 : ((l0.length : Int) == (l1.length : Int)) = false := beq_eq_false_iff_ne.mpr c3
  have ip : ((l0.length : Int) != (l1.length : Int)) = true := bne_iff_ne.mpr c3
  have nW : (l0.length == l1.length) = false := by first | simpa using c3 | (simp at c3 ⊢; omega)
  obtain rfl := Option.some.inj H
  go_enter Tryd.func47, Tryd.ntmps47
  go_wp2
  repeat (go_quiet (fail); try go_wp2)
  go_ret
  exact ⟨q121t, q116t⟩
 rw [if_pos c3] at H
 have d8 : ((l0.length : Int) == (l1.length : Int)) = true := beq_iff_eq.mpr c3
 have ip : ((l0.length : Int) != (l1.length : Int)) = false := bne_eq_false_iff_eq.mpr c3
 have nW : (l0.length == l1.length) = true := by first | simpa using c3 | (simp at c3 ⊢; omega)
 clear c3
 have H' := Aside0.mk H
 clear H
 go_enter Tryd.func47, Tryd.ntmps47
 go_wp2
 repeat (go_quiet (fail); try go_wp2)
 go_loopg [5] k (fun kq v5 w' => ∃ (aY : Int), v5 = .int .i64 aY ∧ Aside0 (laws_sameInts.l0 kq l0 l1 aY = some r) ∧ Aside0 (kq ≤ k) ∧ Drawn0 w w')
 case atStart => exact ⟨(0), q121t, H', ⟨Nat.le_refl _⟩, q116t⟩
 case round =>
  clear H'
  try clear c1
  try clear p2
  try clear c3
  try clear d8
  try clear ip
  try clear nW
  obtain ⟨aY, rfl, HA, HK1, ⟨m1, rfl⟩⟩ := hrel
  cases gk with
  | zero => exact absurd HA.out (by simp [laws_sameInts.l0])
  | succ k1 =>
   have H := HA.out
   clear HA
   simp only [laws_sameInts.l0] at H
   by_cases c4 : aY < (l0.length : Int)
   rotate_left
   ·rw [if_neg c4] at H
    have en : decide (aY < (l0.length : Int)) = false := decide_eq_false c4
    clear c4
    obtain rfl := Option.some.inj H
    go_wp2
    repeat (go_quiet (fail); try go_wp2)
    go_ret
    exact ⟨q121t, q116t⟩
   rw [if_pos c4] at H
   have en : decide (aY < (l0.length : Int)) = true := decide_eq_true c4
   clear c4
   by_cases c5 : 0 ≤ aY
   rotate_left
   ·rw [if_neg c5] at H
    exact absurd H q126t
   rw [if_pos c5] at H
   have gE : decide (0 ≤ aY) = true := decide_eq_true c5
   clear c5
   by_cases c6 : aY < (l1.length : Int)
   rotate_left
   ·rw [if_neg c6] at H
    exact absurd H q126t
   rw [if_pos c6] at H
   have d9 : decide (aY < (l1.length : Int)) = true := decide_eq_true c6
   clear c6
   by_cases c7 : (rd l0 aY) = (rd l1 aY)
   ·rw [if_pos c7] at H
    have eM : ((rd l0 aY) == (rd l1 aY)) = true := beq_iff_eq.mpr c7
    have jJ : ((rd l0 aY) != (rd l1 aY)) = false := bne_eq_false_iff_eq.mpr c7
    clear c7
    have H' := Aside0.mk H
    clear H
    have p672 : 0 ≤ (aY : Int) := of_decide_eq_true q118t
    have q672 : aY < (l0.length : Int) := of_decide_eq_true q118t
    obtain ⟨LY, e672, LZ⟩ := Kd.at_int bX.out aY p672 q672
    cases e672
    replace p672 := eq_true p672
    replace q672 := eq_true q672
    have p673 : 0 ≤ (aY : Int) := of_decide_eq_true q118t
    have q673 : aY < (l1.length : Int) := of_decide_eq_true q118t
    obtain ⟨L0, e673, L1⟩ := Kd.at_int gh.out aY p673 q673
    cases e673
    replace p673 := eq_true p673
    replace q673 := eq_true q673
    go_wp2
    repeat (go_quiet (fail); try go_wp2)
    go_roundg k1
    case measure => have := HK1.out; omega
    case rel => exact ⟨(wrap64 (aY + 1)), q121t, H', ⟨q124t⟩, q116t⟩
   rw [if_neg c7] at H
   have eM : ((rd l0 aY) == (rd l1 aY)) = false := beq_eq_false_iff_ne.mpr c7
   have jJ : ((rd l0 aY) != (rd l1 aY)) = true := bne_iff_ne.mpr c7
   obtain rfl := Option.some.inj H
   have p672 : 0 ≤ (aY : Int) := of_decide_eq_true q118t
   have q672 : aY < (l0.length : Int) := of_decide_eq_true q118t
   obtain ⟨LY, e672, LZ⟩ := Kd.at_int bX.out aY p672 q672
   cases e672
   replace p672 := eq_true p672
   replace q672 := eq_true q672
   have p673 : 0 ≤ (aY : Int) := of_decide_eq_true q118t
   have q673 : aY < (l1.length : Int) := of_decide_eq_true q118t
   obtain ⟨L0, e673, L1⟩ := Kd.at_int gh.out aY p673 q673
   cases e673
   replace p673 := eq_true p673
   replace q673 := eq_true q673
   go_wp2
   repeat (go_quiet (fail); try go_wp2)
   go_ret
   exact ⟨q121t, q116t⟩

end Go.Proofs.YtofpmdgndegalacDoor.QFnNodes
