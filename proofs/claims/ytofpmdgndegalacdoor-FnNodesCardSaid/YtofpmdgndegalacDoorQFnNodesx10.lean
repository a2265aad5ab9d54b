/- What the functions that the law FnNodes reaches compute, as plain functions, and that the code computes just that (by a program of this session's; the library's functions by hand). No condition. -/
import Derived.Test.YtofpmdgndegalacDoorQFnNodesx0
import Derived.Test.YtofpmdgndegalacDoorQFnNodesx9
namespace Go.Proofs.YtofpmdgndegalacDoor.QFnNodes
open Go.RowKit Go.Proofs.YtofpmdgndegalacDoorW.PrintWords Go.Proofs.YtofpmdgndegalacDoorW.PrintLast Go.Proofs.YtofpmdgndegalacDoorW.PrintMore
attribute [local go_sem] max2_int min2_int max_two min_two max_three min_three max_four min_four   -- for this text's walks alone
set_option linter.unusedVariables false
set_option linter.unusedSimpArgs false

/-! ### impl_distinct: function 33 -/
def impl_distinct.l0 : Nat → List Int → List Int → Int → Int → Int → Int → Int → Int → Int → Int → Option (Bool)
 | 0, _, _, _, _, _, _, _, _, _, _ => none
 | k + 1, x1, x7, x8, x9, EM, KW, KX, KY, KZ, K0 => if x9 < x8 then (if 0 ≤ x9 then (if x9 < (x7.length : Int) then ((impl_within.f (rd x7 x9) 0 (wrap64 (EM - 1))).bind fun yH => (if yH = true then (if x9 ≤ (x1.length : Int) then ((slices_Contains_int_int.f k (x1.take (x9 : Int).toNat) (rd x7 x9)).bind fun yI => (if yI = true then (some false) else (impl_distinct.l0 k x1 x7 x8 (wrap64 (x9 + 1)) EM KW KX KY KZ K0))) else (none)) else (some false))) else (none)) else (none)) else (some true)
def impl_distinct.f (k : Nat) (aa : Int) (ab : Int) (ac : Int) (af : Int) (ag : Int) (ae : Int) (l1 : List Int) : Option (Bool) := impl_distinct.l0 k l1 l1 (l1.length : Int) 0 aa ab ac af ag ae
set_option maxHeartbeats 8000000 in
set_option maxRecDepth 100000 in
theorem impl_distinct.calls (k : Nat) (aa : Int) (ab : Int) (ac : Int) (af : Int) (ag : Int) (ae : Int) (A1 : Option Addr) (c1 : Nat) (l1 : List Int) (r : Bool) (w : World) (hr1 : Kd.C (Kd.int .i64) w A1 l1.length l1) (hc1 : l1.length ≤ c1) (h : impl_distinct.f k aa ab ac af ag ae l1 = some r) :
  Calls Tryd.prog 33 #[.agg #[aa, ab, ac, af, ag, ae], .slice A1 l1.length c1] w fun e w' => e = .returned (.bool r) ∧ Below w.heap.size w w' := by
 have hu25 := Tryd.underlying25
 have gh := Aside0.mk hr1
 have pw := Aside0.mk hc1
 clear hr1 hc1
 have HB := am (Below.refl w.heap.size w)
 have H : (impl_distinct.l0 k l1 l1 (l1.length : Int) 0 aa ab ac af ag ae) = some r := h
 clear h
 have H' := Aside0.mk H
 clear H
 go_enter Tryd.func33, Tryd.ntmps33
 go_wp2_with (first | ((with_reducible refine gate_dst (N := 2) rfl ?_); refine box_ev 2 #[aa, ab, ac, af, ag, ae] 25 ?_; intro yJ hg w3 hbox hb; have mE := am (hbox); have V5 := am ((q63t : w.heap.size ≤ yJ)); have V6 := am ((q63t : w.heap.size ≤ yJ)); replace HB := am (below_step q68t hb); clear hb hbox hg))
 go_loopg [9] k (fun kq v9 w' => ∃ (ce : Int), v9 = .int .i64 ce ∧ Aside0 (impl_distinct.l0 kq l1 l1 (l1.length : Int) ce aa ab ac af ag ae = some r) ∧ Aside0 (kq ≤ k) ∧ Aside0 (w'.heap[yJ]? = some (.cells #[aa, ab, ac, af, ag, ae] 25 (0, 0))) ∧ Aside0 (Below w.heap.size w w'))
 case atStart => exact ⟨(0), q121t, H', ⟨Nat.le_refl _⟩, ⟨qbk mE⟩, ⟨q47t⟩⟩
 case round =>
  clear H'
  try clear c1
  try clear p2
  try clear c3
  obtain ⟨ce, rfl, HA, HK1, mE, HB⟩ := hrel
  cases gk with
  | zero => exact absurd HA.out (by simp [impl_distinct.l0])
  | succ k1 =>
   have H := HA.out
   clear HA
   simp only [impl_distinct.l0] at H
   by_cases c4 : ce < (l1.length : Int)
   rotate_left
   ·rw [if_neg c4] at H
    have en : decide (ce < (l1.length : Int)) = false := decide_eq_false c4
    clear c4
    obtain rfl := Option.some.inj H
    go_wp2
    go_ret
    exact ⟨q114t, q47t⟩
   rw [if_pos c4] at H
   have en : decide (ce < (l1.length : Int)) = true := decide_eq_true c4
   clear c4
   by_cases c5 : 0 ≤ ce
   rotate_left
   ·rw [if_neg c5] at H
    exact absurd H q126t
   rw [if_pos c5] at H
   have gE : decide (0 ≤ ce) = true := decide_eq_true c5
   clear c5
   by_cases c6 : ce < (l1.length : Int)
   rotate_left
   ·rw [if_neg c6] at H
    exact absurd H q126t
   rw [if_pos c6] at H
   have d9 : decide (ce < (l1.length : Int)) = true := decide_eq_true c6
   clear c6
   obtain ⟨yH, A7, H⟩ := bnd H
   try dsimp only at H
   by_cases c8 : yH = true
   rotate_left
   ·replace c8 := Bool.eq_false_iff.mpr c8
    subst c8
    rw [if_neg (show ¬ (false = true) by decide)] at H
    obtain rfl := Option.some.inj H
    have p596 : 0 ≤ (ce : Int) := of_decide_eq_true q118t
    have q596 : ce < (l1.length : Int) := of_decide_eq_true q118t
    obtain ⟨vq, e596, nX⟩ := Kd.at_int gh.out ce p596 q596
    cases e596
    replace nX := hbt HB nX
    replace p596 := eq_true p596
    replace q596 := eq_true q596
    have qo := qc6 mE.out
    have k8 := qf6 mE.out
    go_wp2_with (first | ((with_reducible refine gate_callee (f := 32) rfl ?_); refine goesL_ (some 18) rfl rfl Tryd.func32 (by kernel_rfl) rfl #[.int .i64 (rd l1 ce), .int .i64 0, (wrap64 (aa - 1))] rfl q66t ?_; (with_reducible refine (impl_within.calls (rd l1 ce) 0 (wrap64 (aa - 1)) false _ A7.out).mono ?_); rintro e w' ⟨rfl, ⟨nd, rfl⟩⟩; refine ⟨_, rfl, ?_⟩))
    go_ret
    exact ⟨q114t, q47t⟩
   subst c8
   rw [if_pos rfl] at H
   have mD := eq_true (of_decide_eq_true q118t : 0 ≤ ce)
   by_cases c10 : ce ≤ (l1.length : Int)
   rotate_left
   ·rw [if_neg c10] at H
    exact absurd H q126t
   rw [if_pos c10] at H
   have eN := eq_true c10
   have jK : decide (ce ≤ (l1.length : Int)) = true := decide_eq_true c10
   clear c10
   obtain ⟨yI, ku, H⟩ := bnd H
   try dsimp only at H
   by_cases c12 : yI = true
   ·subst c12
    rw [if_pos rfl] at H
    obtain rfl := Option.some.inj H
    have p596 : 0 ≤ (ce : Int) := of_decide_eq_true q118t
    have q596 : ce < (l1.length : Int) := of_decide_eq_true q118t
    obtain ⟨vq, e596, nX⟩ := Kd.at_int gh.out ce p596 q596
    cases e596
    replace nX := hbt HB nX
    replace p596 := eq_true p596
    replace q596 := eq_true q596
    have kE := qc6 mE.out
    have kF := qf6 mE.out
    go_wp2_with (first | ((with_reducible refine gate_callee (f := 32) rfl ?_); refine goesL_ (some 18) rfl rfl Tryd.func32 (by kernel_rfl) rfl #[.int .i64 (rd l1 ce), .int .i64 0, (wrap64 (aa - 1))] rfl q66t ?_; (with_reducible refine (impl_within.calls (rd l1 ce) 0 (wrap64 (aa - 1)) true _ A7.out).mono ?_); rintro e w' ⟨rfl, ⟨nd, rfl⟩⟩; refine ⟨_, rfl, ?_⟩; obtain ⟨i014, hi014, _, hsz14, _⟩ := info_parts info3; obtain ⟨hcut14, hA14, hC14⟩ := print_take_of (P := Tryd.prog) (Value.int .i64) 0 26 3 .i64 Tryd.underlying26 hi014 hsz14 (some vq) c1 l1 ce (of_decide_eq_true q118t) (of_decide_eq_true q118t) pw.out; have yK := am (Kd.C_of_reads (h1 := fun _ => rfl) (hA14 _ (Kd.reads_of_C gh.out))); have yL := Aside0.mk hC14; clear hA14 hC14 hi014 hsz14) | (go_at_call 34; (try rw [show ce.toNat = (l1.take (ce : Int).toNat).length from (by rw [List.length_take]; have h_ : (ce : Int) ≤ (l1.length : Int) := of_decide_eq_true q118t; have g_ : 0 ≤ (ce : Int) := of_decide_eq_true q118t; omega)]); (with_reducible refine (slices_Contains_int_int.calls k1 _ _ (l1.take (ce : Int).toNat) (rd l1 ce) true _ ?side1 ?side2 ku.out).mono ?_); (case side1 => repeat (first | exact (Kd.C_below yK.out q47t) | (with_reducible refine Kd.C_alloc ?_ _) | (with_reducible refine Kd.C_drewN ?_ _) | (with_reducible refine Kd.C_drew ?_))); (case side2 => exact yL.out); rintro e w' ⟨rfl, ⟨nd, rfl⟩⟩))
    go_ret
    exact ⟨q114t, q47t⟩
   replace c12 := Bool.eq_false_iff.mpr c12
   subst c12
   rw [if_neg (show ¬ (false = true) by decide)] at H
   have H' := Aside0.mk H
   clear H
   have p596 : 0 ≤ (ce : Int) := of_decide_eq_true q118t
   have q596 : ce < (l1.length : Int) := of_decide_eq_true q118t
   obtain ⟨vq, e596, nX⟩ := Kd.at_int gh.out ce p596 q596
   cases e596
   replace nX := hbt HB nX
   replace p596 := eq_true p596
   replace q596 := eq_true q596
   have mn := qc6 mE.out
   have iL := qf6 mE.out
   go_wp2_with (first | ((with_reducible refine gate_callee (f := 32) rfl ?_); refine goesL_ (some 18) rfl rfl Tryd.func32 (by kernel_rfl) rfl #[.int .i64 (rd l1 ce), .int .i64 0, (wrap64 (aa - 1))] rfl q66t ?_; (with_reducible refine (impl_within.calls (rd l1 ce) 0 (wrap64 (aa - 1)) true _ A7.out).mono ?_); rintro e w' ⟨rfl, ⟨nd, rfl⟩⟩; refine ⟨_, rfl, ?_⟩; obtain ⟨i016, hi016, _, hsz16, _⟩ := info_parts info3; obtain ⟨hcut16, hA16, hC16⟩ := print_take_of (P := Tryd.prog) (Value.int .i64) 0 26 3 .i64 Tryd.underlying26 hi016 hsz16 (some vq) c1 l1 ce (of_decide_eq_true q118t) (of_decide_eq_true q118t) pw.out; have yK := am (Kd.C_of_reads (h1 := fun _ => rfl) (hA16 _ (Kd.reads_of_C gh.out))); have yL := Aside0.mk hC16; clear hA16 hC16 hi016 hsz16) | (go_at_call 34; (try rw [show ce.toNat = (l1.take (ce : Int).toNat).length from (by rw [List.length_take]; have h_ : (ce : Int) ≤ (l1.length : Int) := of_decide_eq_true q118t; have g_ : 0 ≤ (ce : Int) := of_decide_eq_true q118t; omega)]); (with_reducible refine (slices_Contains_int_int.calls k1 _ _ (l1.take (ce : Int).toNat) (rd l1 ce) false _ ?side1 ?side2 ku.out).mono ?_); (case side1 => repeat (first | exact (Kd.C_below yK.out q47t) | (with_reducible refine Kd.C_alloc ?_ _) | (with_reducible refine Kd.C_drewN ?_ _) | (with_reducible refine Kd.C_drew ?_))); (case side2 => exact yL.out); rintro e w' ⟨rfl, ⟨nd, rfl⟩⟩))
   go_roundg k1
   case measure => have := HK1.out; omega
   case rel => exact ⟨(wrap64 (ce + 1)), q121t, H', ⟨q124t⟩, ⟨qbk mE⟩, ⟨q47t⟩⟩

/-! ### impl_areBytes_1: function 55 -/
def impl_areBytes_1.f (a0 : Int) : Option (Bool) := (impl_within.f a0 0 255).bind fun sS => (some (!sS))
set_option maxHeartbeats 8000000 in
set_option maxRecDepth 100000 in
theorem impl_areBytes_1.calls (a0 : Int) (r : Bool) (w : World) (h : impl_areBytes_1.f a0 = some r) :
  Calls Tryd.prog 55 #[a0] w fun e w' => e = .returned (.bool r) ∧ Drawn0 w w' := by
 have H : ((impl_within.f a0 0 255).bind fun sS => (some (!sS))) = some r := h
 clear h
 obtain ⟨sS, A2, H⟩ := bnd H
 try dsimp only at H
 obtain rfl := Option.some.inj H
 go_enter Tryd.func55, Tryd.ntmps55
 go_wp2_with (first | ((with_reducible refine gate_callee (f := 32) rfl ?_); refine goesL_ (some 4) rfl rfl Tryd.func32 (by kernel_rfl) rfl #[a0, .int .i64 0, .int .i64 255] rfl q66t ?_; (with_reducible refine (impl_within.calls a0 0 255 sS _ A2.out).mono ?_); rintro e w' ⟨rfl, ⟨nd, rfl⟩⟩; refine ⟨_, rfl, ?_⟩))
 go_ret
 exact ⟨q121t, q116t⟩

/-! ### slices_IndexFunc_int_int: function 61 -/
def slices_IndexFunc_int_int.l0 : Nat → List Int → Int → Int → Option (Int)
 | 0, _, _, _ => none
 | k + 1, x0, x7, x8 => if x8 < x7 then (if 0 ≤ x8 then (if x8 < (x0.length : Int) then ((impl_areBytes_1.f (rd x0 x8)).bind fun yM => (if yM = true then (some x8) else (slices_IndexFunc_int_int.l0 k x0 x7 (wrap64 (x8 + 1))))) else (none)) else (none)) else (some (-1))
def slices_IndexFunc_int_int.f (k : Nat) (l0 : List Int)  : Option (Int) := slices_IndexFunc_int_int.l0 k l0 (l0.length : Int) 0
set_option maxHeartbeats 8000000 in
set_option maxRecDepth 100000 in
theorem slices_IndexFunc_int_int.calls (k : Nat) (A0 : Option Addr) (c0 : Nat) (l0 : List Int)  (r : Int) (w : World) (hr0 : Kd.C (Kd.int .i64) w A0 l0.length l0) (hc0 : l0.length ≤ c0) (h : slices_IndexFunc_int_int.f k l0 = some r) :
  Calls Tryd.prog 61 #[.slice A0 l0.length c0, .func (.func 55) #[] #[]] w fun e w' => e = .returned (.int .i64 r) ∧ Drawn0 w w' := by
 have bX := Aside0.mk hr0
 have d0 := Aside0.mk hc0
 clear hr0 hc0
 have H : (slices_IndexFunc_int_int.l0 k l0 (l0.length : Int) 0) = some r := h
 clear h
 have H' := Aside0.mk H
 clear H
 go_enter Tryd.func61, Tryd.ntmps61
 go_wp2
 go_loopg [8] k (fun kq v8 w' => ∃ (bH : Int), v8 = .int .i64 bH ∧ Aside0 (slices_IndexFunc_int_int.l0 kq l0 (l0.length : Int) bH = some r) ∧ Aside0 (kq ≤ k) ∧ Drawn0 w w')
 case atStart => exact ⟨(0), q121t, H', ⟨Nat.le_refl _⟩, q116t⟩
 case round =>
  clear H'
  try clear p2
  obtain ⟨bH, rfl, HA, HK1, ⟨m1, rfl⟩⟩ := hrel
  cases gk with
  | zero => exact absurd HA.out (by simp [slices_IndexFunc_int_int.l0])
  | succ k1 =>
   have H := HA.out
   clear HA
   simp only [slices_IndexFunc_int_int.l0] at H
   by_cases c3 : bH < (l0.length : Int)
   rotate_left
   ·rw [if_neg c3] at H
    have d8 : decide (bH < (l0.length : Int)) = false := decide_eq_false c3
    clear c3
    obtain rfl := Option.some.inj H
    go_wp2
    go_ret
    exact ⟨q121t, q116t⟩
   rw [if_pos c3] at H
   have d8 : decide (bH < (l0.length : Int)) = true := decide_eq_true c3
   clear c3
   by_cases c4 : 0 ≤ bH
   rotate_left
   ·rw [if_neg c4] at H
    exact absurd H q126t
   rw [if_pos c4] at H
   have en : decide (0 ≤ bH) = true := decide_eq_true c4
   clear c4
   by_cases c5 : bH < (l0.length : Int)
   rotate_left
   ·rw [if_neg c5] at H
    exact absurd H q126t
   rw [if_pos c5] at H
   have gE : decide (bH < (l0.length : Int)) = true := decide_eq_true c5
   clear c5
   obtain ⟨yM, A6, H⟩ := bnd H
   try dsimp only at H
   by_cases c7 : yM = true
   ·subst c7
    rw [if_pos rfl] at H
    obtain rfl := Option.some.inj H
    have p601 : 0 ≤ (bH : Int) := of_decide_eq_true q118t
    have q601 : bH < (l0.length : Int) := of_decide_eq_true q118t
    obtain ⟨K1, e601, K2⟩ := Kd.at_int bX.out bH p601 q601
    cases e601
    replace p601 := eq_true p601
    replace q601 := eq_true q601
    go_wp2_with (first | (go_at_call 55; (with_reducible refine (impl_areBytes_1.calls (rd l0 bH) true _ A6.out).mono ?_); rintro e w' ⟨rfl, ⟨nd, rfl⟩⟩))
    go_ret
    exact ⟨q121t, q116t⟩
   replace c7 := Bool.eq_false_iff.mpr c7
   subst c7
   rw [if_neg (show ¬ (false = true) by decide)] at H
   have H' := Aside0.mk H
   clear H
   have p601 : 0 ≤ (bH : Int) := of_decide_eq_true q118t
   have q601 : bH < (l0.length : Int) := of_decide_eq_true q118t
   obtain ⟨K1, e601, K2⟩ := Kd.at_int bX.out bH p601 q601
   cases e601
   replace p601 := eq_true p601
   replace q601 := eq_true q601
   go_wp2_with (first | (go_at_call 55; (with_reducible refine (impl_areBytes_1.calls (rd l0 bH) false _ A6.out).mono ?_); rintro e w' ⟨rfl, ⟨nd, rfl⟩⟩))
   go_roundg k1
   case measure => have := HK1.out; omega
   case rel => exact ⟨(wrap64 (bH + 1)), q121t, H', ⟨q124t⟩, q116t⟩

/-! ### slices_ContainsFunc_int_int: function 54 -/
def slices_ContainsFunc_int_int.f (k : Nat) (l0 : List Int)  : Option (Bool) := (slices_IndexFunc_int_int.f k l0).bind fun sT => (some (decide (sT ≥ 0)))
set_option maxHeartbeats 8000000 in
set_option maxRecDepth 100000 in
theorem slices_ContainsFunc_int_int.calls (k : Nat) (A0 : Option Addr) (c0 : Nat) (l0 : List Int)  (r : Bool) (w : World) (hr0 : Kd.C (Kd.int .i64) w A0 l0.length l0) (hc0 : l0.length ≤ c0) (h : slices_ContainsFunc_int_int.f k l0 = some r) :
  Calls Tryd.prog 54 #[.slice A0 l0.length c0, .func (.func 55) #[] #[]] w fun e w' => e = .returned (.bool r) ∧ Drawn0 w w' := by
 have bX := Aside0.mk hr0
 have d0 := Aside0.mk hc0
 clear hr0 hc0
 have H : ((slices_IndexFunc_int_int.f k l0).bind fun sT => (some (decide (sT ≥ 0)))) = some r := h
 clear h
 obtain ⟨sT, A3, H⟩ := bnd H
 try dsimp only at H
 obtain rfl := Option.some.inj H
 go_enter Tryd.func54, Tryd.ntmps54
 go_wp2_with (first | ((with_reducible refine gate_callee (f := 61) rfl ?_); refine goesL_ (some 7) rfl rfl Tryd.func61 (by kernel_rfl) rfl #[.slice A0 l0.length c0, .func (.func 55) #[] #[]] rfl q66t ?_; (with_reducible refine (slices_IndexFunc_int_int.calls k _ _ l0  sT _ ?side1 ?side2 A3.out).mono ?_); (case side1 => repeat (first | exact bX.out | (with_reducible refine Kd.C_alloc ?_ _) | (with_reducible refine Kd.C_drewN ?_ _) | (with_reducible refine Kd.C_drew ?_))); (case side2 => exact d0.out); rintro e w' ⟨rfl, ⟨nd, rfl⟩⟩; refine ⟨_, rfl, ?_⟩))
 go_ret
 exact ⟨q121t, q116t⟩

/-! ### impl_areBytes: function 35 -/
def impl_areBytes.f (k : Nat) (l0 : List Int) : Option (Bool) := (slices_ContainsFunc_int_int.f k l0).bind fun sU => (some (!sU))
set_option maxHeartbeats 8000000 in
set_option maxRecDepth 100000 in
theorem impl_areBytes.calls (k : Nat) (A0 : Option Addr) (c0 : Nat) (l0 : List Int) (r : Bool) (w : World) (hr0 : Kd.C (Kd.int .i64) w A0 l0.length l0) (hc0 : l0.length ≤ c0) (h : impl_areBytes.f k l0 = some r) :
  Calls Tryd.prog 35 #[.slice A0 l0.length c0] w fun e w' => e = .returned (.bool r) ∧ Drawn0 w w' := by
 have bX := Aside0.mk hr0
 have d0 := Aside0.mk hc0
 clear hr0 hc0
 have H : ((slices_ContainsFunc_int_int.f k l0).bind fun sU => (some (!sU))) = some r := h
 clear h
 obtain ⟨sU, A2, H⟩ := bnd H
 try dsimp only at H
 obtain rfl := Option.some.inj H
 go_enter Tryd.func35, Tryd.ntmps35
 go_wp2_with (first | ((with_reducible refine gate_callee (f := 54) rfl ?_); refine goesL_ (some 4) rfl rfl Tryd.func54 (by kernel_rfl) rfl #[.slice A0 l0.length c0, .func (.func 55) #[] #[]] rfl q66t ?_; (with_reducible refine (slices_ContainsFunc_int_int.calls k _ _ l0  sU _ ?side1 ?side2 A2.out).mono ?_); (case side1 => repeat (first | exact bX.out | (with_reducible refine Kd.C_alloc ?_ _) | (with_reducible refine Kd.C_drewN ?_ _) | (with_reducible refine Kd.C_drew ?_))); (case side2 => exact d0.out); rintro e w' ⟨rfl, ⟨nd, rfl⟩⟩; refine ⟨_, rfl, ?_⟩))
 go_ret
 exact ⟨q121t, q116t⟩

/-! ### impl_BytesOf: function 21 -/
def impl_BytesOf.f (aa : Int) (ab : Int) (ac : Int) (af : Int) (ag : Int) (ae : Int) : Option (Int) := (impl_ConfOk.f aa ab ac af ag ae).bind fun sV => (if sV = true then (some (wrap64 (aa * ab))) else (some 0))
set_option maxHeartbeats 8000000 in
set_option maxRecDepth 100000 in
theorem impl_BytesOf.calls (aa : Int) (ab : Int) (ac : Int) (af : Int) (ag : Int) (ae : Int) (r : Int) (w : World) (h : impl_BytesOf.f aa ab ac af ag ae = some r) :
  Calls Tryd.prog 21 #[.agg #[aa, ab, ac, af, ag, ae]] w fun e w' => e = .returned (.int .i64 r) ∧ Below w.heap.size w w' := by
 have hu25 := Tryd.underlying25
 have HB := am (Below.refl w.heap.size w)
 have H : ((impl_ConfOk.f aa ab ac af ag ae).bind fun sV => (if sV = true then (some (wrap64 (aa * ab))) else (some 0))) = some r := h
 clear h
 obtain ⟨sV, A2, H⟩ := bnd H
 try dsimp only at H
 by_cases c3 : sV = true
 ·subst c3
  rw [if_pos rfl] at H
  obtain rfl := Option.some.inj H
  go_enter Tryd.func21, Tryd.ntmps21
  go_wp2_with (first | ((with_reducible refine gate_dst (N := 1) rfl ?_); refine box_ev 1 #[aa, ab, ac, af, ag, ae] 25 ?_; intro sW hg w4 hbox hb; have kv := am (hbox); have K3 := am ((q63t : w.heap.size ≤ sW)); have K4 := am ((q63t : w.heap.size ≤ sW)); replace HB := am (below_step q68t hb); clear hb hbox hg; have pl := qc6 kv.out; have pm := qf6 kv.out) | ((with_reducible refine gate_callee (f := 31) rfl ?_); refine goesL_ (some 4) rfl rfl Tryd.func31 (by kernel_rfl) rfl #[.agg #[aa, ab, ac, af, ag, ae]] rfl q66t ?_; (with_reducible refine (impl_ConfOk.calls aa ab ac af ag ae true _ A2.out).mono ?_); rintro e w6 ⟨rfl, hb⟩; refine ⟨_, rfl, ?_⟩; replace kv := blb kv hb; replace HB := am (below_step q47t hb); (try clear hb); (try clear hb2); (try clear hk); (try clear hi); have K5 := qc6 kv.out; have K6 := qf6 kv.out))
  go_ret
  exact ⟨q114t, q47t⟩
 ·replace c3 := Bool.eq_false_iff.mpr c3
  subst c3
  rw [if_neg (show ¬ (false = true) by decide)] at H
  obtain rfl := Option.some.inj H
  go_enter Tryd.func21, Tryd.ntmps21
  go_wp2_with (first | ((with_reducible refine gate_dst (N := 1) rfl ?_); refine box_ev 1 #[aa, ab, ac, af, ag, ae] 25 ?_; intro sW hg w8 hbox hb; have kv := am (hbox); have K3 := am ((q63t : w.heap.size ≤ sW)); have K4 := am ((q63t : w.heap.size ≤ sW)); replace HB := am (below_step q68t hb); clear hb hbox hg; have K7 := qc6 kv.out; have K8 := qf6 kv.out) | ((with_reducible refine gate_callee (f := 31) rfl ?_); refine goesL_ (some 4) rfl rfl Tryd.func31 (by kernel_rfl) rfl #[.agg #[aa, ab, ac, af, ag, ae]] rfl q66t ?_; (with_reducible refine (impl_ConfOk.calls aa ab ac af ag ae false _ A2.out).mono ?_); rintro e w10 ⟨rfl, hb⟩; refine ⟨_, rfl, ?_⟩; replace kv := blb kv hb; replace HB := am (below_step q47t hb); (try clear hb); (try clear hb2); (try clear hk); (try clear hi)))
  go_ret
  exact ⟨q114t, q47t⟩

/-! ### impl_IsLarge: function 40 -/
def impl_IsLarge.f (aa : Int) (ab : Int) (ac : Int) (af : Int) (ag : Int) (ae : Int) (a1 : Int) : Option (Bool) := some (decide (a1 > ab))
set_option maxHeartbeats 8000000 in
set_option maxRecDepth 100000 in
theorem impl_IsLarge.calls (aa : Int) (ab : Int) (ac : Int) (af : Int) (ag : Int) (ae : Int) (a1 : Int) (r : Bool) (w : World) (h : impl_IsLarge.f aa ab ac af ag ae a1 = some r) :
  Calls Tryd.prog 40 #[.agg #[aa, ab, ac, af, ag, ae], a1] w fun e w' => e = .returned (.bool r) ∧ Below w.heap.size w w' := by
 have hu25 := Tryd.underlying25
 have HB := am (Below.refl w.heap.size w)
 have H : (some (decide (a1 > ab))) = some r := h
 clear h
 obtain rfl := Option.some.inj H
 go_enter Tryd.func40, Tryd.ntmps40
 go_wp2_with (first | ((with_reducible refine gate_dst (N := 2) rfl ?_); refine box_ev 2 #[aa, ab, ac, af, ag, ae] 25 ?_; intro EN hg w3 hbox hb; have EO := am (hbox); have V7 := am ((q63t : w.heap.size ≤ EN)); have V8 := am ((q63t : w.heap.size ≤ EN)); replace HB := am (below_step q68t hb); clear hb hbox hg; have EK := qc6 EO.out; have EL := qf6 EO.out))
 go_ret
 exact ⟨q114t, q47t⟩

/-! ### impl_CeilDiv: function 58 -/
def impl_CeilDiv.f (a0 : Int) (a1 : Int) : Option (Int) := (impl_within.f a0 0 1000000000).bind fun sX => (if sX = true then ((impl_within.f a1 1 1000000000).bind fun sY => (if sY = true then (if a1 = 0 then (none) else (some (wrap64 (Int.tdiv (wrap64 ((wrap64 (a0 + a1)) - 1)) a1)))) else (some 0))) else (some 0))
set_option maxHeartbeats 8000000 in
set_option maxRecDepth 100000 in
theorem impl_CeilDiv.calls (a0 : Int) (a1 : Int) (r : Int) (w : World) (h : impl_CeilDiv.f a0 a1 = some r) :
  Calls Tryd.prog 58 #[a0, a1] w fun e w' => e = .returned (.int .i64 r) ∧ Drawn0 w w' := by
 have H : ((impl_within.f a0 0 1000000000).bind fun sX => (if sX = true then ((impl_within.f a1 1 1000000000).bind fun sY => (if sY = true then (if a1 = 0 then (none) else (some (wrap64 (Int.tdiv (wrap64 ((wrap64 (a0 + a1)) - 1)) a1)))) else (some 0))) else (some 0))) = some r := h
 clear h
 obtain ⟨sX, A3, H⟩ := bnd H
 try dsimp only at H
 by_cases c4 : sX = true
 ·subst c4
  rw [if_pos rfl] at H
  obtain ⟨sY, A5, H⟩ := bnd H
  try dsimp only at H
  by_cases c6 : sY = true
  ·subst c6
   rw [if_pos rfl] at H
   by_cases c7 : a1 = 0
   ·rw [if_pos c7] at H
    exact absurd H q126t
   rw [if_neg c7] at H
   have eM : (a1 == 0) = false := beq_eq_false_iff_ne.mpr c7
   have jJ : (a1 != 0) = true := bne_iff_ne.mpr c7
   obtain rfl := Option.some.inj H
   go_enter Tryd.func58, Tryd.ntmps58
   go_wp2_with (first | ((with_reducible refine gate_callee (f := 32) rfl ?_); refine goesL_ (some 6) rfl rfl Tryd.func32 (by kernel_rfl) rfl #[a0, .int .i64 0, .int .i64 1000000000] rfl q66t ?_; (with_reducible refine (impl_within.calls a0 0 1000000000 true _ A3.out).mono ?_); rintro e w' ⟨rfl, ⟨nd, rfl⟩⟩; refine ⟨_, rfl, ?_⟩) | (go_at_call 32; (with_reducible refine (impl_within.calls a1 1 1000000000 true _ A5.out).mono ?_); rintro e w' ⟨rfl, ⟨nd, rfl⟩⟩))
   go_ret
   exact ⟨q121t, q116t⟩
  replace c6 := Bool.eq_false_iff.mpr c6
  subst c6
  rw [if_neg (show ¬ (false = true) by decide)] at H
  obtain rfl := Option.some.inj H
  go_enter Tryd.func58, Tryd.ntmps58
  go_wp2_with (first | ((with_reducible refine gate_callee (f := 32) rfl ?_); refine goesL_ (some 6) rfl rfl Tryd.func32 (by kernel_rfl) rfl #[a0, .int .i64 0, .int .i64 1000000000] rfl q66t ?_; (with_reducible refine (impl_within.calls a0 0 1000000000 true _ A3.out).mono ?_); rintro e w' ⟨rfl, ⟨nd, rfl⟩⟩; refine ⟨_, rfl, ?_⟩) | (go_at_call 32; (with_reducible refine (impl_within.calls a1 1 1000000000 false _ A5.out).mono ?_); rintro e w' ⟨rfl, ⟨nd, rfl⟩⟩))
  go_ret
  exact ⟨q121t, q116t⟩
 replace c4 := Bool.eq_false_iff.mpr c4
 subst c4
 rw [if_neg (show ¬ (false = true) by decide)] at H
 obtain rfl := Option.some.inj H
 go_enter Tryd.func58, Tryd.ntmps58
 go_wp2_with (first | ((with_reducible refine gate_callee (f := 32) rfl ?_); refine goesL_ (some 6) rfl rfl Tryd.func32 (by kernel_rfl) rfl #[a0, .int .i64 0, .int .i64 1000000000] rfl q66t ?_; (with_reducible refine (impl_within.calls a0 0 1000000000 false _ A3.out).mono ?_); rintro e w' ⟨rfl, ⟨nd, rfl⟩⟩; refine ⟨_, rfl, ?_⟩))
 go_ret
 exact ⟨q121t, q116t⟩

/-! ### impl_ChunksFor: function 41 -/
def impl_ChunksFor.f (aa : Int) (ab : Int) (ac : Int) (af : Int) (ag : Int) (ae : Int) (a1 : Int) : Option (Int) := (impl_CeilDiv.f a1 ab).bind fun sZ => (some sZ)
set_option maxHeartbeats 8000000 in
set_option maxRecDepth 100000 in
theorem impl_ChunksFor.calls (aa : Int) (ab : Int) (ac : Int) (af : Int) (ag : Int) (ae : Int) (a1 : Int) (r : Int) (w : World) (h : impl_ChunksFor.f aa ab ac af ag ae a1 = some r) :
  Calls Tryd.prog 41 #[.agg #[aa, ab, ac, af, ag, ae], a1] w fun e w' => e = .returned (.int .i64 r) ∧ Below w.heap.size w w' := by
 have hu25 := Tryd.underlying25
 have HB := am (Below.refl w.heap.size w)
 have H : ((impl_CeilDiv.f a1 ab).bind fun sZ => (some sZ)) = some r := h
 clear h
 obtain ⟨sZ, A3, H⟩ := bnd H
 try dsimp only at H
 obtain rfl := Option.some.inj H
 go_enter Tryd.func41, Tryd.ntmps41
 go_wp2_with (first | ((with_reducible refine gate_dst (N := 2) rfl ?_); refine box_ev 2 #[aa, ab, ac, af, ag, ae] 25 ?_; intro EP hg w4 hbox hb; have EQ := am (hbox); have V9 := am ((q63t : w.heap.size ≤ EP)); have Wa := am ((q63t : w.heap.size ≤ EP)); replace HB := am (below_step q68t hb); clear hb hbox hg; have pl := qc6 EQ.out; have pm := qf6 EQ.out) | ((with_reducible refine gate_callee (f := 58) rfl ?_); refine goesL_ (some 8) rfl rfl Tryd.func58 (by kernel_rfl) rfl #[a1, ab] rfl q66t ?_; (with_reducible refine (impl_CeilDiv.calls a1 ab sZ _ A3.out).mono ?_); rintro e w' ⟨rfl, ⟨nd, rfl⟩⟩; refine ⟨_, rfl, ?_⟩))
 go_ret
 exact ⟨q114t, q47t⟩

end Go.Proofs.YtofpmdgndegalacDoor.QFnNodes
