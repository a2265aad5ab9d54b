/- What the functions that the law FnNodes reaches compute, as plain functions, and that the code computes just that (by a program of this session's; the library's functions by hand). No condition. -/
import Derived.Test.YtofpmdgndegalacDoorQFnNodesx0
import Derived.Test.YtofpmdgndegalacDoorQFnNodesx6
namespace Go.Proofs.YtofpmdgndegalacDoor.QFnNodes
open Go.RowKit Go.Proofs.YtofpmdgndegalacDoorW.PrintWords Go.Proofs.YtofpmdgndegalacDoorW.PrintLast Go.Proofs.YtofpmdgndegalacDoorW.PrintMore
attribute [local go_sem] max2_int min2_int max_two min_two max_three min_three max_four min_four   -- for this text's walks alone
set_option linter.unusedVariables false
set_option linter.unusedSimpArgs false

/-! ### spec_BytesOf: function 42 -/
def spec_BytesOf.f (aa : Int) (ab : Int) (ac : Int) (af : Int) (ag : Int) (ae : Int) : Option (Int) := (spec_ConfOk.f aa ab ac af ag ae).bind fun s6 => (if s6 = true then (some (wrap64 (aa * ab))) else (some 0))
set_option maxHeartbeats 8000000 in
set_option maxRecDepth 100000 in
theorem spec_BytesOf.calls (aa : Int) (ab : Int) (ac : Int) (af : Int) (ag : Int) (ae : Int) (r : Int) (w : World) (h : spec_BytesOf.f aa ab ac af ag ae = some r) :
  Calls Tryd.prog 42 #[.agg #[aa, ab, ac, af, ag, ae]] w fun e w' => e = .returned (.int .i64 r) ∧ Below w.heap.size w w' := by
 have hu25 := Tryd.underlying25
 have HB := am (Below.refl w.heap.size w)
 have H : ((spec_ConfOk.f aa ab ac af ag ae).bind fun s6 => (if s6 = true then (some (wrap64 (aa * ab))) else (some 0))) = some r := h
 clear h
 obtain ⟨s6, A2, H⟩ := bnd H
 try dsimp only at H
 by_cases c3 : s6 = true
 ·subst c3
  rw [if_pos rfl] at H
  obtain rfl := Option.some.inj H
  go_enter Tryd.func42, Tryd.ntmps42
  go_wp2_with (first | ((with_reducible refine gate_dst (N := 1) rfl ?_); refine box_ev 1 #[aa, ab, ac, af, ag, ae] 25 ?_; intro s7 hg w4 hbox hb; have kz := am (hbox); have LA := am ((q63t : w.heap.size ≤ s7)); have LB := am ((q63t : w.heap.size ≤ s7)); replace HB := am (below_step q68t hb); clear hb hbox hg; have pl := qc6 kz.out; have pm := qf6 kz.out) | ((with_reducible refine gate_callee (f := 27) rfl ?_); refine goesL_ (some 4) rfl rfl Tryd.func27 (by kernel_rfl) rfl #[.agg #[aa, ab, ac, af, ag, ae]] rfl q66t ?_; (with_reducible refine (spec_ConfOk.calls aa ab ac af ag ae true _ A2.out).mono ?_); rintro e w6 ⟨rfl, hb⟩; refine ⟨_, rfl, ?_⟩; replace kz := blb kz hb; replace HB := am (below_step q47t hb); (try clear hb); (try clear hb2); (try clear hk); (try clear hi); have K5 := qc6 kz.out; have K6 := qf6 kz.out))
  go_ret
  exact ⟨q114t, q47t⟩
 ·replace c3 := Bool.eq_false_iff.mpr c3
  subst c3
  rw [if_neg (show ¬ (false = true) by decide)] at H
  obtain rfl := Option.some.inj H
  go_enter Tryd.func42, Tryd.ntmps42
  go_wp2_with (first | ((with_reducible refine gate_dst (N := 1) rfl ?_); refine box_ev 1 #[aa, ab, ac, af, ag, ae] 25 ?_; intro s7 hg w8 hbox hb; have kz := am (hbox); have LA := am ((q63t : w.heap.size ≤ s7)); have LB := am ((q63t : w.heap.size ≤ s7)); replace HB := am (below_step q68t hb); clear hb hbox hg; have K7 := qc6 kz.out; have K8 := qf6 kz.out) | ((with_reducible refine gate_callee (f := 27) rfl ?_); refine goesL_ (some 4) rfl rfl Tryd.func27 (by kernel_rfl) rfl #[.agg #[aa, ab, ac, af, ag, ae]] rfl q66t ?_; (with_reducible refine (spec_ConfOk.calls aa ab ac af ag ae false _ A2.out).mono ?_); rintro e w10 ⟨rfl, hb⟩; refine ⟨_, rfl, ?_⟩; replace kz := blb kz hb; replace HB := am (below_step q47t hb); (try clear hb); (try clear hb2); (try clear hk); (try clear hi)))
  go_ret
  exact ⟨q114t, q47t⟩

/-! ### spec_IsLarge: function 43 -/
def spec_IsLarge.f (aa : Int) (ab : Int) (ac : Int) (af : Int) (ag : Int) (ae : Int) (a1 : Int) : Option (Bool) := some (decide (a1 > ab))
set_option maxHeartbeats 8000000 in
set_option maxRecDepth 100000 in
theorem spec_IsLarge.calls (aa : Int) (ab : Int) (ac : Int) (af : Int) (ag : Int) (ae : Int) (a1 : Int) (r : Bool) (w : World) (h : spec_IsLarge.f aa ab ac af ag ae a1 = some r) :
  Calls Tryd.prog 43 #[.agg #[aa, ab, ac, af, ag, ae], a1] w fun e w' => e = .returned (.bool r) ∧ Below w.heap.size w w' := by
 have hu25 := Tryd.underlying25
 have HB := am (Below.refl w.heap.size w)
 have H : (some (decide (a1 > ab))) = some r := h
 clear h
 obtain rfl := Option.some.inj H
 go_enter Tryd.func43, Tryd.ntmps43
 go_wp2_with (first | ((with_reducible refine gate_dst (N := 2) rfl ?_); refine box_ev 2 #[aa, ab, ac, af, ag, ae] 25 ?_; intro E5 hg w3 hbox hb; have E6 := am (hbox); have Wy := am ((q63t : w.heap.size ≤ E5)); have Wz := am ((q63t : w.heap.size ≤ E5)); replace HB := am (below_step q68t hb); clear hb hbox hg; have EK := qc6 E6.out; have EL := qf6 E6.out))
 go_ret
 exact ⟨q114t, q47t⟩

/-! ### spec_CeilDiv: function 59 -/
def spec_CeilDiv.f (a0 : Int) (a1 : Int) : Option (Int) := (spec_l1In.f a0 0 1000000000).bind fun s8 => (if s8 = true then ((spec_l1In.f a1 1 1000000000).bind fun s9 => (if s9 = true then (if a1 = 0 then (none) else (some (wrap64 (Int.tdiv (wrap64 ((wrap64 (a0 + a1)) - 1)) a1)))) else (some 0))) else (some 0))
set_option maxHeartbeats 8000000 in
set_option maxRecDepth 100000 in
theorem spec_CeilDiv.calls (a0 : Int) (a1 : Int) (r : Int) (w : World) (h : spec_CeilDiv.f a0 a1 = some r) :
  Calls Tryd.prog 59 #[a0, a1] w fun e w' => e = .returned (.int .i64 r) ∧ Drawn0 w w' := by
 have H : ((spec_l1In.f a0 0 1000000000).bind fun s8 => (if s8 = true then ((spec_l1In.f a1 1 1000000000).bind fun s9 => (if s9 = true then (if a1 = 0 then (none) else (some (wrap64 (Int.tdiv (wrap64 ((wrap64 (a0 + a1)) - 1)) a1)))) else (some 0))) else (some 0))) = some r := h
 clear h
 obtain ⟨s8, A3, H⟩ := bnd H
 try dsimp only at H
 by_cases c4 : s8 = true
 ·subst c4
  rw [if_pos rfl] at H
  obtain ⟨s9, A5, H⟩ := bnd H
  try dsimp only at H
  by_cases c6 : s9 = true
  ·subst c6
   rw [if_pos rfl] at H
   by_cases c7 : a1 = 0
   ·rw [if_pos c7] at H
    exact absurd H q126t
   rw [if_neg c7] at H
   have eM : (a1 == 0) = false := beq_eq_false_iff_ne.mpr c7
   have jJ : (a1 != 0) = true := bne_iff_ne.mpr c7
   obtain rfl := Option.some.inj H
   go_enter Tryd.func59, Tryd.ntmps59
   go_wp2_with (first | ((with_reducible refine gate_callee (f := 38) rfl ?_); refine goesL_ (some 6) rfl rfl Tryd.func38 (by kernel_rfl) rfl #[a0, .int .i64 0, .int .i64 1000000000] rfl q66t ?_; (with_reducible refine (spec_l1In.calls a0 0 1000000000 true _ A3.out).mono ?_); rintro e w' ⟨rfl, ⟨nd, rfl⟩⟩; refine ⟨_, rfl, ?_⟩) | (go_at_call 38; (with_reducible refine (spec_l1In.calls a1 1 1000000000 true _ A5.out).mono ?_); rintro e w' ⟨rfl, ⟨nd, rfl⟩⟩))
   go_ret
   exact ⟨q121t, q116t⟩
  replace c6 := Bool.eq_false_iff.mpr c6
  subst c6
  rw [if_neg (show ¬ (false = true) by decide)] at H
  obtain rfl := Option.some.inj H
  go_enter Tryd.func59, Tryd.ntmps59
  go_wp2_with (first | ((with_reducible refine gate_callee (f := 38) rfl ?_); refine goesL_ (some 6) rfl rfl Tryd.func38 (by kernel_rfl) rfl #[a0, .int .i64 0, .int .i64 1000000000] rfl q66t ?_; (with_reducible refine (spec_l1In.calls a0 0 1000000000 true _ A3.out).mono ?_); rintro e w' ⟨rfl, ⟨nd, rfl⟩⟩; refine ⟨_, rfl, ?_⟩) | (go_at_call 38; (with_reducible refine (spec_l1In.calls a1 1 1000000000 false _ A5.out).mono ?_); rintro e w' ⟨rfl, ⟨nd, rfl⟩⟩))
  go_ret
  exact ⟨q121t, q116t⟩
 replace c4 := Bool.eq_false_iff.mpr c4
 subst c4
 rw [if_neg (show ¬ (false = true) by decide)] at H
 obtain rfl := Option.some.inj H
 go_enter Tryd.func59, Tryd.ntmps59
 go_wp2_with (first | ((with_reducible refine gate_callee (f := 38) rfl ?_); refine goesL_ (some 6) rfl rfl Tryd.func38 (by kernel_rfl) rfl #[a0, .int .i64 0, .int .i64 1000000000] rfl q66t ?_; (with_reducible refine (spec_l1In.calls a0 0 1000000000 false _ A3.out).mono ?_); rintro e w' ⟨rfl, ⟨nd, rfl⟩⟩; refine ⟨_, rfl, ?_⟩))
 go_ret
 exact ⟨q121t, q116t⟩

/-! ### spec_ChunksFor: function 44 -/
def spec_ChunksFor.f (aa : Int) (ab : Int) (ac : Int) (af : Int) (ag : Int) (ae : Int) (a1 : Int) : Option (Int) := (spec_CeilDiv.f a1 ab).bind fun ta => (some ta)
set_option maxHeartbeats 8000000 in
set_option maxRecDepth 100000 in
theorem spec_ChunksFor.calls (aa : Int) (ab : Int) (ac : Int) (af : Int) (ag : Int) (ae : Int) (a1 : Int) (r : Int) (w : World) (h : spec_ChunksFor.f aa ab ac af ag ae a1 = some r) :
  Calls Tryd.prog 44 #[.agg #[aa, ab, ac, af, ag, ae], a1] w fun e w' => e = .returned (.int .i64 r) ∧ Below w.heap.size w w' := by
 have hu25 := Tryd.underlying25
 have HB := am (Below.refl w.heap.size w)
 have H : ((spec_CeilDiv.f a1 ab).bind fun ta => (some ta)) = some r := h
 clear h
 obtain ⟨ta, A3, H⟩ := bnd H
 try dsimp only at H
 obtain rfl := Option.some.inj H
 go_enter Tryd.func44, Tryd.ntmps44
 go_wp2_with (first | ((with_reducible refine gate_dst (N := 2) rfl ?_); refine box_ev 2 #[aa, ab, ac, af, ag, ae] 25 ?_; intro E7 hg w4 hbox hb; have E8 := am (hbox); have WA := am ((q63t : w.heap.size ≤ E7)); have WB := am ((q63t : w.heap.size ≤ E7)); replace HB := am (below_step q68t hb); clear hb hbox hg; have pl := qc6 E8.out; have pm := qf6 E8.out) | ((with_reducible refine gate_callee (f := 59) rfl ?_); refine goesL_ (some 8) rfl rfl Tryd.func59 (by kernel_rfl) rfl #[a1, ab] rfl q66t ?_; (with_reducible refine (spec_CeilDiv.calls a1 ab ta _ A3.out).mono ?_); rintro e w' ⟨rfl, ⟨nd, rfl⟩⟩; refine ⟨_, rfl, ?_⟩))
 go_ret
 exact ⟨q114t, q47t⟩

end Go.Proofs.YtofpmdgndegalacDoor.QFnNodes
