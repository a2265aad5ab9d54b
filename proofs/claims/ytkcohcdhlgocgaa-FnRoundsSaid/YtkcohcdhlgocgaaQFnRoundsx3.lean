/- What the functions that the law FnRounds reaches compute, as plain functions, and that the code computes just that (by a program of this session's; the library's functions by hand). No condition. -/
import Derived.Test.YtkcohcdhlgocgaaQFnRoundsx0
import Derived.Test.YtkcohcdhlgocgaaQFnRoundsx1
import Derived.Test.YtkcohcdhlgocgaaQFnRoundsx2
namespace Go.Proofs.Ytkcohcdhlgocgaa.QFnRounds
open Go.RowKit Go.Proofs.YtkcohcdhlgocgaaW.PrintWords Go.Proofs.YtkcohcdhlgocgaaW.PrintLast Go.Proofs.YtkcohcdhlgocgaaW.PrintMore
attribute [local go_sem] max2_int min2_int max_two min_two max_three min_three max_four min_four   -- for this text's walks alone
set_option linter.unusedVariables false
set_option linter.unusedSimpArgs false

/-! ### laws_FnRounds: function 5 -/
mutual
def laws_FnRounds.j0 : Nat → Int → Int → Int → Int → Int → Int → Bool → Option (Bool)
  | 0, _, _, _, _, _, _, _ => none
  | k + 1, x3, x4, x5, x6, x9, x10, x63 => if x63 = true then (none) else (if x3 ≥ 0 then (if x3 ≤ 1000000000 then (if x4 ≥ 1 then (if x4 ≤ 1000000000 then (if (wrap64 (x9 * x4)) < x3 then (none) else (if x9 > 0 then (laws_FnRounds.j1 k x5 x6 x10 (decide ((wrap64 ((wrap64 (x9 - 1)) * x4)) ≥ x3))) else (laws_FnRounds.j1 k x5 x6 x10 false))) else (laws_FnRounds.j1 k x5 x6 x10 false)) else (laws_FnRounds.j1 k x5 x6 x10 false)) else (laws_FnRounds.j1 k x5 x6 x10 false)) else (laws_FnRounds.j1 k x5 x6 x10 false))
def laws_FnRounds.j1 : Nat → Int → Int → Int → Bool → Option (Bool)
  | 0, _, _, _, _ => none
  | k + 1, x5, x6, x10, x96 => if x96 = true then (none) else (if x5 < 0 then (some (x10 == 0)) else (if x5 > 1000000000 then (some (x10 == 0)) else (if x6 = 1 then (if x10 ≥ x5 then (if x10 < (wrap64 (x5 + x6)) then (if x6 = 0 then (none) else (if (Int.tmod x10 x6) = 0 then ((impl_AlignUp.f x10 x6).bind fun t228 => (some (t228 == x10))) else (none))) else (none)) else (none)) else (if x6 = 2 then (if x10 ≥ x5 then (if x10 < (wrap64 (x5 + x6)) then (if x6 = 0 then (none) else (if (Int.tmod x10 x6) = 0 then ((impl_AlignUp.f x10 x6).bind fun t229 => (some (t229 == x10))) else (none))) else (none)) else (none)) else (if x6 = 4 then (if x10 ≥ x5 then (if x10 < (wrap64 (x5 + x6)) then (if x6 = 0 then (none) else (if (Int.tmod x10 x6) = 0 then ((impl_AlignUp.f x10 x6).bind fun t230 => (some (t230 == x10))) else (none))) else (none)) else (none)) else (some (x10 == 0)))))))
end
def laws_FnRounds.f (k : Nat) (l0 : List Int) : Option (Bool) := (laws_big.f l0).bind fun t213 => (if t213 = true then (some true) else ((spec_DrawCeilDiv.f k l0).bind fun bt214 => ((spec_DrawAlignUp.f k l0).bind fun bt216 => ((spec_DrawLeast.f k l0).bind fun bt218 => ((impl_CeilDiv.f bt214.1 bt214.2).bind fun t220 => ((impl_AlignUp.f bt216.1 bt216.2).bind fun t221 => ((spec_CeilDiv.f bt214.1 bt214.2).bind fun t222 => (if t220 = t222 then ((spec_AlignUp.f bt216.1 bt216.2).bind fun t223 => (if t221 = t223 then ((impl_Least.f bt218.1 bt218.2).bind fun t224 => ((spec_Least.f bt218.1 bt218.2).bind fun t225 => (if t224 = t225 then ((impl_Most.f bt218.1 bt218.2).bind fun t226 => ((spec_Most.f bt218.1 bt218.2).bind fun t227 => (laws_FnRounds.j0 k bt214.1 bt214.2 bt216.1 bt216.2 t220 t221 (t226 != t227)))) else (none)))) else (none))) else (none)))))))))
theorem laws_FnRounds.mono_l : ∀ k, (∀ y0 y1 y2 y3 y4 y5 y6, LeO (laws_FnRounds.j0 k y0 y1 y2 y3 y4 y5 y6) (laws_FnRounds.j0 (k + 1) y0 y1 y2 y3 y4 y5 y6)) ∧ (∀ y0 y1 y2 y3, LeO (laws_FnRounds.j1 k y0 y1 y2 y3) (laws_FnRounds.j1 (k + 1) y0 y1 y2 y3))
  | 0 => ⟨fun _ _ _ _ _ _ _ r h => by simp [laws_FnRounds.j0] at h, fun _ _ _ _ r h => by simp [laws_FnRounds.j1] at h⟩
  | k + 1 => by
    obtain ⟨ih0, ih1⟩ := laws_FnRounds.mono_l k
    refine ⟨?_, ?_⟩
    · intro y0 y1 y2 y3 y4 y5 y6
      unfold laws_FnRounds.j0
      repeat' first
      | (with_reducible exact ih0 _ _ _ _ _ _ _)
      | (with_reducible exact ih1 _ _ _ _)
      | (with_reducible exact spec_DrawAlignUp.mono _ _)
      | (with_reducible exact spec_DrawCeilDiv.mono _ _)
      | (with_reducible exact spec_DrawLeast.mono _ _)
      | (with_reducible exact LeO.refl _)
      | (with_reducible exact LeO.none _)
      | (with_reducible refine LeO.ite ?_ ?_)
      | (with_reducible refine LeO.bind ?_ (fun _ => ?_))
      | exact ih0 _ _ _ _ _ _ _
      | exact ih1 _ _ _ _
      | exact spec_DrawAlignUp.mono _ _
      | exact spec_DrawCeilDiv.mono _ _
      | exact spec_DrawLeast.mono _ _
      | exact LeO.none _
      | refine LeO.ite ?_ ?_
      | refine LeO.bind ?_ (fun _ => ?_)
    · intro y0 y1 y2 y3
      unfold laws_FnRounds.j1
      repeat' first
      | (with_reducible exact ih0 _ _ _ _ _ _ _)
      | (with_reducible exact ih1 _ _ _ _)
      | (with_reducible exact spec_DrawAlignUp.mono _ _)
      | (with_reducible exact spec_DrawCeilDiv.mono _ _)
      | (with_reducible exact spec_DrawLeast.mono _ _)
      | (with_reducible exact LeO.refl _)
      | (with_reducible exact LeO.none _)
      | (with_reducible refine LeO.ite ?_ ?_)
      | (with_reducible refine LeO.bind ?_ (fun _ => ?_))
      | exact ih0 _ _ _ _ _ _ _
      | exact ih1 _ _ _ _
      | exact spec_DrawAlignUp.mono _ _
      | exact spec_DrawCeilDiv.mono _ _
      | exact spec_DrawLeast.mono _ _
      | exact LeO.none _
      | refine LeO.ite ?_ ?_
      | refine LeO.bind ?_ (fun _ => ?_)
theorem laws_FnRounds.mono : ∀ a0 k, LeO (laws_FnRounds.f k a0) (laws_FnRounds.f (k + 1) a0) := by
  intro a0 k
  obtain ⟨ih0, ih1⟩ := laws_FnRounds.mono_l k
  unfold laws_FnRounds.f
  repeat' first
      | (with_reducible exact ih0 _ _ _ _ _ _ _)
      | (with_reducible exact ih1 _ _ _ _)
      | (with_reducible exact spec_DrawAlignUp.mono _ _)
      | (with_reducible exact spec_DrawCeilDiv.mono _ _)
      | (with_reducible exact spec_DrawLeast.mono _ _)
      | (with_reducible exact LeO.refl _)
      | (with_reducible exact LeO.none _)
      | (with_reducible refine LeO.ite ?_ ?_)
      | (with_reducible refine LeO.bind ?_ (fun _ => ?_))
      | exact ih0 _ _ _ _ _ _ _
      | exact ih1 _ _ _ _
      | exact spec_DrawAlignUp.mono _ _
      | exact spec_DrawCeilDiv.mono _ _
      | exact spec_DrawLeast.mono _ _
      | exact LeO.none _
      | refine LeO.ite ?_ ?_
      | refine LeO.bind ?_ (fun _ => ?_)
set_option maxHeartbeats 8000000 in
set_option maxRecDepth 100000 in
theorem laws_FnRounds.calls (k : Nat) (A0 : Option Addr) (c0 : Nat) (l0 : List Int) (r : Bool) (w : World) (hr0 : Kd.C (Kd.int .u8) w A0 l0.length l0) (hc0 : l0.length ≤ c0) (h : laws_FnRounds.f k l0 = some r) :
    Calls Try.prog 5 #[.slice A0 l0.length c0] w fun e w' => e = .returned (.bool r) ∧ Below w.heap.size w w' := by
  have HR0 := Aside0.mk hr0
  have HC0 := Aside0.mk hc0
  clear hr0 hc0
  have HB := Aside0.mk (Below.refl w.heap.size w)
  have H : ((laws_big.f l0).bind fun t213 => (if t213 = true then (some true) else ((spec_DrawCeilDiv.f k l0).bind fun bt214 => ((spec_DrawAlignUp.f k l0).bind fun bt216 => ((spec_DrawLeast.f k l0).bind fun bt218 => ((impl_CeilDiv.f bt214.1 bt214.2).bind fun t220 => ((impl_AlignUp.f bt216.1 bt216.2).bind fun t221 => ((spec_CeilDiv.f bt214.1 bt214.2).bind fun t222 => (if t220 = t222 then ((spec_AlignUp.f bt216.1 bt216.2).bind fun t223 => (if t221 = t223 then ((impl_Least.f bt218.1 bt218.2).bind fun t224 => ((spec_Least.f bt218.1 bt218.2).bind fun t225 => (if t224 = t225 then ((impl_Most.f bt218.1 bt218.2).bind fun t226 => ((spec_Most.f bt218.1 bt218.2).bind fun t227 => (laws_FnRounds.j0 k bt214.1 bt214.2 bt216.1 bt216.2 t220 t221 (t226 != t227)))) else (none)))) else (none))) else (none)))))))))) = some r := h
  clear h
  replace H := Option.bind_eq_some_iff.mp H
  obtain ⟨t213, A20, H⟩ := H
  replace H : (if t213 = true then (some true) else ((spec_DrawCeilDiv.f k l0).bind fun bt214 => ((spec_DrawAlignUp.f k l0).bind fun bt216 => ((spec_DrawLeast.f k l0).bind fun bt218 => ((impl_CeilDiv.f bt214.1 bt214.2).bind fun t220 => ((impl_AlignUp.f bt216.1 bt216.2).bind fun t221 => ((spec_CeilDiv.f bt214.1 bt214.2).bind fun t222 => (if t220 = t222 then ((spec_AlignUp.f bt216.1 bt216.2).bind fun t223 => (if t221 = t223 then ((impl_Least.f bt218.1 bt218.2).bind fun t224 => ((spec_Least.f bt218.1 bt218.2).bind fun t225 => (if t224 = t225 then ((impl_Most.f bt218.1 bt218.2).bind fun t226 => ((spec_Most.f bt218.1 bt218.2).bind fun t227 => (laws_FnRounds.j0 k bt214.1 bt214.2 bt216.1 bt216.2 t220 t221 (t226 != t227)))) else (none)))) else (none))) else (none))))))))) = some r := H
  have A2 := Aside0.mk A20
  clear A20
  by_cases c3 : t213 = true
  · subst c3
    have H1 : (some true) = some r := by rw [if_pos rfl] at H; exact H
    clear H
    have H := H1
    clear H1
    obtain rfl := Option.some.inj H
    go_enter Try.func5, Try.ntmps5
    go_wp2_with (first | ((with_reducible refine gate_callee (f := 20) rfl ?_); refine goesL_ (some 12) rfl rfl Try.func20 (by kernel_rfl) rfl #[.slice A0 l0.length c0] rfl (by (try simp only [List.map_toArray, List.map_cons, List.map_nil]); first | done | rfl | (simp only [List.length_drop, List.length_take]; rfl)) ?_; (with_reducible refine (laws_big.calls _ _ l0 true _ ?side1 ?side2 A2.out).mono ?_); (case side1 => repeat (first | exact HR0.out | (with_reducible refine Kd.C_alloc ?_ _) | (with_reducible refine Kd.C_drewN ?_ _) | (with_reducible refine Kd.C_drew ?_))); (case side2 => exact HC0.out); rintro e w' ⟨rfl, ⟨nd, rfl⟩⟩; refine ⟨_, rfl, ?_⟩))
    go_ret
    exact ⟨by first | rfl | (simp [errW_none, errW_some] <;> rfl) | (simp [*, errW_none, errW_some] <;> rfl), by repeat (first | (with_reducible first | exact HB.out | apply below_alloc | apply pw_below_drewN | apply below_drew1) | exact HB.out)⟩
  · replace c3 := Bool.eq_false_iff.mpr c3
    subst c3
    have H1 : ((spec_DrawCeilDiv.f k l0).bind fun bt214 => ((spec_DrawAlignUp.f k l0).bind fun bt216 => ((spec_DrawLeast.f k l0).bind fun bt218 => ((impl_CeilDiv.f bt214.1 bt214.2).bind fun t220 => ((impl_AlignUp.f bt216.1 bt216.2).bind fun t221 => ((spec_CeilDiv.f bt214.1 bt214.2).bind fun t222 => (if t220 = t222 then ((spec_AlignUp.f bt216.1 bt216.2).bind fun t223 => (if t221 = t223 then ((impl_Least.f bt218.1 bt218.2).bind fun t224 => ((spec_Least.f bt218.1 bt218.2).bind fun t225 => (if t224 = t225 then ((impl_Most.f bt218.1 bt218.2).bind fun t226 => ((spec_Most.f bt218.1 bt218.2).bind fun t227 => (laws_FnRounds.j0 k bt214.1 bt214.2 bt216.1 bt216.2 t220 t221 (t226 != t227)))) else (none)))) else (none))) else (none)))))))) = some r := by rw [if_neg (show ¬ (false = true) by decide)] at H; exact H
    clear H
    have H := H1
    clear H1
    replace H := Option.bind_eq_some_iff.mp H
    obtain ⟨⟨t214, t215⟩, A40, H⟩ := H
    replace H : ((spec_DrawAlignUp.f k l0).bind fun bt216 => ((spec_DrawLeast.f k l0).bind fun bt218 => ((impl_CeilDiv.f t214 t215).bind fun t220 => ((impl_AlignUp.f bt216.1 bt216.2).bind fun t221 => ((spec_CeilDiv.f t214 t215).bind fun t222 => (if t220 = t222 then ((spec_AlignUp.f bt216.1 bt216.2).bind fun t223 => (if t221 = t223 then ((impl_Least.f bt218.1 bt218.2).bind fun t224 => ((spec_Least.f bt218.1 bt218.2).bind fun t225 => (if t224 = t225 then ((impl_Most.f bt218.1 bt218.2).bind fun t226 => ((spec_Most.f bt218.1 bt218.2).bind fun t227 => (laws_FnRounds.j0 k t214 t215 bt216.1 bt216.2 t220 t221 (t226 != t227)))) else (none)))) else (none))) else (none))))))) = some r := H
    have A4 := Aside0.mk A40
    clear A40
    replace H := Option.bind_eq_some_iff.mp H
    obtain ⟨⟨t216, t217⟩, A50, H⟩ := H
    replace H : ((spec_DrawLeast.f k l0).bind fun bt218 => ((impl_CeilDiv.f t214 t215).bind fun t220 => ((impl_AlignUp.f t216 t217).bind fun t221 => ((spec_CeilDiv.f t214 t215).bind fun t222 => (if t220 = t222 then ((spec_AlignUp.f t216 t217).bind fun t223 => (if t221 = t223 then ((impl_Least.f bt218.1 bt218.2).bind fun t224 => ((spec_Least.f bt218.1 bt218.2).bind fun t225 => (if t224 = t225 then ((impl_Most.f bt218.1 bt218.2).bind fun t226 => ((spec_Most.f bt218.1 bt218.2).bind fun t227 => (laws_FnRounds.j0 k t214 t215 t216 t217 t220 t221 (t226 != t227)))) else (none)))) else (none))) else (none)))))) = some r := H
    have A5 := Aside0.mk A50
    clear A50
    replace H := Option.bind_eq_some_iff.mp H
    obtain ⟨⟨t218, t219⟩, A60, H⟩ := H
    replace H : ((impl_CeilDiv.f t214 t215).bind fun t220 => ((impl_AlignUp.f t216 t217).bind fun t221 => ((spec_CeilDiv.f t214 t215).bind fun t222 => (if t220 = t222 then ((spec_AlignUp.f t216 t217).bind fun t223 => (if t221 = t223 then ((impl_Least.f t218 t219).bind fun t224 => ((spec_Least.f t218 t219).bind fun t225 => (if t224 = t225 then ((impl_Most.f t218 t219).bind fun t226 => ((spec_Most.f t218 t219).bind fun t227 => (laws_FnRounds.j0 k t214 t215 t216 t217 t220 t221 (t226 != t227)))) else (none)))) else (none))) else (none))))) = some r := H
    have A6 := Aside0.mk A60
    clear A60
    replace H := Option.bind_eq_some_iff.mp H
    obtain ⟨t220, A70, H⟩ := H
    replace H : ((impl_AlignUp.f t216 t217).bind fun t221 => ((spec_CeilDiv.f t214 t215).bind fun t222 => (if t220 = t222 then ((spec_AlignUp.f t216 t217).bind fun t223 => (if t221 = t223 then ((impl_Least.f t218 t219).bind fun t224 => ((spec_Least.f t218 t219).bind fun t225 => (if t224 = t225 then ((impl_Most.f t218 t219).bind fun t226 => ((spec_Most.f t218 t219).bind fun t227 => (laws_FnRounds.j0 k t214 t215 t216 t217 t220 t221 (t226 != t227)))) else (none)))) else (none))) else (none)))) = some r := H
    have A7 := Aside0.mk A70
    clear A70
    replace H := Option.bind_eq_some_iff.mp H
    obtain ⟨t221, A80, H⟩ := H
    replace H : ((spec_CeilDiv.f t214 t215).bind fun t222 => (if t220 = t222 then ((spec_AlignUp.f t216 t217).bind fun t223 => (if t221 = t223 then ((impl_Least.f t218 t219).bind fun t224 => ((spec_Least.f t218 t219).bind fun t225 => (if t224 = t225 then ((impl_Most.f t218 t219).bind fun t226 => ((spec_Most.f t218 t219).bind fun t227 => (laws_FnRounds.j0 k t214 t215 t216 t217 t220 t221 (t226 != t227)))) else (none)))) else (none))) else (none))) = some r := H
    have A8 := Aside0.mk A80
    clear A80
    have HC9 := Aside0.mk H
    clear H
    go_enter Try.func5, Try.ntmps5
    go_upto_region 8 with (first | ((with_reducible refine gate_callee (f := 20) rfl ?_); refine goesL_ (some 12) rfl rfl Try.func20 (by kernel_rfl) rfl #[.slice A0 l0.length c0] rfl (by (try simp only [List.map_toArray, List.map_cons, List.map_nil]); first | done | rfl | (simp only [List.length_drop, List.length_take]; rfl)) ?_; (with_reducible refine (laws_big.calls _ _ l0 false _ ?side1 ?side2 A2.out).mono ?_); (case side1 => repeat (first | exact HR0.out | (with_reducible refine Kd.C_alloc ?_ _) | (with_reducible refine Kd.C_drewN ?_ _) | (with_reducible refine Kd.C_drew ?_))); (case side2 => exact HC0.out); rintro e w' ⟨rfl, ⟨nd, rfl⟩⟩; refine ⟨_, rfl, ?_⟩) | ((with_reducible refine gate_callee (f := 36) rfl ?_); refine goesL_ (some 15) rfl rfl Try.func36 (by kernel_rfl) rfl #[.slice A0 l0.length c0] rfl (by (try simp only [List.map_toArray, List.map_cons, List.map_nil]); first | done | rfl | (simp only [List.length_drop, List.length_take]; rfl)) ?_; (with_reducible refine (spec_DrawCeilDiv.calls k _ _ l0 t214 t215 _ ?side1 ?side2 A4.out).mono ?_); (case side1 => repeat (first | exact HR0.out | (with_reducible refine Kd.C_alloc ?_ _) | (with_reducible refine Kd.C_drewN ?_ _) | (with_reducible refine Kd.C_drew ?_))); (case side2 => exact HC0.out); rintro e w10 ⟨rfl, hb⟩; refine ⟨_, rfl, ?_⟩; have n0_ := Aside0.mk (below_step (by repeat (first | (with_reducible first | exact HB.out | apply below_alloc | apply pw_below_drewN | apply below_drew1) | exact HB.out)) hb); clear HB; have HB := n0_; clear n0_; (try clear hb); (try clear hb2); (try clear hk); (try clear hi)) | ((with_reducible refine gate_callee (f := 37) rfl ?_); refine goesL_ (some 20) rfl rfl Try.func37 (by kernel_rfl) rfl #[.slice A0 l0.length c0] rfl (by (try simp only [List.map_toArray, List.map_cons, List.map_nil]); first | done | rfl | (simp only [List.length_drop, List.length_take]; rfl)) ?_; (with_reducible refine (spec_DrawAlignUp.calls k _ _ l0 t216 t217 _ ?side1 ?side2 A5.out).mono ?_); (case side1 => repeat (first | exact (Kd.C_below HR0.out HB.out) | (with_reducible refine Kd.C_alloc ?_ _) | (with_reducible refine Kd.C_drewN ?_ _) | (with_reducible refine Kd.C_drew ?_))); (case side2 => exact HC0.out); rintro e w11 ⟨rfl, hb⟩; refine ⟨_, rfl, ?_⟩; have n0_ := Aside0.mk (below_step (by repeat (first | (with_reducible first | exact HB.out | apply below_alloc | apply pw_below_drewN | apply below_drew1) | exact HB.out)) hb); clear HB; have HB := n0_; clear n0_; (try clear hb); (try clear hb2); (try clear hk); (try clear hi)) | ((with_reducible refine gate_callee (f := 38) rfl ?_); refine goesL_ (some 25) rfl rfl Try.func38 (by kernel_rfl) rfl #[.slice A0 l0.length c0] rfl (by (try simp only [List.map_toArray, List.map_cons, List.map_nil]); first | done | rfl | (simp only [List.length_drop, List.length_take]; rfl)) ?_; (with_reducible refine (spec_DrawLeast.calls k _ _ l0 t218 t219 _ ?side1 ?side2 A6.out).mono ?_); (case side1 => repeat (first | exact (Kd.C_below HR0.out HB.out) | (with_reducible refine Kd.C_alloc ?_ _) | (with_reducible refine Kd.C_drewN ?_ _) | (with_reducible refine Kd.C_drew ?_))); (case side2 => exact HC0.out); rintro e w12 ⟨rfl, hb⟩; refine ⟨_, rfl, ?_⟩; have n0_ := Aside0.mk (below_step (by repeat (first | (with_reducible first | exact HB.out | apply below_alloc | apply pw_below_drewN | apply below_drew1) | exact HB.out)) hb); clear HB; have HB := n0_; clear n0_; (try clear hb); (try clear hb2); (try clear hk); (try clear hi)) | ((with_reducible refine gate_callee (f := 39) rfl ?_); refine goesL_ (some 30) rfl rfl Try.func39 (by kernel_rfl) rfl #[.int .i64 t214, .int .i64 t215] rfl (by (try simp only [List.map_toArray, List.map_cons, List.map_nil]); first | done | rfl | (simp only [List.length_drop, List.length_take]; rfl)) ?_; (with_reducible refine (impl_CeilDiv.calls t214 t215 t220 _ A7.out).mono ?_); rintro e w' ⟨rfl, ⟨nd, rfl⟩⟩; refine ⟨_, rfl, ?_⟩) | ((with_reducible refine gate_callee (f := 40) rfl ?_); refine goesL_ (some 33) rfl rfl Try.func40 (by kernel_rfl) rfl #[.int .i64 t216, .int .i64 t217] rfl (by (try simp only [List.map_toArray, List.map_cons, List.map_nil]); first | done | rfl | (simp only [List.length_drop, List.length_take]; rfl)) ?_; (with_reducible refine (impl_AlignUp.calls t216 t217 t221 _ A8.out).mono ?_); rintro e w' ⟨rfl, ⟨nd, rfl⟩⟩; refine ⟨_, rfl, ?_⟩))
    (try simp only [Act.put, List.setIfInBounds_toArray, List.set_cons_zero, List.set_cons_succ])
    go_cut [63] (fun v63 wc => ∃ (kq : Nat) (x63_8 : Bool), v63 = .bool x63_8 ∧ Aside0 (laws_FnRounds.j0 kq t214 t215 t216 t217 t220 t221 x63_8 = some r) ∧ Aside0 (kq ≤ k) ∧ Aside0 (Below w.heap.size w wc))
    case first =>
      have H := HC9.out
      clear HC9
      replace H := Option.bind_eq_some_iff.mp H
      obtain ⟨t222, A130, H⟩ := H
      replace H : (if t220 = t222 then ((spec_AlignUp.f t216 t217).bind fun t223 => (if t221 = t223 then ((impl_Least.f t218 t219).bind fun t224 => ((spec_Least.f t218 t219).bind fun t225 => (if t224 = t225 then ((impl_Most.f t218 t219).bind fun t226 => ((spec_Most.f t218 t219).bind fun t227 => (laws_FnRounds.j0 k t214 t215 t216 t217 t220 t221 (t226 != t227)))) else (none)))) else (none))) else (none)) = some r := H
      have A13 := Aside0.mk A130
      clear A130
      by_cases c14 : t220 = t222
      · rw [if_pos c14] at H
        have c14b0 : (t220 == t222) = true := beq_iff_eq.mpr c14
        have c14b1 : (t220 != t222) = false := bne_eq_false_iff_eq.mpr c14
        clear c14
        (first | rw [c14b0] | (simp only [i64_w, i32_w]; rw [c14b0]) | skip)
        replace H := Option.bind_eq_some_iff.mp H
        obtain ⟨t223, A150, H⟩ := H
        replace H : (if t221 = t223 then ((impl_Least.f t218 t219).bind fun t224 => ((spec_Least.f t218 t219).bind fun t225 => (if t224 = t225 then ((impl_Most.f t218 t219).bind fun t226 => ((spec_Most.f t218 t219).bind fun t227 => (laws_FnRounds.j0 k t214 t215 t216 t217 t220 t221 (t226 != t227)))) else (none)))) else (none)) = some r := H
        have A15 := Aside0.mk A150
        clear A150
        by_cases c16 : t221 = t223
        · rw [if_pos c16] at H
          have c16b0 : (t221 == t223) = true := beq_iff_eq.mpr c16
          have c16b1 : (t221 != t223) = false := bne_eq_false_iff_eq.mpr c16
          clear c16
          replace H := Option.bind_eq_some_iff.mp H
          obtain ⟨t224, A170, H⟩ := H
          replace H : ((spec_Least.f t218 t219).bind fun t225 => (if t224 = t225 then ((impl_Most.f t218 t219).bind fun t226 => ((spec_Most.f t218 t219).bind fun t227 => (laws_FnRounds.j0 k t214 t215 t216 t217 t220 t221 (t226 != t227)))) else (none))) = some r := H
          have A17 := Aside0.mk A170
          clear A170
          replace H := Option.bind_eq_some_iff.mp H
          obtain ⟨t225, A180, H⟩ := H
          replace H : (if t224 = t225 then ((impl_Most.f t218 t219).bind fun t226 => ((spec_Most.f t218 t219).bind fun t227 => (laws_FnRounds.j0 k t214 t215 t216 t217 t220 t221 (t226 != t227)))) else (none)) = some r := H
          have A18 := Aside0.mk A180
          clear A180
          by_cases c19 : t224 = t225
          · rw [if_pos c19] at H
            have c19b0 : (t224 == t225) = true := beq_iff_eq.mpr c19
            have c19b1 : (t224 != t225) = false := bne_eq_false_iff_eq.mpr c19
            clear c19
            replace H := Option.bind_eq_some_iff.mp H
            obtain ⟨t226, A200, H⟩ := H
            replace H : ((spec_Most.f t218 t219).bind fun t227 => (laws_FnRounds.j0 k t214 t215 t216 t217 t220 t221 (t226 != t227))) = some r := H
            have A20 := Aside0.mk A200
            clear A200
            replace H := Option.bind_eq_some_iff.mp H
            obtain ⟨t227, A210, H⟩ := H
            replace H : (laws_FnRounds.j0 k t214 t215 t216 t217 t220 t221 (t226 != t227)) = some r := H
            have A21 := Aside0.mk A210
            clear A210
            have H' := Aside0.mk H
            clear H
            go_wp2_with (first | ((with_reducible refine gate_callee (f := 41) rfl ?_); refine goesL_ (some 37) rfl rfl Try.func41 (by kernel_rfl) rfl #[.int .i64 t214, .int .i64 t215] rfl (by (try simp only [List.map_toArray, List.map_cons, List.map_nil]); first | done | rfl | (simp only [List.length_drop, List.length_take]; rfl)) ?_; (with_reducible refine (spec_CeilDiv.calls t214 t215 t222 _ A13.out).mono ?_); rintro e w' ⟨rfl, ⟨nd, rfl⟩⟩; refine ⟨_, rfl, ?_⟩) | (go_at_call 42; (with_reducible refine (spec_AlignUp.calls t216 t217 t223 _ A15.out).mono ?_); rintro e w' ⟨rfl, ⟨nd, rfl⟩⟩) | (go_at_call 43; (with_reducible refine (impl_Least.calls t218 t219 t224 _ A17.out).mono ?_); rintro e w22 ⟨rfl, hb⟩; have n0_ := Aside0.mk (below_step (by repeat (first | (with_reducible first | exact HB.out | apply below_alloc | apply pw_below_drewN | apply below_drew1) | exact HB.out)) hb); clear HB; have HB := n0_; clear n0_; (try clear hb); (try clear hb2); (try clear hk); (try clear hi)) | (go_at_call 44; (with_reducible refine (spec_Least.calls t218 t219 t225 _ A18.out).mono ?_); rintro e w' ⟨rfl, ⟨nd, rfl⟩⟩) | (go_at_call 45; (with_reducible refine (impl_Most.calls t218 t219 t226 _ A20.out).mono ?_); rintro e w23 ⟨rfl, hb⟩; have n0_ := Aside0.mk (below_step (by repeat (first | (with_reducible first | exact HB.out | apply below_alloc | apply pw_below_drewN | apply below_drew1) | exact HB.out)) hb); clear HB; have HB := n0_; clear n0_; (try clear hb); (try clear hb2); (try clear hk); (try clear hi)) | (go_at_call 46; (with_reducible refine (spec_Most.calls t218 t219 t227 _ A21.out).mono ?_); rintro e w' ⟨rfl, ⟨nd, rfl⟩⟩))
            go_meet
            case rel => exact ⟨_, ((t226 != t227)), (by first | rfl | (simp; done) | (simp [*]; done)), H', ⟨by first | omega | exact Nat.le_refl _⟩, ⟨by repeat (first | (with_reducible first | exact HB.out | apply below_alloc | apply pw_below_drewN | apply below_drew1) | exact HB.out)⟩⟩
          · rw [if_neg c19] at H
            exact absurd H (by simp)
        · rw [if_neg c16] at H
          exact absurd H (by simp)
      · rw [if_neg c14] at H
        exact absurd H (by simp)
    case rest =>
      clear HC9
      try clear c1
      try clear c2
      try clear p2
      try clear c3
      try clear c4
      try clear c5
      try clear c14
      try clear c14b0
      try clear c14b1
      try clear c16
      try clear c16b0
      try clear c16b1
      try clear c19
      try clear c19b0
      try clear c19b1
      try clear c20
      obtain ⟨kq, x63_8, rfl, HA, HJ8, HB⟩ := hcut
      cases kq with
      | zero => exact absurd HA.out (by simp [laws_FnRounds.j0])
      | succ kj8 =>
        have H := HA.out
        clear HA
        simp only [laws_FnRounds.j0] at H
        by_cases c24 : x63_8 = true
        · subst c24
          have H1 : (none) = some r := by rw [if_pos rfl] at H; exact H
          clear H
          have H := H1
          clear H1
          exact absurd H (by simp)
        · replace c24 := Bool.eq_false_iff.mpr c24
          subst c24
          have H1 : (if t214 ≥ 0 then (if t214 ≤ 1000000000 then (if t215 ≥ 1 then (if t215 ≤ 1000000000 then (if (wrap64 (t220 * t215)) < t214 then (none) else (if t220 > 0 then (laws_FnRounds.j1 kj8 t216 t217 t221 (decide ((wrap64 ((wrap64 (t220 - 1)) * t215)) ≥ t214))) else (laws_FnRounds.j1 kj8 t216 t217 t221 false))) else (laws_FnRounds.j1 kj8 t216 t217 t221 false)) else (laws_FnRounds.j1 kj8 t216 t217 t221 false)) else (laws_FnRounds.j1 kj8 t216 t217 t221 false)) else (laws_FnRounds.j1 kj8 t216 t217 t221 false)) = some r := by rw [if_neg (show ¬ (false = true) by decide)] at H; exact H
          clear H
          have H := H1
          clear H1
          have HC25 := Aside0.mk H
          clear H
          go_upto_region 10 with (fail)
          go_cut [96] (fun v96 wc => ∃ (kq : Nat) (x96_24 : Bool), v96 = .bool x96_24 ∧ Aside0 (laws_FnRounds.j1 kq t216 t217 t221 x96_24 = some r) ∧ Aside0 (kq ≤ kj8) ∧ Aside0 (Below w.heap.size w wc))
          case first =>
            have H := HC25.out
            clear HC25
            by_cases c26 : t214 ≥ 0
            · rw [if_pos c26] at H
              have c26b0 : decide (0 ≤ t214) = true := decide_eq_true c26
              clear c26
              (first | rw [c26b0] | (simp only [i64_w, i32_w]; rw [c26b0]) | skip)
              by_cases c27 : t214 ≤ 1000000000
              · rw [if_pos c27] at H
                have c27b0 : decide (t214 ≤ 1000000000) = true := decide_eq_true c27
                clear c27
                by_cases c28 : t215 ≥ 1
                · rw [if_pos c28] at H
                  have c28b0 : decide (1 ≤ t215) = true := decide_eq_true c28
                  clear c28
                  by_cases c29 : t215 ≤ 1000000000
                  · rw [if_pos c29] at H
                    have c29b0 : decide (t215 ≤ 1000000000) = true := decide_eq_true c29
                    clear c29
                    by_cases c30 : (wrap64 (t220 * t215)) < t214
                    · rw [if_pos c30] at H
                      exact absurd H (by simp)
                    · rw [if_neg c30] at H
                      have c30b0 : decide ((wrap64 (t220 * t215)) < t214) = false := decide_eq_false c30
                      clear c30
                      by_cases c31 : t220 > 0
                      · rw [if_pos c31] at H
                        have c31b0 : decide (0 < t220) = true := decide_eq_true c31
                        clear c31
                        have H' := Aside0.mk H
                        clear H
                        go_wp2
                        go_meet
                        case rel => exact ⟨_, (decide ((wrap64 ((wrap64 (t220 - 1)) * t215)) ≥ t214)), (by first | rfl | (simp; done) | (simp [*]; done)), H', ⟨by have := HJ8.out; first | omega | exact Nat.le_refl _⟩, ⟨by repeat (first | (with_reducible first | exact HB.out | apply below_alloc | apply pw_below_drewN | apply below_drew1) | exact HB.out)⟩⟩
                      · rw [if_neg c31] at H
                        have c31b0 : decide (0 < t220) = false := decide_eq_false c31
                        clear c31
                        have H' := Aside0.mk H
                        clear H
                        go_wp2
                        go_meet
                        case rel => exact ⟨_, (false), (by first | rfl | (simp; done) | (simp [*]; done)), H', ⟨by have := HJ8.out; first | omega | exact Nat.le_refl _⟩, ⟨by repeat (first | (with_reducible first | exact HB.out | apply below_alloc | apply pw_below_drewN | apply below_drew1) | exact HB.out)⟩⟩
                  · rw [if_neg c29] at H
                    have c29b0 : decide (t215 ≤ 1000000000) = false := decide_eq_false c29
                    clear c29
                    have H' := Aside0.mk H
                    clear H
                    go_wp2
                    go_meet
                    case rel => exact ⟨_, (false), (by first | rfl | (simp; done) | (simp [*]; done)), H', ⟨by have := HJ8.out; first | omega | exact Nat.le_refl _⟩, ⟨by repeat (first | (with_reducible first | exact HB.out | apply below_alloc | apply pw_below_drewN | apply below_drew1) | exact HB.out)⟩⟩
                · rw [if_neg c28] at H
                  have c28b0 : decide (1 ≤ t215) = false := decide_eq_false c28
                  clear c28
                  have H' := Aside0.mk H
                  clear H
                  go_wp2
                  go_meet
                  case rel => exact ⟨_, (false), (by first | rfl | (simp; done) | (simp [*]; done)), H', ⟨by have := HJ8.out; first | omega | exact Nat.le_refl _⟩, ⟨by repeat (first | (with_reducible first | exact HB.out | apply below_alloc | apply pw_below_drewN | apply below_drew1) | exact HB.out)⟩⟩
              · rw [if_neg c27] at H
                have c27b0 : decide (t214 ≤ 1000000000) = false := decide_eq_false c27
                clear c27
                have H' := Aside0.mk H
                clear H
                go_wp2
                go_meet
                case rel => exact ⟨_, (false), (by first | rfl | (simp; done) | (simp [*]; done)), H', ⟨by have := HJ8.out; first | omega | exact Nat.le_refl _⟩, ⟨by repeat (first | (with_reducible first | exact HB.out | apply below_alloc | apply pw_below_drewN | apply below_drew1) | exact HB.out)⟩⟩
            · rw [if_neg c26] at H
              have c26b0 : decide (0 ≤ t214) = false := decide_eq_false c26
              clear c26
              (first | rw [c26b0] | (simp only [i64_w, i32_w]; rw [c26b0]) | skip)
              have H' := Aside0.mk H
              clear H
              go_wp2
              go_meet
              case rel => exact ⟨_, (false), (by first | rfl | (simp; done) | (simp [*]; done)), H', ⟨by have := HJ8.out; first | omega | exact Nat.le_refl _⟩, ⟨by repeat (first | (with_reducible first | exact HB.out | apply below_alloc | apply pw_below_drewN | apply below_drew1) | exact HB.out)⟩⟩
          case rest =>
            clear HC25
            try clear c1
            try clear c2
            try clear p2
            try clear c3
            try clear c4
            try clear c5
            try clear p6
            try clear c14
            try clear c14b0
            try clear c14b1
            try clear c16
            try clear c16b0
            try clear c16b1
            try clear c19
            try clear c19b0
            try clear c19b1
            try clear c20
            try clear c24
            try clear c26
            try clear c26b0
            try clear c27
            try clear c27b0
            try clear c28
            try clear c28b0
            try clear c29
            try clear c29b0
            try clear c30
            try clear c30b0
            try clear c31
            try clear c31b0
            try clear p2
            obtain ⟨kq, x96_24, rfl, HA, HJ24, HB⟩ := hcut
            cases kq with
            | zero => exact absurd HA.out (by simp [laws_FnRounds.j1])
            | succ kj24 =>
              have H := HA.out
              clear HA
              simp only [laws_FnRounds.j1] at H
              by_cases c32 : x96_24 = true
              · subst c32
                have H1 : (none) = some r := by rw [if_pos rfl] at H; exact H
                clear H
                have H := H1
                clear H1
                exact absurd H (by simp)
              · replace c32 := Bool.eq_false_iff.mpr c32
                subst c32
                have H1 : (if t216 < 0 then (some (t221 == 0)) else (if t216 > 1000000000 then (some (t221 == 0)) else (if t217 = 1 then (if t221 ≥ t216 then (if t221 < (wrap64 (t216 + t217)) then (if t217 = 0 then (none) else (if (Int.tmod t221 t217) = 0 then ((impl_AlignUp.f t221 t217).bind fun t228 => (some (t228 == t221))) else (none))) else (none)) else (none)) else (if t217 = 2 then (if t221 ≥ t216 then (if t221 < (wrap64 (t216 + t217)) then (if t217 = 0 then (none) else (if (Int.tmod t221 t217) = 0 then ((impl_AlignUp.f t221 t217).bind fun t229 => (some (t229 == t221))) else (none))) else (none)) else (none)) else (if t217 = 4 then (if t221 ≥ t216 then (if t221 < (wrap64 (t216 + t217)) then (if t217 = 0 then (none) else (if (Int.tmod t221 t217) = 0 then ((impl_AlignUp.f t221 t217).bind fun t230 => (some (t230 == t221))) else (none))) else (none)) else (none)) else (some (t221 == 0))))))) = some r := by rw [if_neg (show ¬ (false = true) by decide)] at H; exact H
                clear H
                have H := H1
                clear H1
                by_cases c33 : t216 < 0
                · rw [if_pos c33] at H
                  have c33b0 : decide (t216 < 0) = true := decide_eq_true c33
                  clear c33
                  obtain rfl := Option.some.inj H
                  go_wp2
                  go_ret
                  exact ⟨by first | rfl | (simp [errW_none, errW_some] <;> rfl) | (simp [*, errW_none, errW_some] <;> rfl), by repeat (first | (with_reducible first | exact HB.out | apply below_alloc | apply pw_below_drewN | apply below_drew1) | exact HB.out)⟩
                · rw [if_neg c33] at H
                  have c33b0 : decide (t216 < 0) = false := decide_eq_false c33
                  clear c33
                  by_cases c34 : t216 > 1000000000
                  · rw [if_pos c34] at H
                    have c34b0 : decide (1000000000 < t216) = true := decide_eq_true c34
                    clear c34
                    obtain rfl := Option.some.inj H
                    go_wp2
                    go_ret
                    exact ⟨by first | rfl | (simp [errW_none, errW_some] <;> rfl) | (simp [*, errW_none, errW_some] <;> rfl), by repeat (first | (with_reducible first | exact HB.out | apply below_alloc | apply pw_below_drewN | apply below_drew1) | exact HB.out)⟩
                  · rw [if_neg c34] at H
                    have c34b0 : decide (1000000000 < t216) = false := decide_eq_false c34
                    clear c34
                    by_cases c35 : t217 = 1
                    · rw [if_pos c35] at H
                      have c35b0 : (t217 == 1) = true := beq_iff_eq.mpr c35
                      have c35b1 : (t217 != 1) = false := bne_eq_false_iff_eq.mpr c35
                      clear c35
                      by_cases c36 : t221 ≥ t216
                      · rw [if_pos c36] at H
                        have c36b0 : decide (t216 ≤ t221) = true := decide_eq_true c36
                        clear c36
                        by_cases c37 : t221 < (wrap64 (t216 + t217))
                        · rw [if_pos c37] at H
                          have c37b0 : decide (t221 < (wrap64 (t216 + t217))) = true := decide_eq_true c37
                          clear c37
                          by_cases c38 : t217 = 0
                          · rw [if_pos c38] at H
                            exact absurd H (by simp)
                          · rw [if_neg c38] at H
                            have c38b0 : (t217 == 0) = false := beq_eq_false_iff_ne.mpr c38
                            have c38b1 : (t217 != 0) = true := bne_iff_ne.mpr c38
                            by_cases c39 : (Int.tmod t221 t217) = 0
                            · rw [if_pos c39] at H
                              have c39b0 : ((Int.tmod t221 t217) == 0) = true := beq_iff_eq.mpr c39
                              have c39b1 : ((Int.tmod t221 t217) != 0) = false := bne_eq_false_iff_eq.mpr c39
                              clear c39
                              replace H := Option.bind_eq_some_iff.mp H
                              obtain ⟨t228, A400, H⟩ := H
                              replace H : (some (t228 == t221)) = some r := H
                              have A40 := Aside0.mk A400
                              clear A400
                              obtain rfl := Option.some.inj H
                              go_wp2_with (first | (go_at_call 40; (with_reducible refine (impl_AlignUp.calls t221 t217 t228 _ A40.out).mono ?_); rintro e w' ⟨rfl, ⟨nd, rfl⟩⟩))
                              go_ret
                              exact ⟨by first | rfl | (simp [errW_none, errW_some] <;> rfl) | (simp [*, errW_none, errW_some] <;> rfl), by repeat (first | (with_reducible first | exact HB.out | apply below_alloc | apply pw_below_drewN | apply below_drew1) | exact HB.out)⟩
                            · rw [if_neg c39] at H
                              exact absurd H (by simp)
                        · rw [if_neg c37] at H
                          exact absurd H (by simp)
                      · rw [if_neg c36] at H
                        exact absurd H (by simp)
                    · rw [if_neg c35] at H
                      have c35b0 : (t217 == 1) = false := beq_eq_false_iff_ne.mpr c35
                      have c35b1 : (t217 != 1) = true := bne_iff_ne.mpr c35
                      by_cases c41 : t217 = 2
                      · rw [if_pos c41] at H
                        have c41b0 : (t217 == 2) = true := beq_iff_eq.mpr c41
                        have c41b1 : (t217 != 2) = false := bne_eq_false_iff_eq.mpr c41
                        clear c41
                        by_cases c42 : t221 ≥ t216
                        · rw [if_pos c42] at H
                          have c42b0 : decide (t216 ≤ t221) = true := decide_eq_true c42
                          clear c42
                          by_cases c43 : t221 < (wrap64 (t216 + t217))
                          · rw [if_pos c43] at H
                            have c43b0 : decide (t221 < (wrap64 (t216 + t217))) = true := decide_eq_true c43
                            clear c43
                            by_cases c44 : t217 = 0
                            · rw [if_pos c44] at H
                              exact absurd H (by simp)
                            · rw [if_neg c44] at H
                              have c44b0 : (t217 == 0) = false := beq_eq_false_iff_ne.mpr c44
                              have c44b1 : (t217 != 0) = true := bne_iff_ne.mpr c44
                              by_cases c45 : (Int.tmod t221 t217) = 0
                              · rw [if_pos c45] at H
                                have c45b0 : ((Int.tmod t221 t217) == 0) = true := beq_iff_eq.mpr c45
                                have c45b1 : ((Int.tmod t221 t217) != 0) = false := bne_eq_false_iff_eq.mpr c45
                                clear c45
                                replace H := Option.bind_eq_some_iff.mp H
                                obtain ⟨t229, A460, H⟩ := H
                                replace H : (some (t229 == t221)) = some r := H
                                have A46 := Aside0.mk A460
                                clear A460
                                obtain rfl := Option.some.inj H
                                go_wp2_with (first | (go_at_call 40; (with_reducible refine (impl_AlignUp.calls t221 t217 t229 _ A46.out).mono ?_); rintro e w' ⟨rfl, ⟨nd, rfl⟩⟩))
                                go_ret
                                exact ⟨by first | rfl | (simp [errW_none, errW_some] <;> rfl) | (simp [*, errW_none, errW_some] <;> rfl), by repeat (first | (with_reducible first | exact HB.out | apply below_alloc | apply pw_below_drewN | apply below_drew1) | exact HB.out)⟩
                              · rw [if_neg c45] at H
                                exact absurd H (by simp)
                          · rw [if_neg c43] at H
                            exact absurd H (by simp)
                        · rw [if_neg c42] at H
                          exact absurd H (by simp)
                      · rw [if_neg c41] at H
                        have c41b0 : (t217 == 2) = false := beq_eq_false_iff_ne.mpr c41
                        have c41b1 : (t217 != 2) = true := bne_iff_ne.mpr c41
                        by_cases c47 : t217 = 4
                        · rw [if_pos c47] at H
                          have c47b0 : (t217 == 4) = true := beq_iff_eq.mpr c47
                          have c47b1 : (t217 != 4) = false := bne_eq_false_iff_eq.mpr c47
                          clear c47
                          by_cases c48 : t221 ≥ t216
                          · rw [if_pos c48] at H
                            have c48b0 : decide (t216 ≤ t221) = true := decide_eq_true c48
                            clear c48
                            by_cases c49 : t221 < (wrap64 (t216 + t217))
                            · rw [if_pos c49] at H
                              have c49b0 : decide (t221 < (wrap64 (t216 + t217))) = true := decide_eq_true c49
                              clear c49
                              by_cases c50 : t217 = 0
                              · rw [if_pos c50] at H
                                exact absurd H (by simp)
                              · rw [if_neg c50] at H
                                have c50b0 : (t217 == 0) = false := beq_eq_false_iff_ne.mpr c50
                                have c50b1 : (t217 != 0) = true := bne_iff_ne.mpr c50
                                by_cases c51 : (Int.tmod t221 t217) = 0
                                · rw [if_pos c51] at H
                                  have c51b0 : ((Int.tmod t221 t217) == 0) = true := beq_iff_eq.mpr c51
                                  have c51b1 : ((Int.tmod t221 t217) != 0) = false := bne_eq_false_iff_eq.mpr c51
                                  clear c51
                                  replace H := Option.bind_eq_some_iff.mp H
                                  obtain ⟨t230, A520, H⟩ := H
                                  replace H : (some (t230 == t221)) = some r := H
                                  have A52 := Aside0.mk A520
                                  clear A520
                                  obtain rfl := Option.some.inj H
                                  go_wp2_with (first | (go_at_call 40; (with_reducible refine (impl_AlignUp.calls t221 t217 t230 _ A52.out).mono ?_); rintro e w' ⟨rfl, ⟨nd, rfl⟩⟩))
                                  go_ret
                                  exact ⟨by first | rfl | (simp [errW_none, errW_some] <;> rfl) | (simp [*, errW_none, errW_some] <;> rfl), by repeat (first | (with_reducible first | exact HB.out | apply below_alloc | apply pw_below_drewN | apply below_drew1) | exact HB.out)⟩
                                · rw [if_neg c51] at H
                                  exact absurd H (by simp)
                            · rw [if_neg c49] at H
                              exact absurd H (by simp)
                          · rw [if_neg c48] at H
                            exact absurd H (by simp)
                        · rw [if_neg c47] at H
                          have c47b0 : (t217 == 4) = false := beq_eq_false_iff_ne.mpr c47
                          have c47b1 : (t217 != 4) = true := bne_iff_ne.mpr c47
                          obtain rfl := Option.some.inj H
                          go_wp2
                          go_ret
                          exact ⟨by first | rfl | (simp [errW_none, errW_some] <;> rfl) | (simp [*, errW_none, errW_some] <;> rfl), by repeat (first | (with_reducible first | exact HB.out | apply below_alloc | apply pw_below_drewN | apply below_drew1) | exact HB.out)⟩

/-- THE ONE PURE STATEMENT of laws_FnRounds: yours. -/
def laws_FnRounds.Pure : Prop := ∀ (l0 : List Int), l0.length ≤ maxLen → l0.length * 1 ≤ 140737488351232 → (∀ x ∈ l0, (Lit.int .u8 x).wf = true) → ∃ k, laws_FnRounds.f k l0 = some true
theorem laws_FnRounds.walk (P : laws_FnRounds.Pure) (a0 : Option Addr) (len0 cap0 : Nat) (z0 : List Int) (w : World) (w0 : (a0 = none ∧ len0 = 0 ∧ cap0 = 0 ∧ z0 = []) ∨ ∃ x, a0 = some x ∧ len0 ≤ cap0 ∧ cap0 ≤ maxLen ∧ z0.length = cap0 ∧ (∀ i, i < z0.length → w.cell? (x.add i) = some (.int .u8 (z0.getD i 0))) ∧ ∀ n ∈ z0, (Lit.int .u8 n).wf = true) (y0 : len0 * 1 ≤ 140737488351232) :
    Calls Try.prog 5 #[.slice a0 len0 cap0] w fun e w' => e = .returned (.bool true) ∧ Below w.heap.size w w' := by
  obtain ⟨l0, rfl, hr0, hm0, hw0, hc0⟩ := ReadsInt.ofRowC w0
  obtain ⟨k, h⟩ := P l0 hm0 y0 hw0
  refine (laws_FnRounds.calls k _ _ l0 true w (Kd.C_of_reads (d := (0 : Int)) (h1 := fun _ => rfl) hr0) hc0 h).mono ?_
  rintro e w' ⟨rfl, hd⟩
  exact ⟨rfl, hd⟩

end Go.Proofs.Ytkcohcdhlgocgaa.QFnRounds
