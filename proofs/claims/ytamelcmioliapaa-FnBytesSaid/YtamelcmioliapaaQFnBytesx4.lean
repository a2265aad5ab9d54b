/- What the functions that the law FnBytes reaches compute, as plain functions, and that the code computes just that (by a program of this session's; the library's functions by hand). No condition. -/
import Derived.Test.YtamelcmioliapaaQFnBytesx0
import Derived.Test.YtamelcmioliapaaQFnBytesx1
import Derived.Test.YtamelcmioliapaaQFnBytesx2
import Derived.Test.YtamelcmioliapaaQFnBytesx3
namespace Go.Proofs.Ytamelcmioliapaa.QFnBytes
open Go.RowKit Go.Proofs.YtamelcmioliapaaW.PrintWords Go.Proofs.YtamelcmioliapaaW.PrintLast Go.Proofs.YtamelcmioliapaaW.PrintMore
attribute [local go_sem] max2_int min2_int max_two min_two max_three min_three max_four min_four   -- for this text's walks alone
set_option linter.unusedVariables false
set_option linter.unusedSimpArgs false

/-! ### laws_FnBytes: function 8 -/
def laws_FnBytes.j0 : Nat → List Int → Int → List Int → List Int → Bool → Bool → Option (Bool)
  | 0, _, _, _, _, _, _ => none
  | k + 1, x3, x4, x5, x6, x7, x120 => if x120 = true then (none) else (if x7 = true then ((impl_GetAt.f x6 x4 (x5.length : Int)).bind fun bt335 => (if bt335.2 = true then ((laws_same.f k bt335.1 x5).bind fun t339 => (if t339 = true then (if (x6.length : Int) = (x3.length : Int) then (if 0 ≤ x4 then (if x4 ≤ (x6.length : Int) then (if x4 ≤ (x3.length : Int) then ((laws_same.f k (x6.take (x4 : Int).toNat) (x3.take (x4 : Int).toNat)).bind fun t348 => (if t348 = true then (if 0 ≤ (wrap64 (x4 + (x5.length : Int))) then (if (wrap64 (x4 + (x5.length : Int))) ≤ (x6.length : Int) then (if (wrap64 (x4 + (x5.length : Int))) ≤ (x3.length : Int) then ((laws_same.f k (x6.drop ((wrap64 (x4 + (x5.length : Int))) : Int).toNat) (x3.drop ((wrap64 (x4 + (x5.length : Int))) : Int).toNat)).bind fun t357 => (if t357 = true then ((impl_Wipe.f x3 0 (x3.length : Int)).bind fun t358 => ((impl_IsZero.f k t358).bind fun t361 => (some t361))) else (none))) else (none)) else (none)) else (none)) else (none))) else (none)) else (none)) else (none)) else (none)) else (none))) else (none))) else ((laws_same.f k x6 x3).bind fun t334 => (some t334)))
def laws_FnBytes.f (k : Nat) (l0 : List Int) : Option (Bool) := (laws_big.f l0).bind fun t279 => (if t279 = true then (some true) else ((spec_DrawPutAt.f k l0).bind fun bt280 => ((impl_PutAt.f bt280.1 bt280.2.1 bt280.2.2).bind fun bt287 => ((spec_PutAt.f k bt280.1 bt280.2.1 bt280.2.2).bind fun bt291 => ((spec_DrawGetAt.f k l0).bind fun bt295 => ((impl_GetAt.f bt295.1 bt295.2.1 bt295.2.2).bind fun bt300 => ((spec_GetAt.f bt295.1 bt295.2.1 bt295.2.2).bind fun bt304 => ((spec_DrawWipe.f k l0).bind fun bt308 => ((impl_Wipe.f bt308.1 bt308.2.1 bt308.2.2).bind fun t313 => ((spec_DrawZeros.f k l0).bind fun t316 => ((laws_same.f k bt287.1 bt291.1).bind fun t317 => (if t317 = true then (if (bt287.2 != bt291.2) = true then (none) else ((laws_same.f k bt300.1 bt304.1).bind fun t318 => (if t318 = true then (if (bt300.2 != bt304.2) = true then (none) else ((spec_Wipe.f k bt308.1 bt308.2.1 bt308.2.2).bind fun t319 => ((laws_same.f k t313 t319).bind fun t322 => (if t322 = true then ((impl_Zeros.f t316).bind fun t323 => ((spec_Zeros.f t316).bind fun t326 => ((laws_same.f k t323 t326).bind fun t329 => (if t329 = true then ((impl_Zeros.f t316).bind fun t330 => ((impl_IsZero.f k t330).bind fun t333 => (laws_FnBytes.j0 k bt280.1 bt280.2.1 bt280.2.2 bt287.1 bt287.2 (!t333)))) else (none))))) else (none))))) else (none)))) else (none)))))))))))))
theorem laws_FnBytes.mono_l : ∀ k, (∀ y0 y1 y2 y3 y4 y5, LeO (laws_FnBytes.j0 k y0 y1 y2 y3 y4 y5) (laws_FnBytes.j0 (k + 1) y0 y1 y2 y3 y4 y5))
  | 0 => fun _ _ _ _ _ _ r h => by simp [laws_FnBytes.j0] at h
  | k + 1 => by
    have ih0 := laws_FnBytes.mono_l k
    · intro y0 y1 y2 y3 y4 y5
      unfold laws_FnBytes.j0
      repeat' first
      | (with_reducible exact ih0 _ _ _ _ _ _)
      | (with_reducible exact impl_IsZero.mono _ _)
      | (with_reducible exact laws_same.mono _ _ _)
      | (with_reducible exact spec_DrawGetAt.mono _ _)
      | (with_reducible exact spec_DrawPutAt.mono _ _)
      | (with_reducible exact spec_DrawWipe.mono _ _)
      | (with_reducible exact spec_DrawZeros.mono _ _)
      | (with_reducible exact spec_PutAt.mono _ _ _ _)
      | (with_reducible exact spec_Wipe.mono _ _ _ _)
      | (with_reducible exact LeO.refl _)
      | (with_reducible exact LeO.none _)
      | (with_reducible refine LeO.ite ?_ ?_)
      | (with_reducible refine LeO.bind ?_ (fun _ => ?_))
      | exact ih0 _ _ _ _ _ _
      | exact impl_IsZero.mono _ _
      | exact laws_same.mono _ _ _
      | exact spec_DrawGetAt.mono _ _
      | exact spec_DrawPutAt.mono _ _
      | exact spec_DrawWipe.mono _ _
      | exact spec_DrawZeros.mono _ _
      | exact spec_PutAt.mono _ _ _ _
      | exact spec_Wipe.mono _ _ _ _
      | exact LeO.none _
      | refine LeO.ite ?_ ?_
      | refine LeO.bind ?_ (fun _ => ?_)
theorem laws_FnBytes.mono : ∀ a0 k, LeO (laws_FnBytes.f k a0) (laws_FnBytes.f (k + 1) a0) := by
  intro a0 k
  have ih0 := laws_FnBytes.mono_l k
  unfold laws_FnBytes.f
  repeat' first
      | (with_reducible exact ih0 _ _ _ _ _ _)
      | (with_reducible exact impl_IsZero.mono _ _)
      | (with_reducible exact laws_same.mono _ _ _)
      | (with_reducible exact spec_DrawGetAt.mono _ _)
      | (with_reducible exact spec_DrawPutAt.mono _ _)
      | (with_reducible exact spec_DrawWipe.mono _ _)
      | (with_reducible exact spec_DrawZeros.mono _ _)
      | (with_reducible exact spec_PutAt.mono _ _ _ _)
      | (with_reducible exact spec_Wipe.mono _ _ _ _)
      | (with_reducible exact LeO.refl _)
      | (with_reducible exact LeO.none _)
      | (with_reducible refine LeO.ite ?_ ?_)
      | (with_reducible refine LeO.bind ?_ (fun _ => ?_))
      | exact ih0 _ _ _ _ _ _
      | exact impl_IsZero.mono _ _
      | exact laws_same.mono _ _ _
      | exact spec_DrawGetAt.mono _ _
      | exact spec_DrawPutAt.mono _ _
      | exact spec_DrawWipe.mono _ _
      | exact spec_DrawZeros.mono _ _
      | exact spec_PutAt.mono _ _ _ _
      | exact spec_Wipe.mono _ _ _ _
      | exact LeO.none _
      | refine LeO.ite ?_ ?_
      | refine LeO.bind ?_ (fun _ => ?_)
def laws_FnBytes.T17 : Bool × List (List Nat × List Nat) := (true, [([], []), ([0], [0]), ([1], [1]), ([1], [1]), ([2, 3, 1, 1], [1, 2, 3]), ([1, 4], [1, 4]), ([5, 4], [5]), ([6], [6]), ([7, 6], [6, 7]), ([6], [6]), ([9, 6], [6, 9]), ([8, 10, 6], [6, 8, 10]), ([6, 11], [6, 11]), ([12, 6], [12]), ([13], [13]), ([13], [13]), ([14, 15, 13], [13, 14, 15]), ([13], [13]), ([13], [13]), ([17, 18, 13], [13, 17, 18]), ([16, 19, 13, 13], [13, 16, 19]), ([13, 20], [13, 20]), ([21, 20], [21]), ([22], [22]), ([22], [22]), ([22], [22]), ([25, 22], [22, 25]), ([24, 26, 22], [22, 24, 26]), ([23, 27, 22], [22, 23, 27]), ([22], [22]), ([22], [22]), ([22], [22]), ([31, 22], [22, 31]), ([30, 32, 22], [22, 30, 32]), ([29, 33, 22], [22, 29, 33]), ([28, 34, 22, 22], [22, 28, 34]), ([22, 35], [22, 35]), ([36, 35], [36]), ([37], [37]), ([37], [37]), ([39, 37], [37, 39]), ([38, 40, 37, 37], [37, 38, 40]), ([41, 41, 37], [37, 41]), ([37, 42], [37, 42]), ([43, 42, 0, 1, 2, 3, 4, 5, 6, 7, 8, 9, 10, 11, 12, 13, 14, 15, 16, 17, 18, 19, 20, 21, 22, 23, 24, 25, 26, 27, 28, 29, 30, 31, 32, 33, 34, 35, 36, 37, 38, 39, 40, 41, 42, 43], [43])])
def laws_FnBytes.B17 : List Nat := [0, 1, 3, 3, 15, 31, 63, 127, 255, 127, 639, 2047, 4095, 8191, 16383, 16383, 65535, 16383, 16383, 409599, 1048575, 2097151, 4194303, 8388607, 8388607, 8388607, 41943039, 125829119, 268435455, 8388607, 8388607, 8388607, 2155872255, 7524581375, 16651386879, 34359738367, 68719476735, 137438953471, 274877906943, 274877906943, 824633720831, 2199023255551, 4398046511103, 8796093022207, 17592186044415]
theorem laws_FnBytes.tab17 : rtab .any (opsOf Try.f8 17) = laws_FnBytes.T17 := by kernel_rfl
theorem laws_FnBytes.bits17 : waitsOk laws_FnBytes.T17.2 laws_FnBytes.B17 = true := by kernel_rfl
set_option maxHeartbeats 8000000 in
set_option maxRecDepth 100000 in
theorem laws_FnBytes.calls (k : Nat) (A0 : Option Addr) (c0 : Nat) (l0 : List Int) (r : Bool) (w : World) (hr0 : Kd.C (Kd.int .u8) w A0 l0.length l0) (hc0 : l0.length ≤ c0) (h : laws_FnBytes.f k l0 = some r) :
    Calls Try.prog 8 #[.slice A0 l0.length c0] w fun e w' => e = .returned (.bool r) ∧ Below w.heap.size w w' := by
  have HR0 := Aside0.mk hr0
  have HC0 := Aside0.mk hc0
  clear hr0 hc0
  have HB := Aside0.mk (Below.refl w.heap.size w)
  have H : ((laws_big.f l0).bind fun t279 => (if t279 = true then (some true) else ((spec_DrawPutAt.f k l0).bind fun bt280 => ((impl_PutAt.f bt280.1 bt280.2.1 bt280.2.2).bind fun bt287 => ((spec_PutAt.f k bt280.1 bt280.2.1 bt280.2.2).bind fun bt291 => ((spec_DrawGetAt.f k l0).bind fun bt295 => ((impl_GetAt.f bt295.1 bt295.2.1 bt295.2.2).bind fun bt300 => ((spec_GetAt.f bt295.1 bt295.2.1 bt295.2.2).bind fun bt304 => ((spec_DrawWipe.f k l0).bind fun bt308 => ((impl_Wipe.f bt308.1 bt308.2.1 bt308.2.2).bind fun t313 => ((spec_DrawZeros.f k l0).bind fun t316 => ((laws_same.f k bt287.1 bt291.1).bind fun t317 => (if t317 = true then (if (bt287.2 != bt291.2) = true then (none) else ((laws_same.f k bt300.1 bt304.1).bind fun t318 => (if t318 = true then (if (bt300.2 != bt304.2) = true then (none) else ((spec_Wipe.f k bt308.1 bt308.2.1 bt308.2.2).bind fun t319 => ((laws_same.f k t313 t319).bind fun t322 => (if t322 = true then ((impl_Zeros.f t316).bind fun t323 => ((spec_Zeros.f t316).bind fun t326 => ((laws_same.f k t323 t326).bind fun t329 => (if t329 = true then ((impl_Zeros.f t316).bind fun t330 => ((impl_IsZero.f k t330).bind fun t333 => (laws_FnBytes.j0 k bt280.1 bt280.2.1 bt280.2.2 bt287.1 bt287.2 (!t333)))) else (none))))) else (none))))) else (none)))) else (none)))))))))))))) = some r := h
  clear h
  replace H := Option.bind_eq_some_iff.mp H
  obtain ⟨t279, A20, H⟩ := H
  replace H : (if t279 = true then (some true) else ((spec_DrawPutAt.f k l0).bind fun bt280 => ((impl_PutAt.f bt280.1 bt280.2.1 bt280.2.2).bind fun bt287 => ((spec_PutAt.f k bt280.1 bt280.2.1 bt280.2.2).bind fun bt291 => ((spec_DrawGetAt.f k l0).bind fun bt295 => ((impl_GetAt.f bt295.1 bt295.2.1 bt295.2.2).bind fun bt300 => ((spec_GetAt.f bt295.1 bt295.2.1 bt295.2.2).bind fun bt304 => ((spec_DrawWipe.f k l0).bind fun bt308 => ((impl_Wipe.f bt308.1 bt308.2.1 bt308.2.2).bind fun t313 => ((spec_DrawZeros.f k l0).bind fun t316 => ((laws_same.f k bt287.1 bt291.1).bind fun t317 => (if t317 = true then (if (bt287.2 != bt291.2) = true then (none) else ((laws_same.f k bt300.1 bt304.1).bind fun t318 => (if t318 = true then (if (bt300.2 != bt304.2) = true then (none) else ((spec_Wipe.f k bt308.1 bt308.2.1 bt308.2.2).bind fun t319 => ((laws_same.f k t313 t319).bind fun t322 => (if t322 = true then ((impl_Zeros.f t316).bind fun t323 => ((spec_Zeros.f t316).bind fun t326 => ((laws_same.f k t323 t326).bind fun t329 => (if t329 = true then ((impl_Zeros.f t316).bind fun t330 => ((impl_IsZero.f k t330).bind fun t333 => (laws_FnBytes.j0 k bt280.1 bt280.2.1 bt280.2.2 bt287.1 bt287.2 (!t333)))) else (none))))) else (none))))) else (none)))) else (none))))))))))))) = some r := H
  have A2 := Aside0.mk A20
  clear A20
  by_cases c3 : t279 = true
  · subst c3
    have H1 : (some true) = some r := by rw [if_pos rfl] at H; exact H
    clear H
    have H := H1
    clear H1
    obtain rfl := Option.some.inj H
    go_enter Try.func8, Try.ntmps8
    go_wp2_with (first | ((with_reducible refine gate_callee (f := 25) rfl ?_); refine goesL_ (some 25) rfl rfl Try.func25 (by kernel_rfl) rfl #[.slice A0 l0.length c0] rfl (by (try simp only [List.map_toArray, List.map_cons, List.map_nil]); first | done | rfl | (simp only [List.length_drop, List.length_take]; rfl)) ?_; (with_reducible refine (laws_big.calls _ _ l0 true _ ?side1 ?side2 A2.out).mono ?_); (case side1 => repeat (first | exact HR0.out | (with_reducible refine Kd.C_alloc ?_ _) | (with_reducible refine Kd.C_drewN ?_ _) | (with_reducible refine Kd.C_drew ?_))); (case side2 => exact HC0.out); rintro e w' ⟨rfl, ⟨nd, rfl⟩⟩; refine ⟨_, rfl, ?_⟩))
    go_ret
    exact ⟨by first | rfl | (simp [errW_none, errW_some] <;> rfl) | (simp [*, errW_none, errW_some] <;> rfl), by repeat (first | (with_reducible first | exact HB.out | apply below_alloc | apply pw_below_drewN | apply below_drew1) | exact HB.out)⟩
  · replace c3 := Bool.eq_false_iff.mpr c3
    subst c3
    have H1 : ((spec_DrawPutAt.f k l0).bind fun bt280 => ((impl_PutAt.f bt280.1 bt280.2.1 bt280.2.2).bind fun bt287 => ((spec_PutAt.f k bt280.1 bt280.2.1 bt280.2.2).bind fun bt291 => ((spec_DrawGetAt.f k l0).bind fun bt295 => ((impl_GetAt.f bt295.1 bt295.2.1 bt295.2.2).bind fun bt300 => ((spec_GetAt.f bt295.1 bt295.2.1 bt295.2.2).bind fun bt304 => ((spec_DrawWipe.f k l0).bind fun bt308 => ((impl_Wipe.f bt308.1 bt308.2.1 bt308.2.2).bind fun t313 => ((spec_DrawZeros.f k l0).bind fun t316 => ((laws_same.f k bt287.1 bt291.1).bind fun t317 => (if t317 = true then (if (bt287.2 != bt291.2) = true then (none) else ((laws_same.f k bt300.1 bt304.1).bind fun t318 => (if t318 = true then (if (bt300.2 != bt304.2) = true then (none) else ((spec_Wipe.f k bt308.1 bt308.2.1 bt308.2.2).bind fun t319 => ((laws_same.f k t313 t319).bind fun t322 => (if t322 = true then ((impl_Zeros.f t316).bind fun t323 => ((spec_Zeros.f t316).bind fun t326 => ((laws_same.f k t323 t326).bind fun t329 => (if t329 = true then ((impl_Zeros.f t316).bind fun t330 => ((impl_IsZero.f k t330).bind fun t333 => (laws_FnBytes.j0 k bt280.1 bt280.2.1 bt280.2.2 bt287.1 bt287.2 (!t333)))) else (none))))) else (none))))) else (none)))) else (none)))))))))))) = some r := by rw [if_neg (show ¬ (false = true) by decide)] at H; exact H
    clear H
    have H := H1
    clear H1
    replace H := Option.bind_eq_some_iff.mp H
    obtain ⟨⟨t280, t281, t282⟩, A40, H⟩ := H
    replace H : ((impl_PutAt.f t280 t281 t282).bind fun bt287 => ((spec_PutAt.f k t280 t281 t282).bind fun bt291 => ((spec_DrawGetAt.f k l0).bind fun bt295 => ((impl_GetAt.f bt295.1 bt295.2.1 bt295.2.2).bind fun bt300 => ((spec_GetAt.f bt295.1 bt295.2.1 bt295.2.2).bind fun bt304 => ((spec_DrawWipe.f k l0).bind fun bt308 => ((impl_Wipe.f bt308.1 bt308.2.1 bt308.2.2).bind fun t313 => ((spec_DrawZeros.f k l0).bind fun t316 => ((laws_same.f k bt287.1 bt291.1).bind fun t317 => (if t317 = true then (if (bt287.2 != bt291.2) = true then (none) else ((laws_same.f k bt300.1 bt304.1).bind fun t318 => (if t318 = true then (if (bt300.2 != bt304.2) = true then (none) else ((spec_Wipe.f k bt308.1 bt308.2.1 bt308.2.2).bind fun t319 => ((laws_same.f k t313 t319).bind fun t322 => (if t322 = true then ((impl_Zeros.f t316).bind fun t323 => ((spec_Zeros.f t316).bind fun t326 => ((laws_same.f k t323 t326).bind fun t329 => (if t329 = true then ((impl_Zeros.f t316).bind fun t330 => ((impl_IsZero.f k t330).bind fun t333 => (laws_FnBytes.j0 k t280 t281 t282 bt287.1 bt287.2 (!t333)))) else (none))))) else (none))))) else (none)))) else (none))))))))))) = some r := H
    have A4 := Aside0.mk A40
    clear A40
    replace H := Option.bind_eq_some_iff.mp H
    obtain ⟨⟨t287, t288⟩, A50, H⟩ := H
    replace H : ((spec_PutAt.f k t280 t281 t282).bind fun bt291 => ((spec_DrawGetAt.f k l0).bind fun bt295 => ((impl_GetAt.f bt295.1 bt295.2.1 bt295.2.2).bind fun bt300 => ((spec_GetAt.f bt295.1 bt295.2.1 bt295.2.2).bind fun bt304 => ((spec_DrawWipe.f k l0).bind fun bt308 => ((impl_Wipe.f bt308.1 bt308.2.1 bt308.2.2).bind fun t313 => ((spec_DrawZeros.f k l0).bind fun t316 => ((laws_same.f k t287 bt291.1).bind fun t317 => (if t317 = true then (if (t288 != bt291.2) = true then (none) else ((laws_same.f k bt300.1 bt304.1).bind fun t318 => (if t318 = true then (if (bt300.2 != bt304.2) = true then (none) else ((spec_Wipe.f k bt308.1 bt308.2.1 bt308.2.2).bind fun t319 => ((laws_same.f k t313 t319).bind fun t322 => (if t322 = true then ((impl_Zeros.f t316).bind fun t323 => ((spec_Zeros.f t316).bind fun t326 => ((laws_same.f k t323 t326).bind fun t329 => (if t329 = true then ((impl_Zeros.f t316).bind fun t330 => ((impl_IsZero.f k t330).bind fun t333 => (laws_FnBytes.j0 k t280 t281 t282 t287 t288 (!t333)))) else (none))))) else (none))))) else (none)))) else (none)))))))))) = some r := H
    have A5 := Aside0.mk A50
    clear A50
    replace H := Option.bind_eq_some_iff.mp H
    obtain ⟨⟨t291, t292⟩, A60, H⟩ := H
    replace H : ((spec_DrawGetAt.f k l0).bind fun bt295 => ((impl_GetAt.f bt295.1 bt295.2.1 bt295.2.2).bind fun bt300 => ((spec_GetAt.f bt295.1 bt295.2.1 bt295.2.2).bind fun bt304 => ((spec_DrawWipe.f k l0).bind fun bt308 => ((impl_Wipe.f bt308.1 bt308.2.1 bt308.2.2).bind fun t313 => ((spec_DrawZeros.f k l0).bind fun t316 => ((laws_same.f k t287 t291).bind fun t317 => (if t317 = true then (if (t288 != t292) = true then (none) else ((laws_same.f k bt300.1 bt304.1).bind fun t318 => (if t318 = true then (if (bt300.2 != bt304.2) = true then (none) else ((spec_Wipe.f k bt308.1 bt308.2.1 bt308.2.2).bind fun t319 => ((laws_same.f k t313 t319).bind fun t322 => (if t322 = true then ((impl_Zeros.f t316).bind fun t323 => ((spec_Zeros.f t316).bind fun t326 => ((laws_same.f k t323 t326).bind fun t329 => (if t329 = true then ((impl_Zeros.f t316).bind fun t330 => ((impl_IsZero.f k t330).bind fun t333 => (laws_FnBytes.j0 k t280 t281 t282 t287 t288 (!t333)))) else (none))))) else (none))))) else (none)))) else (none))))))))) = some r := H
    have A6 := Aside0.mk A60
    clear A60
    replace H := Option.bind_eq_some_iff.mp H
    obtain ⟨⟨t295, t296, t297⟩, A70, H⟩ := H
    replace H : ((impl_GetAt.f t295 t296 t297).bind fun bt300 => ((spec_GetAt.f t295 t296 t297).bind fun bt304 => ((spec_DrawWipe.f k l0).bind fun bt308 => ((impl_Wipe.f bt308.1 bt308.2.1 bt308.2.2).bind fun t313 => ((spec_DrawZeros.f k l0).bind fun t316 => ((laws_same.f k t287 t291).bind fun t317 => (if t317 = true then (if (t288 != t292) = true then (none) else ((laws_same.f k bt300.1 bt304.1).bind fun t318 => (if t318 = true then (if (bt300.2 != bt304.2) = true then (none) else ((spec_Wipe.f k bt308.1 bt308.2.1 bt308.2.2).bind fun t319 => ((laws_same.f k t313 t319).bind fun t322 => (if t322 = true then ((impl_Zeros.f t316).bind fun t323 => ((spec_Zeros.f t316).bind fun t326 => ((laws_same.f k t323 t326).bind fun t329 => (if t329 = true then ((impl_Zeros.f t316).bind fun t330 => ((impl_IsZero.f k t330).bind fun t333 => (laws_FnBytes.j0 k t280 t281 t282 t287 t288 (!t333)))) else (none))))) else (none))))) else (none)))) else (none)))))))) = some r := H
    have A7 := Aside0.mk A70
    clear A70
    replace H := Option.bind_eq_some_iff.mp H
    obtain ⟨⟨t300, t301⟩, A80, H⟩ := H
    replace H : ((spec_GetAt.f t295 t296 t297).bind fun bt304 => ((spec_DrawWipe.f k l0).bind fun bt308 => ((impl_Wipe.f bt308.1 bt308.2.1 bt308.2.2).bind fun t313 => ((spec_DrawZeros.f k l0).bind fun t316 => ((laws_same.f k t287 t291).bind fun t317 => (if t317 = true then (if (t288 != t292) = true then (none) else ((laws_same.f k t300 bt304.1).bind fun t318 => (if t318 = true then (if (t301 != bt304.2) = true then (none) else ((spec_Wipe.f k bt308.1 bt308.2.1 bt308.2.2).bind fun t319 => ((laws_same.f k t313 t319).bind fun t322 => (if t322 = true then ((impl_Zeros.f t316).bind fun t323 => ((spec_Zeros.f t316).bind fun t326 => ((laws_same.f k t323 t326).bind fun t329 => (if t329 = true then ((impl_Zeros.f t316).bind fun t330 => ((impl_IsZero.f k t330).bind fun t333 => (laws_FnBytes.j0 k t280 t281 t282 t287 t288 (!t333)))) else (none))))) else (none))))) else (none)))) else (none))))))) = some r := H
    have A8 := Aside0.mk A80
    clear A80
    replace H := Option.bind_eq_some_iff.mp H
    obtain ⟨⟨t304, t305⟩, A90, H⟩ := H
    replace H : ((spec_DrawWipe.f k l0).bind fun bt308 => ((impl_Wipe.f bt308.1 bt308.2.1 bt308.2.2).bind fun t313 => ((spec_DrawZeros.f k l0).bind fun t316 => ((laws_same.f k t287 t291).bind fun t317 => (if t317 = true then (if (t288 != t292) = true then (none) else ((laws_same.f k t300 t304).bind fun t318 => (if t318 = true then (if (t301 != t305) = true then (none) else ((spec_Wipe.f k bt308.1 bt308.2.1 bt308.2.2).bind fun t319 => ((laws_same.f k t313 t319).bind fun t322 => (if t322 = true then ((impl_Zeros.f t316).bind fun t323 => ((spec_Zeros.f t316).bind fun t326 => ((laws_same.f k t323 t326).bind fun t329 => (if t329 = true then ((impl_Zeros.f t316).bind fun t330 => ((impl_IsZero.f k t330).bind fun t333 => (laws_FnBytes.j0 k t280 t281 t282 t287 t288 (!t333)))) else (none))))) else (none))))) else (none)))) else (none)))))) = some r := H
    have A9 := Aside0.mk A90
    clear A90
    replace H := Option.bind_eq_some_iff.mp H
    obtain ⟨⟨t308, t309, t310⟩, A100, H⟩ := H
    replace H : ((impl_Wipe.f t308 t309 t310).bind fun t313 => ((spec_DrawZeros.f k l0).bind fun t316 => ((laws_same.f k t287 t291).bind fun t317 => (if t317 = true then (if (t288 != t292) = true then (none) else ((laws_same.f k t300 t304).bind fun t318 => (if t318 = true then (if (t301 != t305) = true then (none) else ((spec_Wipe.f k t308 t309 t310).bind fun t319 => ((laws_same.f k t313 t319).bind fun t322 => (if t322 = true then ((impl_Zeros.f t316).bind fun t323 => ((spec_Zeros.f t316).bind fun t326 => ((laws_same.f k t323 t326).bind fun t329 => (if t329 = true then ((impl_Zeros.f t316).bind fun t330 => ((impl_IsZero.f k t330).bind fun t333 => (laws_FnBytes.j0 k t280 t281 t282 t287 t288 (!t333)))) else (none))))) else (none))))) else (none)))) else (none))))) = some r := H
    have A10 := Aside0.mk A100
    clear A100
    replace H := Option.bind_eq_some_iff.mp H
    obtain ⟨t313, A110, H⟩ := H
    replace H : ((spec_DrawZeros.f k l0).bind fun t316 => ((laws_same.f k t287 t291).bind fun t317 => (if t317 = true then (if (t288 != t292) = true then (none) else ((laws_same.f k t300 t304).bind fun t318 => (if t318 = true then (if (t301 != t305) = true then (none) else ((spec_Wipe.f k t308 t309 t310).bind fun t319 => ((laws_same.f k t313 t319).bind fun t322 => (if t322 = true then ((impl_Zeros.f t316).bind fun t323 => ((spec_Zeros.f t316).bind fun t326 => ((laws_same.f k t323 t326).bind fun t329 => (if t329 = true then ((impl_Zeros.f t316).bind fun t330 => ((impl_IsZero.f k t330).bind fun t333 => (laws_FnBytes.j0 k t280 t281 t282 t287 t288 (!t333)))) else (none))))) else (none))))) else (none)))) else (none)))) = some r := H
    have A11 := Aside0.mk A110
    clear A110
    replace H := Option.bind_eq_some_iff.mp H
    obtain ⟨t316, A120, H⟩ := H
    replace H : ((laws_same.f k t287 t291).bind fun t317 => (if t317 = true then (if (t288 != t292) = true then (none) else ((laws_same.f k t300 t304).bind fun t318 => (if t318 = true then (if (t301 != t305) = true then (none) else ((spec_Wipe.f k t308 t309 t310).bind fun t319 => ((laws_same.f k t313 t319).bind fun t322 => (if t322 = true then ((impl_Zeros.f t316).bind fun t323 => ((spec_Zeros.f t316).bind fun t326 => ((laws_same.f k t323 t326).bind fun t329 => (if t329 = true then ((impl_Zeros.f t316).bind fun t330 => ((impl_IsZero.f k t330).bind fun t333 => (laws_FnBytes.j0 k t280 t281 t282 t287 t288 (!t333)))) else (none))))) else (none))))) else (none)))) else (none))) = some r := H
    have A12 := Aside0.mk A120
    clear A120
    have HC13 := Aside0.mk H
    clear H
    go_enter Try.func8, Try.ntmps8
    go_upto_region 12 with (first | ((with_reducible refine gate_callee (f := 25) rfl ?_); refine goesL_ (some 25) rfl rfl Try.func25 (by kernel_rfl) rfl #[.slice A0 l0.length c0] rfl (by (try simp only [List.map_toArray, List.map_cons, List.map_nil]); first | done | rfl | (simp only [List.length_drop, List.length_take]; rfl)) ?_; (with_reducible refine (laws_big.calls _ _ l0 false _ ?side1 ?side2 A2.out).mono ?_); (case side1 => repeat (first | exact HR0.out | (with_reducible refine Kd.C_alloc ?_ _) | (with_reducible refine Kd.C_drewN ?_ _) | (with_reducible refine Kd.C_drew ?_))); (case side2 => exact HC0.out); rintro e w' ⟨rfl, ⟨nd, rfl⟩⟩; refine ⟨_, rfl, ?_⟩) | ((with_reducible refine gate_callee (f := 34) rfl ?_); refine goesL_ (some 28) rfl rfl Try.func34 (by kernel_rfl) rfl #[.slice A0 l0.length c0] rfl (by (try simp only [List.map_toArray, List.map_cons, List.map_nil]); first | done | rfl | (simp only [List.length_drop, List.length_take]; rfl)) ?_; (with_reducible refine (spec_DrawPutAt.calls k _ _ l0 t280 t281 t282 _ ?side1 ?side2 A4.out).mono ?_); (case side1 => repeat (first | exact HR0.out | (with_reducible refine Kd.C_alloc ?_ _) | (with_reducible refine Kd.C_drewN ?_ _) | (with_reducible refine Kd.C_drew ?_))); (case side2 => exact HC0.out); rintro e w14 ⟨v283, v285, rfl, ho0, ho1, hb⟩; refine ⟨_, rfl, ?_⟩; have n0_ := Aside0.mk (Kd.R_lower ho0 (below_size (by repeat (first | (with_reducible first | exact HB.out | apply below_alloc | apply pw_below_drewN | apply below_drew1) | exact HB.out)))); have n1_ := Aside0.mk (Kd.R_lower ho1 (below_size (by repeat (first | (with_reducible first | exact HB.out | apply below_alloc | apply pw_below_drewN | apply below_drew1) | exact HB.out)))); have n2_ := Aside0.mk (below_step (by repeat (first | (with_reducible first | exact HB.out | apply below_alloc | apply pw_below_drewN | apply below_drew1) | exact HB.out)) hb); clear HB; have HO284 := n0_; have HO286 := n1_; have HB := n2_; clear n0_ n1_ n2_; (try clear hb); (try clear hb2); (try clear hk); (try clear hi); (try clear ho0); (try clear ho1); obtain ⟨Ao15, co15, eo15⟩ := Kd.R_slice HO284.out; subst eo15; obtain ⟨Ao16, co16, eo16⟩ := Kd.R_slice HO286.out; subst eo16) | ((with_reducible refine gate_callee (f := 22) rfl ?_); refine goesL_ (some 36) rfl rfl Try.func22 (by kernel_rfl) rfl #[.slice Ao15 t280.length co15, .int .i64 t281, .slice Ao16 t282.length co16] rfl (by (try simp only [List.map_toArray, List.map_cons, List.map_nil]); first | done | rfl | (simp only [List.length_drop, List.length_take]; rfl)) ?_; (with_reducible refine (impl_PutAt.calls _ _ t280 t281 _ _ t282 t287 t288 _ ?side1 ?side2 ?side3 ?side4 A5.out).mono ?_); (case side1 => repeat (first | exact (Kd.R_reads' HO284.out).2.2 | (with_reducible refine Kd.C_alloc ?_ _) | (with_reducible refine Kd.C_drewN ?_ _) | (with_reducible refine Kd.C_drew ?_))); (case side2 => exact (Kd.R_reads' HO284.out).2.1); (case side3 => repeat (first | exact (Kd.R_reads' HO286.out).2.2 | (with_reducible refine Kd.C_alloc ?_ _) | (with_reducible refine Kd.C_drewN ?_ _) | (with_reducible refine Kd.C_drew ?_))); (case side4 => exact (Kd.R_reads' HO286.out).2.1); rintro e w17 ⟨v289, rfl, ho0, hb⟩; refine ⟨_, rfl, ?_⟩; have n0_ := Aside0.mk (Kd.R_elder' (by (with_reducible repeat (first | apply Kd.R_alloc | apply Kd.R_drewN | apply Kd.R_drew)); exact HO284.out) (Kd.R_base ho0) hb); have n1_ := Aside0.mk (Kd.R_elder' (by (with_reducible repeat (first | apply Kd.R_alloc | apply Kd.R_drewN | apply Kd.R_drew)); exact HO286.out) (Kd.R_base ho0) hb); have n2_ := Aside0.mk (Kd.R_lower (Kd.R_new' (Kd.R_new' ho0 (Kd.R_lt (by (with_reducible repeat (first | apply Kd.R_alloc | apply Kd.R_drewN | apply Kd.R_drew)); exact HO284.out))) (Kd.R_lt (by (with_reducible repeat (first | apply Kd.R_alloc | apply Kd.R_drewN | apply Kd.R_drew)); exact HO286.out))) (below_size (by repeat (first | (with_reducible first | exact HB.out | apply below_alloc | apply pw_below_drewN | apply below_drew1) | exact HB.out)))); have n3_ := Aside0.mk (below_step (by repeat (first | (with_reducible first | exact HB.out | apply below_alloc | apply pw_below_drewN | apply below_drew1) | exact HB.out)) hb); clear HO284; clear HO286; clear HB; have HO284 := n0_; have HO286 := n1_; have HO290 := n2_; have HB := n3_; clear n0_ n1_ n2_ n3_; (try clear hb); (try clear hb2); (try clear hk); (try clear hi); (try clear ho0)) | ((with_reducible refine gate_callee (f := 21) rfl ?_); refine goesL_ (some 43) rfl rfl Try.func21 (by kernel_rfl) rfl #[.slice Ao15 t280.length co15, .int .i64 t281, .slice Ao16 t282.length co16] rfl (by (try simp only [List.map_toArray, List.map_cons, List.map_nil]); first | done | rfl | (simp only [List.length_drop, List.length_take]; rfl)) ?_; (with_reducible refine (spec_PutAt.calls k _ _ t280 t281 _ _ t282 t291 t292 _ ?side1 ?side2 ?side3 ?side4 A6.out).mono ?_); (case side1 => repeat (first | exact (Kd.R_reads' HO284.out).2.2 | (with_reducible refine Kd.C_alloc ?_ _) | (with_reducible refine Kd.C_drewN ?_ _) | (with_reducible refine Kd.C_drew ?_))); (case side2 => exact (Kd.R_reads' HO284.out).2.1); (case side3 => repeat (first | exact (Kd.R_reads' HO286.out).2.2 | (with_reducible refine Kd.C_alloc ?_ _) | (with_reducible refine Kd.C_drewN ?_ _) | (with_reducible refine Kd.C_drew ?_))); (case side4 => exact (Kd.R_reads' HO286.out).2.1); rintro e w18 ⟨v293, rfl, ho0, hb⟩; refine ⟨_, rfl, ?_⟩; have n0_ := Aside0.mk (Kd.R_elder' (by (with_reducible repeat (first | apply Kd.R_alloc | apply Kd.R_drewN | apply Kd.R_drew)); exact HO284.out) (Kd.R_base ho0) hb); have n1_ := Aside0.mk (Kd.R_elder' (by (with_reducible repeat (first | apply Kd.R_alloc | apply Kd.R_drewN | apply Kd.R_drew)); exact HO286.out) (Kd.R_base ho0) hb); have n2_ := Aside0.mk (Kd.R_elder' (by (with_reducible repeat (first | apply Kd.R_alloc | apply Kd.R_drewN | apply Kd.R_drew)); exact HO290.out) (Kd.R_base ho0) hb); have n3_ := Aside0.mk (Kd.R_lower (Kd.R_new' (Kd.R_new' (Kd.R_new' ho0 (Kd.R_lt (by (with_reducible repeat (first | apply Kd.R_alloc | apply Kd.R_drewN | apply Kd.R_drew)); exact HO284.out))) (Kd.R_lt (by (with_reducible repeat (first | apply Kd.R_alloc | apply Kd.R_drewN | apply Kd.R_drew)); exact HO286.out))) (Kd.R_lt (by (with_reducible repeat (first | apply Kd.R_alloc | apply Kd.R_drewN | apply Kd.R_drew)); exact HO290.out))) (below_size (by repeat (first | (with_reducible first | exact HB.out | apply below_alloc | apply pw_below_drewN | apply below_drew1) | exact HB.out)))); have n4_ := Aside0.mk (below_step (by repeat (first | (with_reducible first | exact HB.out | apply below_alloc | apply pw_below_drewN | apply below_drew1) | exact HB.out)) hb); clear HO284; clear HO286; clear HO290; clear HB; have HO284 := n0_; have HO286 := n1_; have HO290 := n2_; have HO294 := n3_; have HB := n4_; clear n0_ n1_ n2_ n3_ n4_; (try clear hb); (try clear hb2); (try clear hk); (try clear hi); (try clear ho0)) | ((with_reducible refine gate_callee (f := 35) rfl ?_); refine goesL_ (some 48) rfl rfl Try.func35 (by kernel_rfl) rfl #[.slice A0 l0.length c0] rfl (by (try simp only [List.map_toArray, List.map_cons, List.map_nil]); first | done | rfl | (simp only [List.length_drop, List.length_take]; rfl)) ?_; (with_reducible refine (spec_DrawGetAt.calls k _ _ l0 t295 t296 t297 _ ?side1 ?side2 A7.out).mono ?_); (case side1 => repeat (first | exact (Kd.C_below HR0.out HB.out) | (with_reducible refine Kd.C_alloc ?_ _) | (with_reducible refine Kd.C_drewN ?_ _) | (with_reducible refine Kd.C_drew ?_))); (case side2 => exact HC0.out); rintro e w19 ⟨v298, rfl, ho0, hb⟩; refine ⟨_, rfl, ?_⟩; have n0_ := Aside0.mk (Kd.R_elder' (by (with_reducible repeat (first | apply Kd.R_alloc | apply Kd.R_drewN | apply Kd.R_drew)); exact HO284.out) (Kd.R_base ho0) hb); have n1_ := Aside0.mk (Kd.R_elder' (by (with_reducible repeat (first | apply Kd.R_alloc | apply Kd.R_drewN | apply Kd.R_drew)); exact HO286.out) (Kd.R_base ho0) hb); have n2_ := Aside0.mk (Kd.R_elder' (by (with_reducible repeat (first | apply Kd.R_alloc | apply Kd.R_drewN | apply Kd.R_drew)); exact HO290.out) (Kd.R_base ho0) hb); have n3_ := Aside0.mk (Kd.R_elder' (by (with_reducible repeat (first | apply Kd.R_alloc | apply Kd.R_drewN | apply Kd.R_drew)); exact HO294.out) (Kd.R_base ho0) hb); have n4_ := Aside0.mk (Kd.R_lower (Kd.R_new' (Kd.R_new' (Kd.R_new' (Kd.R_new' ho0 (Kd.R_lt (by (with_reducible repeat (first | apply Kd.R_alloc | apply Kd.R_drewN | apply Kd.R_drew)); exact HO284.out))) (Kd.R_lt (by (with_reducible repeat (first | apply Kd.R_alloc | apply Kd.R_drewN | apply Kd.R_drew)); exact HO286.out))) (Kd.R_lt (by (with_reducible repeat (first | apply Kd.R_alloc | apply Kd.R_drewN | apply Kd.R_drew)); exact HO290.out))) (Kd.R_lt (by (with_reducible repeat (first | apply Kd.R_alloc | apply Kd.R_drewN | apply Kd.R_drew)); exact HO294.out))) (below_size (by repeat (first | (with_reducible first | exact HB.out | apply below_alloc | apply pw_below_drewN | apply below_drew1) | exact HB.out)))); have n5_ := Aside0.mk (below_step (by repeat (first | (with_reducible first | exact HB.out | apply below_alloc | apply pw_below_drewN | apply below_drew1) | exact HB.out)) hb); clear HO284; clear HO286; clear HO290; clear HO294; clear HB; have HO284 := n0_; have HO286 := n1_; have HO290 := n2_; have HO294 := n3_; have HO299 := n4_; have HB := n5_; clear n0_ n1_ n2_ n3_ n4_ n5_; (try clear hb); (try clear hb2); (try clear hk); (try clear hi); (try clear ho0); obtain ⟨Ao20, co20, eo20⟩ := Kd.R_slice HO299.out; subst eo20) | ((with_reducible refine gate_callee (f := 36) rfl ?_); refine goesL_ (some 56) rfl rfl Try.func36 (by kernel_rfl) rfl #[.slice Ao20 t295.length co20, .int .i64 t296, .int .i64 t297] rfl (by (try simp only [List.map_toArray, List.map_cons, List.map_nil]); first | done | rfl | (simp only [List.length_drop, List.length_take]; rfl)) ?_; (with_reducible refine (impl_GetAt.calls _ _ t295 t296 t297 t300 t301 _ ?side1 ?side2 A8.out).mono ?_); (case side1 => repeat (first | exact (Kd.R_reads' HO299.out).2.2 | (with_reducible refine Kd.C_alloc ?_ _) | (with_reducible refine Kd.C_drewN ?_ _) | (with_reducible refine Kd.C_drew ?_))); (case side2 => exact (Kd.R_reads' HO299.out).2.1); rintro e w21 ⟨v302, rfl, ho0, hb⟩; refine ⟨_, rfl, ?_⟩; have n0_ := Aside0.mk (Kd.R_elder' (by (with_reducible repeat (first | apply Kd.R_alloc | apply Kd.R_drewN | apply Kd.R_drew)); exact HO284.out) (Kd.R_base ho0) hb); have n1_ := Aside0.mk (Kd.R_elder' (by (with_reducible repeat (first | apply Kd.R_alloc | apply Kd.R_drewN | apply Kd.R_drew)); exact HO286.out) (Kd.R_base ho0) hb); have n2_ := Aside0.mk (Kd.R_elder' (by (with_reducible repeat (first | apply Kd.R_alloc | apply Kd.R_drewN | apply Kd.R_drew)); exact HO290.out) (Kd.R_base ho0) hb); have n3_ := Aside0.mk (Kd.R_elder' (by (with_reducible repeat (first | apply Kd.R_alloc | apply Kd.R_drewN | apply Kd.R_drew)); exact HO294.out) (Kd.R_base ho0) hb); have n4_ := Aside0.mk (Kd.R_elder' (by (with_reducible repeat (first | apply Kd.R_alloc | apply Kd.R_drewN | apply Kd.R_drew)); exact HO299.out) (Kd.R_base ho0) hb); have n5_ := Aside0.mk (Kd.R_lower (Kd.R_new' (Kd.R_new' (Kd.R_new' (Kd.R_new' (Kd.R_new' ho0 (Kd.R_lt (by (with_reducible repeat (first | apply Kd.R_alloc | apply Kd.R_drewN | apply Kd.R_drew)); exact HO284.out))) (Kd.R_lt (by (with_reducible repeat (first | apply Kd.R_alloc | apply Kd.R_drewN | apply Kd.R_drew)); exact HO286.out))) (Kd.R_lt (by (with_reducible repeat (first | apply Kd.R_alloc | apply Kd.R_drewN | apply Kd.R_drew)); exact HO290.out))) (Kd.R_lt (by (with_reducible repeat (first | apply Kd.R_alloc | apply Kd.R_drewN | apply Kd.R_drew)); exact HO294.out))) (Kd.R_lt (by (with_reducible repeat (first | apply Kd.R_alloc | apply Kd.R_drewN | apply Kd.R_drew)); exact HO299.out))) (below_size (by repeat (first | (with_reducible first | exact HB.out | apply below_alloc | apply pw_below_drewN | apply below_drew1) | exact HB.out)))); have n6_ := Aside0.mk (below_step (by repeat (first | (with_reducible first | exact HB.out | apply below_alloc | apply pw_below_drewN | apply below_drew1) | exact HB.out)) hb); clear HO284; clear HO286; clear HO290; clear HO294; clear HO299; clear HB; have HO284 := n0_; have HO286 := n1_; have HO290 := n2_; have HO294 := n3_; have HO299 := n4_; have HO303 := n5_; have HB := n6_; clear n0_ n1_ n2_ n3_ n4_ n5_ n6_; (try clear hb); (try clear hb2); (try clear hk); (try clear hi); (try clear ho0)) | ((with_reducible refine gate_callee (f := 37) rfl ?_); refine goesL_ (some 63) rfl rfl Try.func37 (by kernel_rfl) rfl #[.slice Ao20 t295.length co20, .int .i64 t296, .int .i64 t297] rfl (by (try simp only [List.map_toArray, List.map_cons, List.map_nil]); first | done | rfl | (simp only [List.length_drop, List.length_take]; rfl)) ?_; (with_reducible refine (spec_GetAt.calls _ _ t295 t296 t297 t304 t305 _ ?side1 ?side2 A9.out).mono ?_); (case side1 => repeat (first | exact (Kd.R_reads' HO299.out).2.2 | (with_reducible refine Kd.C_alloc ?_ _) | (with_reducible refine Kd.C_drewN ?_ _) | (with_reducible refine Kd.C_drew ?_))); (case side2 => exact (Kd.R_reads' HO299.out).2.1); rintro e w22 ⟨v306, rfl, ho0, hb⟩; refine ⟨_, rfl, ?_⟩; have n0_ := Aside0.mk (Kd.R_elder' (by (with_reducible repeat (first | apply Kd.R_alloc | apply Kd.R_drewN | apply Kd.R_drew)); exact HO284.out) (Kd.R_base ho0) hb); have n1_ := Aside0.mk (Kd.R_elder' (by (with_reducible repeat (first | apply Kd.R_alloc | apply Kd.R_drewN | apply Kd.R_drew)); exact HO286.out) (Kd.R_base ho0) hb); have n2_ := Aside0.mk (Kd.R_elder' (by (with_reducible repeat (first | apply Kd.R_alloc | apply Kd.R_drewN | apply Kd.R_drew)); exact HO290.out) (Kd.R_base ho0) hb); have n3_ := Aside0.mk (Kd.R_elder' (by (with_reducible repeat (first | apply Kd.R_alloc | apply Kd.R_drewN | apply Kd.R_drew)); exact HO294.out) (Kd.R_base ho0) hb); have n4_ := Aside0.mk (Kd.R_elder' (by (with_reducible repeat (first | apply Kd.R_alloc | apply Kd.R_drewN | apply Kd.R_drew)); exact HO299.out) (Kd.R_base ho0) hb); have n5_ := Aside0.mk (Kd.R_elder' (by (with_reducible repeat (first | apply Kd.R_alloc | apply Kd.R_drewN | apply Kd.R_drew)); exact HO303.out) (Kd.R_base ho0) hb); have n6_ := Aside0.mk (Kd.R_lower (Kd.R_new' (Kd.R_new' (Kd.R_new' (Kd.R_new' (Kd.R_new' (Kd.R_new' ho0 (Kd.R_lt (by (with_reducible repeat (first | apply Kd.R_alloc | apply Kd.R_drewN | apply Kd.R_drew)); exact HO284.out))) (Kd.R_lt (by (with_reducible repeat (first | apply Kd.R_alloc | apply Kd.R_drewN | apply Kd.R_drew)); exact HO286.out))) (Kd.R_lt (by (with_reducible repeat (first | apply Kd.R_alloc | apply Kd.R_drewN | apply Kd.R_drew)); exact HO290.out))) (Kd.R_lt (by (with_reducible repeat (first | apply Kd.R_alloc | apply Kd.R_drewN | apply Kd.R_drew)); exact HO294.out))) (Kd.R_lt (by (with_reducible repeat (first | apply Kd.R_alloc | apply Kd.R_drewN | apply Kd.R_drew)); exact HO299.out))) (Kd.R_lt (by (with_reducible repeat (first | apply Kd.R_alloc | apply Kd.R_drewN | apply Kd.R_drew)); exact HO303.out))) (below_size (by repeat (first | (with_reducible first | exact HB.out | apply below_alloc | apply pw_below_drewN | apply below_drew1) | exact HB.out)))); have n7_ := Aside0.mk (below_step (by repeat (first | (with_reducible first | exact HB.out | apply below_alloc | apply pw_below_drewN | apply below_drew1) | exact HB.out)) hb); clear HO284; clear HO286; clear HO290; clear HO294; clear HO299; clear HO303; clear HB; have HO284 := n0_; have HO286 := n1_; have HO290 := n2_; have HO294 := n3_; have HO299 := n4_; have HO303 := n5_; have HO307 := n6_; have HB := n7_; clear n0_ n1_ n2_ n3_ n4_ n5_ n6_ n7_; (try clear hb); (try clear hb2); (try clear hk); (try clear hi); (try clear ho0)) | ((with_reducible refine gate_callee (f := 38) rfl ?_); refine goesL_ (some 68) rfl rfl Try.func38 (by kernel_rfl) rfl #[.slice A0 l0.length c0] rfl (by (try simp only [List.map_toArray, List.map_cons, List.map_nil]); first | done | rfl | (simp only [List.length_drop, List.length_take]; rfl)) ?_; (with_reducible refine (spec_DrawWipe.calls k _ _ l0 t308 t309 t310 _ ?side1 ?side2 A10.out).mono ?_); (case side1 => repeat (first | exact (Kd.C_below HR0.out HB.out) | (with_reducible refine Kd.C_alloc ?_ _) | (with_reducible refine Kd.C_drewN ?_ _) | (with_reducible refine Kd.C_drew ?_))); (case side2 => exact HC0.out); rintro e w23 ⟨v311, rfl, ho0, hb⟩; refine ⟨_, rfl, ?_⟩; have n0_ := Aside0.mk (Kd.R_elder' (by (with_reducible repeat (first | apply Kd.R_alloc | apply Kd.R_drewN | apply Kd.R_drew)); exact HO284.out) (Kd.R_base ho0) hb); have n1_ := Aside0.mk (Kd.R_elder' (by (with_reducible repeat (first | apply Kd.R_alloc | apply Kd.R_drewN | apply Kd.R_drew)); exact HO286.out) (Kd.R_base ho0) hb); have n2_ := Aside0.mk (Kd.R_elder' (by (with_reducible repeat (first | apply Kd.R_alloc | apply Kd.R_drewN | apply Kd.R_drew)); exact HO290.out) (Kd.R_base ho0) hb); have n3_ := Aside0.mk (Kd.R_elder' (by (with_reducible repeat (first | apply Kd.R_alloc | apply Kd.R_drewN | apply Kd.R_drew)); exact HO294.out) (Kd.R_base ho0) hb); have n4_ := Aside0.mk (Kd.R_elder' (by (with_reducible repeat (first | apply Kd.R_alloc | apply Kd.R_drewN | apply Kd.R_drew)); exact HO299.out) (Kd.R_base ho0) hb); have n5_ := Aside0.mk (Kd.R_elder' (by (with_reducible repeat (first | apply Kd.R_alloc | apply Kd.R_drewN | apply Kd.R_drew)); exact HO303.out) (Kd.R_base ho0) hb); have n6_ := Aside0.mk (Kd.R_elder' (by (with_reducible repeat (first | apply Kd.R_alloc | apply Kd.R_drewN | apply Kd.R_drew)); exact HO307.out) (Kd.R_base ho0) hb); have n7_ := Aside0.mk (Kd.R_lower (Kd.R_new' (Kd.R_new' (Kd.R_new' (Kd.R_new' (Kd.R_new' (Kd.R_new' (Kd.R_new' ho0 (Kd.R_lt (by (with_reducible repeat (first | apply Kd.R_alloc | apply Kd.R_drewN | apply Kd.R_drew)); exact HO284.out))) (Kd.R_lt (by (with_reducible repeat (first | apply Kd.R_alloc | apply Kd.R_drewN | apply Kd.R_drew)); exact HO286.out))) (Kd.R_lt (by (with_reducible repeat (first | apply Kd.R_alloc | apply Kd.R_drewN | apply Kd.R_drew)); exact HO290.out))) (Kd.R_lt (by (with_reducible repeat (first | apply Kd.R_alloc | apply Kd.R_drewN | apply Kd.R_drew)); exact HO294.out))) (Kd.R_lt (by (with_reducible repeat (first | apply Kd.R_alloc | apply Kd.R_drewN | apply Kd.R_drew)); exact HO299.out))) (Kd.R_lt (by (with_reducible repeat (first | apply Kd.R_alloc | apply Kd.R_drewN | apply Kd.R_drew)); exact HO303.out))) (Kd.R_lt (by (with_reducible repeat (first | apply Kd.R_alloc | apply Kd.R_drewN | apply Kd.R_drew)); exact HO307.out))) (below_size (by repeat (first | (with_reducible first | exact HB.out | apply below_alloc | apply pw_below_drewN | apply below_drew1) | exact HB.out)))); have n8_ := Aside0.mk (below_step (by repeat (first | (with_reducible first | exact HB.out | apply below_alloc | apply pw_below_drewN | apply below_drew1) | exact HB.out)) hb); clear HO284; clear HO286; clear HO290; clear HO294; clear HO299; clear HO303; clear HO307; clear HB; have HO284 := n0_; have HO286 := n1_; have HO290 := n2_; have HO294 := n3_; have HO299 := n4_; have HO303 := n5_; have HO307 := n6_; have HO312 := n7_; have HB := n8_; clear n0_ n1_ n2_ n3_ n4_ n5_ n6_ n7_ n8_; (try clear hb); (try clear hb2); (try clear hk); (try clear hi); (try clear ho0); obtain ⟨Ao24, co24, eo24⟩ := Kd.R_slice HO312.out; subst eo24) | ((with_reducible refine gate_callee (f := 17) rfl ?_); refine goesL_ (some 75) rfl rfl Try.func17 (by kernel_rfl) rfl #[.slice Ao24 t308.length co24, .int .i64 t309, .int .i64 t310] rfl (by (try simp only [List.map_toArray, List.map_cons, List.map_nil]); first | done | rfl | (simp only [List.length_drop, List.length_take]; rfl)) ?_; (with_reducible refine (impl_Wipe.calls _ _ t308 t309 t310 t313 _ ?side1 ?side2 A11.out).mono ?_); (case side1 => repeat (first | exact (Kd.R_reads' HO312.out).2.2 | (with_reducible refine Kd.C_alloc ?_ _) | (with_reducible refine Kd.C_drewN ?_ _) | (with_reducible refine Kd.C_drew ?_))); (case side2 => exact (Kd.R_reads' HO312.out).2.1); rintro e w25 ⟨v314, rfl, ho0, hb⟩; refine ⟨_, rfl, ?_⟩; have n0_ := Aside0.mk (Kd.R_elder' (by (with_reducible repeat (first | apply Kd.R_alloc | apply Kd.R_drewN | apply Kd.R_drew)); exact HO284.out) (Kd.R_base ho0) hb); have n1_ := Aside0.mk (Kd.R_elder' (by (with_reducible repeat (first | apply Kd.R_alloc | apply Kd.R_drewN | apply Kd.R_drew)); exact HO286.out) (Kd.R_base ho0) hb); have n2_ := Aside0.mk (Kd.R_elder' (by (with_reducible repeat (first | apply Kd.R_alloc | apply Kd.R_drewN | apply Kd.R_drew)); exact HO290.out) (Kd.R_base ho0) hb); have n3_ := Aside0.mk (Kd.R_elder' (by (with_reducible repeat (first | apply Kd.R_alloc | apply Kd.R_drewN | apply Kd.R_drew)); exact HO294.out) (Kd.R_base ho0) hb); have n4_ := Aside0.mk (Kd.R_elder' (by (with_reducible repeat (first | apply Kd.R_alloc | apply Kd.R_drewN | apply Kd.R_drew)); exact HO299.out) (Kd.R_base ho0) hb); have n5_ := Aside0.mk (Kd.R_elder' (by (with_reducible repeat (first | apply Kd.R_alloc | apply Kd.R_drewN | apply Kd.R_drew)); exact HO303.out) (Kd.R_base ho0) hb); have n6_ := Aside0.mk (Kd.R_elder' (by (with_reducible repeat (first | apply Kd.R_alloc | apply Kd.R_drewN | apply Kd.R_drew)); exact HO307.out) (Kd.R_base ho0) hb); have n7_ := Aside0.mk (Kd.R_elder' (by (with_reducible repeat (first | apply Kd.R_alloc | apply Kd.R_drewN | apply Kd.R_drew)); exact HO312.out) (Kd.R_base ho0) hb); have n8_ := Aside0.mk (Kd.R_lower (Kd.R_new' (Kd.R_new' (Kd.R_new' (Kd.R_new' (Kd.R_new' (Kd.R_new' (Kd.R_new' (Kd.R_new' ho0 (Kd.R_lt (by (with_reducible repeat (first | apply Kd.R_alloc | apply Kd.R_drewN | apply Kd.R_drew)); exact HO284.out))) (Kd.R_lt (by (with_reducible repeat (first | apply Kd.R_alloc | apply Kd.R_drewN | apply Kd.R_drew)); exact HO286.out))) (Kd.R_lt (by (with_reducible repeat (first | apply Kd.R_alloc | apply Kd.R_drewN | apply Kd.R_drew)); exact HO290.out))) (Kd.R_lt (by (with_reducible repeat (first | apply Kd.R_alloc | apply Kd.R_drewN | apply Kd.R_drew)); exact HO294.out))) (Kd.R_lt (by (with_reducible repeat (first | apply Kd.R_alloc | apply Kd.R_drewN | apply Kd.R_drew)); exact HO299.out))) (Kd.R_lt (by (with_reducible repeat (first | apply Kd.R_alloc | apply Kd.R_drewN | apply Kd.R_drew)); exact HO303.out))) (Kd.R_lt (by (with_reducible repeat (first | apply Kd.R_alloc | apply Kd.R_drewN | apply Kd.R_drew)); exact HO307.out))) (Kd.R_lt (by (with_reducible repeat (first | apply Kd.R_alloc | apply Kd.R_drewN | apply Kd.R_drew)); exact HO312.out))) (below_size (by repeat (first | (with_reducible first | exact HB.out | apply below_alloc | apply pw_below_drewN | apply below_drew1) | exact HB.out)))); have n9_ := Aside0.mk (below_step (by repeat (first | (with_reducible first | exact HB.out | apply below_alloc | apply pw_below_drewN | apply below_drew1) | exact HB.out)) hb); clear HO284; clear HO286; clear HO290; clear HO294; clear HO299; clear HO303; clear HO307; clear HO312; clear HB; have HO284 := n0_; have HO286 := n1_; have HO290 := n2_; have HO294 := n3_; have HO299 := n4_; have HO303 := n5_; have HO307 := n6_; have HO312 := n7_; have HO315 := n8_; have HB := n9_; clear n0_ n1_ n2_ n3_ n4_ n5_ n6_ n7_ n8_ n9_; (try clear hb); (try clear hb2); (try clear hk); (try clear hi); (try clear ho0)) | ((with_reducible refine gate_callee (f := 39) rfl ?_); refine goesL_ (some 77) rfl rfl Try.func39 (by kernel_rfl) rfl #[.slice A0 l0.length c0] rfl (by (try simp only [List.map_toArray, List.map_cons, List.map_nil]); first | done | rfl | (simp only [List.length_drop, List.length_take]; rfl)) ?_; (with_reducible refine (spec_DrawZeros.calls k _ _ l0 t316 _ ?side1 ?side2 A12.out).mono ?_); (case side1 => repeat (first | exact (Kd.C_below HR0.out HB.out) | (with_reducible refine Kd.C_alloc ?_ _) | (with_reducible refine Kd.C_drewN ?_ _) | (with_reducible refine Kd.C_drew ?_))); (case side2 => exact HC0.out); rintro e w26 ⟨rfl, hb⟩; refine ⟨_, rfl, ?_⟩; have n0_ := Aside0.mk (Kd.R_below (by (with_reducible repeat (first | apply Kd.R_alloc | apply Kd.R_drewN | apply Kd.R_drew)); exact HO284.out) hb); have n1_ := Aside0.mk (Kd.R_below (by (with_reducible repeat (first | apply Kd.R_alloc | apply Kd.R_drewN | apply Kd.R_drew)); exact HO286.out) hb); have n2_ := Aside0.mk (Kd.R_below (by (with_reducible repeat (first | apply Kd.R_alloc | apply Kd.R_drewN | apply Kd.R_drew)); exact HO290.out) hb); have n3_ := Aside0.mk (Kd.R_below (by (with_reducible repeat (first | apply Kd.R_alloc | apply Kd.R_drewN | apply Kd.R_drew)); exact HO294.out) hb); have n4_ := Aside0.mk (Kd.R_below (by (with_reducible repeat (first | apply Kd.R_alloc | apply Kd.R_drewN | apply Kd.R_drew)); exact HO299.out) hb); have n5_ := Aside0.mk (Kd.R_below (by (with_reducible repeat (first | apply Kd.R_alloc | apply Kd.R_drewN | apply Kd.R_drew)); exact HO303.out) hb); have n6_ := Aside0.mk (Kd.R_below (by (with_reducible repeat (first | apply Kd.R_alloc | apply Kd.R_drewN | apply Kd.R_drew)); exact HO307.out) hb); have n7_ := Aside0.mk (Kd.R_below (by (with_reducible repeat (first | apply Kd.R_alloc | apply Kd.R_drewN | apply Kd.R_drew)); exact HO312.out) hb); have n8_ := Aside0.mk (Kd.R_below (by (with_reducible repeat (first | apply Kd.R_alloc | apply Kd.R_drewN | apply Kd.R_drew)); exact HO315.out) hb); have n9_ := Aside0.mk (below_step (by repeat (first | (with_reducible first | exact HB.out | apply below_alloc | apply pw_below_drewN | apply below_drew1) | exact HB.out)) hb); clear HO284; clear HO286; clear HO290; clear HO294; clear HO299; clear HO303; clear HO307; clear HO312; clear HO315; clear HB; have HO284 := n0_; have HO286 := n1_; have HO290 := n2_; have HO294 := n3_; have HO299 := n4_; have HO303 := n5_; have HO307 := n6_; have HO312 := n7_; have HO315 := n8_; have HB := n9_; clear n0_ n1_ n2_ n3_ n4_ n5_ n6_ n7_ n8_ n9_; (try clear hb); (try clear hb2); (try clear hk); (try clear hi)))
    (try simp only [Act.put, List.setIfInBounds_toArray, List.set_cons_zero, List.set_cons_succ])
    go_cut [120] (fun v120 wc => ∃ (kq : Nat) (x120_12 : Bool), v120 = .bool x120_12 ∧ Aside0 (laws_FnBytes.j0 kq t280 t281 t282 t287 t288 x120_12 = some r) ∧ Aside0 (kq ≤ k) ∧ Aside0 (Kd.R (Kd.int .u8) 5 wc w.heap.size (fun k_ => some k_ ≠ ((.slice Ao16 t282.length co16) : Value).ownBlock ∧ some k_ ≠ (v289 : Value).ownBlock) (.slice Ao15 t280.length co15) t280) ∧ Aside0 (Kd.R (Kd.int .u8) 5 wc w.heap.size (fun k_ => some k_ ≠ ((.slice Ao15 t280.length co15) : Value).ownBlock ∧ some k_ ≠ (v289 : Value).ownBlock) (.slice Ao16 t282.length co16) t282) ∧ Aside0 (Kd.R (Kd.int .u8) 5 wc w.heap.size (fun k_ => some k_ ≠ ((.slice Ao15 t280.length co15) : Value).ownBlock ∧ some k_ ≠ ((.slice Ao16 t282.length co16) : Value).ownBlock) v289 t287) ∧ Aside0 (Below w.heap.size w wc))
    case first =>
      have H := HC13.out
      clear HC13
      replace H := Option.bind_eq_some_iff.mp H
      obtain ⟨t317, A270, H⟩ := H
      replace H : (if t317 = true then (if (t288 != t292) = true then (none) else ((laws_same.f k t300 t304).bind fun t318 => (if t318 = true then (if (t301 != t305) = true then (none) else ((spec_Wipe.f k t308 t309 t310).bind fun t319 => ((laws_same.f k t313 t319).bind fun t322 => (if t322 = true then ((impl_Zeros.f t316).bind fun t323 => ((spec_Zeros.f t316).bind fun t326 => ((laws_same.f k t323 t326).bind fun t329 => (if t329 = true then ((impl_Zeros.f t316).bind fun t330 => ((impl_IsZero.f k t330).bind fun t333 => (laws_FnBytes.j0 k t280 t281 t282 t287 t288 (!t333)))) else (none))))) else (none))))) else (none)))) else (none)) = some r := H
      have A27 := Aside0.mk A270
      clear A270
      by_cases c28 : t317 = true
      · subst c28
        have H1 : (if (t288 != t292) = true then (none) else ((laws_same.f k t300 t304).bind fun t318 => (if t318 = true then (if (t301 != t305) = true then (none) else ((spec_Wipe.f k t308 t309 t310).bind fun t319 => ((laws_same.f k t313 t319).bind fun t322 => (if t322 = true then ((impl_Zeros.f t316).bind fun t323 => ((spec_Zeros.f t316).bind fun t326 => ((laws_same.f k t323 t326).bind fun t329 => (if t329 = true then ((impl_Zeros.f t316).bind fun t330 => ((impl_IsZero.f k t330).bind fun t333 => (laws_FnBytes.j0 k t280 t281 t282 t287 t288 (!t333)))) else (none))))) else (none))))) else (none)))) = some r := by rw [if_pos rfl] at H; exact H
        clear H
        have H := H1
        clear H1
        by_cases c29 : (t288 != t292) = true
        · rw [if_pos c29] at H
          exact absurd H (by simp)
        · rw [if_neg c29] at H
          have c29b0 : (t288 != t292) = false := by simpa using c29
          (try (have c29b1 : decide (t288 = t292) = true := by simpa using c29))
          (try (have c29b2 : (t288 == t292) = true := by simpa using c29))
          clear c29
          (first | rw [c29b0] | (simp only [i64_w, i32_w]; rw [c29b0]) | skip)
          replace H := Option.bind_eq_some_iff.mp H
          obtain ⟨t318, A300, H⟩ := H
          replace H : (if t318 = true then (if (t301 != t305) = true then (none) else ((spec_Wipe.f k t308 t309 t310).bind fun t319 => ((laws_same.f k t313 t319).bind fun t322 => (if t322 = true then ((impl_Zeros.f t316).bind fun t323 => ((spec_Zeros.f t316).bind fun t326 => ((laws_same.f k t323 t326).bind fun t329 => (if t329 = true then ((impl_Zeros.f t316).bind fun t330 => ((impl_IsZero.f k t330).bind fun t333 => (laws_FnBytes.j0 k t280 t281 t282 t287 t288 (!t333)))) else (none))))) else (none))))) else (none)) = some r := H
          have A30 := Aside0.mk A300
          clear A300
          by_cases c31 : t318 = true
          · subst c31
            have H1 : (if (t301 != t305) = true then (none) else ((spec_Wipe.f k t308 t309 t310).bind fun t319 => ((laws_same.f k t313 t319).bind fun t322 => (if t322 = true then ((impl_Zeros.f t316).bind fun t323 => ((spec_Zeros.f t316).bind fun t326 => ((laws_same.f k t323 t326).bind fun t329 => (if t329 = true then ((impl_Zeros.f t316).bind fun t330 => ((impl_IsZero.f k t330).bind fun t333 => (laws_FnBytes.j0 k t280 t281 t282 t287 t288 (!t333)))) else (none))))) else (none))))) = some r := by rw [if_pos rfl] at H; exact H
            clear H
            have H := H1
            clear H1
            by_cases c32 : (t301 != t305) = true
            · rw [if_pos c32] at H
              exact absurd H (by simp)
            · rw [if_neg c32] at H
              have c32b0 : (t301 != t305) = false := by simpa using c32
              (try (have c32b1 : decide (t301 = t305) = true := by simpa using c32))
              (try (have c32b2 : (t301 == t305) = true := by simpa using c32))
              clear c32
              replace H := Option.bind_eq_some_iff.mp H
              obtain ⟨t319, A330, H⟩ := H
              replace H : ((laws_same.f k t313 t319).bind fun t322 => (if t322 = true then ((impl_Zeros.f t316).bind fun t323 => ((spec_Zeros.f t316).bind fun t326 => ((laws_same.f k t323 t326).bind fun t329 => (if t329 = true then ((impl_Zeros.f t316).bind fun t330 => ((impl_IsZero.f k t330).bind fun t333 => (laws_FnBytes.j0 k t280 t281 t282 t287 t288 (!t333)))) else (none))))) else (none))) = some r := H
              have A33 := Aside0.mk A330
              clear A330
              replace H := Option.bind_eq_some_iff.mp H
              obtain ⟨t322, A340, H⟩ := H
              replace H : (if t322 = true then ((impl_Zeros.f t316).bind fun t323 => ((spec_Zeros.f t316).bind fun t326 => ((laws_same.f k t323 t326).bind fun t329 => (if t329 = true then ((impl_Zeros.f t316).bind fun t330 => ((impl_IsZero.f k t330).bind fun t333 => (laws_FnBytes.j0 k t280 t281 t282 t287 t288 (!t333)))) else (none))))) else (none)) = some r := H
              have A34 := Aside0.mk A340
              clear A340
              by_cases c35 : t322 = true
              · subst c35
                have H1 : ((impl_Zeros.f t316).bind fun t323 => ((spec_Zeros.f t316).bind fun t326 => ((laws_same.f k t323 t326).bind fun t329 => (if t329 = true then ((impl_Zeros.f t316).bind fun t330 => ((impl_IsZero.f k t330).bind fun t333 => (laws_FnBytes.j0 k t280 t281 t282 t287 t288 (!t333)))) else (none))))) = some r := by rw [if_pos rfl] at H; exact H
                clear H
                have H := H1
                clear H1
                replace H := Option.bind_eq_some_iff.mp H
                obtain ⟨t323, A360, H⟩ := H
                replace H : ((spec_Zeros.f t316).bind fun t326 => ((laws_same.f k t323 t326).bind fun t329 => (if t329 = true then ((impl_Zeros.f t316).bind fun t330 => ((impl_IsZero.f k t330).bind fun t333 => (laws_FnBytes.j0 k t280 t281 t282 t287 t288 (!t333)))) else (none)))) = some r := H
                have A36 := Aside0.mk A360
                clear A360
                replace H := Option.bind_eq_some_iff.mp H
                obtain ⟨t326, A370, H⟩ := H
                replace H : ((laws_same.f k t323 t326).bind fun t329 => (if t329 = true then ((impl_Zeros.f t316).bind fun t330 => ((impl_IsZero.f k t330).bind fun t333 => (laws_FnBytes.j0 k t280 t281 t282 t287 t288 (!t333)))) else (none))) = some r := H
                have A37 := Aside0.mk A370
                clear A370
                replace H := Option.bind_eq_some_iff.mp H
                obtain ⟨t329, A380, H⟩ := H
                replace H : (if t329 = true then ((impl_Zeros.f t316).bind fun t330 => ((impl_IsZero.f k t330).bind fun t333 => (laws_FnBytes.j0 k t280 t281 t282 t287 t288 (!t333)))) else (none)) = some r := H
                have A38 := Aside0.mk A380
                clear A380
                by_cases c39 : t329 = true
                · subst c39
                  have H1 : ((impl_Zeros.f t316).bind fun t330 => ((impl_IsZero.f k t330).bind fun t333 => (laws_FnBytes.j0 k t280 t281 t282 t287 t288 (!t333)))) = some r := by rw [if_pos rfl] at H; exact H
                  clear H
                  have H := H1
                  clear H1
                  replace H := Option.bind_eq_some_iff.mp H
                  obtain ⟨t330, A400, H⟩ := H
                  replace H : ((impl_IsZero.f k t330).bind fun t333 => (laws_FnBytes.j0 k t280 t281 t282 t287 t288 (!t333))) = some r := H
                  have A40 := Aside0.mk A400
                  clear A400
                  replace H := Option.bind_eq_some_iff.mp H
                  obtain ⟨t333, A410, H⟩ := H
                  replace H : (laws_FnBytes.j0 k t280 t281 t282 t287 t288 (!t333)) = some r := H
                  have A41 := Aside0.mk A410
                  clear A410
                  have H' := Aside0.mk H
                  clear H
                  obtain ⟨Ao42, co42, eo42⟩ := Kd.R_slice HO290.out
                  subst eo42
                  obtain ⟨Ao43, co43, eo43⟩ := Kd.R_slice HO294.out
                  subst eo43
                  go_wp2_with (first | ((with_reducible refine gate_callee (f := 31) rfl ?_); refine goesL_ (some 80) rfl rfl Try.func31 (by kernel_rfl) rfl #[.slice Ao42 t287.length co42, .slice Ao43 t291.length co43] rfl (by (try simp only [List.map_toArray, List.map_cons, List.map_nil]); first | done | rfl | (simp only [List.length_drop, List.length_take]; rfl)) ?_; (with_reducible refine (laws_same.calls k _ _ t287 _ _ t291 true _ ?side1 ?side2 ?side3 ?side4 A27.out).mono ?_); (case side1 => repeat (first | exact (Kd.R_reads' HO290.out).2.2 | (with_reducible refine Kd.C_alloc ?_ _) | (with_reducible refine Kd.C_drewN ?_ _) | (with_reducible refine Kd.C_drew ?_))); (case side2 => exact (Kd.R_reads' HO290.out).2.1); (case side3 => repeat (first | exact (Kd.R_reads' HO294.out).2.2 | (with_reducible refine Kd.C_alloc ?_ _) | (with_reducible refine Kd.C_drewN ?_ _) | (with_reducible refine Kd.C_drew ?_))); (case side4 => exact (Kd.R_reads' HO294.out).2.1); rintro e w' ⟨rfl, ⟨nd, rfl⟩⟩; refine ⟨_, rfl, ?_⟩; obtain ⟨Ao44, co44, eo44⟩ := Kd.R_slice HO303.out; subst eo44; obtain ⟨Ao45, co45, eo45⟩ := Kd.R_slice HO307.out; subst eo45) | (go_at_call 31; (with_reducible refine (laws_same.calls k _ _ t300 _ _ t304 true _ ?side1 ?side2 ?side3 ?side4 A30.out).mono ?_); (case side1 => repeat (first | exact (Kd.R_reads' HO303.out).2.2 | (with_reducible refine Kd.C_alloc ?_ _) | (with_reducible refine Kd.C_drewN ?_ _) | (with_reducible refine Kd.C_drew ?_))); (case side2 => exact (Kd.R_reads' HO303.out).2.1); (case side3 => repeat (first | exact (Kd.R_reads' HO307.out).2.2 | (with_reducible refine Kd.C_alloc ?_ _) | (with_reducible refine Kd.C_drewN ?_ _) | (with_reducible refine Kd.C_drew ?_))); (case side4 => exact (Kd.R_reads' HO307.out).2.1); rintro e w' ⟨rfl, ⟨nd, rfl⟩⟩; clear A30) | (go_at_call 15; (with_reducible refine (spec_Wipe.calls k _ _ t308 t309 t310 t319 _ ?side1 ?side2 A33.out).mono ?_); (case side1 => repeat (first | exact (Kd.R_reads' HO312.out).2.2 | (with_reducible refine Kd.C_alloc ?_ _) | (with_reducible refine Kd.C_drewN ?_ _) | (with_reducible refine Kd.C_drew ?_))); (case side2 => exact (Kd.R_reads' HO312.out).2.1); rintro e w46 ⟨v320, rfl, ho0, hb⟩; have n0_ := Aside0.mk (Kd.R_elder' (by (with_reducible repeat (first | apply Kd.R_alloc | apply Kd.R_drewN | apply Kd.R_drew)); exact HO284.out) (Kd.R_base ho0) hb); have n1_ := Aside0.mk (Kd.R_elder' (by (with_reducible repeat (first | apply Kd.R_alloc | apply Kd.R_drewN | apply Kd.R_drew)); exact HO286.out) (Kd.R_base ho0) hb); have n2_ := Aside0.mk (Kd.R_elder' (by (with_reducible repeat (first | apply Kd.R_alloc | apply Kd.R_drewN | apply Kd.R_drew)); exact HO290.out) (Kd.R_base ho0) hb); have n3_ := Aside0.mk (Kd.R_elder' (by (with_reducible repeat (first | apply Kd.R_alloc | apply Kd.R_drewN | apply Kd.R_drew)); exact HO294.out) (Kd.R_base ho0) hb); have n4_ := Aside0.mk (Kd.R_elder' (by (with_reducible repeat (first | apply Kd.R_alloc | apply Kd.R_drewN | apply Kd.R_drew)); exact HO299.out) (Kd.R_base ho0) hb); have n5_ := Aside0.mk (Kd.R_elder' (by (with_reducible repeat (first | apply Kd.R_alloc | apply Kd.R_drewN | apply Kd.R_drew)); exact HO303.out) (Kd.R_base ho0) hb); have n6_ := Aside0.mk (Kd.R_elder' (by (with_reducible repeat (first | apply Kd.R_alloc | apply Kd.R_drewN | apply Kd.R_drew)); exact HO307.out) (Kd.R_base ho0) hb); have n7_ := Aside0.mk (Kd.R_elder' (by (with_reducible repeat (first | apply Kd.R_alloc | apply Kd.R_drewN | apply Kd.R_drew)); exact HO312.out) (Kd.R_base ho0) hb); have n8_ := Aside0.mk (Kd.R_elder' (by (with_reducible repeat (first | apply Kd.R_alloc | apply Kd.R_drewN | apply Kd.R_drew)); exact HO315.out) (Kd.R_base ho0) hb); have n9_ := Aside0.mk (Kd.R_lower (Kd.R_new' (Kd.R_new' (Kd.R_new' (Kd.R_new' (Kd.R_new' (Kd.R_new' (Kd.R_new' (Kd.R_new' (Kd.R_new' ho0 (Kd.R_lt (by (with_reducible repeat (first | apply Kd.R_alloc | apply Kd.R_drewN | apply Kd.R_drew)); exact HO284.out))) (Kd.R_lt (by (with_reducible repeat (first | apply Kd.R_alloc | apply Kd.R_drewN | apply Kd.R_drew)); exact HO286.out))) (Kd.R_lt (by (with_reducible repeat (first | apply Kd.R_alloc | apply Kd.R_drewN | apply Kd.R_drew)); exact HO290.out))) (Kd.R_lt (by (with_reducible repeat (first | apply Kd.R_alloc | apply Kd.R_drewN | apply Kd.R_drew)); exact HO294.out))) (Kd.R_lt (by (with_reducible repeat (first | apply Kd.R_alloc | apply Kd.R_drewN | apply Kd.R_drew)); exact HO299.out))) (Kd.R_lt (by (with_reducible repeat (first | apply Kd.R_alloc | apply Kd.R_drewN | apply Kd.R_drew)); exact HO303.out))) (Kd.R_lt (by (with_reducible repeat (first | apply Kd.R_alloc | apply Kd.R_drewN | apply Kd.R_drew)); exact HO307.out))) (Kd.R_lt (by (with_reducible repeat (first | apply Kd.R_alloc | apply Kd.R_drewN | apply Kd.R_drew)); exact HO312.out))) (Kd.R_lt (by (with_reducible repeat (first | apply Kd.R_alloc | apply Kd.R_drewN | apply Kd.R_drew)); exact HO315.out))) (below_size (by repeat (first | (with_reducible first | exact HB.out | apply below_alloc | apply pw_below_drewN | apply below_drew1) | exact HB.out)))); have n10_ := Aside0.mk (below_step (by repeat (first | (with_reducible first | exact HB.out | apply below_alloc | apply pw_below_drewN | apply below_drew1) | exact HB.out)) hb); clear HO284; clear HO286; clear HO290; clear HO294; clear HO299; clear HO303; clear HO307; clear HO312; clear HO315; clear HB; have HO284 := n0_; have HO286 := n1_; have HO290 := n2_; have HO294 := n3_; have HO299 := n4_; have HO303 := n5_; have HO307 := n6_; have HO312 := n7_; have HO315 := n8_; have HO321 := n9_; have HB := n10_; clear n0_ n1_ n2_ n3_ n4_ n5_ n6_ n7_ n8_ n9_ n10_; (try clear hb); (try clear hb2); (try clear hk); (try clear hi); (try clear ho0); obtain ⟨Ao47, co47, eo47⟩ := Kd.R_slice HO315.out; subst eo47; obtain ⟨Ao48, co48, eo48⟩ := Kd.R_slice HO321.out; subst eo48) | (go_at_call 31; (with_reducible refine (laws_same.calls k _ _ t313 _ _ t319 true _ ?side1 ?side2 ?side3 ?side4 A34.out).mono ?_); (case side1 => repeat (first | exact (Kd.R_reads' HO315.out).2.2 | (with_reducible refine Kd.C_alloc ?_ _) | (with_reducible refine Kd.C_drewN ?_ _) | (with_reducible refine Kd.C_drew ?_))); (case side2 => exact (Kd.R_reads' HO315.out).2.1); (case side3 => repeat (first | exact (Kd.R_reads' HO321.out).2.2 | (with_reducible refine Kd.C_alloc ?_ _) | (with_reducible refine Kd.C_drewN ?_ _) | (with_reducible refine Kd.C_drew ?_))); (case side4 => exact (Kd.R_reads' HO321.out).2.1); rintro e w' ⟨rfl, ⟨nd, rfl⟩⟩; clear A34) | (go_at_call 40; (with_reducible refine (impl_Zeros.calls t316 t323 _ A36.out).mono ?_); rintro e w49 ⟨v324, rfl, ho0, hb⟩; have n0_ := Aside0.mk (Kd.R_elder' (by (with_reducible repeat (first | apply Kd.R_alloc | apply Kd.R_drewN | apply Kd.R_drew)); exact HO284.out) (Kd.R_base ho0) hb); have n1_ := Aside0.mk (Kd.R_elder' (by (with_reducible repeat (first | apply Kd.R_alloc | apply Kd.R_drewN | apply Kd.R_drew)); exact HO286.out) (Kd.R_base ho0) hb); have n2_ := Aside0.mk (Kd.R_elder' (by (with_reducible repeat (first | apply Kd.R_alloc | apply Kd.R_drewN | apply Kd.R_drew)); exact HO290.out) (Kd.R_base ho0) hb); have n3_ := Aside0.mk (Kd.R_elder' (by (with_reducible repeat (first | apply Kd.R_alloc | apply Kd.R_drewN | apply Kd.R_drew)); exact HO294.out) (Kd.R_base ho0) hb); have n4_ := Aside0.mk (Kd.R_elder' (by (with_reducible repeat (first | apply Kd.R_alloc | apply Kd.R_drewN | apply Kd.R_drew)); exact HO299.out) (Kd.R_base ho0) hb); have n5_ := Aside0.mk (Kd.R_elder' (by (with_reducible repeat (first | apply Kd.R_alloc | apply Kd.R_drewN | apply Kd.R_drew)); exact HO303.out) (Kd.R_base ho0) hb); have n6_ := Aside0.mk (Kd.R_elder' (by (with_reducible repeat (first | apply Kd.R_alloc | apply Kd.R_drewN | apply Kd.R_drew)); exact HO307.out) (Kd.R_base ho0) hb); have n7_ := Aside0.mk (Kd.R_elder' (by (with_reducible repeat (first | apply Kd.R_alloc | apply Kd.R_drewN | apply Kd.R_drew)); exact HO312.out) (Kd.R_base ho0) hb); have n8_ := Aside0.mk (Kd.R_elder' (by (with_reducible repeat (first | apply Kd.R_alloc | apply Kd.R_drewN | apply Kd.R_drew)); exact HO315.out) (Kd.R_base ho0) hb); have n9_ := Aside0.mk (Kd.R_elder' (by (with_reducible repeat (first | apply Kd.R_alloc | apply Kd.R_drewN | apply Kd.R_drew)); exact HO321.out) (Kd.R_base ho0) hb); have n10_ := Aside0.mk (Kd.R_lower (Kd.R_new' (Kd.R_new' (Kd.R_new' (Kd.R_new' (Kd.R_new' (Kd.R_new' (Kd.R_new' (Kd.R_new' (Kd.R_new' (Kd.R_new' ho0 (Kd.R_lt (by (with_reducible repeat (first | apply Kd.R_alloc | apply Kd.R_drewN | apply Kd.R_drew)); exact HO284.out))) (Kd.R_lt (by (with_reducible repeat (first | apply Kd.R_alloc | apply Kd.R_drewN | apply Kd.R_drew)); exact HO286.out))) (Kd.R_lt (by (with_reducible repeat (first | apply Kd.R_alloc | apply Kd.R_drewN | apply Kd.R_drew)); exact HO290.out))) (Kd.R_lt (by (with_reducible repeat (first | apply Kd.R_alloc | apply Kd.R_drewN | apply Kd.R_drew)); exact HO294.out))) (Kd.R_lt (by (with_reducible repeat (first | apply Kd.R_alloc | apply Kd.R_drewN | apply Kd.R_drew)); exact HO299.out))) (Kd.R_lt (by (with_reducible repeat (first | apply Kd.R_alloc | apply Kd.R_drewN | apply Kd.R_drew)); exact HO303.out))) (Kd.R_lt (by (with_reducible repeat (first | apply Kd.R_alloc | apply Kd.R_drewN | apply Kd.R_drew)); exact HO307.out))) (Kd.R_lt (by (with_reducible repeat (first | apply Kd.R_alloc | apply Kd.R_drewN | apply Kd.R_drew)); exact HO312.out))) (Kd.R_lt (by (with_reducible repeat (first | apply Kd.R_alloc | apply Kd.R_drewN | apply Kd.R_drew)); exact HO315.out))) (Kd.R_lt (by (with_reducible repeat (first | apply Kd.R_alloc | apply Kd.R_drewN | apply Kd.R_drew)); exact HO321.out))) (below_size (by repeat (first | (with_reducible first | exact HB.out | apply below_alloc | apply pw_below_drewN | apply below_drew1) | exact HB.out)))); have n11_ := Aside0.mk (below_step (by repeat (first | (with_reducible first | exact HB.out | apply below_alloc | apply pw_below_drewN | apply below_drew1) | exact HB.out)) hb); clear HO284; clear HO286; clear HO290; clear HO294; clear HO299; clear HO303; clear HO307; clear HO312; clear HO315; clear HO321; clear HB; have HO284 := n0_; have HO286 := n1_; have HO290 := n2_; have HO294 := n3_; have HO299 := n4_; have HO303 := n5_; have HO307 := n6_; have HO312 := n7_; have HO315 := n8_; have HO321 := n9_; have HO325 := n10_; have HB := n11_; clear n0_ n1_ n2_ n3_ n4_ n5_ n6_ n7_ n8_ n9_ n10_ n11_; (try clear hb); (try clear hb2); (try clear hk); (try clear hi); (try clear ho0); clear A36) | (go_at_call 41; (with_reducible refine (spec_Zeros.calls t316 t326 _ A37.out).mono ?_); rintro e w50 ⟨v327, rfl, ho0, hb⟩; have n0_ := Aside0.mk (Kd.R_elder' (by (with_reducible repeat (first | apply Kd.R_alloc | apply Kd.R_drewN | apply Kd.R_drew)); exact HO284.out) (Kd.R_base ho0) hb); have n1_ := Aside0.mk (Kd.R_elder' (by (with_reducible repeat (first | apply Kd.R_alloc | apply Kd.R_drewN | apply Kd.R_drew)); exact HO286.out) (Kd.R_base ho0) hb); have n2_ := Aside0.mk (Kd.R_elder' (by (with_reducible repeat (first | apply Kd.R_alloc | apply Kd.R_drewN | apply Kd.R_drew)); exact HO290.out) (Kd.R_base ho0) hb); have n3_ := Aside0.mk (Kd.R_elder' (by (with_reducible repeat (first | apply Kd.R_alloc | apply Kd.R_drewN | apply Kd.R_drew)); exact HO294.out) (Kd.R_base ho0) hb); have n4_ := Aside0.mk (Kd.R_elder' (by (with_reducible repeat (first | apply Kd.R_alloc | apply Kd.R_drewN | apply Kd.R_drew)); exact HO299.out) (Kd.R_base ho0) hb); have n5_ := Aside0.mk (Kd.R_elder' (by (with_reducible repeat (first | apply Kd.R_alloc | apply Kd.R_drewN | apply Kd.R_drew)); exact HO303.out) (Kd.R_base ho0) hb); have n6_ := Aside0.mk (Kd.R_elder' (by (with_reducible repeat (first | apply Kd.R_alloc | apply Kd.R_drewN | apply Kd.R_drew)); exact HO307.out) (Kd.R_base ho0) hb); have n7_ := Aside0.mk (Kd.R_elder' (by (with_reducible repeat (first | apply Kd.R_alloc | apply Kd.R_drewN | apply Kd.R_drew)); exact HO312.out) (Kd.R_base ho0) hb); have n8_ := Aside0.mk (Kd.R_elder' (by (with_reducible repeat (first | apply Kd.R_alloc | apply Kd.R_drewN | apply Kd.R_drew)); exact HO315.out) (Kd.R_base ho0) hb); have n9_ := Aside0.mk (Kd.R_elder' (by (with_reducible repeat (first | apply Kd.R_alloc | apply Kd.R_drewN | apply Kd.R_drew)); exact HO321.out) (Kd.R_base ho0) hb); have n10_ := Aside0.mk (Kd.R_elder' (by (with_reducible repeat (first | apply Kd.R_alloc | apply Kd.R_drewN | apply Kd.R_drew)); exact HO325.out) (Kd.R_base ho0) hb); have n11_ := Aside0.mk (Kd.R_lower (Kd.R_new' (Kd.R_new' (Kd.R_new' (Kd.R_new' (Kd.R_new' (Kd.R_new' (Kd.R_new' (Kd.R_new' (Kd.R_new' (Kd.R_new' (Kd.R_new' ho0 (Kd.R_lt (by (with_reducible repeat (first | apply Kd.R_alloc | apply Kd.R_drewN | apply Kd.R_drew)); exact HO284.out))) (Kd.R_lt (by (with_reducible repeat (first | apply Kd.R_alloc | apply Kd.R_drewN | apply Kd.R_drew)); exact HO286.out))) (Kd.R_lt (by (with_reducible repeat (first | apply Kd.R_alloc | apply Kd.R_drewN | apply Kd.R_drew)); exact HO290.out))) (Kd.R_lt (by (with_reducible repeat (first | apply Kd.R_alloc | apply Kd.R_drewN | apply Kd.R_drew)); exact HO294.out))) (Kd.R_lt (by (with_reducible repeat (first | apply Kd.R_alloc | apply Kd.R_drewN | apply Kd.R_drew)); exact HO299.out))) (Kd.R_lt (by (with_reducible repeat (first | apply Kd.R_alloc | apply Kd.R_drewN | apply Kd.R_drew)); exact HO303.out))) (Kd.R_lt (by (with_reducible repeat (first | apply Kd.R_alloc | apply Kd.R_drewN | apply Kd.R_drew)); exact HO307.out))) (Kd.R_lt (by (with_reducible repeat (first | apply Kd.R_alloc | apply Kd.R_drewN | apply Kd.R_drew)); exact HO312.out))) (Kd.R_lt (by (with_reducible repeat (first | apply Kd.R_alloc | apply Kd.R_drewN | apply Kd.R_drew)); exact HO315.out))) (Kd.R_lt (by (with_reducible repeat (first | apply Kd.R_alloc | apply Kd.R_drewN | apply Kd.R_drew)); exact HO321.out))) (Kd.R_lt (by (with_reducible repeat (first | apply Kd.R_alloc | apply Kd.R_drewN | apply Kd.R_drew)); exact HO325.out))) (below_size (by repeat (first | (with_reducible first | exact HB.out | apply below_alloc | apply pw_below_drewN | apply below_drew1) | exact HB.out)))); have n12_ := Aside0.mk (below_step (by repeat (first | (with_reducible first | exact HB.out | apply below_alloc | apply pw_below_drewN | apply below_drew1) | exact HB.out)) hb); clear HO284; clear HO286; clear HO290; clear HO294; clear HO299; clear HO303; clear HO307; clear HO312; clear HO315; clear HO321; clear HO325; clear HB; have HO284 := n0_; have HO286 := n1_; have HO290 := n2_; have HO294 := n3_; have HO299 := n4_; have HO303 := n5_; have HO307 := n6_; have HO312 := n7_; have HO315 := n8_; have HO321 := n9_; have HO325 := n10_; have HO328 := n11_; have HB := n12_; clear n0_ n1_ n2_ n3_ n4_ n5_ n6_ n7_ n8_ n9_ n10_ n11_ n12_; (try clear hb); (try clear hb2); (try clear hk); (try clear hi); (try clear ho0); obtain ⟨Ao51, co51, eo51⟩ := Kd.R_slice HO325.out; subst eo51; obtain ⟨Ao52, co52, eo52⟩ := Kd.R_slice HO328.out; subst eo52) | (go_at_call 31; (with_reducible refine (laws_same.calls k _ _ t323 _ _ t326 true _ ?side1 ?side2 ?side3 ?side4 A38.out).mono ?_); (case side1 => repeat (first | exact (Kd.R_reads' HO325.out).2.2 | (with_reducible refine Kd.C_alloc ?_ _) | (with_reducible refine Kd.C_drewN ?_ _) | (with_reducible refine Kd.C_drew ?_))); (case side2 => exact (Kd.R_reads' HO325.out).2.1); (case side3 => repeat (first | exact (Kd.R_reads' HO328.out).2.2 | (with_reducible refine Kd.C_alloc ?_ _) | (with_reducible refine Kd.C_drewN ?_ _) | (with_reducible refine Kd.C_drew ?_))); (case side4 => exact (Kd.R_reads' HO328.out).2.1); rintro e w' ⟨rfl, ⟨nd, rfl⟩⟩; clear A38) | (go_at_call 40; (with_reducible refine (impl_Zeros.calls t316 t330 _ A40.out).mono ?_); rintro e w53 ⟨v331, rfl, ho0, hb⟩; have n0_ := Aside0.mk (Kd.R_elder' (by (with_reducible repeat (first | apply Kd.R_alloc | apply Kd.R_drewN | apply Kd.R_drew)); exact HO284.out) (Kd.R_base ho0) hb); have n1_ := Aside0.mk (Kd.R_elder' (by (with_reducible repeat (first | apply Kd.R_alloc | apply Kd.R_drewN | apply Kd.R_drew)); exact HO286.out) (Kd.R_base ho0) hb); have n2_ := Aside0.mk (Kd.R_elder' (by (with_reducible repeat (first | apply Kd.R_alloc | apply Kd.R_drewN | apply Kd.R_drew)); exact HO290.out) (Kd.R_base ho0) hb); have n3_ := Aside0.mk (Kd.R_elder' (by (with_reducible repeat (first | apply Kd.R_alloc | apply Kd.R_drewN | apply Kd.R_drew)); exact HO294.out) (Kd.R_base ho0) hb); have n4_ := Aside0.mk (Kd.R_elder' (by (with_reducible repeat (first | apply Kd.R_alloc | apply Kd.R_drewN | apply Kd.R_drew)); exact HO299.out) (Kd.R_base ho0) hb); have n5_ := Aside0.mk (Kd.R_elder' (by (with_reducible repeat (first | apply Kd.R_alloc | apply Kd.R_drewN | apply Kd.R_drew)); exact HO303.out) (Kd.R_base ho0) hb); have n6_ := Aside0.mk (Kd.R_elder' (by (with_reducible repeat (first | apply Kd.R_alloc | apply Kd.R_drewN | apply Kd.R_drew)); exact HO307.out) (Kd.R_base ho0) hb); have n7_ := Aside0.mk (Kd.R_elder' (by (with_reducible repeat (first | apply Kd.R_alloc | apply Kd.R_drewN | apply Kd.R_drew)); exact HO312.out) (Kd.R_base ho0) hb); have n8_ := Aside0.mk (Kd.R_elder' (by (with_reducible repeat (first | apply Kd.R_alloc | apply Kd.R_drewN | apply Kd.R_drew)); exact HO315.out) (Kd.R_base ho0) hb); have n9_ := Aside0.mk (Kd.R_elder' (by (with_reducible repeat (first | apply Kd.R_alloc | apply Kd.R_drewN | apply Kd.R_drew)); exact HO321.out) (Kd.R_base ho0) hb); have n10_ := Aside0.mk (Kd.R_elder' (by (with_reducible repeat (first | apply Kd.R_alloc | apply Kd.R_drewN | apply Kd.R_drew)); exact HO325.out) (Kd.R_base ho0) hb); have n11_ := Aside0.mk (Kd.R_elder' (by (with_reducible repeat (first | apply Kd.R_alloc | apply Kd.R_drewN | apply Kd.R_drew)); exact HO328.out) (Kd.R_base ho0) hb); have n12_ := Aside0.mk (Kd.R_lower (Kd.R_new' (Kd.R_new' (Kd.R_new' (Kd.R_new' (Kd.R_new' (Kd.R_new' (Kd.R_new' (Kd.R_new' (Kd.R_new' (Kd.R_new' (Kd.R_new' (Kd.R_new' ho0 (Kd.R_lt (by (with_reducible repeat (first | apply Kd.R_alloc | apply Kd.R_drewN | apply Kd.R_drew)); exact HO284.out))) (Kd.R_lt (by (with_reducible repeat (first | apply Kd.R_alloc | apply Kd.R_drewN | apply Kd.R_drew)); exact HO286.out))) (Kd.R_lt (by (with_reducible repeat (first | apply Kd.R_alloc | apply Kd.R_drewN | apply Kd.R_drew)); exact HO290.out))) (Kd.R_lt (by (with_reducible repeat (first | apply Kd.R_alloc | apply Kd.R_drewN | apply Kd.R_drew)); exact HO294.out))) (Kd.R_lt (by (with_reducible repeat (first | apply Kd.R_alloc | apply Kd.R_drewN | apply Kd.R_drew)); exact HO299.out))) (Kd.R_lt (by (with_reducible repeat (first | apply Kd.R_alloc | apply Kd.R_drewN | apply Kd.R_drew)); exact HO303.out))) (Kd.R_lt (by (with_reducible repeat (first | apply Kd.R_alloc | apply Kd.R_drewN | apply Kd.R_drew)); exact HO307.out))) (Kd.R_lt (by (with_reducible repeat (first | apply Kd.R_alloc | apply Kd.R_drewN | apply Kd.R_drew)); exact HO312.out))) (Kd.R_lt (by (with_reducible repeat (first | apply Kd.R_alloc | apply Kd.R_drewN | apply Kd.R_drew)); exact HO315.out))) (Kd.R_lt (by (with_reducible repeat (first | apply Kd.R_alloc | apply Kd.R_drewN | apply Kd.R_drew)); exact HO321.out))) (Kd.R_lt (by (with_reducible repeat (first | apply Kd.R_alloc | apply Kd.R_drewN | apply Kd.R_drew)); exact HO325.out))) (Kd.R_lt (by (with_reducible repeat (first | apply Kd.R_alloc | apply Kd.R_drewN | apply Kd.R_drew)); exact HO328.out))) (below_size (by repeat (first | (with_reducible first | exact HB.out | apply below_alloc | apply pw_below_drewN | apply below_drew1) | exact HB.out)))); have n13_ := Aside0.mk (below_step (by repeat (first | (with_reducible first | exact HB.out | apply below_alloc | apply pw_below_drewN | apply below_drew1) | exact HB.out)) hb); clear HO284; clear HO286; clear HO290; clear HO294; clear HO299; clear HO303; clear HO307; clear HO312; clear HO315; clear HO321; clear HO325; clear HO328; clear HB; have HO284 := n0_; have HO286 := n1_; have HO290 := n2_; have HO294 := n3_; have HO299 := n4_; have HO303 := n5_; have HO307 := n6_; have HO312 := n7_; have HO315 := n8_; have HO321 := n9_; have HO325 := n10_; have HO328 := n11_; have HO332 := n12_; have HB := n13_; clear n0_ n1_ n2_ n3_ n4_ n5_ n6_ n7_ n8_ n9_ n10_ n11_ n12_ n13_; (try clear hb); (try clear hb2); (try clear hk); (try clear hi); (try clear ho0); obtain ⟨Ao54, co54, eo54⟩ := Kd.R_slice HO332.out; subst eo54; clear A40) | (go_at_call 32; (with_reducible refine (impl_IsZero.calls k _ _ t330 t333 _ ?side1 ?side2 A41.out).mono ?_); (case side1 => repeat (first | exact (Kd.R_reads' HO332.out).2.2 | (with_reducible refine Kd.C_alloc ?_ _) | (with_reducible refine Kd.C_drewN ?_ _) | (with_reducible refine Kd.C_drew ?_))); (case side2 => exact (Kd.R_reads' HO332.out).2.1); rintro e w' ⟨rfl, ⟨nd, rfl⟩⟩))
                  go_meet
                  case rel => exact ⟨_, (!t333), (by first | rfl | (simp; done) | (simp [*]; done)), H', ⟨by first | omega | exact Nat.le_refl _⟩, ⟨by (with_reducible repeat (first | apply Kd.R_alloc | apply Kd.R_drewN | apply Kd.R_drew)); exact Kd.R_mono HO284.out (fun _ hk => ⟨hk.1.1.1.1.1.1.1.1.1.1.1, hk.1.1.1.1.1.1.1.1.1.1.2⟩)⟩, ⟨by (with_reducible repeat (first | apply Kd.R_alloc | apply Kd.R_drewN | apply Kd.R_drew)); exact Kd.R_mono HO286.out (fun _ hk => ⟨hk.1.1.1.1.1.1.1.1.1.1.1, hk.1.1.1.1.1.1.1.1.1.1.2⟩)⟩, ⟨by (with_reducible repeat (first | apply Kd.R_alloc | apply Kd.R_drewN | apply Kd.R_drew)); exact Kd.R_mono HO290.out (fun _ hk => ⟨hk.1.1.1.1.1.1.1.1.1.1.1.2, hk.1.1.1.1.1.1.1.1.1.1.2⟩)⟩, ⟨by repeat (first | (with_reducible first | exact HB.out | apply below_alloc | apply pw_below_drewN | apply below_drew1) | exact HB.out)⟩⟩
                · replace c39 := Bool.eq_false_iff.mpr c39
                  subst c39
                  have H1 : (none) = some r := by rw [if_neg (show ¬ (false = true) by decide)] at H; exact H
                  clear H
                  have H := H1
                  clear H1
                  exact absurd H (by simp)
              · replace c35 := Bool.eq_false_iff.mpr c35
                subst c35
                have H1 : (none) = some r := by rw [if_neg (show ¬ (false = true) by decide)] at H; exact H
                clear H
                have H := H1
                clear H1
                exact absurd H (by simp)
          · replace c31 := Bool.eq_false_iff.mpr c31
            subst c31
            have H1 : (none) = some r := by rw [if_neg (show ¬ (false = true) by decide)] at H; exact H
            clear H
            have H := H1
            clear H1
            exact absurd H (by simp)
      · replace c28 := Bool.eq_false_iff.mpr c28
        subst c28
        have H1 : (none) = some r := by rw [if_neg (show ¬ (false = true) by decide)] at H; exact H
        clear H
        have H := H1
        clear H1
        exact absurd H (by simp)
    case rest =>
      clear HC13
      try clear c1
      try clear c2
      try clear p2
      try clear c3
      try clear c8
      try clear c17
      try clear c21
      try clear c22
      try clear c25
      try clear c28
      try clear c29
      try clear c29b0
      try clear c29b1
      try clear c29b2
      try clear c31
      try clear c32
      try clear c32b0
      try clear c32b1
      try clear c32b2
      try clear c34
      try clear c35
      try clear c36
      try clear c37
      try clear c38
      try clear c39
      obtain ⟨kq, x120_12, rfl, HA, HJ12, HO_3, HO_5, HO_6, HB⟩ := hcut
      cases kq with
      | zero => exact absurd HA.out (by simp [laws_FnBytes.j0])
      | succ kj12 =>
        have H := HA.out
        clear HA
        simp only [laws_FnBytes.j0] at H
        by_cases c55 : x120_12 = true
        · subst c55
          have H1 : (none) = some r := by rw [if_pos rfl] at H; exact H
          clear H
          have H := H1
          clear H1
          exact absurd H (by simp)
        · replace c55 := Bool.eq_false_iff.mpr c55
          subst c55
          have H1 : (if t288 = true then ((impl_GetAt.f t287 t281 (t282.length : Int)).bind fun bt335 => (if bt335.2 = true then ((laws_same.f kj12 bt335.1 t282).bind fun t339 => (if t339 = true then (if (t287.length : Int) = (t280.length : Int) then (if 0 ≤ t281 then (if t281 ≤ (t287.length : Int) then (if t281 ≤ (t280.length : Int) then ((laws_same.f kj12 (t287.take (t281 : Int).toNat) (t280.take (t281 : Int).toNat)).bind fun t348 => (if t348 = true then (if 0 ≤ (wrap64 (t281 + (t282.length : Int))) then (if (wrap64 (t281 + (t282.length : Int))) ≤ (t287.length : Int) then (if (wrap64 (t281 + (t282.length : Int))) ≤ (t280.length : Int) then ((laws_same.f kj12 (t287.drop ((wrap64 (t281 + (t282.length : Int))) : Int).toNat) (t280.drop ((wrap64 (t281 + (t282.length : Int))) : Int).toNat)).bind fun t357 => (if t357 = true then ((impl_Wipe.f t280 0 (t280.length : Int)).bind fun t358 => ((impl_IsZero.f kj12 t358).bind fun t361 => (some t361))) else (none))) else (none)) else (none)) else (none)) else (none))) else (none)) else (none)) else (none)) else (none)) else (none))) else (none))) else ((laws_same.f kj12 t287 t280).bind fun t334 => (some t334))) = some r := by rw [if_neg (show ¬ (false = true) by decide)] at H; exact H
          clear H
          have H := H1
          clear H1
          by_cases c56 : t288 = true
          · subst c56
            have H1 : ((impl_GetAt.f t287 t281 (t282.length : Int)).bind fun bt335 => (if bt335.2 = true then ((laws_same.f kj12 bt335.1 t282).bind fun t339 => (if t339 = true then (if (t287.length : Int) = (t280.length : Int) then (if 0 ≤ t281 then (if t281 ≤ (t287.length : Int) then (if t281 ≤ (t280.length : Int) then ((laws_same.f kj12 (t287.take (t281 : Int).toNat) (t280.take (t281 : Int).toNat)).bind fun t348 => (if t348 = true then (if 0 ≤ (wrap64 (t281 + (t282.length : Int))) then (if (wrap64 (t281 + (t282.length : Int))) ≤ (t287.length : Int) then (if (wrap64 (t281 + (t282.length : Int))) ≤ (t280.length : Int) then ((laws_same.f kj12 (t287.drop ((wrap64 (t281 + (t282.length : Int))) : Int).toNat) (t280.drop ((wrap64 (t281 + (t282.length : Int))) : Int).toNat)).bind fun t357 => (if t357 = true then ((impl_Wipe.f t280 0 (t280.length : Int)).bind fun t358 => ((impl_IsZero.f kj12 t358).bind fun t361 => (some t361))) else (none))) else (none)) else (none)) else (none)) else (none))) else (none)) else (none)) else (none)) else (none)) else (none))) else (none))) = some r := by rw [if_pos rfl] at H; exact H
            clear H
            have H := H1
            clear H1
            replace H := Option.bind_eq_some_iff.mp H
            obtain ⟨⟨t335, t336⟩, A570, H⟩ := H
            replace H : (if t336 = true then ((laws_same.f kj12 t335 t282).bind fun t339 => (if t339 = true then (if (t287.length : Int) = (t280.length : Int) then (if 0 ≤ t281 then (if t281 ≤ (t287.length : Int) then (if t281 ≤ (t280.length : Int) then ((laws_same.f kj12 (t287.take (t281 : Int).toNat) (t280.take (t281 : Int).toNat)).bind fun t348 => (if t348 = true then (if 0 ≤ (wrap64 (t281 + (t282.length : Int))) then (if (wrap64 (t281 + (t282.length : Int))) ≤ (t287.length : Int) then (if (wrap64 (t281 + (t282.length : Int))) ≤ (t280.length : Int) then ((laws_same.f kj12 (t287.drop ((wrap64 (t281 + (t282.length : Int))) : Int).toNat) (t280.drop ((wrap64 (t281 + (t282.length : Int))) : Int).toNat)).bind fun t357 => (if t357 = true then ((impl_Wipe.f t280 0 (t280.length : Int)).bind fun t358 => ((impl_IsZero.f kj12 t358).bind fun t361 => (some t361))) else (none))) else (none)) else (none)) else (none)) else (none))) else (none)) else (none)) else (none)) else (none)) else (none))) else (none)) = some r := H
            have A57 := Aside0.mk A570
            clear A570
            by_cases c58 : t336 = true
            · subst c58
              have H1 : ((laws_same.f kj12 t335 t282).bind fun t339 => (if t339 = true then (if (t287.length : Int) = (t280.length : Int) then (if 0 ≤ t281 then (if t281 ≤ (t287.length : Int) then (if t281 ≤ (t280.length : Int) then ((laws_same.f kj12 (t287.take (t281 : Int).toNat) (t280.take (t281 : Int).toNat)).bind fun t348 => (if t348 = true then (if 0 ≤ (wrap64 (t281 + (t282.length : Int))) then (if (wrap64 (t281 + (t282.length : Int))) ≤ (t287.length : Int) then (if (wrap64 (t281 + (t282.length : Int))) ≤ (t280.length : Int) then ((laws_same.f kj12 (t287.drop ((wrap64 (t281 + (t282.length : Int))) : Int).toNat) (t280.drop ((wrap64 (t281 + (t282.length : Int))) : Int).toNat)).bind fun t357 => (if t357 = true then ((impl_Wipe.f t280 0 (t280.length : Int)).bind fun t358 => ((impl_IsZero.f kj12 t358).bind fun t361 => (some t361))) else (none))) else (none)) else (none)) else (none)) else (none))) else (none)) else (none)) else (none)) else (none)) else (none))) = some r := by rw [if_pos rfl] at H; exact H
              clear H
              have H := H1
              clear H1
              replace H := Option.bind_eq_some_iff.mp H
              obtain ⟨t339, A590, H⟩ := H
              replace H : (if t339 = true then (if (t287.length : Int) = (t280.length : Int) then (if 0 ≤ t281 then (if t281 ≤ (t287.length : Int) then (if t281 ≤ (t280.length : Int) then ((laws_same.f kj12 (t287.take (t281 : Int).toNat) (t280.take (t281 : Int).toNat)).bind fun t348 => (if t348 = true then (if 0 ≤ (wrap64 (t281 + (t282.length : Int))) then (if (wrap64 (t281 + (t282.length : Int))) ≤ (t287.length : Int) then (if (wrap64 (t281 + (t282.length : Int))) ≤ (t280.length : Int) then ((laws_same.f kj12 (t287.drop ((wrap64 (t281 + (t282.length : Int))) : Int).toNat) (t280.drop ((wrap64 (t281 + (t282.length : Int))) : Int).toNat)).bind fun t357 => (if t357 = true then ((impl_Wipe.f t280 0 (t280.length : Int)).bind fun t358 => ((impl_IsZero.f kj12 t358).bind fun t361 => (some t361))) else (none))) else (none)) else (none)) else (none)) else (none))) else (none)) else (none)) else (none)) else (none)) else (none)) = some r := H
              have A59 := Aside0.mk A590
              clear A590
              by_cases c60 : t339 = true
              · subst c60
                have H1 : (if (t287.length : Int) = (t280.length : Int) then (if 0 ≤ t281 then (if t281 ≤ (t287.length : Int) then (if t281 ≤ (t280.length : Int) then ((laws_same.f kj12 (t287.take (t281 : Int).toNat) (t280.take (t281 : Int).toNat)).bind fun t348 => (if t348 = true then (if 0 ≤ (wrap64 (t281 + (t282.length : Int))) then (if (wrap64 (t281 + (t282.length : Int))) ≤ (t287.length : Int) then (if (wrap64 (t281 + (t282.length : Int))) ≤ (t280.length : Int) then ((laws_same.f kj12 (t287.drop ((wrap64 (t281 + (t282.length : Int))) : Int).toNat) (t280.drop ((wrap64 (t281 + (t282.length : Int))) : Int).toNat)).bind fun t357 => (if t357 = true then ((impl_Wipe.f t280 0 (t280.length : Int)).bind fun t358 => ((impl_IsZero.f kj12 t358).bind fun t361 => (some t361))) else (none))) else (none)) else (none)) else (none)) else (none))) else (none)) else (none)) else (none)) else (none)) = some r := by rw [if_pos rfl] at H; exact H
                clear H
                have H := H1
                clear H1
                by_cases c61 : (t287.length : Int) = (t280.length : Int)
                · rw [if_pos c61] at H
                  have c61b0 : ((t287.length : Int) == (t280.length : Int)) = true := beq_iff_eq.mpr c61
                  have c61b1 : ((t287.length : Int) != (t280.length : Int)) = false := bne_eq_false_iff_eq.mpr c61
                  have c61b2 : (t287.length == t280.length) = true := by first | simpa using c61 | (simp at c61 ⊢; omega)
                  clear c61
                  by_cases c62 : 0 ≤ t281
                  · rw [if_pos c62] at H
                    have c62b0 := eq_true c62
                    have c62b1 : decide (0 ≤ t281) = true := decide_eq_true c62
                    clear c62
                    by_cases c63 : t281 ≤ (t287.length : Int)
                    · rw [if_pos c63] at H
                      have c63b0 := eq_true c63
                      have c63b1 : decide (t281 ≤ (t287.length : Int)) = true := decide_eq_true c63
                      clear c63
                      obtain ⟨y340, hy340⟩ : ∃ y_ : List Int, y_ = (t287.take (t281 : Int).toNat) := ⟨_, rfl⟩
                      replace H : (if t281 ≤ (t280.length : Int) then ((laws_same.f kj12 y340 (t280.take (t281 : Int).toNat)).bind fun t348 => (if t348 = true then (if 0 ≤ (wrap64 (t281 + (t282.length : Int))) then (if (wrap64 (t281 + (t282.length : Int))) ≤ (t287.length : Int) then (if (wrap64 (t281 + (t282.length : Int))) ≤ (t280.length : Int) then ((laws_same.f kj12 (t287.drop ((wrap64 (t281 + (t282.length : Int))) : Int).toNat) (t280.drop ((wrap64 (t281 + (t282.length : Int))) : Int).toNat)).bind fun t357 => (if t357 = true then ((impl_Wipe.f t280 0 (t280.length : Int)).bind fun t358 => ((impl_IsZero.f kj12 t358).bind fun t361 => (some t361))) else (none))) else (none)) else (none)) else (none)) else (none))) else (none)) = some r := by first | (rw [hy340]; with_reducible exact H) | (have H2_ := (Option.bind_some _ _).symm.trans H; rw [hy340]; with_reducible exact H2_) | (have H2_ := (Option.bind_some _ _).symm.trans H; with_reducible exact H2_) | with_reducible exact H | (rw [hy340]; exact H) | exact H
                      have Ny340 := Aside0.mk hy340
                      clear hy340
                      have c64b0 := eq_true (of_decide_eq_true (by first | (with_reducible assumption) | assumption) : 0 ≤ t281)
                      by_cases c65 : t281 ≤ (t280.length : Int)
                      · rw [if_pos c65] at H
                        have c65b0 := eq_true c65
                        have c65b1 : decide (t281 ≤ (t280.length : Int)) = true := decide_eq_true c65
                        clear c65
                        obtain ⟨y344, hy344⟩ : ∃ y_ : List Int, y_ = (t280.take (t281 : Int).toNat) := ⟨_, rfl⟩
                        replace H : ((laws_same.f kj12 y340 y344).bind fun t348 => (if t348 = true then (if 0 ≤ (wrap64 (t281 + (t282.length : Int))) then (if (wrap64 (t281 + (t282.length : Int))) ≤ (t287.length : Int) then (if (wrap64 (t281 + (t282.length : Int))) ≤ (t280.length : Int) then ((laws_same.f kj12 (t287.drop ((wrap64 (t281 + (t282.length : Int))) : Int).toNat) (t280.drop ((wrap64 (t281 + (t282.length : Int))) : Int).toNat)).bind fun t357 => (if t357 = true then ((impl_Wipe.f t280 0 (t280.length : Int)).bind fun t358 => ((impl_IsZero.f kj12 t358).bind fun t361 => (some t361))) else (none))) else (none)) else (none)) else (none)) else (none))) = some r := by first | (rw [hy344]; with_reducible exact H) | (have H2_ := (Option.bind_some _ _).symm.trans H; rw [hy344]; with_reducible exact H2_) | (have H2_ := (Option.bind_some _ _).symm.trans H; with_reducible exact H2_) | with_reducible exact H | (rw [hy344]; exact H) | exact H
                        have Ny344 := Aside0.mk hy344
                        clear hy344
                        replace H := Option.bind_eq_some_iff.mp H
                        obtain ⟨t348, A660, H⟩ := H
                        replace H : (if t348 = true then (if 0 ≤ (wrap64 (t281 + (t282.length : Int))) then (if (wrap64 (t281 + (t282.length : Int))) ≤ (t287.length : Int) then (if (wrap64 (t281 + (t282.length : Int))) ≤ (t280.length : Int) then ((laws_same.f kj12 (t287.drop ((wrap64 (t281 + (t282.length : Int))) : Int).toNat) (t280.drop ((wrap64 (t281 + (t282.length : Int))) : Int).toNat)).bind fun t357 => (if t357 = true then ((impl_Wipe.f t280 0 (t280.length : Int)).bind fun t358 => ((impl_IsZero.f kj12 t358).bind fun t361 => (some t361))) else (none))) else (none)) else (none)) else (none)) else (none)) = some r := H
                        have A66 := Aside0.mk A660
                        clear A660
                        by_cases c67 : t348 = true
                        · subst c67
                          have H1 : (if 0 ≤ (wrap64 (t281 + (t282.length : Int))) then (if (wrap64 (t281 + (t282.length : Int))) ≤ (t287.length : Int) then (if (wrap64 (t281 + (t282.length : Int))) ≤ (t280.length : Int) then ((laws_same.f kj12 (t287.drop ((wrap64 (t281 + (t282.length : Int))) : Int).toNat) (t280.drop ((wrap64 (t281 + (t282.length : Int))) : Int).toNat)).bind fun t357 => (if t357 = true then ((impl_Wipe.f t280 0 (t280.length : Int)).bind fun t358 => ((impl_IsZero.f kj12 t358).bind fun t361 => (some t361))) else (none))) else (none)) else (none)) else (none)) = some r := by rw [if_pos rfl] at H; exact H
                          clear H
                          have H := H1
                          clear H1
                          obtain ⟨ji68, hji68⟩ : ∃ j_ : Int, (wrap64 (t281 + (t282.length : Int))) = j_ := ⟨_, rfl⟩
                          replace H : (if 0 ≤ (ji68) then (if (ji68) ≤ (t287.length : Int) then (if (ji68) ≤ (t280.length : Int) then ((laws_same.f kj12 (t287.drop ((ji68) : Int).toNat) (t280.drop ((ji68) : Int).toNat)).bind fun t357 => (if t357 = true then ((impl_Wipe.f t280 0 (t280.length : Int)).bind fun t358 => ((impl_IsZero.f kj12 t358).bind fun t361 => (some t361))) else (none))) else (none)) else (none)) else (none)) = some r := by first | (rw [hji68] at H; exact H) | (simp only [hji68] at H ⊢; exact H)
                          (try rw [hji68] at A57)
                          (try rw [hji68] at A59)
                          (try rw [hji68] at A66)
                          have hji68w : (IntKind.i64.wrap (t281 + (t282.length : Int))) = ji68 := (i64_w _).trans hji68
                          by_cases c69 : 0 ≤ (ji68)
                          · rw [if_pos c69] at H
                            have c69b0 := eq_true c69
                            have c69b1 : decide (0 ≤ (ji68)) = true := decide_eq_true c69
                            clear c69
                            by_cases c70 : (ji68) ≤ (t287.length : Int)
                            · rw [if_pos c70] at H
                              have c70b0 := eq_true c70
                              have c70b1 : decide ((ji68) ≤ (t287.length : Int)) = true := decide_eq_true c70
                              clear c70
                              obtain ⟨y349, hy349⟩ : ∃ y_ : List Int, y_ = (t287.drop ((ji68) : Int).toNat) := ⟨_, rfl⟩
                              replace H : (if (ji68) ≤ (t280.length : Int) then ((laws_same.f kj12 y349 (t280.drop ((ji68) : Int).toNat)).bind fun t357 => (if t357 = true then ((impl_Wipe.f t280 0 (t280.length : Int)).bind fun t358 => ((impl_IsZero.f kj12 t358).bind fun t361 => (some t361))) else (none))) else (none)) = some r := by first | (rw [hy349]; with_reducible exact H) | (have H2_ := (Option.bind_some _ _).symm.trans H; rw [hy349]; with_reducible exact H2_) | (have H2_ := (Option.bind_some _ _).symm.trans H; with_reducible exact H2_) | with_reducible exact H | (rw [hy349]; exact H) | exact H
                              have Ny349 := Aside0.mk hy349
                              clear hy349
                              have c71b0 := eq_true (of_decide_eq_true (by first | (with_reducible assumption) | assumption) : 0 ≤ (ji68))
                              by_cases c72 : (ji68) ≤ (t280.length : Int)
                              · rw [if_pos c72] at H
                                have c72b0 := eq_true c72
                                have c72b1 : decide ((ji68) ≤ (t280.length : Int)) = true := decide_eq_true c72
                                clear c72
                                obtain ⟨y353, hy353⟩ : ∃ y_ : List Int, y_ = (t280.drop ((ji68) : Int).toNat) := ⟨_, rfl⟩
                                replace H : ((laws_same.f kj12 y349 y353).bind fun t357 => (if t357 = true then ((impl_Wipe.f t280 0 (t280.length : Int)).bind fun t358 => ((impl_IsZero.f kj12 t358).bind fun t361 => (some t361))) else (none))) = some r := by first | (rw [hy353]; with_reducible exact H) | (have H2_ := (Option.bind_some _ _).symm.trans H; rw [hy353]; with_reducible exact H2_) | (have H2_ := (Option.bind_some _ _).symm.trans H; with_reducible exact H2_) | with_reducible exact H | (rw [hy353]; exact H) | exact H
                                have Ny353 := Aside0.mk hy353
                                clear hy353
                                replace H := Option.bind_eq_some_iff.mp H
                                obtain ⟨t357, A730, H⟩ := H
                                replace H : (if t357 = true then ((impl_Wipe.f t280 0 (t280.length : Int)).bind fun t358 => ((impl_IsZero.f kj12 t358).bind fun t361 => (some t361))) else (none)) = some r := H
                                have A73 := Aside0.mk A730
                                clear A730
                                by_cases c74 : t357 = true
                                · subst c74
                                  have H1 : ((impl_Wipe.f t280 0 (t280.length : Int)).bind fun t358 => ((impl_IsZero.f kj12 t358).bind fun t361 => (some t361))) = some r := by rw [if_pos rfl] at H; exact H
                                  clear H
                                  have H := H1
                                  clear H1
                                  replace H := Option.bind_eq_some_iff.mp H
                                  obtain ⟨t358, A750, H⟩ := H
                                  replace H : ((impl_IsZero.f kj12 t358).bind fun t361 => (some t361)) = some r := H
                                  have A75 := Aside0.mk A750
                                  clear A750
                                  replace H := Option.bind_eq_some_iff.mp H
                                  obtain ⟨t361, A760, H⟩ := H
                                  replace H : (some t361) = some r := H
                                  have A76 := Aside0.mk A760
                                  clear A760
                                  obtain rfl := Option.some.inj H
                                  obtain ⟨Ao77, co77, eo77⟩ := Kd.R_slice HO_6.out
                                  subst eo77
                                  try go_wp2_with (first | ((with_reducible refine gate_callee (f := 36) rfl ?_); refine goesL_ (some 131) rfl rfl Try.func36 (by kernel_rfl) rfl #[.slice Ao77 t287.length co77, .int .i64 t281, .int .i64 (t282.length : Int)] rfl (by (try simp only [List.map_toArray, List.map_cons, List.map_nil]); first | done | rfl | (simp only [List.length_drop, List.length_take]; rfl)) ?_; (with_reducible refine (impl_GetAt.calls _ _ t287 t281 (t282.length : Int) t335 true _ ?side1 ?side2 A57.out).mono ?_); (case side1 => repeat (first | exact (Kd.R_reads' HO_6.out).2.2 | (with_reducible refine Kd.C_alloc ?_ _) | (with_reducible refine Kd.C_drewN ?_ _) | (with_reducible refine Kd.C_drew ?_))); (case side2 => exact (Kd.R_reads' HO_6.out).2.1); rintro e w78 ⟨v337, rfl, ho0, hb⟩; refine ⟨_, rfl, ?_⟩; have n0_ := Aside0.mk (Kd.R_elder' (by (with_reducible repeat (first | apply Kd.R_alloc | apply Kd.R_drewN | apply Kd.R_drew)); exact HO_3.out) (Kd.R_base ho0) hb); have n1_ := Aside0.mk (Kd.R_elder' (by (with_reducible repeat (first | apply Kd.R_alloc | apply Kd.R_drewN | apply Kd.R_drew)); exact HO_5.out) (Kd.R_base ho0) hb); have n2_ := Aside0.mk (Kd.R_elder' (by (with_reducible repeat (first | apply Kd.R_alloc | apply Kd.R_drewN | apply Kd.R_drew)); exact HO_6.out) (Kd.R_base ho0) hb); have n3_ := Aside0.mk (Kd.R_lower (Kd.R_new' (Kd.R_new' (Kd.R_new' ho0 (Kd.R_lt (by (with_reducible repeat (first | apply Kd.R_alloc | apply Kd.R_drewN | apply Kd.R_drew)); exact HO_3.out))) (Kd.R_lt (by (with_reducible repeat (first | apply Kd.R_alloc | apply Kd.R_drewN | apply Kd.R_drew)); exact HO_5.out))) (Kd.R_lt (by (with_reducible repeat (first | apply Kd.R_alloc | apply Kd.R_drewN | apply Kd.R_drew)); exact HO_6.out))) (below_size (by repeat (first | (with_reducible first | exact HB.out | apply below_alloc | apply pw_below_drewN | apply below_drew1) | exact HB.out)))); have n4_ := Aside0.mk (below_step (by repeat (first | (with_reducible first | exact HB.out | apply below_alloc | apply pw_below_drewN | apply below_drew1) | exact HB.out)) hb); clear HO_3; clear HO_5; clear HO_6; clear HB; have HO_3 := n0_; have HO_5 := n1_; have HO_6 := n2_; have HO338 := n3_; have HB := n4_; clear n0_ n1_ n2_ n3_ n4_; (try clear hb); (try clear hb2); (try clear hk); (try clear hi); (try clear ho0)))
                                  have n0_ := Aside0.mk (Kd.R_drew HO_3.out)
                                  have n1_ := Aside0.mk (Kd.R_drew HO_5.out)
                                  have n2_ := Aside0.mk (Kd.R_drew HO_6.out)
                                  have n3_ := Aside0.mk (Kd.R_drew HO338.out)
                                  have n4_ := Aside0.mk (below_drew1 HB.out)
                                  clear HO_3
                                  clear HO_5
                                  clear HO_6
                                  clear HO338
                                  clear HB
                                  have HO_3 := n0_
                                  have HO_5 := n1_
                                  have HO_6 := n2_
                                  have HO338 := n3_
                                  have HB := n4_
                                  clear n0_ n1_ n2_ n3_ n4_
                                  obtain ⟨Ao80, co80, eo80⟩ := Kd.R_slice HO338.out
                                  (first | subst eo80 | (injection eo80 with f1_ f2_ f3_; have f4_ := f1_.symm; have f5_ := f3_.symm; clear f1_ f2_ f3_; subst f4_; subst f5_))
                                  refine start_ (n := 45) (S := fun w' => True) (ds := []) #[false, false, false, false, false, false, false, false, false, false, false, false, false, false, false, false, false, false, false, false, false, false, false, false, false, false, false, false, false, false, false, false, false, false, false, false, false, false, false, false, false, false, false, false, false] (by kernel_rfl) rfl rfl trivial (fun hHeld => ?_); refine with_tabW laws_FnBytes.tab17 laws_FnBytes.bits17 (fun HT_ HW_ => ?_)
                                  generalize w78.drew = w79 at HO_3 HO_5 HO_6 HO338 HB hHeld ⊢
                                  refine pure_ (i := 0) (N := some 134) (v := ?_) (a' := ?_) #[true, false, false, false, false, false, false, false, false, false, false, false, false, false, false, false, false, false, false, false, false, false, false, false, false, false, false, false, false, false, false, false, false, false, false, false, false, false, false, false, false, false, false, false, false] rfl rfl (any_of HT_.out (by kernel_rfl)) (fun _ _ _ h => h) (Or.inl ⟨by rfl, ?_⟩) ?_ ?_
                                  rotate_left
                                  · intro w'
                                    go_simp
                                    with_reducible rfl
                                  rotate_left
                                  · simp only [Act.put, List.setIfInBounds_toArray, List.set_cons_zero, List.set_cons_succ, i64_w, i32_w]
                                    rfl
                                  refine pure_ (i := 1) (N := some 135) (v := ?_) (a' := ?_) #[true, true, false, false, false, false, false, false, false, false, false, false, false, false, false, false, false, false, false, false, false, false, false, false, false, false, false, false, false, false, false, false, false, false, false, false, false, false, false, false, false, false, false, false, false] rfl rfl (any_of HT_.out (by kernel_rfl)) (fun _ _ _ h => h) (Or.inl ⟨by rfl, ?_⟩) ?_ ?_
                                  rotate_left
                                  · intro w'
                                    go_simp
                                    with_reducible rfl
                                  rotate_left
                                  · simp only [Act.put, List.setIfInBounds_toArray, List.set_cons_zero, List.set_cons_succ, i64_w, i32_w]
                                    rfl
                                  refine pure_ (i := 2) (N := some 136) (v := ?_) (a' := ?_) #[true, true, true, false, false, false, false, false, false, false, false, false, false, false, false, false, false, false, false, false, false, false, false, false, false, false, false, false, false, false, false, false, false, false, false, false, false, false, false, false, false, false, false, false, false] rfl rfl (any_of HT_.out (by kernel_rfl)) (fun _ _ _ h => h) (Or.inl ⟨by rfl, ?_⟩) ?_ ?_
                                  rotate_left
                                  · intro w'
                                    go_simp
                                    with_reducible rfl
                                  rotate_left
                                  · simp only [Act.put, List.setIfInBounds_toArray, List.set_cons_zero, List.set_cons_succ, i64_w, i32_w]
                                    rfl
                                  refine pure_ (i := 3) (N := some 137) (v := ?_) (a' := ?_) #[true, true, true, true, false, false, false, false, false, false, false, false, false, false, false, false, false, false, false, false, false, false, false, false, false, false, false, false, false, false, false, false, false, false, false, false, false, false, false, false, false, false, false, false, false] rfl rfl (any_of HT_.out (by kernel_rfl)) (fun _ _ _ h => h) (Or.inl ⟨by rfl, ?_⟩) ?_ ?_
                                  rotate_left
                                  · intro w'
                                    go_simp
                                    with_reducible rfl
                                  rotate_left
                                  · simp only [Act.put, List.setIfInBounds_toArray, List.set_cons_zero, List.set_cons_succ, i64_w, i32_w]
                                    rfl
                                  refine one_ (i := 4) (N := some 138) #[true, true, true, true, true, false, false, false, false, false, false, false, false, false, false, false, false, false, false, false, false, false, false, false, false, false, false, false, false, false, false, false, false, false, false, false, false, false, false, false, false, false, false, false, false] rfl rfl (one_of HT_.out (by kernel_rfl)) (by decide) (fun K hK => ?_)
                                  refine goes_ Try.func31 (by kernel_rfl) rfl #[.slice Ao80 t335.length co80, .slice Ao16 t282.length co16] (by rfl) rfl rfl (by (try simp only [List.map_toArray, List.map_cons, List.map_nil]); first | done | rfl | (simp only [List.length_drop, List.length_take]; rfl)) ?_
                                  with_reducible refine (laws_same.calls kj12 _ _ t335 _ _ t282 true _ ?side1 ?side2 ?side3 ?side4 A59.out).mono ?_
                                  (case side1 => repeat (first | exact (Kd.R_reads' HO338.out).2.2 | (with_reducible refine Kd.C_alloc ?_ _) | (with_reducible refine Kd.C_drewN ?_ _) | (with_reducible refine Kd.C_drew ?_)))
                                  (case side2 => exact (Kd.R_reads' HO338.out).2.1)
                                  (case side3 => repeat (first | exact (Kd.R_reads' HO_5.out).2.2 | (with_reducible refine Kd.C_alloc ?_ _) | (with_reducible refine Kd.C_drewN ?_ _) | (with_reducible refine Kd.C_drew ?_)))
                                  (case side4 => exact (Kd.R_reads' HO_5.out).2.1)
                                  rintro e w' ⟨rfl, ⟨nd, rfl⟩⟩
                                  refine ⟨_, rfl, ?_⟩
                                  have q81 : (t281 : Int) ≤ ((t287.length : Int) : Int) := of_decide_eq_true (by first | (with_reducible assumption) | assumption)
                                  obtain ⟨i081, hi081, _, hsz81, _⟩ := info_parts info5
                                  have hroom81 : t287.length ≤ co77 := (Kd.R_reads' HO_6.out).2.1
                                  have hC81 : Kd.C (Kd.int .u8) _ Ao77 t287.length t287 := (Kd.R_reads' HO_6.out).2.2
                                  have hcut81 := cut_to (P := Try.prog) 24 5 .i64 Try.underlying24 hi081 Ao77 t287.length co77 t281 (of_decide_eq_true (by first | (with_reducible assumption) | assumption)) q81 hroom81
                                  have hr81 := Kd.C_take (m := (t281 : Int).toNat) hC81 (by omega)
                                  have hy81 : y340.length = (t281 : Int).toNat := (by rw [Ny340.out, List.length_take]; omega)
                                  rw [← Ny340.out] at hr81
                                  rw [← hy81] at hcut81
                                  have HR343 := Aside0.mk hr81
                                  have HC343 := Aside0.mk (show y340.length ≤ co77 from by omega)
                                  clear hr81 hC81 hroom81 hi081 hsz81
                                  have KY81 := Aside0.mk hy81
                                  clear hy81
                                  have KL81 := Aside0.mk (show (t281 : Int).toNat ≤ t287.length from by omega)
                                  replace q81 := eq_true q81
                                  have q82 : (t281 : Int) ≤ ((t280.length : Int) : Int) := of_decide_eq_true (by first | (with_reducible assumption) | assumption)
                                  obtain ⟨i082, hi082, _, hsz82, _⟩ := info_parts info5
                                  have hroom82 : t280.length ≤ co15 := (Kd.R_reads' HO_3.out).2.1
                                  have hC82 : Kd.C (Kd.int .u8) _ Ao15 t280.length t280 := (Kd.R_reads' HO_3.out).2.2
                                  have hcut82 := cut_to (P := Try.prog) 24 5 .i64 Try.underlying24 hi082 Ao15 t280.length co15 t281 (of_decide_eq_true (by first | (with_reducible assumption) | assumption)) q82 hroom82
                                  have hr82 := Kd.C_take (m := (t281 : Int).toNat) hC82 (by omega)
                                  have hy82 : y344.length = (t281 : Int).toNat := (by rw [Ny344.out, List.length_take]; omega)
                                  rw [← Ny344.out] at hr82
                                  rw [← hy82] at hcut82
                                  have HR347 := Aside0.mk hr82
                                  have HC347 := Aside0.mk (show y344.length ≤ co15 from by omega)
                                  clear hr82 hC82 hroom82 hi082 hsz82
                                  have KY82 := Aside0.mk hy82
                                  clear hy82
                                  have KL82 := Aside0.mk (show (t281 : Int).toNat ≤ t280.length from by omega)
                                  replace q82 := eq_true q82
                                  refine hK.out _ _ trivial (fun hHeld => ?_)
                                  clear hK K
                                  refine norm_ (a' := ?_) ?_ ?_
                                  rotate_left
                                  · show Act.put _ (some 138) _ = _
                                    simp only [Act.put, List.setIfInBounds_toArray, List.set_cons_zero, List.set_cons_succ, i64_w, i32_w]
                                    rfl
                                  refine pure_ (i := 5) (N := some 139) (v := ?_) (a' := ?_) #[true, true, true, true, true, true, false, false, false, false, false, false, false, false, false, false, false, false, false, false, false, false, false, false, false, false, false, false, false, false, false, false, false, false, false, false, false, false, false, false, false, false, false, false, false] rfl rfl (any_of HT_.out (by kernel_rfl)) (fun _ _ _ h => h) (Or.inl ⟨by rfl, ?_⟩) ?_ ?_
                                  rotate_left
                                  · intro w'
                                    go_simp
                                    with_reducible rfl
                                  rotate_left
                                  · simp only [Act.put, List.setIfInBounds_toArray, List.set_cons_zero, List.set_cons_succ, i64_w, i32_w]
                                    rfl
                                  refine pure_ (i := 6) (N := some 140) (v := ?_) (a' := ?_) #[true, true, true, true, true, true, true, false, false, false, false, false, false, false, false, false, false, false, false, false, false, false, false, false, false, false, false, false, false, false, false, false, false, false, false, false, false, false, false, false, false, false, false, false, false] rfl rfl (any_of HT_.out (by kernel_rfl)) (fun _ _ _ h => h) (Or.inl ⟨by rfl, ?_⟩) ?_ ?_
                                  rotate_left
                                  · intro w'
                                    go_simp
                                    with_reducible rfl
                                  rotate_left
                                  · simp only [Act.put, List.setIfInBounds_toArray, List.set_cons_zero, List.set_cons_succ, i64_w, i32_w]
                                    rfl
                                  refine pure_ (i := 7) (N := some 141) (v := ?_) (a' := ?_) #[true, true, true, true, true, true, true, true, false, false, false, false, false, false, false, false, false, false, false, false, false, false, false, false, false, false, false, false, false, false, false, false, false, false, false, false, false, false, false, false, false, false, false, false, false] rfl rfl (any_of HT_.out (by kernel_rfl)) (fun _ _ _ h => h) (Or.inl ⟨by rfl, ?_⟩) ?_ ?_
                                  rotate_left
                                  · intro w'
                                    go_simp
                                    with_reducible rfl
                                  rotate_left
                                  · simp only [Act.put, List.setIfInBounds_toArray, List.set_cons_zero, List.set_cons_succ, i64_w, i32_w]
                                    rfl
                                  refine pure_ (i := 8) (N := some 142) (v := ?_) (a' := ?_) #[true, true, true, true, true, true, true, true, true, false, false, false, false, false, false, false, false, false, false, false, false, false, false, false, false, false, false, false, false, false, false, false, false, false, false, false, false, false, false, false, false, false, false, false, false] rfl rfl (any_of HT_.out (by kernel_rfl)) (fun _ _ _ h => h) (Or.inl ⟨by rfl, ?_⟩) ?_ ?_
                                  rotate_left
                                  · intro w'
                                    go_simp
                                    with_reducible rfl
                                  rotate_left
                                  · simp only [Act.put, List.setIfInBounds_toArray, List.set_cons_zero, List.set_cons_succ, i64_w, i32_w]
                                    rfl
                                  refine pure_ (i := 9) (N := some 143) (v := ?_) (a' := ?_) #[true, true, true, true, true, true, true, true, true, true, false, false, false, false, false, false, false, false, false, false, false, false, false, false, false, false, false, false, false, false, false, false, false, false, false, false, false, false, false, false, false, false, false, false, false] rfl rfl (any_of HT_.out (by kernel_rfl)) (fun _ _ _ h => h) (Or.inl ⟨by rfl, ?_⟩) ?_ ?_
                                  rotate_left
                                  · intro w'
                                    go_simp
                                    with_reducible rfl
                                  rotate_left
                                  · simp only [Act.put, List.setIfInBounds_toArray, List.set_cons_zero, List.set_cons_succ, i64_w, i32_w]
                                    rfl
                                  refine pure_ (i := 10) (N := some 144) (v := ?_) (a' := ?_) #[true, true, true, true, true, true, true, true, true, true, true, false, false, false, false, false, false, false, false, false, false, false, false, false, false, false, false, false, false, false, false, false, false, false, false, false, false, false, false, false, false, false, false, false, false] rfl rfl (any_of HT_.out (by kernel_rfl)) (fun _ _ _ h => h) (Or.inl ⟨by rfl, ?_⟩) ?_ ?_
                                  rotate_left
                                  · intro w'
                                    go_simp
                                    with_reducible rfl
                                  rotate_left
                                  · simp only [Act.put, List.setIfInBounds_toArray, List.set_cons_zero, List.set_cons_succ, i64_w, i32_w]
                                    rfl
                                  refine pure_ (i := 11) (N := some 145) (v := ?_) (a' := ?_) #[true, true, true, true, true, true, true, true, true, true, true, true, false, false, false, false, false, false, false, false, false, false, false, false, false, false, false, false, false, false, false, false, false, false, false, false, false, false, false, false, false, false, false, false, false] rfl rfl (any_of HT_.out (by kernel_rfl)) (fun _ _ _ h => h) (Or.inl ⟨by rfl, ?_⟩) ?_ ?_
                                  rotate_left
                                  · intro w'
                                    go_simp
                                    with_reducible rfl
                                  rotate_left
                                  · simp only [Act.put, List.setIfInBounds_toArray, List.set_cons_zero, List.set_cons_succ, i64_w, i32_w]
                                    rfl
                                  refine pure_ (i := 12) (N := some 146) (v := ?_) (a' := ?_) #[true, true, true, true, true, true, true, true, true, true, true, true, true, false, false, false, false, false, false, false, false, false, false, false, false, false, false, false, false, false, false, false, false, false, false, false, false, false, false, false, false, false, false, false, false] rfl rfl (any_of HT_.out (by kernel_rfl)) (fun _ _ _ h => h) (Or.inl ⟨by rfl, ?_⟩) ?_ ?_
                                  rotate_left
                                  · intro w'
                                    go_simp
                                    with_reducible rfl
                                  rotate_left
                                  · simp only [Act.put, List.setIfInBounds_toArray, List.set_cons_zero, List.set_cons_succ, i64_w, i32_w]
                                    rfl
                                  refine pure_ (i := 13) (N := some 147) (v := ?_) (a' := ?_) #[true, true, true, true, true, true, true, true, true, true, true, true, true, true, false, false, false, false, false, false, false, false, false, false, false, false, false, false, false, false, false, false, false, false, false, false, false, false, false, false, false, false, false, false, false] rfl rfl (any_of HT_.out (by kernel_rfl)) (fun _ _ _ h => h) (Or.inl ⟨by rfl, ?_⟩) ?_ ?_
                                  rotate_left
                                  · intro w'
                                    go_simp
                                    with_reducible rfl
                                  rotate_left
                                  · simp only [Act.put, List.setIfInBounds_toArray, List.set_cons_zero, List.set_cons_succ, i64_w, i32_w]
                                    rfl
                                  refine pure_ (i := 14) (N := some 148) (v := ?_) (a' := ?_) #[true, true, true, true, true, true, true, true, true, true, true, true, true, true, true, false, false, false, false, false, false, false, false, false, false, false, false, false, false, false, false, false, false, false, false, false, false, false, false, false, false, false, false, false, false] rfl rfl (any_of HT_.out (by kernel_rfl)) (fun _ _ _ h => h) (Or.inl ⟨by rfl, ?_⟩) ?_ ?_
                                  rotate_left
                                  · intro w'
                                    go_simp
                                    with_reducible rfl
                                  rotate_left
                                  · simp only [Act.put, List.setIfInBounds_toArray, List.set_cons_zero, List.set_cons_succ, i64_w, i32_w]
                                    rfl
                                  refine pure_ (i := 15) (N := some 149) (v := ?_) (a' := ?_) #[true, true, true, true, true, true, true, true, true, true, true, true, true, true, true, true, false, false, false, false, false, false, false, false, false, false, false, false, false, false, false, false, false, false, false, false, false, false, false, false, false, false, false, false, false] rfl rfl (any_of HT_.out (by kernel_rfl)) (fun _ _ _ h => h) (Or.inl ⟨by rfl, ?_⟩) ?_ ?_
                                  rotate_left
                                  · intro w'
                                    go_simp
                                    with_reducible rfl
                                  rotate_left
                                  · simp only [Act.put, List.setIfInBounds_toArray, List.set_cons_zero, List.set_cons_succ, i64_w, i32_w]
                                    rfl
                                  refine pure_ (i := 16) (N := some 150) (v := ?_) (a' := ?_) #[true, true, true, true, true, true, true, true, true, true, true, true, true, true, true, true, true, false, false, false, false, false, false, false, false, false, false, false, false, false, false, false, false, false, false, false, false, false, false, false, false, false, false, false, false] rfl rfl (any_of HT_.out (by kernel_rfl)) (fun _ _ _ h => h) (Or.inl ⟨by rfl, ?_⟩) ?_ ?_
                                  rotate_left
                                  · intro w'
                                    go_simp
                                    with_reducible rfl
                                  rotate_left
                                  · simp only [Act.put, List.setIfInBounds_toArray, List.set_cons_zero, List.set_cons_succ, i64_w, i32_w]
                                    rfl
                                  refine pure_ (i := 17) (N := some 151) (v := ?_) (a' := ?_) #[true, true, true, true, true, true, true, true, true, true, true, true, true, true, true, true, true, true, false, false, false, false, false, false, false, false, false, false, false, false, false, false, false, false, false, false, false, false, false, false, false, false, false, false, false] rfl rfl (any_of HT_.out (by kernel_rfl)) (fun _ _ _ h => h) (Or.inl ⟨by rfl, ?_⟩) ?_ ?_
                                  rotate_left
                                  · intro w'
                                    go_simp
                                    with_reducible rfl
                                  rotate_left
                                  · simp only [Act.put, List.setIfInBounds_toArray, List.set_cons_zero, List.set_cons_succ, i64_w, i32_w]
                                    rfl
                                  refine pure_ (i := 18) (N := some 152) (v := ?_) (a' := ?_) #[true, true, true, true, true, true, true, true, true, true, true, true, true, true, true, true, true, true, true, false, false, false, false, false, false, false, false, false, false, false, false, false, false, false, false, false, false, false, false, false, false, false, false, false, false] rfl rfl (any_of HT_.out (by kernel_rfl)) (fun _ _ _ h => h) (Or.inl ⟨by rfl, ?_⟩) ?_ ?_
                                  rotate_left
                                  · intro w'
                                    go_simp
                                    with_reducible rfl
                                  rotate_left
                                  · simp only [Act.put, List.setIfInBounds_toArray, List.set_cons_zero, List.set_cons_succ, i64_w, i32_w]
                                    rfl
                                  refine pure_ (i := 19) (N := some 153) (v := ?_) (a' := ?_) #[true, true, true, true, true, true, true, true, true, true, true, true, true, true, true, true, true, true, true, true, false, false, false, false, false, false, false, false, false, false, false, false, false, false, false, false, false, false, false, false, false, false, false, false, false] rfl rfl (any_of HT_.out (by kernel_rfl)) (fun _ _ _ h => h) (Or.inl ⟨by rfl, ?_⟩) ?_ ?_
                                  rotate_left
                                  · intro w'
                                    go_simp
                                    with_reducible rfl
                                  rotate_left
                                  · simp only [Act.put, List.setIfInBounds_toArray, List.set_cons_zero, List.set_cons_succ, i64_w, i32_w]
                                    rfl
                                  refine one_ (i := 20) (N := some 154) #[true, true, true, true, true, true, true, true, true, true, true, true, true, true, true, true, true, true, true, true, true, false, false, false, false, false, false, false, false, false, false, false, false, false, false, false, false, false, false, false, false, false, false, false, false] rfl rfl (one_of HT_.out (by kernel_rfl)) (by decide) (fun K hK => ?_)
                                  refine goes_ Try.func31 (by kernel_rfl) rfl #[.slice Ao77 y340.length co77, .slice Ao15 y344.length co15] (by rfl) rfl rfl (by (try simp only [List.map_toArray, List.map_cons, List.map_nil]); first | done | rfl | (simp only [List.length_drop, List.length_take]; rfl)) ?_
                                  with_reducible refine (laws_same.calls kj12 _ _ y340 _ _ y344 true _ ?side1 ?side2 ?side3 ?side4 A66.out).mono ?_
                                  (case side1 => repeat (first | exact (by repeat (first | (with_reducible exact HR343.out) | (with_reducible refine Kd.C_alloc ?_ _) | (with_reducible refine Kd.C_drewN ?_ _) | (with_reducible refine Kd.C_drew ?_) | exact HR343.out)) | (with_reducible refine Kd.C_alloc ?_ _) | (with_reducible refine Kd.C_drewN ?_ _) | (with_reducible refine Kd.C_drew ?_)))
                                  (case side2 => exact HC343.out)
                                  (case side3 => repeat (first | exact (by repeat (first | (with_reducible exact HR347.out) | (with_reducible refine Kd.C_alloc ?_ _) | (with_reducible refine Kd.C_drewN ?_ _) | (with_reducible refine Kd.C_drew ?_) | exact HR347.out)) | (with_reducible refine Kd.C_alloc ?_ _) | (with_reducible refine Kd.C_drewN ?_ _) | (with_reducible refine Kd.C_drew ?_)))
                                  (case side4 => exact HC347.out)
                                  rintro e w' ⟨rfl, ⟨nd, rfl⟩⟩
                                  refine ⟨_, rfl, ?_⟩
                                  have q83 : ((ji68) : Int) ≤ ((t287.length : Int) : Int) := of_decide_eq_true (by first | (with_reducible assumption) | assumption)
                                  obtain ⟨i083, hi083, _, hsz83, _⟩ := info_parts info5
                                  have hroom83 : t287.length ≤ co77 := (Kd.R_reads' HO_6.out).2.1
                                  have hC83 : Kd.C (Kd.int .u8) _ Ao77 t287.length t287 := (Kd.R_reads' HO_6.out).2.2
                                  have q083 : (0 : Int) ≤ ((ji68) : Int) := of_decide_eq_true (by first | (with_reducible assumption) | assumption)
                                  have hcut83 := cut_from (P := Try.prog) 24 5 .i64 Try.underlying24 hi083 1 hsz83 Ao77 t287.length co77 (ji68) q083 q83
                                  have hr83 := Kd.C_drop (m := ((ji68) : Int).toNat) (c := co77) hC83 (by omega) hroom83
                                  obtain ⟨A83, hA83⟩ : ∃ A1, A1 = (if co77 = ((ji68) : Int).toNat then Ao77 else (Ao77 : Option Addr).map (·.add (((ji68) : Int).toNat * 1))) := ⟨_, rfl⟩
                                  obtain ⟨c83, hc83⟩ : ∃ c1, c1 = co77 - ((ji68) : Int).toNat := ⟨_, rfl⟩
                                  have hy83 : y349.length = t287.length - ((ji68) : Int).toNat := (by rw [Ny349.out, List.length_drop] <;> omega)
                                  rw [show (t287).drop ((ji68) : Int).toNat = y349 from Ny349.out.symm] at hr83
                                  replace hr83 : Kd.C (Kd.int .u8) _ A83 y349.length y349 := (by rw [hA83]; exact hr83)
                                  rw [← hy83, ← hA83, ← hc83] at hcut83
                                  have HR352 := Aside0.mk hr83
                                  have HC352 := Aside0.mk (show y349.length ≤ c83 from by rw [hy83, hc83]; exact Nat.sub_le_sub_right hroom83 _)
                                  clear hr83 hC83 hroom83 hi083 hsz83 hc83
                                  have KY83 := Aside0.mk hy83
                                  have KA83 := Aside0.mk hA83
                                  clear hy83 hA83
                                  have KL83 := Aside0.mk (show ((ji68) : Int).toNat ≤ t287.length from by omega)
                                  replace q83 := eq_true q83
                                  have q84 : ((ji68) : Int) ≤ ((t280.length : Int) : Int) := of_decide_eq_true (by first | (with_reducible assumption) | assumption)
                                  obtain ⟨i084, hi084, _, hsz84, _⟩ := info_parts info5
                                  have hroom84 : t280.length ≤ co15 := (Kd.R_reads' HO_3.out).2.1
                                  have hC84 : Kd.C (Kd.int .u8) _ Ao15 t280.length t280 := (Kd.R_reads' HO_3.out).2.2
                                  have q084 : (0 : Int) ≤ ((ji68) : Int) := of_decide_eq_true (by first | (with_reducible assumption) | assumption)
                                  have hcut84 := cut_from (P := Try.prog) 24 5 .i64 Try.underlying24 hi084 1 hsz84 Ao15 t280.length co15 (ji68) q084 q84
                                  have hr84 := Kd.C_drop (m := ((ji68) : Int).toNat) (c := co15) hC84 (by omega) hroom84
                                  obtain ⟨A84, hA84⟩ : ∃ A1, A1 = (if co15 = ((ji68) : Int).toNat then Ao15 else (Ao15 : Option Addr).map (·.add (((ji68) : Int).toNat * 1))) := ⟨_, rfl⟩
                                  obtain ⟨c84, hc84⟩ : ∃ c1, c1 = co15 - ((ji68) : Int).toNat := ⟨_, rfl⟩
                                  have hy84 : y353.length = t280.length - ((ji68) : Int).toNat := (by rw [Ny353.out, List.length_drop] <;> omega)
                                  rw [show (t280).drop ((ji68) : Int).toNat = y353 from Ny353.out.symm] at hr84
                                  replace hr84 : Kd.C (Kd.int .u8) _ A84 y353.length y353 := (by rw [hA84]; exact hr84)
                                  rw [← hy84, ← hA84, ← hc84] at hcut84
                                  have HR356 := Aside0.mk hr84
                                  have HC356 := Aside0.mk (show y353.length ≤ c84 from by rw [hy84, hc84]; exact Nat.sub_le_sub_right hroom84 _)
                                  clear hr84 hC84 hroom84 hi084 hsz84 hc84
                                  have KY84 := Aside0.mk hy84
                                  have KA84 := Aside0.mk hA84
                                  clear hy84 hA84
                                  have KL84 := Aside0.mk (show ((ji68) : Int).toNat ≤ t280.length from by omega)
                                  replace q84 := eq_true q84
                                  refine hK.out _ _ trivial (fun hHeld => ?_)
                                  clear hK K
                                  refine norm_ (a' := ?_) ?_ ?_
                                  rotate_left
                                  · show Act.put _ (some 154) _ = _
                                    simp only [Act.put, List.setIfInBounds_toArray, List.set_cons_zero, List.set_cons_succ, i64_w, i32_w]
                                    rfl
                                  refine pure_ (i := 21) (N := some 155) (v := ?_) (a' := ?_) #[true, true, true, true, true, true, true, true, true, true, true, true, true, true, true, true, true, true, true, true, true, true, false, false, false, false, false, false, false, false, false, false, false, false, false, false, false, false, false, false, false, false, false, false, false] rfl rfl (any_of HT_.out (by kernel_rfl)) (fun _ _ _ h => h) (Or.inl ⟨by rfl, ?_⟩) ?_ ?_
                                  rotate_left
                                  · intro w'
                                    go_simp
                                    with_reducible rfl
                                  rotate_left
                                  · simp only [Act.put, List.setIfInBounds_toArray, List.set_cons_zero, List.set_cons_succ, i64_w, i32_w]
                                    rfl
                                  refine pure_ (i := 22) (N := some 156) (v := ?_) (a' := ?_) #[true, true, true, true, true, true, true, true, true, true, true, true, true, true, true, true, true, true, true, true, true, true, true, false, false, false, false, false, false, false, false, false, false, false, false, false, false, false, false, false, false, false, false, false, false] rfl rfl (any_of HT_.out (by kernel_rfl)) (fun _ _ _ h => h) (Or.inl ⟨by rfl, ?_⟩) ?_ ?_
                                  rotate_left
                                  · intro w'
                                    go_simp
                                    with_reducible rfl
                                  rotate_left
                                  · simp only [Act.put, List.setIfInBounds_toArray, List.set_cons_zero, List.set_cons_succ, i64_w, i32_w]
                                    rfl
                                  refine pure_ (i := 23) (N := some 157) (v := ?_) (a' := ?_) #[true, true, true, true, true, true, true, true, true, true, true, true, true, true, true, true, true, true, true, true, true, true, true, true, false, false, false, false, false, false, false, false, false, false, false, false, false, false, false, false, false, false, false, false, false] rfl rfl (any_of HT_.out (by kernel_rfl)) (fun _ _ _ h => h) (Or.inl ⟨by rfl, ?_⟩) ?_ ?_
                                  rotate_left
                                  · intro w'
                                    go_simp
                                    with_reducible rfl
                                  rotate_left
                                  · simp only [Act.put, List.setIfInBounds_toArray, List.set_cons_zero, List.set_cons_succ, i64_w, i32_w]
                                    rfl
                                  refine pure_ (i := 24) (N := some 158) (v := ?_) (a' := ?_) #[true, true, true, true, true, true, true, true, true, true, true, true, true, true, true, true, true, true, true, true, true, true, true, true, true, false, false, false, false, false, false, false, false, false, false, false, false, false, false, false, false, false, false, false, false] rfl rfl (any_of HT_.out (by kernel_rfl)) (fun _ _ _ h => h) (Or.inl ⟨by rfl, ?_⟩) ?_ ?_
                                  rotate_left
                                  · intro w'
                                    go_simp
                                    with_reducible rfl
                                  rotate_left
                                  · simp only [Act.put, List.setIfInBounds_toArray, List.set_cons_zero, List.set_cons_succ, i64_w, i32_w]
                                    rfl
                                  refine pure_ (i := 25) (N := some 159) (v := ?_) (a' := ?_) #[true, true, true, true, true, true, true, true, true, true, true, true, true, true, true, true, true, true, true, true, true, true, true, true, true, true, false, false, false, false, false, false, false, false, false, false, false, false, false, false, false, false, false, false, false] rfl rfl (any_of HT_.out (by kernel_rfl)) (fun _ _ _ h => h) (Or.inl ⟨by rfl, ?_⟩) ?_ ?_
                                  rotate_left
                                  · intro w'
                                    go_simp
                                    with_reducible rfl
                                  rotate_left
                                  · simp only [Act.put, List.setIfInBounds_toArray, List.set_cons_zero, List.set_cons_succ, i64_w, i32_w]
                                    rfl
                                  refine pure_ (i := 26) (N := some 160) (v := ?_) (a' := ?_) #[true, true, true, true, true, true, true, true, true, true, true, true, true, true, true, true, true, true, true, true, true, true, true, true, true, true, true, false, false, false, false, false, false, false, false, false, false, false, false, false, false, false, false, false, false] rfl rfl (any_of HT_.out (by kernel_rfl)) (fun _ _ _ h => h) (Or.inl ⟨by rfl, ?_⟩) ?_ ?_
                                  rotate_left
                                  · intro w'
                                    go_simp
                                    with_reducible rfl
                                  rotate_left
                                  · simp only [Act.put, List.setIfInBounds_toArray, List.set_cons_zero, List.set_cons_succ, i64_w, i32_w]
                                    rfl
                                  refine pure_ (i := 27) (N := some 161) (v := ?_) (a' := ?_) #[true, true, true, true, true, true, true, true, true, true, true, true, true, true, true, true, true, true, true, true, true, true, true, true, true, true, true, true, false, false, false, false, false, false, false, false, false, false, false, false, false, false, false, false, false] rfl rfl (any_of HT_.out (by kernel_rfl)) (fun _ _ _ h => h) (Or.inl ⟨by rfl, ?_⟩) ?_ ?_
                                  rotate_left
                                  · intro w'
                                    go_simp
                                    with_reducible rfl
                                  rotate_left
                                  · simp only [Act.put, List.setIfInBounds_toArray, List.set_cons_zero, List.set_cons_succ, i64_w, i32_w]
                                    rfl
                                  refine pure_ (i := 28) (N := some 162) (v := ?_) (a' := ?_) #[true, true, true, true, true, true, true, true, true, true, true, true, true, true, true, true, true, true, true, true, true, true, true, true, true, true, true, true, true, false, false, false, false, false, false, false, false, false, false, false, false, false, false, false, false] rfl rfl (any_of HT_.out (by kernel_rfl)) (fun _ _ _ h => h) (Or.inl ⟨by rfl, ?_⟩) ?_ ?_
                                  rotate_left
                                  · intro w'
                                    go_simp
                                    with_reducible rfl
                                  rotate_left
                                  · simp only [Act.put, List.setIfInBounds_toArray, List.set_cons_zero, List.set_cons_succ, i64_w, i32_w]
                                    rfl
                                  refine pure_ (i := 29) (N := some 163) (v := ?_) (a' := ?_) #[true, true, true, true, true, true, true, true, true, true, true, true, true, true, true, true, true, true, true, true, true, true, true, true, true, true, true, true, true, true, false, false, false, false, false, false, false, false, false, false, false, false, false, false, false] rfl rfl (any_of HT_.out (by kernel_rfl)) (fun _ _ _ h => h) (Or.inl ⟨by rfl, ?_⟩) ?_ ?_
                                  rotate_left
                                  · intro w'
                                    go_simp
                                    with_reducible rfl
                                  rotate_left
                                  · simp only [Act.put, List.setIfInBounds_toArray, List.set_cons_zero, List.set_cons_succ, i64_w, i32_w]
                                    rfl
                                  refine pure_ (i := 30) (N := some 164) (v := ?_) (a' := ?_) #[true, true, true, true, true, true, true, true, true, true, true, true, true, true, true, true, true, true, true, true, true, true, true, true, true, true, true, true, true, true, true, false, false, false, false, false, false, false, false, false, false, false, false, false, false] rfl rfl (any_of HT_.out (by kernel_rfl)) (fun _ _ _ h => h) (Or.inl ⟨by rfl, ?_⟩) ?_ ?_
                                  rotate_left
                                  · intro w'
                                    go_simp
                                    with_reducible rfl
                                  rotate_left
                                  · simp only [Act.put, List.setIfInBounds_toArray, List.set_cons_zero, List.set_cons_succ, i64_w, i32_w]
                                    rfl
                                  refine pure_ (i := 31) (N := some 165) (v := ?_) (a' := ?_) #[true, true, true, true, true, true, true, true, true, true, true, true, true, true, true, true, true, true, true, true, true, true, true, true, true, true, true, true, true, true, true, true, false, false, false, false, false, false, false, false, false, false, false, false, false] rfl rfl (any_of HT_.out (by kernel_rfl)) (fun _ _ _ h => h) (Or.inl ⟨by rfl, ?_⟩) ?_ ?_
                                  rotate_left
                                  · intro w'
                                    go_simp
                                    with_reducible rfl
                                  rotate_left
                                  · simp only [Act.put, List.setIfInBounds_toArray, List.set_cons_zero, List.set_cons_succ, i64_w, i32_w]
                                    rfl
                                  refine pure_ (i := 32) (N := some 166) (v := ?_) (a' := ?_) #[true, true, true, true, true, true, true, true, true, true, true, true, true, true, true, true, true, true, true, true, true, true, true, true, true, true, true, true, true, true, true, true, true, false, false, false, false, false, false, false, false, false, false, false, false] rfl rfl (any_of HT_.out (by kernel_rfl)) (fun _ _ _ h => h) (Or.inl ⟨by rfl, ?_⟩) ?_ ?_
                                  rotate_left
                                  · intro w'
                                    go_simp
                                    with_reducible rfl
                                  rotate_left
                                  · simp only [Act.put, List.setIfInBounds_toArray, List.set_cons_zero, List.set_cons_succ, i64_w, i32_w]
                                    rfl
                                  refine pure_ (i := 33) (N := some 167) (v := ?_) (a' := ?_) #[true, true, true, true, true, true, true, true, true, true, true, true, true, true, true, true, true, true, true, true, true, true, true, true, true, true, true, true, true, true, true, true, true, true, false, false, false, false, false, false, false, false, false, false, false] rfl rfl (any_of HT_.out (by kernel_rfl)) (fun _ _ _ h => h) (Or.inl ⟨by rfl, ?_⟩) ?_ ?_
                                  rotate_left
                                  · intro w'
                                    go_simp
                                    with_reducible rfl
                                  rotate_left
                                  · simp only [Act.put, List.setIfInBounds_toArray, List.set_cons_zero, List.set_cons_succ, i64_w, i32_w]
                                    rfl
                                  refine pure_ (i := 34) (N := some 168) (v := ?_) (a' := ?_) #[true, true, true, true, true, true, true, true, true, true, true, true, true, true, true, true, true, true, true, true, true, true, true, true, true, true, true, true, true, true, true, true, true, true, true, false, false, false, false, false, false, false, false, false, false] rfl rfl (any_of HT_.out (by kernel_rfl)) (fun _ _ _ h => h) (Or.inl ⟨by rfl, ?_⟩) ?_ ?_
                                  rotate_left
                                  · intro w'
                                    go_simp
                                    with_reducible rfl
                                  rotate_left
                                  · simp only [Act.put, List.setIfInBounds_toArray, List.set_cons_zero, List.set_cons_succ, i64_w, i32_w]
                                    rfl
                                  refine one_ (i := 35) (N := some 169) #[true, true, true, true, true, true, true, true, true, true, true, true, true, true, true, true, true, true, true, true, true, true, true, true, true, true, true, true, true, true, true, true, true, true, true, true, false, false, false, false, false, false, false, false, false] rfl rfl (one_of HT_.out (by kernel_rfl)) (by decide) (fun K hK => ?_)
                                  refine goes_ Try.func31 (by kernel_rfl) rfl #[.slice A83 y349.length c83, .slice A84 y353.length c84] (by rfl) rfl rfl (by (try simp only [List.map_toArray, List.map_cons, List.map_nil]); first | done | rfl | (simp only [List.length_drop, List.length_take]; rfl)) ?_
                                  with_reducible refine (laws_same.calls kj12 _ _ y349 _ _ y353 true _ ?side1 ?side2 ?side3 ?side4 A73.out).mono ?_
                                  (case side1 => repeat (first | exact (by repeat (first | (with_reducible exact HR352.out) | (with_reducible refine Kd.C_alloc ?_ _) | (with_reducible refine Kd.C_drewN ?_ _) | (with_reducible refine Kd.C_drew ?_) | exact HR352.out)) | (with_reducible refine Kd.C_alloc ?_ _) | (with_reducible refine Kd.C_drewN ?_ _) | (with_reducible refine Kd.C_drew ?_)))
                                  (case side2 => exact HC352.out)
                                  (case side3 => repeat (first | exact (by repeat (first | (with_reducible exact HR356.out) | (with_reducible refine Kd.C_alloc ?_ _) | (with_reducible refine Kd.C_drewN ?_ _) | (with_reducible refine Kd.C_drew ?_) | exact HR356.out)) | (with_reducible refine Kd.C_alloc ?_ _) | (with_reducible refine Kd.C_drewN ?_ _) | (with_reducible refine Kd.C_drew ?_)))
                                  (case side4 => exact HC356.out)
                                  rintro e w' ⟨rfl, ⟨nd, rfl⟩⟩
                                  refine ⟨_, rfl, ?_⟩
                                  refine hK.out _ _ trivial (fun hHeld => ?_)
                                  clear hK K
                                  refine norm_ (a' := ?_) ?_ ?_
                                  rotate_left
                                  · show Act.put _ (some 169) _ = _
                                    simp only [Act.put, List.setIfInBounds_toArray, List.set_cons_zero, List.set_cons_succ, i64_w, i32_w]
                                    rfl
                                  refine pure_ (i := 36) (N := some 170) (v := ?_) (a' := ?_) #[true, true, true, true, true, true, true, true, true, true, true, true, true, true, true, true, true, true, true, true, true, true, true, true, true, true, true, true, true, true, true, true, true, true, true, true, true, false, false, false, false, false, false, false, false] rfl rfl (any_of HT_.out (by kernel_rfl)) (fun _ _ _ h => h) (Or.inl ⟨by rfl, ?_⟩) ?_ ?_
                                  rotate_left
                                  · intro w'
                                    go_simp
                                    with_reducible rfl
                                  rotate_left
                                  · simp only [Act.put, List.setIfInBounds_toArray, List.set_cons_zero, List.set_cons_succ, i64_w, i32_w]
                                    rfl
                                  refine pure_ (i := 37) (N := some 171) (v := ?_) (a' := ?_) #[true, true, true, true, true, true, true, true, true, true, true, true, true, true, true, true, true, true, true, true, true, true, true, true, true, true, true, true, true, true, true, true, true, true, true, true, true, true, false, false, false, false, false, false, false] rfl rfl (any_of HT_.out (by kernel_rfl)) (fun _ _ _ h => h) (Or.inl ⟨by rfl, ?_⟩) ?_ ?_
                                  rotate_left
                                  · intro w'
                                    go_simp
                                    with_reducible rfl
                                  rotate_left
                                  · simp only [Act.put, List.setIfInBounds_toArray, List.set_cons_zero, List.set_cons_succ, i64_w, i32_w]
                                    rfl
                                  refine pure_ (i := 38) (N := some 172) (v := ?_) (a' := ?_) #[true, true, true, true, true, true, true, true, true, true, true, true, true, true, true, true, true, true, true, true, true, true, true, true, true, true, true, true, true, true, true, true, true, true, true, true, true, true, true, false, false, false, false, false, false] rfl rfl (any_of HT_.out (by kernel_rfl)) (fun _ _ _ h => h) (Or.inl ⟨by rfl, ?_⟩) ?_ ?_
                                  rotate_left
                                  · intro w'
                                    go_simp
                                    with_reducible rfl
                                  rotate_left
                                  · simp only [Act.put, List.setIfInBounds_toArray, List.set_cons_zero, List.set_cons_succ, i64_w, i32_w]
                                    rfl
                                  refine pure_ (i := 39) (N := some 173) (v := ?_) (a' := ?_) #[true, true, true, true, true, true, true, true, true, true, true, true, true, true, true, true, true, true, true, true, true, true, true, true, true, true, true, true, true, true, true, true, true, true, true, true, true, true, true, true, false, false, false, false, false] rfl rfl (any_of HT_.out (by kernel_rfl)) (fun _ _ _ h => h) (Or.inl ⟨by rfl, ?_⟩) ?_ ?_
                                  rotate_left
                                  · intro w'
                                    go_simp
                                    with_reducible rfl
                                  rotate_left
                                  · simp only [Act.put, List.setIfInBounds_toArray, List.set_cons_zero, List.set_cons_succ, i64_w, i32_w]
                                    rfl
                                  refine pure_ (i := 40) (N := some 174) (v := ?_) (a' := ?_) #[true, true, true, true, true, true, true, true, true, true, true, true, true, true, true, true, true, true, true, true, true, true, true, true, true, true, true, true, true, true, true, true, true, true, true, true, true, true, true, true, true, false, false, false, false] rfl rfl (any_of HT_.out (by kernel_rfl)) (fun _ _ _ h => h) (Or.inl ⟨by rfl, ?_⟩) ?_ ?_
                                  rotate_left
                                  · intro w'
                                    go_simp
                                    with_reducible rfl
                                  rotate_left
                                  · simp only [Act.put, List.setIfInBounds_toArray, List.set_cons_zero, List.set_cons_succ, i64_w, i32_w]
                                    rfl
                                  refine one_ (i := 41) (N := some 175) #[true, true, true, true, true, true, true, true, true, true, true, true, true, true, true, true, true, true, true, true, true, true, true, true, true, true, true, true, true, true, true, true, true, true, true, true, true, true, true, true, true, true, false, false, false] rfl rfl (one_of HT_.out (by kernel_rfl)) (by decide) (fun K hK => ?_)
                                  refine goes_ Try.func17 (by kernel_rfl) rfl #[.slice Ao15 t280.length co15, .int .i64 0, .int .i64 (t280.length : Int)] (by rfl) rfl rfl (by (try simp only [List.map_toArray, List.map_cons, List.map_nil]); first | done | rfl | (simp only [List.length_drop, List.length_take]; rfl)) ?_
                                  with_reducible refine (impl_Wipe.calls _ _ t280 0 (t280.length : Int) t358 _ ?side1 ?side2 A75.out).mono ?_
                                  (case side1 => repeat (first | exact (Kd.R_reads' HO_3.out).2.2 | (with_reducible refine Kd.C_alloc ?_ _) | (with_reducible refine Kd.C_drewN ?_ _) | (with_reducible refine Kd.C_drew ?_)))
                                  (case side2 => exact (Kd.R_reads' HO_3.out).2.1)
                                  rintro e w85 ⟨v359, rfl, ho0, hb⟩
                                  refine ⟨_, rfl, ?_⟩
                                  have n0_ := Aside0.mk (Kd.R_elder' (by (with_reducible repeat (first | apply Kd.R_alloc | apply Kd.R_drewN | apply Kd.R_drew)); exact HO_3.out) (Kd.R_base ho0) hb)
                                  have n1_ := Aside0.mk (Kd.R_elder' (by (with_reducible repeat (first | apply Kd.R_alloc | apply Kd.R_drewN | apply Kd.R_drew)); exact HO_5.out) (Kd.R_base ho0) hb)
                                  have n2_ := Aside0.mk (Kd.R_elder' (by (with_reducible repeat (first | apply Kd.R_alloc | apply Kd.R_drewN | apply Kd.R_drew)); exact HO_6.out) (Kd.R_base ho0) hb)
                                  have n3_ := Aside0.mk (Kd.R_elder' (by (with_reducible repeat (first | apply Kd.R_alloc | apply Kd.R_drewN | apply Kd.R_drew)); exact HO338.out) (Kd.R_base ho0) hb)
                                  have n4_ := Aside0.mk (Kd.R_lower (Kd.R_new' (Kd.R_new' (Kd.R_new' (Kd.R_new' ho0 (Kd.R_lt (by (with_reducible repeat (first | apply Kd.R_alloc | apply Kd.R_drewN | apply Kd.R_drew)); exact HO_3.out))) (Kd.R_lt (by (with_reducible repeat (first | apply Kd.R_alloc | apply Kd.R_drewN | apply Kd.R_drew)); exact HO_5.out))) (Kd.R_lt (by (with_reducible repeat (first | apply Kd.R_alloc | apply Kd.R_drewN | apply Kd.R_drew)); exact HO_6.out))) (Kd.R_lt (by (with_reducible repeat (first | apply Kd.R_alloc | apply Kd.R_drewN | apply Kd.R_drew)); exact HO338.out))) (below_size (by repeat (first | (with_reducible first | exact HB.out | apply below_alloc | apply pw_below_drewN | apply below_drew1) | exact HB.out))))
                                  have n9_ := Aside0.mk (below_step (by repeat (first | (with_reducible first | exact HB.out | apply below_alloc | apply pw_below_drewN | apply below_drew1) | exact HB.out)) hb)
                                  clear HO_3
                                  clear HO_5
                                  clear HO_6
                                  clear HO338
                                  clear HR343
                                  clear HR347
                                  clear HR352
                                  clear HR356
                                  clear HB
                                  have HO_3 := n0_
                                  have HO_5 := n1_
                                  have HO_6 := n2_
                                  have HO338 := n3_
                                  have HO360 := n4_
                                  have HB := n9_
                                  clear n0_ n1_ n2_ n3_ n4_ n9_
                                  (try clear hb)
                                  (try clear hb2)
                                  (try clear hk)
                                  (try clear hi)
                                  (try clear ho0)
                                  obtain ⟨Ao86, co86, eo86⟩ := Kd.R_slice HO360.out
                                  (first | subst eo86 | (injection eo86 with f1_ f2_ f3_; have f4_ := f1_.symm; have f5_ := f3_.symm; clear f1_ f2_ f3_; subst f4_; subst f5_))
                                  refine hK.out _ _ trivial (fun hHeld => ?_)
                                  clear hK K
                                  refine norm_ (a' := ?_) ?_ ?_
                                  rotate_left
                                  · show Act.put _ (some 175) _ = _
                                    simp only [Act.put, List.setIfInBounds_toArray, List.set_cons_zero, List.set_cons_succ, i64_w, i32_w]
                                    rfl
                                  refine one_ (i := 42) (N := some 176) #[true, true, true, true, true, true, true, true, true, true, true, true, true, true, true, true, true, true, true, true, true, true, true, true, true, true, true, true, true, true, true, true, true, true, true, true, true, true, true, true, true, true, true, false, false] rfl rfl (one_of HT_.out (by kernel_rfl)) (by decide) (fun K hK => ?_)
                                  refine goes_ Try.func32 (by kernel_rfl) rfl #[.slice Ao86 t358.length co86] (by rfl) rfl rfl (by (try simp only [List.map_toArray, List.map_cons, List.map_nil]); first | done | rfl | (simp only [List.length_drop, List.length_take]; rfl)) ?_
                                  with_reducible refine (impl_IsZero.calls kj12 _ _ t358 t361 _ ?side1 ?side2 A76.out).mono ?_
                                  (case side1 => repeat (first | exact (Kd.R_reads' HO360.out).2.2 | (with_reducible refine Kd.C_alloc ?_ _) | (with_reducible refine Kd.C_drewN ?_ _) | (with_reducible refine Kd.C_drew ?_)))
                                  (case side2 => exact (Kd.R_reads' HO360.out).2.1)
                                  rintro e w' ⟨rfl, ⟨nd, rfl⟩⟩
                                  refine ⟨_, rfl, ?_⟩
                                  refine hK.out _ _ trivial (fun hHeld => ?_)
                                  clear hK K
                                  refine norm_ (a' := ?_) ?_ ?_
                                  rotate_left
                                  · show Act.put _ (some 176) _ = _
                                    simp only [Act.put, List.setIfInBounds_toArray, List.set_cons_zero, List.set_cons_succ, i64_w, i32_w]
                                    rfl
                                  refine pure_ (i := 43) (N := some 177) (v := ?_) (a' := ?_) #[true, true, true, true, true, true, true, true, true, true, true, true, true, true, true, true, true, true, true, true, true, true, true, true, true, true, true, true, true, true, true, true, true, true, true, true, true, true, true, true, true, true, true, true, false] rfl rfl (any_of HT_.out (by kernel_rfl)) (fun _ _ _ h => h) (Or.inl ⟨by rfl, ?_⟩) ?_ ?_
                                  rotate_left
                                  · intro w'
                                    go_simp
                                    with_reducible rfl
                                  rotate_left
                                  · simp only [Act.put, List.setIfInBounds_toArray, List.set_cons_zero, List.set_cons_succ, i64_w, i32_w]
                                    rfl
                                  refine pure_ (i := 44) (N := some 2) (v := ?_) (a' := ?_) #[true, true, true, true, true, true, true, true, true, true, true, true, true, true, true, true, true, true, true, true, true, true, true, true, true, true, true, true, true, true, true, true, true, true, true, true, true, true, true, true, true, true, true, true, true] rfl rfl (any_of HT_.out (by kernel_rfl)) (fun _ _ _ h => h) (Or.inl ⟨by rfl, ?_⟩) ?_ ?_
                                  rotate_left
                                  · intro w'
                                    go_simp
                                    with_reducible rfl
                                  rotate_left
                                  · simp only [Act.put, List.setIfInBounds_toArray, List.set_cons_zero, List.set_cons_succ, i64_w, i32_w]
                                    rfl
                                  refine done_ (done_of HT_.out (by kernel_rfl)) ?_
                                  try go_wp2
                                  go_ret
                                  exact ⟨by first | rfl | (simp [errW_none, errW_some] <;> rfl) | (simp only [← hji68]; first | rfl | (simp [errW_none, errW_some] <;> rfl)) | (simp [*, errW_none, errW_some] <;> rfl), by repeat (first | (with_reducible first | exact HB.out | apply below_alloc | apply pw_below_drewN | apply below_drew1) | exact HB.out)⟩
                                · replace c74 := Bool.eq_false_iff.mpr c74
                                  subst c74
                                  have H1 : (none) = some r := by rw [if_neg (show ¬ (false = true) by decide)] at H; exact H
                                  clear H
                                  have H := H1
                                  clear H1
                                  exact absurd H (by simp)
                              · rw [if_neg c72] at H
                                exact absurd H (by simp)
                            · rw [if_neg c70] at H
                              exact absurd H (by simp)
                          · rw [if_neg c69] at H
                            exact absurd H (by simp)
                        · replace c67 := Bool.eq_false_iff.mpr c67
                          subst c67
                          have H1 : (none) = some r := by rw [if_neg (show ¬ (false = true) by decide)] at H; exact H
                          clear H
                          have H := H1
                          clear H1
                          exact absurd H (by simp)
                      · rw [if_neg c65] at H
                        exact absurd H (by simp)
                    · rw [if_neg c63] at H
                      exact absurd H (by simp)
                  · rw [if_neg c62] at H
                    exact absurd H (by simp)
                · rw [if_neg c61] at H
                  have c61b0 : ((t287.length : Int) == (t280.length : Int)) = false := beq_eq_false_iff_ne.mpr c61
                  have c61b1 : ((t287.length : Int) != (t280.length : Int)) = true := bne_iff_ne.mpr c61
                  have c61b2 : (t287.length == t280.length) = false := by first | simpa using c61 | (simp at c61 ⊢; omega)
                  exact absurd H (by simp)
              · replace c60 := Bool.eq_false_iff.mpr c60
                subst c60
                have H1 : (none) = some r := by rw [if_neg (show ¬ (false = true) by decide)] at H; exact H
                clear H
                have H := H1
                clear H1
                exact absurd H (by simp)
            · replace c58 := Bool.eq_false_iff.mpr c58
              subst c58
              have H1 : (none) = some r := by rw [if_neg (show ¬ (false = true) by decide)] at H; exact H
              clear H
              have H := H1
              clear H1
              exact absurd H (by simp)
          · replace c56 := Bool.eq_false_iff.mpr c56
            subst c56
            have H1 : ((laws_same.f kj12 t287 t280).bind fun t334 => (some t334)) = some r := by rw [if_neg (show ¬ (false = true) by decide)] at H; exact H
            clear H
            have H := H1
            clear H1
            replace H := Option.bind_eq_some_iff.mp H
            obtain ⟨t334, A870, H⟩ := H
            replace H : (some t334) = some r := H
            have A87 := Aside0.mk A870
            clear A870
            obtain rfl := Option.some.inj H
            obtain ⟨Ao88, co88, eo88⟩ := Kd.R_slice HO_6.out
            subst eo88
            go_wp2_with (first | ((with_reducible refine gate_callee (f := 31) rfl ?_); refine goesL_ (some 125) rfl rfl Try.func31 (by kernel_rfl) rfl #[.slice Ao88 t287.length co88, .slice Ao15 t280.length co15] rfl (by (try simp only [List.map_toArray, List.map_cons, List.map_nil]); first | done | rfl | (simp only [List.length_drop, List.length_take]; rfl)) ?_; (with_reducible refine (laws_same.calls kj12 _ _ t287 _ _ t280 t334 _ ?side1 ?side2 ?side3 ?side4 A87.out).mono ?_); (case side1 => repeat (first | exact (Kd.R_reads' HO_6.out).2.2 | (with_reducible refine Kd.C_alloc ?_ _) | (with_reducible refine Kd.C_drewN ?_ _) | (with_reducible refine Kd.C_drew ?_))); (case side2 => exact (Kd.R_reads' HO_6.out).2.1); (case side3 => repeat (first | exact (Kd.R_reads' HO_3.out).2.2 | (with_reducible refine Kd.C_alloc ?_ _) | (with_reducible refine Kd.C_drewN ?_ _) | (with_reducible refine Kd.C_drew ?_))); (case side4 => exact (Kd.R_reads' HO_3.out).2.1); rintro e w' ⟨rfl, ⟨nd, rfl⟩⟩; refine ⟨_, rfl, ?_⟩))
            go_ret
            exact ⟨by first | rfl | (simp [errW_none, errW_some] <;> rfl) | (simp [*, errW_none, errW_some] <;> rfl), by repeat (first | (with_reducible first | exact HB.out | apply below_alloc | apply pw_below_drewN | apply below_drew1) | exact HB.out)⟩

/-- THE ONE PURE STATEMENT of laws_FnBytes: yours. -/
def laws_FnBytes.Pure : Prop := ∀ (l0 : List Int), l0.length ≤ maxLen → l0.length * 1 ≤ 140737488351232 → (∀ x ∈ l0, (Lit.int .u8 x).wf = true) → ∃ k, laws_FnBytes.f k l0 = some true
theorem laws_FnBytes.walk (P : laws_FnBytes.Pure) (a0 : Option Addr) (len0 cap0 : Nat) (z0 : List Int) (w : World) (w0 : (a0 = none ∧ len0 = 0 ∧ cap0 = 0 ∧ z0 = []) ∨ ∃ x, a0 = some x ∧ len0 ≤ cap0 ∧ cap0 ≤ maxLen ∧ z0.length = cap0 ∧ (∀ i, i < z0.length → w.cell? (x.add i) = some (.int .u8 (z0.getD i 0))) ∧ ∀ n ∈ z0, (Lit.int .u8 n).wf = true) (y0 : len0 * 1 ≤ 140737488351232) :
    Calls Try.prog 8 #[.slice a0 len0 cap0] w fun e w' => e = .returned (.bool true) ∧ Below w.heap.size w w' := by
  obtain ⟨l0, rfl, hr0, hm0, hw0, hc0⟩ := ReadsInt.ofRowC w0
  obtain ⟨k, h⟩ := P l0 hm0 y0 hw0
  refine (laws_FnBytes.calls k _ _ l0 true w (Kd.C_of_reads (d := (0 : Int)) (h1 := fun _ => rfl) hr0) hc0 h).mono ?_
  rintro e w' ⟨rfl, hd⟩
  exact ⟨rfl, hd⟩

end Go.Proofs.Ytamelcmioliapaa.QFnBytes
