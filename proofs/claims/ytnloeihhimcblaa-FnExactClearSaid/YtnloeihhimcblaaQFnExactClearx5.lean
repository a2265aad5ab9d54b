/- What the functions that the law FnExactClear reaches compute, as plain functions, and that the code computes just that (by a program of this session's; the library's functions by hand). No condition. -/
import Derived.Test.YtnloeihhimcblaaQFnExactClearx0
import Derived.Test.YtnloeihhimcblaaQFnExactClearx4
namespace Go.Proofs.Ytnloeihhimcblaa.QFnExactClear
open Go.RowKit Go.Proofs.YtnloeihhimcblaaW.PrintWords Go.Proofs.YtnloeihhimcblaaW.PrintLast Go.Proofs.YtnloeihhimcblaaW.PrintMore
attribute [local go_sem] max2_int min2_int max_two min_two max_three min_three max_four min_four   -- for this text's walks alone
set_option linter.unusedVariables false
set_option linter.unusedSimpArgs false

/-! ### laws_heldNodeS: function 43 -/
def laws_heldNodeS.l0 : Nat → List (S37) → Int → Int → Option (Int)
  | 0, _, _, _ => none
  | k + 1, x0, x1, x5 => if x5 < (x0.length : Int) then (if 0 ≤ x5 then (if ((rd_T37 x0 x5).f0) = x1 then (if ((rd_T37 x0 x5).f1) = (wrap64 (x1 + 1)) then (if ((rd_T37 x0 x5).f2) = (wrap64 ((wrap64 (x1 + 1)) + 1)) then (if ((rd_T37 x0 x5).f3) = (wrap64 ((wrap64 ((wrap64 (x1 + 1)) + 1)) + 1)) then (if ((rd_T37 x0 x5).f4) = (wrap64 ((wrap64 ((wrap64 ((wrap64 (x1 + 1)) + 1)) + 1)) + 1)) then (if ((rd_T37 x0 x5).f5) = (wrap64 ((wrap64 ((wrap64 ((wrap64 ((wrap64 (x1 + 1)) + 1)) + 1)) + 1)) + 1)) then (if ((rd_T37 x0 x5).f6) = (wrap64 ((wrap64 ((wrap64 ((wrap64 ((wrap64 ((wrap64 (x1 + 1)) + 1)) + 1)) + 1)) + 1)) + 1)) then (if ((rd_T37 x0 x5).f7) = (wrap64 ((wrap64 ((wrap64 ((wrap64 ((wrap64 ((wrap64 ((wrap64 (x1 + 1)) + 1)) + 1)) + 1)) + 1)) + 1)) + 1)) then ((laws_heldIntS.f k ((rd_T37 x0 x5).f8) (wrap64 ((wrap64 ((wrap64 ((wrap64 ((wrap64 ((wrap64 ((wrap64 ((wrap64 (x1 + 1)) + 1)) + 1)) + 1)) + 1)) + 1)) + 1)) + 1))).bind fun t191 => (if t191 < 0 then (some (-1)) else (if ((rd_T37 x0 x5).f9) = t191 then (if ((rd_T37 x0 x5).f10) = (wrap64 (t191 + 1)) then ((laws_heldThingS.f k ((rd_T37 x0 x5).f11) (wrap64 ((wrap64 (t191 + 1)) + 1))).bind fun t195 => (if t195 < 0 then (some (-1)) else ((laws_heldIntS.f k ((rd_T37 x0 x5).f12) t195).bind fun t197 => (if t197 < 0 then (some (-1)) else (laws_heldNodeS.l0 k x0 t197 (wrap64 (x5 + 1))))))) else (some (-1))) else (some (-1))))) else (some (-1))) else (some (-1))) else (some (-1))) else (some (-1))) else (some (-1))) else (some (-1))) else (some (-1))) else (some (-1))) else (none)) else (some x1)
def laws_heldNodeS.f (k : Nat) (l0 : List (S37)) (a1 : Int) : Option (Int) := laws_heldNodeS.l0 k l0 a1 0
theorem laws_heldNodeS.mono_l : ∀ k, (∀ y0 y1 y2, LeO (laws_heldNodeS.l0 k y0 y1 y2) (laws_heldNodeS.l0 (k + 1) y0 y1 y2))
  | 0 => fun _ _ _ r h => by simp [laws_heldNodeS.l0] at h
  | k + 1 => by
    have ih0 := laws_heldNodeS.mono_l k
    · intro y0 y1 y2
      unfold laws_heldNodeS.l0
      repeat' first
      | (with_reducible exact ih0 _ _ _)
      | (with_reducible exact laws_heldIntS.mono _ _ _)
      | (with_reducible exact laws_heldThingS.mono _ _ _)
      | (with_reducible exact LeO.refl _)
      | (with_reducible exact LeO.none _)
      | (with_reducible refine LeO.ite ?_ ?_)
      | (with_reducible refine LeO.bind ?_ (fun _ => ?_))
      | exact ih0 _ _ _
      | exact laws_heldIntS.mono _ _ _
      | exact laws_heldThingS.mono _ _ _
      | exact LeO.none _
      | refine LeO.ite ?_ ?_
      | refine LeO.bind ?_ (fun _ => ?_)
theorem laws_heldNodeS.mono : ∀ a0 a1 k, LeO (laws_heldNodeS.f k a0 a1) (laws_heldNodeS.f (k + 1) a0 a1) := by
  intro a0 a1 k
  have ih0 := laws_heldNodeS.mono_l k
  unfold laws_heldNodeS.f
  repeat' first
      | (with_reducible exact ih0 _ _ _)
      | (with_reducible exact laws_heldIntS.mono _ _ _)
      | (with_reducible exact laws_heldThingS.mono _ _ _)
      | (with_reducible exact LeO.refl _)
      | (with_reducible exact LeO.none _)
      | (with_reducible refine LeO.ite ?_ ?_)
      | (with_reducible refine LeO.bind ?_ (fun _ => ?_))
      | exact ih0 _ _ _
      | exact laws_heldIntS.mono _ _ _
      | exact laws_heldThingS.mono _ _ _
      | exact LeO.none _
      | refine LeO.ite ?_ ?_
      | refine LeO.bind ?_ (fun _ => ?_)
set_option maxHeartbeats 8000000 in
set_option maxRecDepth 100000 in
theorem laws_heldNodeS.calls (k : Nat) (A0 : Option Addr) (c0 : Nat) (l0 : List (S37)) (a1 : Int) (r : Int) (w : World) (hr0 : Kd.C k37 w A0 l0.length l0) (hc0 : l0.length ≤ c0) (h : laws_heldNodeS.f k l0 a1 = some r) :
    Calls Try.prog 43 #[.slice A0 l0.length c0, .int .i64 a1] w fun e w' => e = .returned (.int .i64 r) ∧ Drawn0 w w' := by
  have HR0 := Aside0.mk hr0
  have HC0 := Aside0.mk hc0
  clear hr0 hc0
  have H : (laws_heldNodeS.l0 k l0 a1 0) = some r := h
  clear h
  have H' := Aside0.mk H
  clear H
  go_enter Try.func43, Try.ntmps43
  go_wp2
  go_loopg [1, 5] k (fun kq v1 v5 w' => ∃ (x1_1 : Int) (x5_1 : Int), v1 = .int .i64 x1_1 ∧ v5 = .int .i64 x5_1 ∧ Aside0 (laws_heldNodeS.l0 kq l0 x1_1 x5_1 = some r) ∧ Aside0 (kq ≤ k) ∧ Drawn0 w w')
  case atStart => exact ⟨(a1), (0), (by first | rfl | (simp; done) | (simp [*]; done)), (by first | rfl | (simp; done) | (simp [*]; done)), H', ⟨Nat.le_refl _⟩, by repeat (first | exact Drawn0.refl _ | apply Drawn0.step)⟩
  case round =>
    clear H'
    try clear p2
    obtain ⟨x1_1, x5_1, rfl, rfl, HA, HK1, ⟨m1, rfl⟩⟩ := hrel
    cases gk with
    | zero => exact absurd HA.out (by simp [laws_heldNodeS.l0])
    | succ k1 =>
      have H := HA.out
      clear HA
      simp only [laws_heldNodeS.l0] at H
      by_cases c3 : x5_1 < (l0.length : Int)
      · rw [if_pos c3] at H
        have c3b0 : decide (x5_1 < (l0.length : Int)) = true := decide_eq_true c3
        clear c3
        by_cases c4 : 0 ≤ x5_1
        · rw [if_pos c4] at H
          have c4b0 : decide (0 ≤ x5_1) = true := decide_eq_true c4
          clear c4
          by_cases c5 : ((rd_T37 l0 x5_1).f0) = x1_1
          · rw [if_pos c5] at H
            have c5b0 : (((rd_T37 l0 x5_1).f0) == x1_1) = true := beq_iff_eq.mpr c5
            have c5b1 : (((rd_T37 l0 x5_1).f0) != x1_1) = false := bne_eq_false_iff_eq.mpr c5
            clear c5
            by_cases c6 : ((rd_T37 l0 x5_1).f1) = (wrap64 (x1_1 + 1))
            · rw [if_pos c6] at H
              have c6b0 : (((rd_T37 l0 x5_1).f1) == (wrap64 (x1_1 + 1))) = true := beq_iff_eq.mpr c6
              have c6b1 : (((rd_T37 l0 x5_1).f1) != (wrap64 (x1_1 + 1))) = false := bne_eq_false_iff_eq.mpr c6
              clear c6
              by_cases c7 : ((rd_T37 l0 x5_1).f2) = (wrap64 ((wrap64 (x1_1 + 1)) + 1))
              · rw [if_pos c7] at H
                have c7b0 : (((rd_T37 l0 x5_1).f2) == (wrap64 ((wrap64 (x1_1 + 1)) + 1))) = true := beq_iff_eq.mpr c7
                have c7b1 : (((rd_T37 l0 x5_1).f2) != (wrap64 ((wrap64 (x1_1 + 1)) + 1))) = false := bne_eq_false_iff_eq.mpr c7
                clear c7
                by_cases c8 : ((rd_T37 l0 x5_1).f3) = (wrap64 ((wrap64 ((wrap64 (x1_1 + 1)) + 1)) + 1))
                · rw [if_pos c8] at H
                  have c8b0 : (((rd_T37 l0 x5_1).f3) == (wrap64 ((wrap64 ((wrap64 (x1_1 + 1)) + 1)) + 1))) = true := beq_iff_eq.mpr c8
                  have c8b1 : (((rd_T37 l0 x5_1).f3) != (wrap64 ((wrap64 ((wrap64 (x1_1 + 1)) + 1)) + 1))) = false := bne_eq_false_iff_eq.mpr c8
                  clear c8
                  by_cases c9 : ((rd_T37 l0 x5_1).f4) = (wrap64 ((wrap64 ((wrap64 ((wrap64 (x1_1 + 1)) + 1)) + 1)) + 1))
                  · rw [if_pos c9] at H
                    have c9b0 : (((rd_T37 l0 x5_1).f4) == (wrap64 ((wrap64 ((wrap64 ((wrap64 (x1_1 + 1)) + 1)) + 1)) + 1))) = true := beq_iff_eq.mpr c9
                    have c9b1 : (((rd_T37 l0 x5_1).f4) != (wrap64 ((wrap64 ((wrap64 ((wrap64 (x1_1 + 1)) + 1)) + 1)) + 1))) = false := bne_eq_false_iff_eq.mpr c9
                    clear c9
                    by_cases c10 : ((rd_T37 l0 x5_1).f5) = (wrap64 ((wrap64 ((wrap64 ((wrap64 ((wrap64 (x1_1 + 1)) + 1)) + 1)) + 1)) + 1))
                    · rw [if_pos c10] at H
                      have c10b0 : (((rd_T37 l0 x5_1).f5) == (wrap64 ((wrap64 ((wrap64 ((wrap64 ((wrap64 (x1_1 + 1)) + 1)) + 1)) + 1)) + 1))) = true := beq_iff_eq.mpr c10
                      have c10b1 : (((rd_T37 l0 x5_1).f5) != (wrap64 ((wrap64 ((wrap64 ((wrap64 ((wrap64 (x1_1 + 1)) + 1)) + 1)) + 1)) + 1))) = false := bne_eq_false_iff_eq.mpr c10
                      clear c10
                      by_cases c11 : ((rd_T37 l0 x5_1).f6) = (wrap64 ((wrap64 ((wrap64 ((wrap64 ((wrap64 ((wrap64 (x1_1 + 1)) + 1)) + 1)) + 1)) + 1)) + 1))
                      · rw [if_pos c11] at H
                        have c11b0 : (((rd_T37 l0 x5_1).f6) == (wrap64 ((wrap64 ((wrap64 ((wrap64 ((wrap64 ((wrap64 (x1_1 + 1)) + 1)) + 1)) + 1)) + 1)) + 1))) = true := beq_iff_eq.mpr c11
                        have c11b1 : (((rd_T37 l0 x5_1).f6) != (wrap64 ((wrap64 ((wrap64 ((wrap64 ((wrap64 ((wrap64 (x1_1 + 1)) + 1)) + 1)) + 1)) + 1)) + 1))) = false := bne_eq_false_iff_eq.mpr c11
                        clear c11
                        by_cases c12 : ((rd_T37 l0 x5_1).f7) = (wrap64 ((wrap64 ((wrap64 ((wrap64 ((wrap64 ((wrap64 ((wrap64 (x1_1 + 1)) + 1)) + 1)) + 1)) + 1)) + 1)) + 1))
                        · rw [if_pos c12] at H
                          have c12b0 : (((rd_T37 l0 x5_1).f7) == (wrap64 ((wrap64 ((wrap64 ((wrap64 ((wrap64 ((wrap64 ((wrap64 (x1_1 + 1)) + 1)) + 1)) + 1)) + 1)) + 1)) + 1))) = true := beq_iff_eq.mpr c12
                          have c12b1 : (((rd_T37 l0 x5_1).f7) != (wrap64 ((wrap64 ((wrap64 ((wrap64 ((wrap64 ((wrap64 ((wrap64 (x1_1 + 1)) + 1)) + 1)) + 1)) + 1)) + 1)) + 1))) = false := bne_eq_false_iff_eq.mpr c12
                          clear c12
                          replace H := Option.bind_eq_some_iff.mp H
                          obtain ⟨t191, A130, H⟩ := H
                          replace H : (if t191 < 0 then (some (-1)) else (if ((rd_T37 l0 x5_1).f9) = t191 then (if ((rd_T37 l0 x5_1).f10) = (wrap64 (t191 + 1)) then ((laws_heldThingS.f k1 ((rd_T37 l0 x5_1).f11) (wrap64 ((wrap64 (t191 + 1)) + 1))).bind fun t195 => (if t195 < 0 then (some (-1)) else ((laws_heldIntS.f k1 ((rd_T37 l0 x5_1).f12) t195).bind fun t197 => (if t197 < 0 then (some (-1)) else (laws_heldNodeS.l0 k1 l0 t197 (wrap64 (x5_1 + 1))))))) else (some (-1))) else (some (-1)))) = some r := H
                          have A13 := Aside0.mk A130
                          clear A130
                          by_cases c14 : t191 < 0
                          · rw [if_pos c14] at H
                            have c14b0 : decide (t191 < 0) = true := decide_eq_true c14
                            clear c14
                            obtain rfl := Option.some.inj H
                            have p182 : 0 ≤ (x5_1 : Int) := of_decide_eq_true (by first | (with_reducible assumption) | assumption)
                            have q182 : x5_1 < (l0.length : Int) := of_decide_eq_true (by first | (with_reducible assumption) | assumption)
                            obtain ⟨ad182, A182_8, c182_8, A182_11, c182_11, A182_12, c182_12, e182, hx182_0, hx182_1, hx182_2, hx182_3, hx182_4, hx182_5, hx182_6, hx182_7, hx182_8, hx182_9, hx182_10, hx182_11, hx182_12, hl182_8, hi182_8, hl182_11, hi182_11, hl182_12, hi182_12⟩ := at_T37 HR0.out x5_1 p182 q182
                            cases e182
                            have HR182_8 := Aside0.mk hi182_8
                            have HC182_8 := Aside0.mk hl182_8
                            clear hi182_8 hl182_8
                            have HR182_11 := Aside0.mk hi182_11
                            have HC182_11 := Aside0.mk hl182_11
                            clear hi182_11 hl182_11
                            have HR182_12 := Aside0.mk hi182_12
                            have HC182_12 := Aside0.mk hl182_12
                            clear hi182_12 hl182_12
                            replace p182 := eq_true p182
                            replace q182 := eq_true q182
                            have p183 : 0 ≤ (x5_1 : Int) := of_decide_eq_true (by first | (with_reducible assumption) | assumption)
                            have q183 : x5_1 < (l0.length : Int) := of_decide_eq_true (by first | (with_reducible assumption) | assumption)
                            obtain ⟨ad183, A183_8, c183_8, A183_11, c183_11, A183_12, c183_12, e183, hx183_0, hx183_1, hx183_2, hx183_3, hx183_4, hx183_5, hx183_6, hx183_7, hx183_8, hx183_9, hx183_10, hx183_11, hx183_12, hl183_8, hi183_8, hl183_11, hi183_11, hl183_12, hi183_12⟩ := at_T37 HR0.out x5_1 p183 q183
                            obtain rfl : ad182 = ad183 := (by injection e183)
                            have HR183_8 := Aside0.mk hi183_8
                            have HC183_8 := Aside0.mk hl183_8
                            clear hi183_8 hl183_8
                            have HR183_11 := Aside0.mk hi183_11
                            have HC183_11 := Aside0.mk hl183_11
                            clear hi183_11 hl183_11
                            have HR183_12 := Aside0.mk hi183_12
                            have HC183_12 := Aside0.mk hl183_12
                            clear hi183_12 hl183_12
                            replace p183 := eq_true p183
                            replace q183 := eq_true q183
                            have ea_ := Option.some.inj (hx182_8.symm.trans hx183_8)
                            injection ea_ with ea_ en_ ec_
                            subst ea_
                            subst ec_
                            clear en_
                            have ea_ := Option.some.inj (hx182_11.symm.trans hx183_11)
                            injection ea_ with ea_ en_ ec_
                            subst ea_
                            subst ec_
                            clear en_
                            have ea_ := Option.some.inj (hx182_12.symm.trans hx183_12)
                            injection ea_ with ea_ en_ ec_
                            subst ea_
                            subst ec_
                            clear en_
                            have p184 : 0 ≤ (x5_1 : Int) := of_decide_eq_true (by first | (with_reducible assumption) | assumption)
                            have q184 : x5_1 < (l0.length : Int) := of_decide_eq_true (by first | (with_reducible assumption) | assumption)
                            obtain ⟨ad184, A184_8, c184_8, A184_11, c184_11, A184_12, c184_12, e184, hx184_0, hx184_1, hx184_2, hx184_3, hx184_4, hx184_5, hx184_6, hx184_7, hx184_8, hx184_9, hx184_10, hx184_11, hx184_12, hl184_8, hi184_8, hl184_11, hi184_11, hl184_12, hi184_12⟩ := at_T37 HR0.out x5_1 p184 q184
                            obtain rfl : ad182 = ad184 := (by injection e184)
                            have HR184_8 := Aside0.mk hi184_8
                            have HC184_8 := Aside0.mk hl184_8
                            clear hi184_8 hl184_8
                            have HR184_11 := Aside0.mk hi184_11
                            have HC184_11 := Aside0.mk hl184_11
                            clear hi184_11 hl184_11
                            have HR184_12 := Aside0.mk hi184_12
                            have HC184_12 := Aside0.mk hl184_12
                            clear hi184_12 hl184_12
                            replace p184 := eq_true p184
                            replace q184 := eq_true q184
                            have ea_ := Option.some.inj (hx182_8.symm.trans hx184_8)
                            injection ea_ with ea_ en_ ec_
                            subst ea_
                            subst ec_
                            clear en_
                            have ea_ := Option.some.inj (hx182_11.symm.trans hx184_11)
                            injection ea_ with ea_ en_ ec_
                            subst ea_
                            subst ec_
                            clear en_
                            have ea_ := Option.some.inj (hx182_12.symm.trans hx184_12)
                            injection ea_ with ea_ en_ ec_
                            subst ea_
                            subst ec_
                            clear en_
                            have p185 : 0 ≤ (x5_1 : Int) := of_decide_eq_true (by first | (with_reducible assumption) | assumption)
                            have q185 : x5_1 < (l0.length : Int) := of_decide_eq_true (by first | (with_reducible assumption) | assumption)
                            obtain ⟨ad185, A185_8, c185_8, A185_11, c185_11, A185_12, c185_12, e185, hx185_0, hx185_1, hx185_2, hx185_3, hx185_4, hx185_5, hx185_6, hx185_7, hx185_8, hx185_9, hx185_10, hx185_11, hx185_12, hl185_8, hi185_8, hl185_11, hi185_11, hl185_12, hi185_12⟩ := at_T37 HR0.out x5_1 p185 q185
                            obtain rfl : ad182 = ad185 := (by injection e185)
                            have HR185_8 := Aside0.mk hi185_8
                            have HC185_8 := Aside0.mk hl185_8
                            clear hi185_8 hl185_8
                            have HR185_11 := Aside0.mk hi185_11
                            have HC185_11 := Aside0.mk hl185_11
                            clear hi185_11 hl185_11
                            have HR185_12 := Aside0.mk hi185_12
                            have HC185_12 := Aside0.mk hl185_12
                            clear hi185_12 hl185_12
                            replace p185 := eq_true p185
                            replace q185 := eq_true q185
                            have ea_ := Option.some.inj (hx182_8.symm.trans hx185_8)
                            injection ea_ with ea_ en_ ec_
                            subst ea_
                            subst ec_
                            clear en_
                            have ea_ := Option.some.inj (hx182_11.symm.trans hx185_11)
                            injection ea_ with ea_ en_ ec_
                            subst ea_
                            subst ec_
                            clear en_
                            have ea_ := Option.some.inj (hx182_12.symm.trans hx185_12)
                            injection ea_ with ea_ en_ ec_
                            subst ea_
                            subst ec_
                            clear en_
                            have p186 : 0 ≤ (x5_1 : Int) := of_decide_eq_true (by first | (with_reducible assumption) | assumption)
                            have q186 : x5_1 < (l0.length : Int) := of_decide_eq_true (by first | (with_reducible assumption) | assumption)
                            obtain ⟨ad186, A186_8, c186_8, A186_11, c186_11, A186_12, c186_12, e186, hx186_0, hx186_1, hx186_2, hx186_3, hx186_4, hx186_5, hx186_6, hx186_7, hx186_8, hx186_9, hx186_10, hx186_11, hx186_12, hl186_8, hi186_8, hl186_11, hi186_11, hl186_12, hi186_12⟩ := at_T37 HR0.out x5_1 p186 q186
                            obtain rfl : ad182 = ad186 := (by injection e186)
                            have HR186_8 := Aside0.mk hi186_8
                            have HC186_8 := Aside0.mk hl186_8
                            clear hi186_8 hl186_8
                            have HR186_11 := Aside0.mk hi186_11
                            have HC186_11 := Aside0.mk hl186_11
                            clear hi186_11 hl186_11
                            have HR186_12 := Aside0.mk hi186_12
                            have HC186_12 := Aside0.mk hl186_12
                            clear hi186_12 hl186_12
                            replace p186 := eq_true p186
                            replace q186 := eq_true q186
                            have ea_ := Option.some.inj (hx182_8.symm.trans hx186_8)
                            injection ea_ with ea_ en_ ec_
                            subst ea_
                            subst ec_
                            clear en_
                            have ea_ := Option.some.inj (hx182_11.symm.trans hx186_11)
                            injection ea_ with ea_ en_ ec_
                            subst ea_
                            subst ec_
                            clear en_
                            have ea_ := Option.some.inj (hx182_12.symm.trans hx186_12)
                            injection ea_ with ea_ en_ ec_
                            subst ea_
                            subst ec_
                            clear en_
                            have p187 : 0 ≤ (x5_1 : Int) := of_decide_eq_true (by first | (with_reducible assumption) | assumption)
                            have q187 : x5_1 < (l0.length : Int) := of_decide_eq_true (by first | (with_reducible assumption) | assumption)
                            obtain ⟨ad187, A187_8, c187_8, A187_11, c187_11, A187_12, c187_12, e187, hx187_0, hx187_1, hx187_2, hx187_3, hx187_4, hx187_5, hx187_6, hx187_7, hx187_8, hx187_9, hx187_10, hx187_11, hx187_12, hl187_8, hi187_8, hl187_11, hi187_11, hl187_12, hi187_12⟩ := at_T37 HR0.out x5_1 p187 q187
                            obtain rfl : ad182 = ad187 := (by injection e187)
                            have HR187_8 := Aside0.mk hi187_8
                            have HC187_8 := Aside0.mk hl187_8
                            clear hi187_8 hl187_8
                            have HR187_11 := Aside0.mk hi187_11
                            have HC187_11 := Aside0.mk hl187_11
                            clear hi187_11 hl187_11
                            have HR187_12 := Aside0.mk hi187_12
                            have HC187_12 := Aside0.mk hl187_12
                            clear hi187_12 hl187_12
                            replace p187 := eq_true p187
                            replace q187 := eq_true q187
                            have ea_ := Option.some.inj (hx182_8.symm.trans hx187_8)
                            injection ea_ with ea_ en_ ec_
                            subst ea_
                            subst ec_
                            clear en_
                            have ea_ := Option.some.inj (hx182_11.symm.trans hx187_11)
                            injection ea_ with ea_ en_ ec_
                            subst ea_
                            subst ec_
                            clear en_
                            have ea_ := Option.some.inj (hx182_12.symm.trans hx187_12)
                            injection ea_ with ea_ en_ ec_
                            subst ea_
                            subst ec_
                            clear en_
                            have p188 : 0 ≤ (x5_1 : Int) := of_decide_eq_true (by first | (with_reducible assumption) | assumption)
                            have q188 : x5_1 < (l0.length : Int) := of_decide_eq_true (by first | (with_reducible assumption) | assumption)
                            obtain ⟨ad188, A188_8, c188_8, A188_11, c188_11, A188_12, c188_12, e188, hx188_0, hx188_1, hx188_2, hx188_3, hx188_4, hx188_5, hx188_6, hx188_7, hx188_8, hx188_9, hx188_10, hx188_11, hx188_12, hl188_8, hi188_8, hl188_11, hi188_11, hl188_12, hi188_12⟩ := at_T37 HR0.out x5_1 p188 q188
                            obtain rfl : ad182 = ad188 := (by injection e188)
                            have HR188_8 := Aside0.mk hi188_8
                            have HC188_8 := Aside0.mk hl188_8
                            clear hi188_8 hl188_8
                            have HR188_11 := Aside0.mk hi188_11
                            have HC188_11 := Aside0.mk hl188_11
                            clear hi188_11 hl188_11
                            have HR188_12 := Aside0.mk hi188_12
                            have HC188_12 := Aside0.mk hl188_12
                            clear hi188_12 hl188_12
                            replace p188 := eq_true p188
                            replace q188 := eq_true q188
                            have ea_ := Option.some.inj (hx182_8.symm.trans hx188_8)
                            injection ea_ with ea_ en_ ec_
                            subst ea_
                            subst ec_
                            clear en_
                            have ea_ := Option.some.inj (hx182_11.symm.trans hx188_11)
                            injection ea_ with ea_ en_ ec_
                            subst ea_
                            subst ec_
                            clear en_
                            have ea_ := Option.some.inj (hx182_12.symm.trans hx188_12)
                            injection ea_ with ea_ en_ ec_
                            subst ea_
                            subst ec_
                            clear en_
                            have p189 : 0 ≤ (x5_1 : Int) := of_decide_eq_true (by first | (with_reducible assumption) | assumption)
                            have q189 : x5_1 < (l0.length : Int) := of_decide_eq_true (by first | (with_reducible assumption) | assumption)
                            obtain ⟨ad189, A189_8, c189_8, A189_11, c189_11, A189_12, c189_12, e189, hx189_0, hx189_1, hx189_2, hx189_3, hx189_4, hx189_5, hx189_6, hx189_7, hx189_8, hx189_9, hx189_10, hx189_11, hx189_12, hl189_8, hi189_8, hl189_11, hi189_11, hl189_12, hi189_12⟩ := at_T37 HR0.out x5_1 p189 q189
                            obtain rfl : ad182 = ad189 := (by injection e189)
                            have HR189_8 := Aside0.mk hi189_8
                            have HC189_8 := Aside0.mk hl189_8
                            clear hi189_8 hl189_8
                            have HR189_11 := Aside0.mk hi189_11
                            have HC189_11 := Aside0.mk hl189_11
                            clear hi189_11 hl189_11
                            have HR189_12 := Aside0.mk hi189_12
                            have HC189_12 := Aside0.mk hl189_12
                            clear hi189_12 hl189_12
                            replace p189 := eq_true p189
                            replace q189 := eq_true q189
                            have ea_ := Option.some.inj (hx182_8.symm.trans hx189_8)
                            injection ea_ with ea_ en_ ec_
                            subst ea_
                            subst ec_
                            clear en_
                            have ea_ := Option.some.inj (hx182_11.symm.trans hx189_11)
                            injection ea_ with ea_ en_ ec_
                            subst ea_
                            subst ec_
                            clear en_
                            have ea_ := Option.some.inj (hx182_12.symm.trans hx189_12)
                            injection ea_ with ea_ en_ ec_
                            subst ea_
                            subst ec_
                            clear en_
                            have p190 : 0 ≤ (x5_1 : Int) := of_decide_eq_true (by first | (with_reducible assumption) | assumption)
                            have q190 : x5_1 < (l0.length : Int) := of_decide_eq_true (by first | (with_reducible assumption) | assumption)
                            obtain ⟨ad190, A190_8, c190_8, A190_11, c190_11, A190_12, c190_12, e190, hx190_0, hx190_1, hx190_2, hx190_3, hx190_4, hx190_5, hx190_6, hx190_7, hx190_8, hx190_9, hx190_10, hx190_11, hx190_12, hl190_8, hi190_8, hl190_11, hi190_11, hl190_12, hi190_12⟩ := at_T37 HR0.out x5_1 p190 q190
                            obtain rfl : ad182 = ad190 := (by injection e190)
                            have HR190_8 := Aside0.mk hi190_8
                            have HC190_8 := Aside0.mk hl190_8
                            clear hi190_8 hl190_8
                            have HR190_11 := Aside0.mk hi190_11
                            have HC190_11 := Aside0.mk hl190_11
                            clear hi190_11 hl190_11
                            have HR190_12 := Aside0.mk hi190_12
                            have HC190_12 := Aside0.mk hl190_12
                            clear hi190_12 hl190_12
                            replace p190 := eq_true p190
                            replace q190 := eq_true q190
                            have ea_ := Option.some.inj (hx182_8.symm.trans hx190_8)
                            injection ea_ with ea_ en_ ec_
                            subst ea_
                            subst ec_
                            clear en_
                            have ea_ := Option.some.inj (hx182_11.symm.trans hx190_11)
                            injection ea_ with ea_ en_ ec_
                            subst ea_
                            subst ec_
                            clear en_
                            have ea_ := Option.some.inj (hx182_12.symm.trans hx190_12)
                            injection ea_ with ea_ en_ ec_
                            subst ea_
                            subst ec_
                            clear en_
                            go_wp2_with (first | ((with_reducible refine gate_callee (f := 39) rfl ?_); refine goesL_ (some 90) rfl rfl Try.func39 (by kernel_rfl) rfl #[.slice A182_8 ((rd_T37 l0 x5_1).f8).length c182_8, .int .i64 (wrap64 ((wrap64 ((wrap64 ((wrap64 ((wrap64 ((wrap64 ((wrap64 ((wrap64 (x1_1 + 1)) + 1)) + 1)) + 1)) + 1)) + 1)) + 1)) + 1))] rfl (by (try simp only [List.map_toArray, List.map_cons, List.map_nil]); first | done | rfl | (simp only [List.length_drop, List.length_take]; rfl)) ?_; (with_reducible refine (laws_heldIntS.calls k1 _ _ ((rd_T37 l0 x5_1).f8) (wrap64 ((wrap64 ((wrap64 ((wrap64 ((wrap64 ((wrap64 ((wrap64 ((wrap64 (x1_1 + 1)) + 1)) + 1)) + 1)) + 1)) + 1)) + 1)) + 1)) t191 _ ?side1 ?side2 A13.out).mono ?_); (case side1 => repeat (first | exact HR190_8.out | (with_reducible refine Kd.C_alloc ?_ _) | (with_reducible refine Kd.C_drewN ?_ _) | (with_reducible refine Kd.C_drew ?_))); (case side2 => exact HC190_8.out); rintro e w' ⟨rfl, ⟨nd, rfl⟩⟩; refine ⟨_, rfl, ?_⟩))
                            go_ret
                            exact ⟨by first | rfl | (simp; done) | (simp [*]; done), by repeat (first | exact Drawn0.refl _ | apply Drawn0.step)⟩
                          · rw [if_neg c14] at H
                            have c14b0 : decide (t191 < 0) = false := decide_eq_false c14
                            clear c14
                            by_cases c15 : ((rd_T37 l0 x5_1).f9) = t191
                            · rw [if_pos c15] at H
                              have c15b0 : (((rd_T37 l0 x5_1).f9) == t191) = true := beq_iff_eq.mpr c15
                              have c15b1 : (((rd_T37 l0 x5_1).f9) != t191) = false := bne_eq_false_iff_eq.mpr c15
                              clear c15
                              by_cases c16 : ((rd_T37 l0 x5_1).f10) = (wrap64 (t191 + 1))
                              · rw [if_pos c16] at H
                                have c16b0 : (((rd_T37 l0 x5_1).f10) == (wrap64 (t191 + 1))) = true := beq_iff_eq.mpr c16
                                have c16b1 : (((rd_T37 l0 x5_1).f10) != (wrap64 (t191 + 1))) = false := bne_eq_false_iff_eq.mpr c16
                                clear c16
                                replace H := Option.bind_eq_some_iff.mp H
                                obtain ⟨t195, A170, H⟩ := H
                                replace H : (if t195 < 0 then (some (-1)) else ((laws_heldIntS.f k1 ((rd_T37 l0 x5_1).f12) t195).bind fun t197 => (if t197 < 0 then (some (-1)) else (laws_heldNodeS.l0 k1 l0 t197 (wrap64 (x5_1 + 1)))))) = some r := H
                                have A17 := Aside0.mk A170
                                clear A170
                                by_cases c18 : t195 < 0
                                · rw [if_pos c18] at H
                                  have c18b0 : decide (t195 < 0) = true := decide_eq_true c18
                                  clear c18
                                  obtain rfl := Option.some.inj H
                                  have p182 : 0 ≤ (x5_1 : Int) := of_decide_eq_true (by first | (with_reducible assumption) | assumption)
                                  have q182 : x5_1 < (l0.length : Int) := of_decide_eq_true (by first | (with_reducible assumption) | assumption)
                                  obtain ⟨ad182, A182_8, c182_8, A182_11, c182_11, A182_12, c182_12, e182, hx182_0, hx182_1, hx182_2, hx182_3, hx182_4, hx182_5, hx182_6, hx182_7, hx182_8, hx182_9, hx182_10, hx182_11, hx182_12, hl182_8, hi182_8, hl182_11, hi182_11, hl182_12, hi182_12⟩ := at_T37 HR0.out x5_1 p182 q182
                                  cases e182
                                  have HR182_8 := Aside0.mk hi182_8
                                  have HC182_8 := Aside0.mk hl182_8
                                  clear hi182_8 hl182_8
                                  have HR182_11 := Aside0.mk hi182_11
                                  have HC182_11 := Aside0.mk hl182_11
                                  clear hi182_11 hl182_11
                                  have HR182_12 := Aside0.mk hi182_12
                                  have HC182_12 := Aside0.mk hl182_12
                                  clear hi182_12 hl182_12
                                  replace p182 := eq_true p182
                                  replace q182 := eq_true q182
                                  have p183 : 0 ≤ (x5_1 : Int) := of_decide_eq_true (by first | (with_reducible assumption) | assumption)
                                  have q183 : x5_1 < (l0.length : Int) := of_decide_eq_true (by first | (with_reducible assumption) | assumption)
                                  obtain ⟨ad183, A183_8, c183_8, A183_11, c183_11, A183_12, c183_12, e183, hx183_0, hx183_1, hx183_2, hx183_3, hx183_4, hx183_5, hx183_6, hx183_7, hx183_8, hx183_9, hx183_10, hx183_11, hx183_12, hl183_8, hi183_8, hl183_11, hi183_11, hl183_12, hi183_12⟩ := at_T37 HR0.out x5_1 p183 q183
                                  obtain rfl : ad182 = ad183 := (by injection e183)
                                  have HR183_8 := Aside0.mk hi183_8
                                  have HC183_8 := Aside0.mk hl183_8
                                  clear hi183_8 hl183_8
                                  have HR183_11 := Aside0.mk hi183_11
                                  have HC183_11 := Aside0.mk hl183_11
                                  clear hi183_11 hl183_11
                                  have HR183_12 := Aside0.mk hi183_12
                                  have HC183_12 := Aside0.mk hl183_12
                                  clear hi183_12 hl183_12
                                  replace p183 := eq_true p183
                                  replace q183 := eq_true q183
                                  have ea_ := Option.some.inj (hx182_8.symm.trans hx183_8)
                                  injection ea_ with ea_ en_ ec_
                                  subst ea_
                                  subst ec_
                                  clear en_
                                  have ea_ := Option.some.inj (hx182_11.symm.trans hx183_11)
                                  injection ea_ with ea_ en_ ec_
                                  subst ea_
                                  subst ec_
                                  clear en_
                                  have ea_ := Option.some.inj (hx182_12.symm.trans hx183_12)
                                  injection ea_ with ea_ en_ ec_
                                  subst ea_
                                  subst ec_
                                  clear en_
                                  have p184 : 0 ≤ (x5_1 : Int) := of_decide_eq_true (by first | (with_reducible assumption) | assumption)
                                  have q184 : x5_1 < (l0.length : Int) := of_decide_eq_true (by first | (with_reducible assumption) | assumption)
                                  obtain ⟨ad184, A184_8, c184_8, A184_11, c184_11, A184_12, c184_12, e184, hx184_0, hx184_1, hx184_2, hx184_3, hx184_4, hx184_5, hx184_6, hx184_7, hx184_8, hx184_9, hx184_10, hx184_11, hx184_12, hl184_8, hi184_8, hl184_11, hi184_11, hl184_12, hi184_12⟩ := at_T37 HR0.out x5_1 p184 q184
                                  obtain rfl : ad182 = ad184 := (by injection e184)
                                  have HR184_8 := Aside0.mk hi184_8
                                  have HC184_8 := Aside0.mk hl184_8
                                  clear hi184_8 hl184_8
                                  have HR184_11 := Aside0.mk hi184_11
                                  have HC184_11 := Aside0.mk hl184_11
                                  clear hi184_11 hl184_11
                                  have HR184_12 := Aside0.mk hi184_12
                                  have HC184_12 := Aside0.mk hl184_12
                                  clear hi184_12 hl184_12
                                  replace p184 := eq_true p184
                                  replace q184 := eq_true q184
                                  have ea_ := Option.some.inj (hx182_8.symm.trans hx184_8)
                                  injection ea_ with ea_ en_ ec_
                                  subst ea_
                                  subst ec_
                                  clear en_
                                  have ea_ := Option.some.inj (hx182_11.symm.trans hx184_11)
                                  injection ea_ with ea_ en_ ec_
                                  subst ea_
                                  subst ec_
                                  clear en_
                                  have ea_ := Option.some.inj (hx182_12.symm.trans hx184_12)
                                  injection ea_ with ea_ en_ ec_
                                  subst ea_
                                  subst ec_
                                  clear en_
                                  have p185 : 0 ≤ (x5_1 : Int) := of_decide_eq_true (by first | (with_reducible assumption) | assumption)
                                  have q185 : x5_1 < (l0.length : Int) := of_decide_eq_true (by first | (with_reducible assumption) | assumption)
                                  obtain ⟨ad185, A185_8, c185_8, A185_11, c185_11, A185_12, c185_12, e185, hx185_0, hx185_1, hx185_2, hx185_3, hx185_4, hx185_5, hx185_6, hx185_7, hx185_8, hx185_9, hx185_10, hx185_11, hx185_12, hl185_8, hi185_8, hl185_11, hi185_11, hl185_12, hi185_12⟩ := at_T37 HR0.out x5_1 p185 q185
                                  obtain rfl : ad182 = ad185 := (by injection e185)
                                  have HR185_8 := Aside0.mk hi185_8
                                  have HC185_8 := Aside0.mk hl185_8
                                  clear hi185_8 hl185_8
                                  have HR185_11 := Aside0.mk hi185_11
                                  have HC185_11 := Aside0.mk hl185_11
                                  clear hi185_11 hl185_11
                                  have HR185_12 := Aside0.mk hi185_12
                                  have HC185_12 := Aside0.mk hl185_12
                                  clear hi185_12 hl185_12
                                  replace p185 := eq_true p185
                                  replace q185 := eq_true q185
                                  have ea_ := Option.some.inj (hx182_8.symm.trans hx185_8)
                                  injection ea_ with ea_ en_ ec_
                                  subst ea_
                                  subst ec_
                                  clear en_
                                  have ea_ := Option.some.inj (hx182_11.symm.trans hx185_11)
                                  injection ea_ with ea_ en_ ec_
                                  subst ea_
                                  subst ec_
                                  clear en_
                                  have ea_ := Option.some.inj (hx182_12.symm.trans hx185_12)
                                  injection ea_ with ea_ en_ ec_
                                  subst ea_
                                  subst ec_
                                  clear en_
                                  have p186 : 0 ≤ (x5_1 : Int) := of_decide_eq_true (by first | (with_reducible assumption) | assumption)
                                  have q186 : x5_1 < (l0.length : Int) := of_decide_eq_true (by first | (with_reducible assumption) | assumption)
                                  obtain ⟨ad186, A186_8, c186_8, A186_11, c186_11, A186_12, c186_12, e186, hx186_0, hx186_1, hx186_2, hx186_3, hx186_4, hx186_5, hx186_6, hx186_7, hx186_8, hx186_9, hx186_10, hx186_11, hx186_12, hl186_8, hi186_8, hl186_11, hi186_11, hl186_12, hi186_12⟩ := at_T37 HR0.out x5_1 p186 q186
                                  obtain rfl : ad182 = ad186 := (by injection e186)
                                  have HR186_8 := Aside0.mk hi186_8
                                  have HC186_8 := Aside0.mk hl186_8
                                  clear hi186_8 hl186_8
                                  have HR186_11 := Aside0.mk hi186_11
                                  have HC186_11 := Aside0.mk hl186_11
                                  clear hi186_11 hl186_11
                                  have HR186_12 := Aside0.mk hi186_12
                                  have HC186_12 := Aside0.mk hl186_12
                                  clear hi186_12 hl186_12
                                  replace p186 := eq_true p186
                                  replace q186 := eq_true q186
                                  have ea_ := Option.some.inj (hx182_8.symm.trans hx186_8)
                                  injection ea_ with ea_ en_ ec_
                                  subst ea_
                                  subst ec_
                                  clear en_
                                  have ea_ := Option.some.inj (hx182_11.symm.trans hx186_11)
                                  injection ea_ with ea_ en_ ec_
                                  subst ea_
                                  subst ec_
                                  clear en_
                                  have ea_ := Option.some.inj (hx182_12.symm.trans hx186_12)
                                  injection ea_ with ea_ en_ ec_
                                  subst ea_
                                  subst ec_
                                  clear en_
                                  have p187 : 0 ≤ (x5_1 : Int) := of_decide_eq_true (by first | (with_reducible assumption) | assumption)
                                  have q187 : x5_1 < (l0.length : Int) := of_decide_eq_true (by first | (with_reducible assumption) | assumption)
                                  obtain ⟨ad187, A187_8, c187_8, A187_11, c187_11, A187_12, c187_12, e187, hx187_0, hx187_1, hx187_2, hx187_3, hx187_4, hx187_5, hx187_6, hx187_7, hx187_8, hx187_9, hx187_10, hx187_11, hx187_12, hl187_8, hi187_8, hl187_11, hi187_11, hl187_12, hi187_12⟩ := at_T37 HR0.out x5_1 p187 q187
                                  obtain rfl : ad182 = ad187 := (by injection e187)
                                  have HR187_8 := Aside0.mk hi187_8
                                  have HC187_8 := Aside0.mk hl187_8
                                  clear hi187_8 hl187_8
                                  have HR187_11 := Aside0.mk hi187_11
                                  have HC187_11 := Aside0.mk hl187_11
                                  clear hi187_11 hl187_11
                                  have HR187_12 := Aside0.mk hi187_12
                                  have HC187_12 := Aside0.mk hl187_12
                                  clear hi187_12 hl187_12
                                  replace p187 := eq_true p187
                                  replace q187 := eq_true q187
                                  have ea_ := Option.some.inj (hx182_8.symm.trans hx187_8)
                                  injection ea_ with ea_ en_ ec_
                                  subst ea_
                                  subst ec_
                                  clear en_
                                  have ea_ := Option.some.inj (hx182_11.symm.trans hx187_11)
                                  injection ea_ with ea_ en_ ec_
                                  subst ea_
                                  subst ec_
                                  clear en_
                                  have ea_ := Option.some.inj (hx182_12.symm.trans hx187_12)
                                  injection ea_ with ea_ en_ ec_
                                  subst ea_
                                  subst ec_
                                  clear en_
                                  have p188 : 0 ≤ (x5_1 : Int) := of_decide_eq_true (by first | (with_reducible assumption) | assumption)
                                  have q188 : x5_1 < (l0.length : Int) := of_decide_eq_true (by first | (with_reducible assumption) | assumption)
                                  obtain ⟨ad188, A188_8, c188_8, A188_11, c188_11, A188_12, c188_12, e188, hx188_0, hx188_1, hx188_2, hx188_3, hx188_4, hx188_5, hx188_6, hx188_7, hx188_8, hx188_9, hx188_10, hx188_11, hx188_12, hl188_8, hi188_8, hl188_11, hi188_11, hl188_12, hi188_12⟩ := at_T37 HR0.out x5_1 p188 q188
                                  obtain rfl : ad182 = ad188 := (by injection e188)
                                  have HR188_8 := Aside0.mk hi188_8
                                  have HC188_8 := Aside0.mk hl188_8
                                  clear hi188_8 hl188_8
                                  have HR188_11 := Aside0.mk hi188_11
                                  have HC188_11 := Aside0.mk hl188_11
                                  clear hi188_11 hl188_11
                                  have HR188_12 := Aside0.mk hi188_12
                                  have HC188_12 := Aside0.mk hl188_12
                                  clear hi188_12 hl188_12
                                  replace p188 := eq_true p188
                                  replace q188 := eq_true q188
                                  have ea_ := Option.some.inj (hx182_8.symm.trans hx188_8)
                                  injection ea_ with ea_ en_ ec_
                                  subst ea_
                                  subst ec_
                                  clear en_
                                  have ea_ := Option.some.inj (hx182_11.symm.trans hx188_11)
                                  injection ea_ with ea_ en_ ec_
                                  subst ea_
                                  subst ec_
                                  clear en_
                                  have ea_ := Option.some.inj (hx182_12.symm.trans hx188_12)
                                  injection ea_ with ea_ en_ ec_
                                  subst ea_
                                  subst ec_
                                  clear en_
                                  have p189 : 0 ≤ (x5_1 : Int) := of_decide_eq_true (by first | (with_reducible assumption) | assumption)
                                  have q189 : x5_1 < (l0.length : Int) := of_decide_eq_true (by first | (with_reducible assumption) | assumption)
                                  obtain ⟨ad189, A189_8, c189_8, A189_11, c189_11, A189_12, c189_12, e189, hx189_0, hx189_1, hx189_2, hx189_3, hx189_4, hx189_5, hx189_6, hx189_7, hx189_8, hx189_9, hx189_10, hx189_11, hx189_12, hl189_8, hi189_8, hl189_11, hi189_11, hl189_12, hi189_12⟩ := at_T37 HR0.out x5_1 p189 q189
                                  obtain rfl : ad182 = ad189 := (by injection e189)
                                  have HR189_8 := Aside0.mk hi189_8
                                  have HC189_8 := Aside0.mk hl189_8
                                  clear hi189_8 hl189_8
                                  have HR189_11 := Aside0.mk hi189_11
                                  have HC189_11 := Aside0.mk hl189_11
                                  clear hi189_11 hl189_11
                                  have HR189_12 := Aside0.mk hi189_12
                                  have HC189_12 := Aside0.mk hl189_12
                                  clear hi189_12 hl189_12
                                  replace p189 := eq_true p189
                                  replace q189 := eq_true q189
                                  have ea_ := Option.some.inj (hx182_8.symm.trans hx189_8)
                                  injection ea_ with ea_ en_ ec_
                                  subst ea_
                                  subst ec_
                                  clear en_
                                  have ea_ := Option.some.inj (hx182_11.symm.trans hx189_11)
                                  injection ea_ with ea_ en_ ec_
                                  subst ea_
                                  subst ec_
                                  clear en_
                                  have ea_ := Option.some.inj (hx182_12.symm.trans hx189_12)
                                  injection ea_ with ea_ en_ ec_
                                  subst ea_
                                  subst ec_
                                  clear en_
                                  have p190 : 0 ≤ (x5_1 : Int) := of_decide_eq_true (by first | (with_reducible assumption) | assumption)
                                  have q190 : x5_1 < (l0.length : Int) := of_decide_eq_true (by first | (with_reducible assumption) | assumption)
                                  obtain ⟨ad190, A190_8, c190_8, A190_11, c190_11, A190_12, c190_12, e190, hx190_0, hx190_1, hx190_2, hx190_3, hx190_4, hx190_5, hx190_6, hx190_7, hx190_8, hx190_9, hx190_10, hx190_11, hx190_12, hl190_8, hi190_8, hl190_11, hi190_11, hl190_12, hi190_12⟩ := at_T37 HR0.out x5_1 p190 q190
                                  obtain rfl : ad182 = ad190 := (by injection e190)
                                  have HR190_8 := Aside0.mk hi190_8
                                  have HC190_8 := Aside0.mk hl190_8
                                  clear hi190_8 hl190_8
                                  have HR190_11 := Aside0.mk hi190_11
                                  have HC190_11 := Aside0.mk hl190_11
                                  clear hi190_11 hl190_11
                                  have HR190_12 := Aside0.mk hi190_12
                                  have HC190_12 := Aside0.mk hl190_12
                                  clear hi190_12 hl190_12
                                  replace p190 := eq_true p190
                                  replace q190 := eq_true q190
                                  have ea_ := Option.some.inj (hx182_8.symm.trans hx190_8)
                                  injection ea_ with ea_ en_ ec_
                                  subst ea_
                                  subst ec_
                                  clear en_
                                  have ea_ := Option.some.inj (hx182_11.symm.trans hx190_11)
                                  injection ea_ with ea_ en_ ec_
                                  subst ea_
                                  subst ec_
                                  clear en_
                                  have ea_ := Option.some.inj (hx182_12.symm.trans hx190_12)
                                  injection ea_ with ea_ en_ ec_
                                  subst ea_
                                  subst ec_
                                  clear en_
                                  go_wp2_with (first | ((with_reducible refine gate_callee (f := 39) rfl ?_); refine goesL_ (some 90) rfl rfl Try.func39 (by kernel_rfl) rfl #[.slice A182_8 ((rd_T37 l0 x5_1).f8).length c182_8, .int .i64 (wrap64 ((wrap64 ((wrap64 ((wrap64 ((wrap64 ((wrap64 ((wrap64 ((wrap64 (x1_1 + 1)) + 1)) + 1)) + 1)) + 1)) + 1)) + 1)) + 1))] rfl (by (try simp only [List.map_toArray, List.map_cons, List.map_nil]); first | done | rfl | (simp only [List.length_drop, List.length_take]; rfl)) ?_; (with_reducible refine (laws_heldIntS.calls k1 _ _ ((rd_T37 l0 x5_1).f8) (wrap64 ((wrap64 ((wrap64 ((wrap64 ((wrap64 ((wrap64 ((wrap64 ((wrap64 (x1_1 + 1)) + 1)) + 1)) + 1)) + 1)) + 1)) + 1)) + 1)) t191 _ ?side1 ?side2 A13.out).mono ?_); (case side1 => repeat (first | exact HR190_8.out | (with_reducible refine Kd.C_alloc ?_ _) | (with_reducible refine Kd.C_drewN ?_ _) | (with_reducible refine Kd.C_drew ?_))); (case side2 => exact HC190_8.out); rintro e w' ⟨rfl, ⟨nd, rfl⟩⟩; refine ⟨_, rfl, ?_⟩; have p192 : 0 ≤ (x5_1 : Int) := of_decide_eq_true (by first | (with_reducible assumption) | assumption); have q192 : x5_1 < (l0.length : Int) := of_decide_eq_true (by first | (with_reducible assumption) | assumption); obtain ⟨ad192, A192_8, c192_8, A192_11, c192_11, A192_12, c192_12, e192, hx192_0, hx192_1, hx192_2, hx192_3, hx192_4, hx192_5, hx192_6, hx192_7, hx192_8, hx192_9, hx192_10, hx192_11, hx192_12, hl192_8, hi192_8, hl192_11, hi192_11, hl192_12, hi192_12⟩ := at_T37 HR0.out x5_1 p192 q192; obtain rfl : ad182 = ad192 := (by injection e192); have HR192_8 := Aside0.mk hi192_8; have HC192_8 := Aside0.mk hl192_8; clear hi192_8 hl192_8; have HR192_11 := Aside0.mk hi192_11; have HC192_11 := Aside0.mk hl192_11; clear hi192_11 hl192_11; have HR192_12 := Aside0.mk hi192_12; have HC192_12 := Aside0.mk hl192_12; clear hi192_12 hl192_12; replace p192 := eq_true p192; replace q192 := eq_true q192; have ea_ := Option.some.inj (hx182_8.symm.trans hx192_8); injection ea_ with ea_ en_ ec_; subst ea_; subst ec_; clear en_; have ea_ := Option.some.inj (hx182_11.symm.trans hx192_11); injection ea_ with ea_ en_ ec_; subst ea_; subst ec_; clear en_; have ea_ := Option.some.inj (hx182_12.symm.trans hx192_12); injection ea_ with ea_ en_ ec_; subst ea_; subst ec_; clear en_; have p193 : 0 ≤ (x5_1 : Int) := of_decide_eq_true (by first | (with_reducible assumption) | assumption); have q193 : x5_1 < (l0.length : Int) := of_decide_eq_true (by first | (with_reducible assumption) | assumption); obtain ⟨ad193, A193_8, c193_8, A193_11, c193_11, A193_12, c193_12, e193, hx193_0, hx193_1, hx193_2, hx193_3, hx193_4, hx193_5, hx193_6, hx193_7, hx193_8, hx193_9, hx193_10, hx193_11, hx193_12, hl193_8, hi193_8, hl193_11, hi193_11, hl193_12, hi193_12⟩ := at_T37 HR0.out x5_1 p193 q193; obtain rfl : ad182 = ad193 := (by injection e193); have HR193_8 := Aside0.mk hi193_8; have HC193_8 := Aside0.mk hl193_8; clear hi193_8 hl193_8; have HR193_11 := Aside0.mk hi193_11; have HC193_11 := Aside0.mk hl193_11; clear hi193_11 hl193_11; have HR193_12 := Aside0.mk hi193_12; have HC193_12 := Aside0.mk hl193_12; clear hi193_12 hl193_12; replace p193 := eq_true p193; replace q193 := eq_true q193; have ea_ := Option.some.inj (hx182_8.symm.trans hx193_8); injection ea_ with ea_ en_ ec_; subst ea_; subst ec_; clear en_; have ea_ := Option.some.inj (hx182_11.symm.trans hx193_11); injection ea_ with ea_ en_ ec_; subst ea_; subst ec_; clear en_; have ea_ := Option.some.inj (hx182_12.symm.trans hx193_12); injection ea_ with ea_ en_ ec_; subst ea_; subst ec_; clear en_; have p194 : 0 ≤ (x5_1 : Int) := of_decide_eq_true (by first | (with_reducible assumption) | assumption); have q194 : x5_1 < (l0.length : Int) := of_decide_eq_true (by first | (with_reducible assumption) | assumption); obtain ⟨ad194, A194_8, c194_8, A194_11, c194_11, A194_12, c194_12, e194, hx194_0, hx194_1, hx194_2, hx194_3, hx194_4, hx194_5, hx194_6, hx194_7, hx194_8, hx194_9, hx194_10, hx194_11, hx194_12, hl194_8, hi194_8, hl194_11, hi194_11, hl194_12, hi194_12⟩ := at_T37 HR0.out x5_1 p194 q194; obtain rfl : ad182 = ad194 := (by injection e194); have HR194_8 := Aside0.mk hi194_8; have HC194_8 := Aside0.mk hl194_8; clear hi194_8 hl194_8; have HR194_11 := Aside0.mk hi194_11; have HC194_11 := Aside0.mk hl194_11; clear hi194_11 hl194_11; have HR194_12 := Aside0.mk hi194_12; have HC194_12 := Aside0.mk hl194_12; clear hi194_12 hl194_12; replace p194 := eq_true p194; replace q194 := eq_true q194; have ea_ := Option.some.inj (hx182_8.symm.trans hx194_8); injection ea_ with ea_ en_ ec_; subst ea_; subst ec_; clear en_; have ea_ := Option.some.inj (hx182_11.symm.trans hx194_11); injection ea_ with ea_ en_ ec_; subst ea_; subst ec_; clear en_; have ea_ := Option.some.inj (hx182_12.symm.trans hx194_12); injection ea_ with ea_ en_ ec_; subst ea_; subst ec_; clear en_) | ((with_reducible refine gate_callee (f := 97) rfl ?_); refine goesL_ (some 117) rfl rfl Try.func97 (by kernel_rfl) rfl #[.slice A182_11 ((rd_T37 l0 x5_1).f11).length c182_11, .int .i64 (wrap64 ((wrap64 (t191 + 1)) + 1))] rfl (by (try simp only [List.map_toArray, List.map_cons, List.map_nil]); first | done | rfl | (simp only [List.length_drop, List.length_take]; rfl)) ?_; (with_reducible refine (laws_heldThingS.calls k1 _ _ ((rd_T37 l0 x5_1).f11) (wrap64 ((wrap64 (t191 + 1)) + 1)) t195 _ ?side1 ?side2 A17.out).mono ?_); (case side1 => repeat (first | exact HR194_11.out | (with_reducible refine Kd.C_alloc ?_ _) | (with_reducible refine Kd.C_drewN ?_ _) | (with_reducible refine Kd.C_drew ?_))); (case side2 => exact HC194_11.out); rintro e w' ⟨rfl, ⟨nd, rfl⟩⟩; refine ⟨_, rfl, ?_⟩))
                                  go_ret
                                  exact ⟨by first | rfl | (simp; done) | (simp [*]; done), by repeat (first | exact Drawn0.refl _ | apply Drawn0.step)⟩
                                · rw [if_neg c18] at H
                                  have c18b0 : decide (t195 < 0) = false := decide_eq_false c18
                                  clear c18
                                  replace H := Option.bind_eq_some_iff.mp H
                                  obtain ⟨t197, A190, H⟩ := H
                                  replace H : (if t197 < 0 then (some (-1)) else (laws_heldNodeS.l0 k1 l0 t197 (wrap64 (x5_1 + 1)))) = some r := H
                                  have A19 := Aside0.mk A190
                                  clear A190
                                  by_cases c20 : t197 < 0
                                  · rw [if_pos c20] at H
                                    have c20b0 : decide (t197 < 0) = true := decide_eq_true c20
                                    clear c20
                                    obtain rfl := Option.some.inj H
                                    have p182 : 0 ≤ (x5_1 : Int) := of_decide_eq_true (by first | (with_reducible assumption) | assumption)
                                    have q182 : x5_1 < (l0.length : Int) := of_decide_eq_true (by first | (with_reducible assumption) | assumption)
                                    obtain ⟨ad182, A182_8, c182_8, A182_11, c182_11, A182_12, c182_12, e182, hx182_0, hx182_1, hx182_2, hx182_3, hx182_4, hx182_5, hx182_6, hx182_7, hx182_8, hx182_9, hx182_10, hx182_11, hx182_12, hl182_8, hi182_8, hl182_11, hi182_11, hl182_12, hi182_12⟩ := at_T37 HR0.out x5_1 p182 q182
                                    cases e182
                                    have HR182_8 := Aside0.mk hi182_8
                                    have HC182_8 := Aside0.mk hl182_8
                                    clear hi182_8 hl182_8
                                    have HR182_11 := Aside0.mk hi182_11
                                    have HC182_11 := Aside0.mk hl182_11
                                    clear hi182_11 hl182_11
                                    have HR182_12 := Aside0.mk hi182_12
                                    have HC182_12 := Aside0.mk hl182_12
                                    clear hi182_12 hl182_12
                                    replace p182 := eq_true p182
                                    replace q182 := eq_true q182
                                    have p183 : 0 ≤ (x5_1 : Int) := of_decide_eq_true (by first | (with_reducible assumption) | assumption)
                                    have q183 : x5_1 < (l0.length : Int) := of_decide_eq_true (by first | (with_reducible assumption) | assumption)
                                    obtain ⟨ad183, A183_8, c183_8, A183_11, c183_11, A183_12, c183_12, e183, hx183_0, hx183_1, hx183_2, hx183_3, hx183_4, hx183_5, hx183_6, hx183_7, hx183_8, hx183_9, hx183_10, hx183_11, hx183_12, hl183_8, hi183_8, hl183_11, hi183_11, hl183_12, hi183_12⟩ := at_T37 HR0.out x5_1 p183 q183
                                    obtain rfl : ad182 = ad183 := (by injection e183)
                                    have HR183_8 := Aside0.mk hi183_8
                                    have HC183_8 := Aside0.mk hl183_8
                                    clear hi183_8 hl183_8
                                    have HR183_11 := Aside0.mk hi183_11
                                    have HC183_11 := Aside0.mk hl183_11
                                    clear hi183_11 hl183_11
                                    have HR183_12 := Aside0.mk hi183_12
                                    have HC183_12 := Aside0.mk hl183_12
                                    clear hi183_12 hl183_12
                                    replace p183 := eq_true p183
                                    replace q183 := eq_true q183
                                    have ea_ := Option.some.inj (hx182_8.symm.trans hx183_8)
                                    injection ea_ with ea_ en_ ec_
                                    subst ea_
                                    subst ec_
                                    clear en_
                                    have ea_ := Option.some.inj (hx182_11.symm.trans hx183_11)
                                    injection ea_ with ea_ en_ ec_
                                    subst ea_
                                    subst ec_
                                    clear en_
                                    have ea_ := Option.some.inj (hx182_12.symm.trans hx183_12)
                                    injection ea_ with ea_ en_ ec_
                                    subst ea_
                                    subst ec_
                                    clear en_
                                    have p184 : 0 ≤ (x5_1 : Int) := of_decide_eq_true (by first | (with_reducible assumption) | assumption)
                                    have q184 : x5_1 < (l0.length : Int) := of_decide_eq_true (by first | (with_reducible assumption) | assumption)
                                    obtain ⟨ad184, A184_8, c184_8, A184_11, c184_11, A184_12, c184_12, e184, hx184_0, hx184_1, hx184_2, hx184_3, hx184_4, hx184_5, hx184_6, hx184_7, hx184_8, hx184_9, hx184_10, hx184_11, hx184_12, hl184_8, hi184_8, hl184_11, hi184_11, hl184_12, hi184_12⟩ := at_T37 HR0.out x5_1 p184 q184
                                    obtain rfl : ad182 = ad184 := (by injection e184)
                                    have HR184_8 := Aside0.mk hi184_8
                                    have HC184_8 := Aside0.mk hl184_8
                                    clear hi184_8 hl184_8
                                    have HR184_11 := Aside0.mk hi184_11
                                    have HC184_11 := Aside0.mk hl184_11
                                    clear hi184_11 hl184_11
                                    have HR184_12 := Aside0.mk hi184_12
                                    have HC184_12 := Aside0.mk hl184_12
                                    clear hi184_12 hl184_12
                                    replace p184 := eq_true p184
                                    replace q184 := eq_true q184
                                    have ea_ := Option.some.inj (hx182_8.symm.trans hx184_8)
                                    injection ea_ with ea_ en_ ec_
                                    subst ea_
                                    subst ec_
                                    clear en_
                                    have ea_ := Option.some.inj (hx182_11.symm.trans hx184_11)
                                    injection ea_ with ea_ en_ ec_
                                    subst ea_
                                    subst ec_
                                    clear en_
                                    have ea_ := Option.some.inj (hx182_12.symm.trans hx184_12)
                                    injection ea_ with ea_ en_ ec_
                                    subst ea_
                                    subst ec_
                                    clear en_
                                    have p185 : 0 ≤ (x5_1 : Int) := of_decide_eq_true (by first | (with_reducible assumption) | assumption)
                                    have q185 : x5_1 < (l0.length : Int) := of_decide_eq_true (by first | (with_reducible assumption) | assumption)
                                    obtain ⟨ad185, A185_8, c185_8, A185_11, c185_11, A185_12, c185_12, e185, hx185_0, hx185_1, hx185_2, hx185_3, hx185_4, hx185_5, hx185_6, hx185_7, hx185_8, hx185_9, hx185_10, hx185_11, hx185_12, hl185_8, hi185_8, hl185_11, hi185_11, hl185_12, hi185_12⟩ := at_T37 HR0.out x5_1 p185 q185
                                    obtain rfl : ad182 = ad185 := (by injection e185)
                                    have HR185_8 := Aside0.mk hi185_8
                                    have HC185_8 := Aside0.mk hl185_8
                                    clear hi185_8 hl185_8
                                    have HR185_11 := Aside0.mk hi185_11
                                    have HC185_11 := Aside0.mk hl185_11
                                    clear hi185_11 hl185_11
                                    have HR185_12 := Aside0.mk hi185_12
                                    have HC185_12 := Aside0.mk hl185_12
                                    clear hi185_12 hl185_12
                                    replace p185 := eq_true p185
                                    replace q185 := eq_true q185
                                    have ea_ := Option.some.inj (hx182_8.symm.trans hx185_8)
                                    injection ea_ with ea_ en_ ec_
                                    subst ea_
                                    subst ec_
                                    clear en_
                                    have ea_ := Option.some.inj (hx182_11.symm.trans hx185_11)
                                    injection ea_ with ea_ en_ ec_
                                    subst ea_
                                    subst ec_
                                    clear en_
                                    have ea_ := Option.some.inj (hx182_12.symm.trans hx185_12)
                                    injection ea_ with ea_ en_ ec_
                                    subst ea_
                                    subst ec_
                                    clear en_
                                    have p186 : 0 ≤ (x5_1 : Int) := of_decide_eq_true (by first | (with_reducible assumption) | assumption)
                                    have q186 : x5_1 < (l0.length : Int) := of_decide_eq_true (by first | (with_reducible assumption) | assumption)
                                    obtain ⟨ad186, A186_8, c186_8, A186_11, c186_11, A186_12, c186_12, e186, hx186_0, hx186_1, hx186_2, hx186_3, hx186_4, hx186_5, hx186_6, hx186_7, hx186_8, hx186_9, hx186_10, hx186_11, hx186_12, hl186_8, hi186_8, hl186_11, hi186_11, hl186_12, hi186_12⟩ := at_T37 HR0.out x5_1 p186 q186
                                    obtain rfl : ad182 = ad186 := (by injection e186)
                                    have HR186_8 := Aside0.mk hi186_8
                                    have HC186_8 := Aside0.mk hl186_8
                                    clear hi186_8 hl186_8
                                    have HR186_11 := Aside0.mk hi186_11
                                    have HC186_11 := Aside0.mk hl186_11
                                    clear hi186_11 hl186_11
                                    have HR186_12 := Aside0.mk hi186_12
                                    have HC186_12 := Aside0.mk hl186_12
                                    clear hi186_12 hl186_12
                                    replace p186 := eq_true p186
                                    replace q186 := eq_true q186
                                    have ea_ := Option.some.inj (hx182_8.symm.trans hx186_8)
                                    injection ea_ with ea_ en_ ec_
                                    subst ea_
                                    subst ec_
                                    clear en_
                                    have ea_ := Option.some.inj (hx182_11.symm.trans hx186_11)
                                    injection ea_ with ea_ en_ ec_
                                    subst ea_
                                    subst ec_
                                    clear en_
                                    have ea_ := Option.some.inj (hx182_12.symm.trans hx186_12)
                                    injection ea_ with ea_ en_ ec_
                                    subst ea_
                                    subst ec_
                                    clear en_
                                    have p187 : 0 ≤ (x5_1 : Int) := of_decide_eq_true (by first | (with_reducible assumption) | assumption)
                                    have q187 : x5_1 < (l0.length : Int) := of_decide_eq_true (by first | (with_reducible assumption) | assumption)
                                    obtain ⟨ad187, A187_8, c187_8, A187_11, c187_11, A187_12, c187_12, e187, hx187_0, hx187_1, hx187_2, hx187_3, hx187_4, hx187_5, hx187_6, hx187_7, hx187_8, hx187_9, hx187_10, hx187_11, hx187_12, hl187_8, hi187_8, hl187_11, hi187_11, hl187_12, hi187_12⟩ := at_T37 HR0.out x5_1 p187 q187
                                    obtain rfl : ad182 = ad187 := (by injection e187)
                                    have HR187_8 := Aside0.mk hi187_8
                                    have HC187_8 := Aside0.mk hl187_8
                                    clear hi187_8 hl187_8
                                    have HR187_11 := Aside0.mk hi187_11
                                    have HC187_11 := Aside0.mk hl187_11
                                    clear hi187_11 hl187_11
                                    have HR187_12 := Aside0.mk hi187_12
                                    have HC187_12 := Aside0.mk hl187_12
                                    clear hi187_12 hl187_12
                                    replace p187 := eq_true p187
                                    replace q187 := eq_true q187
                                    have ea_ := Option.some.inj (hx182_8.symm.trans hx187_8)
                                    injection ea_ with ea_ en_ ec_
                                    subst ea_
                                    subst ec_
                                    clear en_
                                    have ea_ := Option.some.inj (hx182_11.symm.trans hx187_11)
                                    injection ea_ with ea_ en_ ec_
                                    subst ea_
                                    subst ec_
                                    clear en_
                                    have ea_ := Option.some.inj (hx182_12.symm.trans hx187_12)
                                    injection ea_ with ea_ en_ ec_
                                    subst ea_
                                    subst ec_
                                    clear en_
                                    have p188 : 0 ≤ (x5_1 : Int) := of_decide_eq_true (by first | (with_reducible assumption) | assumption)
                                    have q188 : x5_1 < (l0.length : Int) := of_decide_eq_true (by first | (with_reducible assumption) | assumption)
                                    obtain ⟨ad188, A188_8, c188_8, A188_11, c188_11, A188_12, c188_12, e188, hx188_0, hx188_1, hx188_2, hx188_3, hx188_4, hx188_5, hx188_6, hx188_7, hx188_8, hx188_9, hx188_10, hx188_11, hx188_12, hl188_8, hi188_8, hl188_11, hi188_11, hl188_12, hi188_12⟩ := at_T37 HR0.out x5_1 p188 q188
                                    obtain rfl : ad182 = ad188 := (by injection e188)
                                    have HR188_8 := Aside0.mk hi188_8
                                    have HC188_8 := Aside0.mk hl188_8
                                    clear hi188_8 hl188_8
                                    have HR188_11 := Aside0.mk hi188_11
                                    have HC188_11 := Aside0.mk hl188_11
                                    clear hi188_11 hl188_11
                                    have HR188_12 := Aside0.mk hi188_12
                                    have HC188_12 := Aside0.mk hl188_12
                                    clear hi188_12 hl188_12
                                    replace p188 := eq_true p188
                                    replace q188 := eq_true q188
                                    have ea_ := Option.some.inj (hx182_8.symm.trans hx188_8)
                                    injection ea_ with ea_ en_ ec_
                                    subst ea_
                                    subst ec_
                                    clear en_
                                    have ea_ := Option.some.inj (hx182_11.symm.trans hx188_11)
                                    injection ea_ with ea_ en_ ec_
                                    subst ea_
                                    subst ec_
                                    clear en_
                                    have ea_ := Option.some.inj (hx182_12.symm.trans hx188_12)
                                    injection ea_ with ea_ en_ ec_
                                    subst ea_
                                    subst ec_
                                    clear en_
                                    have p189 : 0 ≤ (x5_1 : Int) := of_decide_eq_true (by first | (with_reducible assumption) | assumption)
                                    have q189 : x5_1 < (l0.length : Int) := of_decide_eq_true (by first | (with_reducible assumption) | assumption)
                                    obtain ⟨ad189, A189_8, c189_8, A189_11, c189_11, A189_12, c189_12, e189, hx189_0, hx189_1, hx189_2, hx189_3, hx189_4, hx189_5, hx189_6, hx189_7, hx189_8, hx189_9, hx189_10, hx189_11, hx189_12, hl189_8, hi189_8, hl189_11, hi189_11, hl189_12, hi189_12⟩ := at_T37 HR0.out x5_1 p189 q189
                                    obtain rfl : ad182 = ad189 := (by injection e189)
                                    have HR189_8 := Aside0.mk hi189_8
                                    have HC189_8 := Aside0.mk hl189_8
                                    clear hi189_8 hl189_8
                                    have HR189_11 := Aside0.mk hi189_11
                                    have HC189_11 := Aside0.mk hl189_11
                                    clear hi189_11 hl189_11
                                    have HR189_12 := Aside0.mk hi189_12
                                    have HC189_12 := Aside0.mk hl189_12
                                    clear hi189_12 hl189_12
                                    replace p189 := eq_true p189
                                    replace q189 := eq_true q189
                                    have ea_ := Option.some.inj (hx182_8.symm.trans hx189_8)
                                    injection ea_ with ea_ en_ ec_
                                    subst ea_
                                    subst ec_
                                    clear en_
                                    have ea_ := Option.some.inj (hx182_11.symm.trans hx189_11)
                                    injection ea_ with ea_ en_ ec_
                                    subst ea_
                                    subst ec_
                                    clear en_
                                    have ea_ := Option.some.inj (hx182_12.symm.trans hx189_12)
                                    injection ea_ with ea_ en_ ec_
                                    subst ea_
                                    subst ec_
                                    clear en_
                                    have p190 : 0 ≤ (x5_1 : Int) := of_decide_eq_true (by first | (with_reducible assumption) | assumption)
                                    have q190 : x5_1 < (l0.length : Int) := of_decide_eq_true (by first | (with_reducible assumption) | assumption)
                                    obtain ⟨ad190, A190_8, c190_8, A190_11, c190_11, A190_12, c190_12, e190, hx190_0, hx190_1, hx190_2, hx190_3, hx190_4, hx190_5, hx190_6, hx190_7, hx190_8, hx190_9, hx190_10, hx190_11, hx190_12, hl190_8, hi190_8, hl190_11, hi190_11, hl190_12, hi190_12⟩ := at_T37 HR0.out x5_1 p190 q190
                                    obtain rfl : ad182 = ad190 := (by injection e190)
                                    have HR190_8 := Aside0.mk hi190_8
                                    have HC190_8 := Aside0.mk hl190_8
                                    clear hi190_8 hl190_8
                                    have HR190_11 := Aside0.mk hi190_11
                                    have HC190_11 := Aside0.mk hl190_11
                                    clear hi190_11 hl190_11
                                    have HR190_12 := Aside0.mk hi190_12
                                    have HC190_12 := Aside0.mk hl190_12
                                    clear hi190_12 hl190_12
                                    replace p190 := eq_true p190
                                    replace q190 := eq_true q190
                                    have ea_ := Option.some.inj (hx182_8.symm.trans hx190_8)
                                    injection ea_ with ea_ en_ ec_
                                    subst ea_
                                    subst ec_
                                    clear en_
                                    have ea_ := Option.some.inj (hx182_11.symm.trans hx190_11)
                                    injection ea_ with ea_ en_ ec_
                                    subst ea_
                                    subst ec_
                                    clear en_
                                    have ea_ := Option.some.inj (hx182_12.symm.trans hx190_12)
                                    injection ea_ with ea_ en_ ec_
                                    subst ea_
                                    subst ec_
                                    clear en_
                                    go_wp2_with (first | ((with_reducible refine gate_callee (f := 39) rfl ?_); refine goesL_ (some 90) rfl rfl Try.func39 (by kernel_rfl) rfl #[.slice A182_8 ((rd_T37 l0 x5_1).f8).length c182_8, .int .i64 (wrap64 ((wrap64 ((wrap64 ((wrap64 ((wrap64 ((wrap64 ((wrap64 ((wrap64 (x1_1 + 1)) + 1)) + 1)) + 1)) + 1)) + 1)) + 1)) + 1))] rfl (by (try simp only [List.map_toArray, List.map_cons, List.map_nil]); first | done | rfl | (simp only [List.length_drop, List.length_take]; rfl)) ?_; (with_reducible refine (laws_heldIntS.calls k1 _ _ ((rd_T37 l0 x5_1).f8) (wrap64 ((wrap64 ((wrap64 ((wrap64 ((wrap64 ((wrap64 ((wrap64 ((wrap64 (x1_1 + 1)) + 1)) + 1)) + 1)) + 1)) + 1)) + 1)) + 1)) t191 _ ?side1 ?side2 A13.out).mono ?_); (case side1 => repeat (first | exact HR190_8.out | (with_reducible refine Kd.C_alloc ?_ _) | (with_reducible refine Kd.C_drewN ?_ _) | (with_reducible refine Kd.C_drew ?_))); (case side2 => exact HC190_8.out); rintro e w' ⟨rfl, ⟨nd, rfl⟩⟩; refine ⟨_, rfl, ?_⟩; have p192 : 0 ≤ (x5_1 : Int) := of_decide_eq_true (by first | (with_reducible assumption) | assumption); have q192 : x5_1 < (l0.length : Int) := of_decide_eq_true (by first | (with_reducible assumption) | assumption); obtain ⟨ad192, A192_8, c192_8, A192_11, c192_11, A192_12, c192_12, e192, hx192_0, hx192_1, hx192_2, hx192_3, hx192_4, hx192_5, hx192_6, hx192_7, hx192_8, hx192_9, hx192_10, hx192_11, hx192_12, hl192_8, hi192_8, hl192_11, hi192_11, hl192_12, hi192_12⟩ := at_T37 HR0.out x5_1 p192 q192; obtain rfl : ad182 = ad192 := (by injection e192); have HR192_8 := Aside0.mk hi192_8; have HC192_8 := Aside0.mk hl192_8; clear hi192_8 hl192_8; have HR192_11 := Aside0.mk hi192_11; have HC192_11 := Aside0.mk hl192_11; clear hi192_11 hl192_11; have HR192_12 := Aside0.mk hi192_12; have HC192_12 := Aside0.mk hl192_12; clear hi192_12 hl192_12; replace p192 := eq_true p192; replace q192 := eq_true q192; have ea_ := Option.some.inj (hx182_8.symm.trans hx192_8); injection ea_ with ea_ en_ ec_; subst ea_; subst ec_; clear en_; have ea_ := Option.some.inj (hx182_11.symm.trans hx192_11); injection ea_ with ea_ en_ ec_; subst ea_; subst ec_; clear en_; have ea_ := Option.some.inj (hx182_12.symm.trans hx192_12); injection ea_ with ea_ en_ ec_; subst ea_; subst ec_; clear en_; have p193 : 0 ≤ (x5_1 : Int) := of_decide_eq_true (by first | (with_reducible assumption) | assumption); have q193 : x5_1 < (l0.length : Int) := of_decide_eq_true (by first | (with_reducible assumption) | assumption); obtain ⟨ad193, A193_8, c193_8, A193_11, c193_11, A193_12, c193_12, e193, hx193_0, hx193_1, hx193_2, hx193_3, hx193_4, hx193_5, hx193_6, hx193_7, hx193_8, hx193_9, hx193_10, hx193_11, hx193_12, hl193_8, hi193_8, hl193_11, hi193_11, hl193_12, hi193_12⟩ := at_T37 HR0.out x5_1 p193 q193; obtain rfl : ad182 = ad193 := (by injection e193); have HR193_8 := Aside0.mk hi193_8; have HC193_8 := Aside0.mk hl193_8; clear hi193_8 hl193_8; have HR193_11 := Aside0.mk hi193_11; have HC193_11 := Aside0.mk hl193_11; clear hi193_11 hl193_11; have HR193_12 := Aside0.mk hi193_12; have HC193_12 := Aside0.mk hl193_12; clear hi193_12 hl193_12; replace p193 := eq_true p193; replace q193 := eq_true q193; have ea_ := Option.some.inj (hx182_8.symm.trans hx193_8); injection ea_ with ea_ en_ ec_; subst ea_; subst ec_; clear en_; have ea_ := Option.some.inj (hx182_11.symm.trans hx193_11); injection ea_ with ea_ en_ ec_; subst ea_; subst ec_; clear en_; have ea_ := Option.some.inj (hx182_12.symm.trans hx193_12); injection ea_ with ea_ en_ ec_; subst ea_; subst ec_; clear en_; have p194 : 0 ≤ (x5_1 : Int) := of_decide_eq_true (by first | (with_reducible assumption) | assumption); have q194 : x5_1 < (l0.length : Int) := of_decide_eq_true (by first | (with_reducible assumption) | assumption); obtain ⟨ad194, A194_8, c194_8, A194_11, c194_11, A194_12, c194_12, e194, hx194_0, hx194_1, hx194_2, hx194_3, hx194_4, hx194_5, hx194_6, hx194_7, hx194_8, hx194_9, hx194_10, hx194_11, hx194_12, hl194_8, hi194_8, hl194_11, hi194_11, hl194_12, hi194_12⟩ := at_T37 HR0.out x5_1 p194 q194; obtain rfl : ad182 = ad194 := (by injection e194); have HR194_8 := Aside0.mk hi194_8; have HC194_8 := Aside0.mk hl194_8; clear hi194_8 hl194_8; have HR194_11 := Aside0.mk hi194_11; have HC194_11 := Aside0.mk hl194_11; clear hi194_11 hl194_11; have HR194_12 := Aside0.mk hi194_12; have HC194_12 := Aside0.mk hl194_12; clear hi194_12 hl194_12; replace p194 := eq_true p194; replace q194 := eq_true q194; have ea_ := Option.some.inj (hx182_8.symm.trans hx194_8); injection ea_ with ea_ en_ ec_; subst ea_; subst ec_; clear en_; have ea_ := Option.some.inj (hx182_11.symm.trans hx194_11); injection ea_ with ea_ en_ ec_; subst ea_; subst ec_; clear en_; have ea_ := Option.some.inj (hx182_12.symm.trans hx194_12); injection ea_ with ea_ en_ ec_; subst ea_; subst ec_; clear en_) | ((with_reducible refine gate_callee (f := 97) rfl ?_); refine goesL_ (some 117) rfl rfl Try.func97 (by kernel_rfl) rfl #[.slice A182_11 ((rd_T37 l0 x5_1).f11).length c182_11, .int .i64 (wrap64 ((wrap64 (t191 + 1)) + 1))] rfl (by (try simp only [List.map_toArray, List.map_cons, List.map_nil]); first | done | rfl | (simp only [List.length_drop, List.length_take]; rfl)) ?_; (with_reducible refine (laws_heldThingS.calls k1 _ _ ((rd_T37 l0 x5_1).f11) (wrap64 ((wrap64 (t191 + 1)) + 1)) t195 _ ?side1 ?side2 A17.out).mono ?_); (case side1 => repeat (first | exact HR194_11.out | (with_reducible refine Kd.C_alloc ?_ _) | (with_reducible refine Kd.C_drewN ?_ _) | (with_reducible refine Kd.C_drew ?_))); (case side2 => exact HC194_11.out); rintro e w' ⟨rfl, ⟨nd, rfl⟩⟩; refine ⟨_, rfl, ?_⟩; have p196 : 0 ≤ (x5_1 : Int) := of_decide_eq_true (by first | (with_reducible assumption) | assumption); have q196 : x5_1 < (l0.length : Int) := of_decide_eq_true (by first | (with_reducible assumption) | assumption); obtain ⟨ad196, A196_8, c196_8, A196_11, c196_11, A196_12, c196_12, e196, hx196_0, hx196_1, hx196_2, hx196_3, hx196_4, hx196_5, hx196_6, hx196_7, hx196_8, hx196_9, hx196_10, hx196_11, hx196_12, hl196_8, hi196_8, hl196_11, hi196_11, hl196_12, hi196_12⟩ := at_T37 HR0.out x5_1 p196 q196; obtain rfl : ad182 = ad196 := (by injection e196); have HR196_8 := Aside0.mk hi196_8; have HC196_8 := Aside0.mk hl196_8; clear hi196_8 hl196_8; have HR196_11 := Aside0.mk hi196_11; have HC196_11 := Aside0.mk hl196_11; clear hi196_11 hl196_11; have HR196_12 := Aside0.mk hi196_12; have HC196_12 := Aside0.mk hl196_12; clear hi196_12 hl196_12; replace p196 := eq_true p196; replace q196 := eq_true q196; have ea_ := Option.some.inj (hx182_8.symm.trans hx196_8); injection ea_ with ea_ en_ ec_; subst ea_; subst ec_; clear en_; have ea_ := Option.some.inj (hx182_11.symm.trans hx196_11); injection ea_ with ea_ en_ ec_; subst ea_; subst ec_; clear en_; have ea_ := Option.some.inj (hx182_12.symm.trans hx196_12); injection ea_ with ea_ en_ ec_; subst ea_; subst ec_; clear en_) | ((with_reducible refine gate_callee (f := 39) rfl ?_); refine goesL_ (some 126) rfl rfl Try.func39 (by kernel_rfl) rfl #[.slice A182_12 ((rd_T37 l0 x5_1).f12).length c182_12, .int .i64 t195] rfl (by (try simp only [List.map_toArray, List.map_cons, List.map_nil]); first | done | rfl | (simp only [List.length_drop, List.length_take]; rfl)) ?_; (with_reducible refine (laws_heldIntS.calls k1 _ _ ((rd_T37 l0 x5_1).f12) t195 t197 _ ?side1 ?side2 A19.out).mono ?_); (case side1 => repeat (first | exact HR196_12.out | (with_reducible refine Kd.C_alloc ?_ _) | (with_reducible refine Kd.C_drewN ?_ _) | (with_reducible refine Kd.C_drew ?_))); (case side2 => exact HC196_12.out); rintro e w' ⟨rfl, ⟨nd, rfl⟩⟩; refine ⟨_, rfl, ?_⟩))
                                    go_ret
                                    exact ⟨by first | rfl | (simp; done) | (simp [*]; done), by repeat (first | exact Drawn0.refl _ | apply Drawn0.step)⟩
                                  · rw [if_neg c20] at H
                                    have c20b0 : decide (t197 < 0) = false := decide_eq_false c20
                                    clear c20
                                    have H' := Aside0.mk H
                                    clear H
                                    have p182 : 0 ≤ (x5_1 : Int) := of_decide_eq_true (by first | (with_reducible assumption) | assumption)
                                    have q182 : x5_1 < (l0.length : Int) := of_decide_eq_true (by first | (with_reducible assumption) | assumption)
                                    obtain ⟨ad182, A182_8, c182_8, A182_11, c182_11, A182_12, c182_12, e182, hx182_0, hx182_1, hx182_2, hx182_3, hx182_4, hx182_5, hx182_6, hx182_7, hx182_8, hx182_9, hx182_10, hx182_11, hx182_12, hl182_8, hi182_8, hl182_11, hi182_11, hl182_12, hi182_12⟩ := at_T37 HR0.out x5_1 p182 q182
                                    cases e182
                                    have HR182_8 := Aside0.mk hi182_8
                                    have HC182_8 := Aside0.mk hl182_8
                                    clear hi182_8 hl182_8
                                    have HR182_11 := Aside0.mk hi182_11
                                    have HC182_11 := Aside0.mk hl182_11
                                    clear hi182_11 hl182_11
                                    have HR182_12 := Aside0.mk hi182_12
                                    have HC182_12 := Aside0.mk hl182_12
                                    clear hi182_12 hl182_12
                                    replace p182 := eq_true p182
                                    replace q182 := eq_true q182
                                    have p183 : 0 ≤ (x5_1 : Int) := of_decide_eq_true (by first | (with_reducible assumption) | assumption)
                                    have q183 : x5_1 < (l0.length : Int) := of_decide_eq_true (by first | (with_reducible assumption) | assumption)
                                    obtain ⟨ad183, A183_8, c183_8, A183_11, c183_11, A183_12, c183_12, e183, hx183_0, hx183_1, hx183_2, hx183_3, hx183_4, hx183_5, hx183_6, hx183_7, hx183_8, hx183_9, hx183_10, hx183_11, hx183_12, hl183_8, hi183_8, hl183_11, hi183_11, hl183_12, hi183_12⟩ := at_T37 HR0.out x5_1 p183 q183
                                    obtain rfl : ad182 = ad183 := (by injection e183)
                                    have HR183_8 := Aside0.mk hi183_8
                                    have HC183_8 := Aside0.mk hl183_8
                                    clear hi183_8 hl183_8
                                    have HR183_11 := Aside0.mk hi183_11
                                    have HC183_11 := Aside0.mk hl183_11
                                    clear hi183_11 hl183_11
                                    have HR183_12 := Aside0.mk hi183_12
                                    have HC183_12 := Aside0.mk hl183_12
                                    clear hi183_12 hl183_12
                                    replace p183 := eq_true p183
                                    replace q183 := eq_true q183
                                    have ea_ := Option.some.inj (hx182_8.symm.trans hx183_8)
                                    injection ea_ with ea_ en_ ec_
                                    subst ea_
                                    subst ec_
                                    clear en_
                                    have ea_ := Option.some.inj (hx182_11.symm.trans hx183_11)
                                    injection ea_ with ea_ en_ ec_
                                    subst ea_
                                    subst ec_
                                    clear en_
                                    have ea_ := Option.some.inj (hx182_12.symm.trans hx183_12)
                                    injection ea_ with ea_ en_ ec_
                                    subst ea_
                                    subst ec_
                                    clear en_
                                    have p184 : 0 ≤ (x5_1 : Int) := of_decide_eq_true (by first | (with_reducible assumption) | assumption)
                                    have q184 : x5_1 < (l0.length : Int) := of_decide_eq_true (by first | (with_reducible assumption) | assumption)
                                    obtain ⟨ad184, A184_8, c184_8, A184_11, c184_11, A184_12, c184_12, e184, hx184_0, hx184_1, hx184_2, hx184_3, hx184_4, hx184_5, hx184_6, hx184_7, hx184_8, hx184_9, hx184_10, hx184_11, hx184_12, hl184_8, hi184_8, hl184_11, hi184_11, hl184_12, hi184_12⟩ := at_T37 HR0.out x5_1 p184 q184
                                    obtain rfl : ad182 = ad184 := (by injection e184)
                                    have HR184_8 := Aside0.mk hi184_8
                                    have HC184_8 := Aside0.mk hl184_8
                                    clear hi184_8 hl184_8
                                    have HR184_11 := Aside0.mk hi184_11
                                    have HC184_11 := Aside0.mk hl184_11
                                    clear hi184_11 hl184_11
                                    have HR184_12 := Aside0.mk hi184_12
                                    have HC184_12 := Aside0.mk hl184_12
                                    clear hi184_12 hl184_12
                                    replace p184 := eq_true p184
                                    replace q184 := eq_true q184
                                    have ea_ := Option.some.inj (hx182_8.symm.trans hx184_8)
                                    injection ea_ with ea_ en_ ec_
                                    subst ea_
                                    subst ec_
                                    clear en_
                                    have ea_ := Option.some.inj (hx182_11.symm.trans hx184_11)
                                    injection ea_ with ea_ en_ ec_
                                    subst ea_
                                    subst ec_
                                    clear en_
                                    have ea_ := Option.some.inj (hx182_12.symm.trans hx184_12)
                                    injection ea_ with ea_ en_ ec_
                                    subst ea_
                                    subst ec_
                                    clear en_
                                    have p185 : 0 ≤ (x5_1 : Int) := of_decide_eq_true (by first | (with_reducible assumption) | assumption)
                                    have q185 : x5_1 < (l0.length : Int) := of_decide_eq_true (by first | (with_reducible assumption) | assumption)
                                    obtain ⟨ad185, A185_8, c185_8, A185_11, c185_11, A185_12, c185_12, e185, hx185_0, hx185_1, hx185_2, hx185_3, hx185_4, hx185_5, hx185_6, hx185_7, hx185_8, hx185_9, hx185_10, hx185_11, hx185_12, hl185_8, hi185_8, hl185_11, hi185_11, hl185_12, hi185_12⟩ := at_T37 HR0.out x5_1 p185 q185
                                    obtain rfl : ad182 = ad185 := (by injection e185)
                                    have HR185_8 := Aside0.mk hi185_8
                                    have HC185_8 := Aside0.mk hl185_8
                                    clear hi185_8 hl185_8
                                    have HR185_11 := Aside0.mk hi185_11
                                    have HC185_11 := Aside0.mk hl185_11
                                    clear hi185_11 hl185_11
                                    have HR185_12 := Aside0.mk hi185_12
                                    have HC185_12 := Aside0.mk hl185_12
                                    clear hi185_12 hl185_12
                                    replace p185 := eq_true p185
                                    replace q185 := eq_true q185
                                    have ea_ := Option.some.inj (hx182_8.symm.trans hx185_8)
                                    injection ea_ with ea_ en_ ec_
                                    subst ea_
                                    subst ec_
                                    clear en_
                                    have ea_ := Option.some.inj (hx182_11.symm.trans hx185_11)
                                    injection ea_ with ea_ en_ ec_
                                    subst ea_
                                    subst ec_
                                    clear en_
                                    have ea_ := Option.some.inj (hx182_12.symm.trans hx185_12)
                                    injection ea_ with ea_ en_ ec_
                                    subst ea_
                                    subst ec_
                                    clear en_
                                    have p186 : 0 ≤ (x5_1 : Int) := of_decide_eq_true (by first | (with_reducible assumption) | assumption)
                                    have q186 : x5_1 < (l0.length : Int) := of_decide_eq_true (by first | (with_reducible assumption) | assumption)
                                    obtain ⟨ad186, A186_8, c186_8, A186_11, c186_11, A186_12, c186_12, e186, hx186_0, hx186_1, hx186_2, hx186_3, hx186_4, hx186_5, hx186_6, hx186_7, hx186_8, hx186_9, hx186_10, hx186_11, hx186_12, hl186_8, hi186_8, hl186_11, hi186_11, hl186_12, hi186_12⟩ := at_T37 HR0.out x5_1 p186 q186
                                    obtain rfl : ad182 = ad186 := (by injection e186)
                                    have HR186_8 := Aside0.mk hi186_8
                                    have HC186_8 := Aside0.mk hl186_8
                                    clear hi186_8 hl186_8
                                    have HR186_11 := Aside0.mk hi186_11
                                    have HC186_11 := Aside0.mk hl186_11
                                    clear hi186_11 hl186_11
                                    have HR186_12 := Aside0.mk hi186_12
                                    have HC186_12 := Aside0.mk hl186_12
                                    clear hi186_12 hl186_12
                                    replace p186 := eq_true p186
                                    replace q186 := eq_true q186
                                    have ea_ := Option.some.inj (hx182_8.symm.trans hx186_8)
                                    injection ea_ with ea_ en_ ec_
                                    subst ea_
                                    subst ec_
                                    clear en_
                                    have ea_ := Option.some.inj (hx182_11.symm.trans hx186_11)
                                    injection ea_ with ea_ en_ ec_
                                    subst ea_
                                    subst ec_
                                    clear en_
                                    have ea_ := Option.some.inj (hx182_12.symm.trans hx186_12)
                                    injection ea_ with ea_ en_ ec_
                                    subst ea_
                                    subst ec_
                                    clear en_
                                    have p187 : 0 ≤ (x5_1 : Int) := of_decide_eq_true (by first | (with_reducible assumption) | assumption)
                                    have q187 : x5_1 < (l0.length : Int) := of_decide_eq_true (by first | (with_reducible assumption) | assumption)
                                    obtain ⟨ad187, A187_8, c187_8, A187_11, c187_11, A187_12, c187_12, e187, hx187_0, hx187_1, hx187_2, hx187_3, hx187_4, hx187_5, hx187_6, hx187_7, hx187_8, hx187_9, hx187_10, hx187_11, hx187_12, hl187_8, hi187_8, hl187_11, hi187_11, hl187_12, hi187_12⟩ := at_T37 HR0.out x5_1 p187 q187
                                    obtain rfl : ad182 = ad187 := (by injection e187)
                                    have HR187_8 := Aside0.mk hi187_8
                                    have HC187_8 := Aside0.mk hl187_8
                                    clear hi187_8 hl187_8
                                    have HR187_11 := Aside0.mk hi187_11
                                    have HC187_11 := Aside0.mk hl187_11
                                    clear hi187_11 hl187_11
                                    have HR187_12 := Aside0.mk hi187_12
                                    have HC187_12 := Aside0.mk hl187_12
                                    clear hi187_12 hl187_12
                                    replace p187 := eq_true p187
                                    replace q187 := eq_true q187
                                    have ea_ := Option.some.inj (hx182_8.symm.trans hx187_8)
                                    injection ea_ with ea_ en_ ec_
                                    subst ea_
                                    subst ec_
                                    clear en_
                                    have ea_ := Option.some.inj (hx182_11.symm.trans hx187_11)
                                    injection ea_ with ea_ en_ ec_
                                    subst ea_
                                    subst ec_
                                    clear en_
                                    have ea_ := Option.some.inj (hx182_12.symm.trans hx187_12)
                                    injection ea_ with ea_ en_ ec_
                                    subst ea_
                                    subst ec_
                                    clear en_
                                    have p188 : 0 ≤ (x5_1 : Int) := of_decide_eq_true (by first | (with_reducible assumption) | assumption)
                                    have q188 : x5_1 < (l0.length : Int) := of_decide_eq_true (by first | (with_reducible assumption) | assumption)
                                    obtain ⟨ad188, A188_8, c188_8, A188_11, c188_11, A188_12, c188_12, e188, hx188_0, hx188_1, hx188_2, hx188_3, hx188_4, hx188_5, hx188_6, hx188_7, hx188_8, hx188_9, hx188_10, hx188_11, hx188_12, hl188_8, hi188_8, hl188_11, hi188_11, hl188_12, hi188_12⟩ := at_T37 HR0.out x5_1 p188 q188
                                    obtain rfl : ad182 = ad188 := (by injection e188)
                                    have HR188_8 := Aside0.mk hi188_8
                                    have HC188_8 := Aside0.mk hl188_8
                                    clear hi188_8 hl188_8
                                    have HR188_11 := Aside0.mk hi188_11
                                    have HC188_11 := Aside0.mk hl188_11
                                    clear hi188_11 hl188_11
                                    have HR188_12 := Aside0.mk hi188_12
                                    have HC188_12 := Aside0.mk hl188_12
                                    clear hi188_12 hl188_12
                                    replace p188 := eq_true p188
                                    replace q188 := eq_true q188
                                    have ea_ := Option.some.inj (hx182_8.symm.trans hx188_8)
                                    injection ea_ with ea_ en_ ec_
                                    subst ea_
                                    subst ec_
                                    clear en_
                                    have ea_ := Option.some.inj (hx182_11.symm.trans hx188_11)
                                    injection ea_ with ea_ en_ ec_
                                    subst ea_
                                    subst ec_
                                    clear en_
                                    have ea_ := Option.some.inj (hx182_12.symm.trans hx188_12)
                                    injection ea_ with ea_ en_ ec_
                                    subst ea_
                                    subst ec_
                                    clear en_
                                    have p189 : 0 ≤ (x5_1 : Int) := of_decide_eq_true (by first | (with_reducible assumption) | assumption)
                                    have q189 : x5_1 < (l0.length : Int) := of_decide_eq_true (by first | (with_reducible assumption) | assumption)
                                    obtain ⟨ad189, A189_8, c189_8, A189_11, c189_11, A189_12, c189_12, e189, hx189_0, hx189_1, hx189_2, hx189_3, hx189_4, hx189_5, hx189_6, hx189_7, hx189_8, hx189_9, hx189_10, hx189_11, hx189_12, hl189_8, hi189_8, hl189_11, hi189_11, hl189_12, hi189_12⟩ := at_T37 HR0.out x5_1 p189 q189
                                    obtain rfl : ad182 = ad189 := (by injection e189)
                                    have HR189_8 := Aside0.mk hi189_8
                                    have HC189_8 := Aside0.mk hl189_8
                                    clear hi189_8 hl189_8
                                    have HR189_11 := Aside0.mk hi189_11
                                    have HC189_11 := Aside0.mk hl189_11
                                    clear hi189_11 hl189_11
                                    have HR189_12 := Aside0.mk hi189_12
                                    have HC189_12 := Aside0.mk hl189_12
                                    clear hi189_12 hl189_12
                                    replace p189 := eq_true p189
                                    replace q189 := eq_true q189
                                    have ea_ := Option.some.inj (hx182_8.symm.trans hx189_8)
                                    injection ea_ with ea_ en_ ec_
                                    subst ea_
                                    subst ec_
                                    clear en_
                                    have ea_ := Option.some.inj (hx182_11.symm.trans hx189_11)
                                    injection ea_ with ea_ en_ ec_
                                    subst ea_
                                    subst ec_
                                    clear en_
                                    have ea_ := Option.some.inj (hx182_12.symm.trans hx189_12)
                                    injection ea_ with ea_ en_ ec_
                                    subst ea_
                                    subst ec_
                                    clear en_
                                    have p190 : 0 ≤ (x5_1 : Int) := of_decide_eq_true (by first | (with_reducible assumption) | assumption)
                                    have q190 : x5_1 < (l0.length : Int) := of_decide_eq_true (by first | (with_reducible assumption) | assumption)
                                    obtain ⟨ad190, A190_8, c190_8, A190_11, c190_11, A190_12, c190_12, e190, hx190_0, hx190_1, hx190_2, hx190_3, hx190_4, hx190_5, hx190_6, hx190_7, hx190_8, hx190_9, hx190_10, hx190_11, hx190_12, hl190_8, hi190_8, hl190_11, hi190_11, hl190_12, hi190_12⟩ := at_T37 HR0.out x5_1 p190 q190
                                    obtain rfl : ad182 = ad190 := (by injection e190)
                                    have HR190_8 := Aside0.mk hi190_8
                                    have HC190_8 := Aside0.mk hl190_8
                                    clear hi190_8 hl190_8
                                    have HR190_11 := Aside0.mk hi190_11
                                    have HC190_11 := Aside0.mk hl190_11
                                    clear hi190_11 hl190_11
                                    have HR190_12 := Aside0.mk hi190_12
                                    have HC190_12 := Aside0.mk hl190_12
                                    clear hi190_12 hl190_12
                                    replace p190 := eq_true p190
                                    replace q190 := eq_true q190
                                    have ea_ := Option.some.inj (hx182_8.symm.trans hx190_8)
                                    injection ea_ with ea_ en_ ec_
                                    subst ea_
                                    subst ec_
                                    clear en_
                                    have ea_ := Option.some.inj (hx182_11.symm.trans hx190_11)
                                    injection ea_ with ea_ en_ ec_
                                    subst ea_
                                    subst ec_
                                    clear en_
                                    have ea_ := Option.some.inj (hx182_12.symm.trans hx190_12)
                                    injection ea_ with ea_ en_ ec_
                                    subst ea_
                                    subst ec_
                                    clear en_
                                    go_wp2_with (first | ((with_reducible refine gate_callee (f := 39) rfl ?_); refine goesL_ (some 90) rfl rfl Try.func39 (by kernel_rfl) rfl #[.slice A182_8 ((rd_T37 l0 x5_1).f8).length c182_8, .int .i64 (wrap64 ((wrap64 ((wrap64 ((wrap64 ((wrap64 ((wrap64 ((wrap64 ((wrap64 (x1_1 + 1)) + 1)) + 1)) + 1)) + 1)) + 1)) + 1)) + 1))] rfl (by (try simp only [List.map_toArray, List.map_cons, List.map_nil]); first | done | rfl | (simp only [List.length_drop, List.length_take]; rfl)) ?_; (with_reducible refine (laws_heldIntS.calls k1 _ _ ((rd_T37 l0 x5_1).f8) (wrap64 ((wrap64 ((wrap64 ((wrap64 ((wrap64 ((wrap64 ((wrap64 ((wrap64 (x1_1 + 1)) + 1)) + 1)) + 1)) + 1)) + 1)) + 1)) + 1)) t191 _ ?side1 ?side2 A13.out).mono ?_); (case side1 => repeat (first | exact HR190_8.out | (with_reducible refine Kd.C_alloc ?_ _) | (with_reducible refine Kd.C_drewN ?_ _) | (with_reducible refine Kd.C_drew ?_))); (case side2 => exact HC190_8.out); rintro e w' ⟨rfl, ⟨nd, rfl⟩⟩; refine ⟨_, rfl, ?_⟩; have p192 : 0 ≤ (x5_1 : Int) := of_decide_eq_true (by first | (with_reducible assumption) | assumption); have q192 : x5_1 < (l0.length : Int) := of_decide_eq_true (by first | (with_reducible assumption) | assumption); obtain ⟨ad192, A192_8, c192_8, A192_11, c192_11, A192_12, c192_12, e192, hx192_0, hx192_1, hx192_2, hx192_3, hx192_4, hx192_5, hx192_6, hx192_7, hx192_8, hx192_9, hx192_10, hx192_11, hx192_12, hl192_8, hi192_8, hl192_11, hi192_11, hl192_12, hi192_12⟩ := at_T37 HR0.out x5_1 p192 q192; obtain rfl : ad182 = ad192 := (by injection e192); have HR192_8 := Aside0.mk hi192_8; have HC192_8 := Aside0.mk hl192_8; clear hi192_8 hl192_8; have HR192_11 := Aside0.mk hi192_11; have HC192_11 := Aside0.mk hl192_11; clear hi192_11 hl192_11; have HR192_12 := Aside0.mk hi192_12; have HC192_12 := Aside0.mk hl192_12; clear hi192_12 hl192_12; replace p192 := eq_true p192; replace q192 := eq_true q192; have ea_ := Option.some.inj (hx182_8.symm.trans hx192_8); injection ea_ with ea_ en_ ec_; subst ea_; subst ec_; clear en_; have ea_ := Option.some.inj (hx182_11.symm.trans hx192_11); injection ea_ with ea_ en_ ec_; subst ea_; subst ec_; clear en_; have ea_ := Option.some.inj (hx182_12.symm.trans hx192_12); injection ea_ with ea_ en_ ec_; subst ea_; subst ec_; clear en_; have p193 : 0 ≤ (x5_1 : Int) := of_decide_eq_true (by first | (with_reducible assumption) | assumption); have q193 : x5_1 < (l0.length : Int) := of_decide_eq_true (by first | (with_reducible assumption) | assumption); obtain ⟨ad193, A193_8, c193_8, A193_11, c193_11, A193_12, c193_12, e193, hx193_0, hx193_1, hx193_2, hx193_3, hx193_4, hx193_5, hx193_6, hx193_7, hx193_8, hx193_9, hx193_10, hx193_11, hx193_12, hl193_8, hi193_8, hl193_11, hi193_11, hl193_12, hi193_12⟩ := at_T37 HR0.out x5_1 p193 q193; obtain rfl : ad182 = ad193 := (by injection e193); have HR193_8 := Aside0.mk hi193_8; have HC193_8 := Aside0.mk hl193_8; clear hi193_8 hl193_8; have HR193_11 := Aside0.mk hi193_11; have HC193_11 := Aside0.mk hl193_11; clear hi193_11 hl193_11; have HR193_12 := Aside0.mk hi193_12; have HC193_12 := Aside0.mk hl193_12; clear hi193_12 hl193_12; replace p193 := eq_true p193; replace q193 := eq_true q193; have ea_ := Option.some.inj (hx182_8.symm.trans hx193_8); injection ea_ with ea_ en_ ec_; subst ea_; subst ec_; clear en_; have ea_ := Option.some.inj (hx182_11.symm.trans hx193_11); injection ea_ with ea_ en_ ec_; subst ea_; subst ec_; clear en_; have ea_ := Option.some.inj (hx182_12.symm.trans hx193_12); injection ea_ with ea_ en_ ec_; subst ea_; subst ec_; clear en_; have p194 : 0 ≤ (x5_1 : Int) := of_decide_eq_true (by first | (with_reducible assumption) | assumption); have q194 : x5_1 < (l0.length : Int) := of_decide_eq_true (by first | (with_reducible assumption) | assumption); obtain ⟨ad194, A194_8, c194_8, A194_11, c194_11, A194_12, c194_12, e194, hx194_0, hx194_1, hx194_2, hx194_3, hx194_4, hx194_5, hx194_6, hx194_7, hx194_8, hx194_9, hx194_10, hx194_11, hx194_12, hl194_8, hi194_8, hl194_11, hi194_11, hl194_12, hi194_12⟩ := at_T37 HR0.out x5_1 p194 q194; obtain rfl : ad182 = ad194 := (by injection e194); have HR194_8 := Aside0.mk hi194_8; have HC194_8 := Aside0.mk hl194_8; clear hi194_8 hl194_8; have HR194_11 := Aside0.mk hi194_11; have HC194_11 := Aside0.mk hl194_11; clear hi194_11 hl194_11; have HR194_12 := Aside0.mk hi194_12; have HC194_12 := Aside0.mk hl194_12; clear hi194_12 hl194_12; replace p194 := eq_true p194; replace q194 := eq_true q194; have ea_ := Option.some.inj (hx182_8.symm.trans hx194_8); injection ea_ with ea_ en_ ec_; subst ea_; subst ec_; clear en_; have ea_ := Option.some.inj (hx182_11.symm.trans hx194_11); injection ea_ with ea_ en_ ec_; subst ea_; subst ec_; clear en_; have ea_ := Option.some.inj (hx182_12.symm.trans hx194_12); injection ea_ with ea_ en_ ec_; subst ea_; subst ec_; clear en_) | ((with_reducible refine gate_callee (f := 97) rfl ?_); refine goesL_ (some 117) rfl rfl Try.func97 (by kernel_rfl) rfl #[.slice A182_11 ((rd_T37 l0 x5_1).f11).length c182_11, .int .i64 (wrap64 ((wrap64 (t191 + 1)) + 1))] rfl (by (try simp only [List.map_toArray, List.map_cons, List.map_nil]); first | done | rfl | (simp only [List.length_drop, List.length_take]; rfl)) ?_; (with_reducible refine (laws_heldThingS.calls k1 _ _ ((rd_T37 l0 x5_1).f11) (wrap64 ((wrap64 (t191 + 1)) + 1)) t195 _ ?side1 ?side2 A17.out).mono ?_); (case side1 => repeat (first | exact HR194_11.out | (with_reducible refine Kd.C_alloc ?_ _) | (with_reducible refine Kd.C_drewN ?_ _) | (with_reducible refine Kd.C_drew ?_))); (case side2 => exact HC194_11.out); rintro e w' ⟨rfl, ⟨nd, rfl⟩⟩; refine ⟨_, rfl, ?_⟩; have p196 : 0 ≤ (x5_1 : Int) := of_decide_eq_true (by first | (with_reducible assumption) | assumption); have q196 : x5_1 < (l0.length : Int) := of_decide_eq_true (by first | (with_reducible assumption) | assumption); obtain ⟨ad196, A196_8, c196_8, A196_11, c196_11, A196_12, c196_12, e196, hx196_0, hx196_1, hx196_2, hx196_3, hx196_4, hx196_5, hx196_6, hx196_7, hx196_8, hx196_9, hx196_10, hx196_11, hx196_12, hl196_8, hi196_8, hl196_11, hi196_11, hl196_12, hi196_12⟩ := at_T37 HR0.out x5_1 p196 q196; obtain rfl : ad182 = ad196 := (by injection e196); have HR196_8 := Aside0.mk hi196_8; have HC196_8 := Aside0.mk hl196_8; clear hi196_8 hl196_8; have HR196_11 := Aside0.mk hi196_11; have HC196_11 := Aside0.mk hl196_11; clear hi196_11 hl196_11; have HR196_12 := Aside0.mk hi196_12; have HC196_12 := Aside0.mk hl196_12; clear hi196_12 hl196_12; replace p196 := eq_true p196; replace q196 := eq_true q196; have ea_ := Option.some.inj (hx182_8.symm.trans hx196_8); injection ea_ with ea_ en_ ec_; subst ea_; subst ec_; clear en_; have ea_ := Option.some.inj (hx182_11.symm.trans hx196_11); injection ea_ with ea_ en_ ec_; subst ea_; subst ec_; clear en_; have ea_ := Option.some.inj (hx182_12.symm.trans hx196_12); injection ea_ with ea_ en_ ec_; subst ea_; subst ec_; clear en_) | ((with_reducible refine gate_callee (f := 39) rfl ?_); refine goesL_ (some 126) rfl rfl Try.func39 (by kernel_rfl) rfl #[.slice A182_12 ((rd_T37 l0 x5_1).f12).length c182_12, .int .i64 t195] rfl (by (try simp only [List.map_toArray, List.map_cons, List.map_nil]); first | done | rfl | (simp only [List.length_drop, List.length_take]; rfl)) ?_; (with_reducible refine (laws_heldIntS.calls k1 _ _ ((rd_T37 l0 x5_1).f12) t195 t197 _ ?side1 ?side2 A19.out).mono ?_); (case side1 => repeat (first | exact HR196_12.out | (with_reducible refine Kd.C_alloc ?_ _) | (with_reducible refine Kd.C_drewN ?_ _) | (with_reducible refine Kd.C_drew ?_))); (case side2 => exact HC196_12.out); rintro e w' ⟨rfl, ⟨nd, rfl⟩⟩; refine ⟨_, rfl, ?_⟩))
                                    go_roundg k1
                                    case measure => have := HK1.out; omega
                                    case rel => exact ⟨(t197), (wrap64 (x5_1 + 1)), (by first | rfl | (simp; done) | (simp [*]; done)), (by first | rfl | (simp; done) | (simp [*]; done)), H', ⟨by have := HK1.out; omega⟩, by repeat (first | exact Drawn0.refl _ | apply Drawn0.step)⟩
                              · rw [if_neg c16] at H
                                have c16b0 : (((rd_T37 l0 x5_1).f10) == (wrap64 (t191 + 1))) = false := beq_eq_false_iff_ne.mpr c16
                                have c16b1 : (((rd_T37 l0 x5_1).f10) != (wrap64 (t191 + 1))) = true := bne_iff_ne.mpr c16
                                obtain rfl := Option.some.inj H
                                have p182 : 0 ≤ (x5_1 : Int) := of_decide_eq_true (by first | (with_reducible assumption) | assumption)
                                have q182 : x5_1 < (l0.length : Int) := of_decide_eq_true (by first | (with_reducible assumption) | assumption)
                                obtain ⟨ad182, A182_8, c182_8, A182_11, c182_11, A182_12, c182_12, e182, hx182_0, hx182_1, hx182_2, hx182_3, hx182_4, hx182_5, hx182_6, hx182_7, hx182_8, hx182_9, hx182_10, hx182_11, hx182_12, hl182_8, hi182_8, hl182_11, hi182_11, hl182_12, hi182_12⟩ := at_T37 HR0.out x5_1 p182 q182
                                cases e182
                                have HR182_8 := Aside0.mk hi182_8
                                have HC182_8 := Aside0.mk hl182_8
                                clear hi182_8 hl182_8
                                have HR182_11 := Aside0.mk hi182_11
                                have HC182_11 := Aside0.mk hl182_11
                                clear hi182_11 hl182_11
                                have HR182_12 := Aside0.mk hi182_12
                                have HC182_12 := Aside0.mk hl182_12
                                clear hi182_12 hl182_12
                                replace p182 := eq_true p182
                                replace q182 := eq_true q182
                                have p183 : 0 ≤ (x5_1 : Int) := of_decide_eq_true (by first | (with_reducible assumption) | assumption)
                                have q183 : x5_1 < (l0.length : Int) := of_decide_eq_true (by first | (with_reducible assumption) | assumption)
                                obtain ⟨ad183, A183_8, c183_8, A183_11, c183_11, A183_12, c183_12, e183, hx183_0, hx183_1, hx183_2, hx183_3, hx183_4, hx183_5, hx183_6, hx183_7, hx183_8, hx183_9, hx183_10, hx183_11, hx183_12, hl183_8, hi183_8, hl183_11, hi183_11, hl183_12, hi183_12⟩ := at_T37 HR0.out x5_1 p183 q183
                                obtain rfl : ad182 = ad183 := (by injection e183)
                                have HR183_8 := Aside0.mk hi183_8
                                have HC183_8 := Aside0.mk hl183_8
                                clear hi183_8 hl183_8
                                have HR183_11 := Aside0.mk hi183_11
                                have HC183_11 := Aside0.mk hl183_11
                                clear hi183_11 hl183_11
                                have HR183_12 := Aside0.mk hi183_12
                                have HC183_12 := Aside0.mk hl183_12
                                clear hi183_12 hl183_12
                                replace p183 := eq_true p183
                                replace q183 := eq_true q183
                                have ea_ := Option.some.inj (hx182_8.symm.trans hx183_8)
                                injection ea_ with ea_ en_ ec_
                                subst ea_
                                subst ec_
                                clear en_
                                have ea_ := Option.some.inj (hx182_11.symm.trans hx183_11)
                                injection ea_ with ea_ en_ ec_
                                subst ea_
                                subst ec_
                                clear en_
                                have ea_ := Option.some.inj (hx182_12.symm.trans hx183_12)
                                injection ea_ with ea_ en_ ec_
                                subst ea_
                                subst ec_
                                clear en_
                                have p184 : 0 ≤ (x5_1 : Int) := of_decide_eq_true (by first | (with_reducible assumption) | assumption)
                                have q184 : x5_1 < (l0.length : Int) := of_decide_eq_true (by first | (with_reducible assumption) | assumption)
                                obtain ⟨ad184, A184_8, c184_8, A184_11, c184_11, A184_12, c184_12, e184, hx184_0, hx184_1, hx184_2, hx184_3, hx184_4, hx184_5, hx184_6, hx184_7, hx184_8, hx184_9, hx184_10, hx184_11, hx184_12, hl184_8, hi184_8, hl184_11, hi184_11, hl184_12, hi184_12⟩ := at_T37 HR0.out x5_1 p184 q184
                                obtain rfl : ad182 = ad184 := (by injection e184)
                                have HR184_8 := Aside0.mk hi184_8
                                have HC184_8 := Aside0.mk hl184_8
                                clear hi184_8 hl184_8
                                have HR184_11 := Aside0.mk hi184_11
                                have HC184_11 := Aside0.mk hl184_11
                                clear hi184_11 hl184_11
                                have HR184_12 := Aside0.mk hi184_12
                                have HC184_12 := Aside0.mk hl184_12
                                clear hi184_12 hl184_12
                                replace p184 := eq_true p184
                                replace q184 := eq_true q184
                                have ea_ := Option.some.inj (hx182_8.symm.trans hx184_8)
                                injection ea_ with ea_ en_ ec_
                                subst ea_
                                subst ec_
                                clear en_
                                have ea_ := Option.some.inj (hx182_11.symm.trans hx184_11)
                                injection ea_ with ea_ en_ ec_
                                subst ea_
                                subst ec_
                                clear en_
                                have ea_ := Option.some.inj (hx182_12.symm.trans hx184_12)
                                injection ea_ with ea_ en_ ec_
                                subst ea_
                                subst ec_
                                clear en_
                                have p185 : 0 ≤ (x5_1 : Int) := of_decide_eq_true (by first | (with_reducible assumption) | assumption)
                                have q185 : x5_1 < (l0.length : Int) := of_decide_eq_true (by first | (with_reducible assumption) | assumption)
                                obtain ⟨ad185, A185_8, c185_8, A185_11, c185_11, A185_12, c185_12, e185, hx185_0, hx185_1, hx185_2, hx185_3, hx185_4, hx185_5, hx185_6, hx185_7, hx185_8, hx185_9, hx185_10, hx185_11, hx185_12, hl185_8, hi185_8, hl185_11, hi185_11, hl185_12, hi185_12⟩ := at_T37 HR0.out x5_1 p185 q185
                                obtain rfl : ad182 = ad185 := (by injection e185)
                                have HR185_8 := Aside0.mk hi185_8
                                have HC185_8 := Aside0.mk hl185_8
                                clear hi185_8 hl185_8
                                have HR185_11 := Aside0.mk hi185_11
                                have HC185_11 := Aside0.mk hl185_11
                                clear hi185_11 hl185_11
                                have HR185_12 := Aside0.mk hi185_12
                                have HC185_12 := Aside0.mk hl185_12
                                clear hi185_12 hl185_12
                                replace p185 := eq_true p185
                                replace q185 := eq_true q185
                                have ea_ := Option.some.inj (hx182_8.symm.trans hx185_8)
                                injection ea_ with ea_ en_ ec_
                                subst ea_
                                subst ec_
                                clear en_
                                have ea_ := Option.some.inj (hx182_11.symm.trans hx185_11)
                                injection ea_ with ea_ en_ ec_
                                subst ea_
                                subst ec_
                                clear en_
                                have ea_ := Option.some.inj (hx182_12.symm.trans hx185_12)
                                injection ea_ with ea_ en_ ec_
                                subst ea_
                                subst ec_
                                clear en_
                                have p186 : 0 ≤ (x5_1 : Int) := of_decide_eq_true (by first | (with_reducible assumption) | assumption)
                                have q186 : x5_1 < (l0.length : Int) := of_decide_eq_true (by first | (with_reducible assumption) | assumption)
                                obtain ⟨ad186, A186_8, c186_8, A186_11, c186_11, A186_12, c186_12, e186, hx186_0, hx186_1, hx186_2, hx186_3, hx186_4, hx186_5, hx186_6, hx186_7, hx186_8, hx186_9, hx186_10, hx186_11, hx186_12, hl186_8, hi186_8, hl186_11, hi186_11, hl186_12, hi186_12⟩ := at_T37 HR0.out x5_1 p186 q186
                                obtain rfl : ad182 = ad186 := (by injection e186)
                                have HR186_8 := Aside0.mk hi186_8
                                have HC186_8 := Aside0.mk hl186_8
                                clear hi186_8 hl186_8
                                have HR186_11 := Aside0.mk hi186_11
                                have HC186_11 := Aside0.mk hl186_11
                                clear hi186_11 hl186_11
                                have HR186_12 := Aside0.mk hi186_12
                                have HC186_12 := Aside0.mk hl186_12
                                clear hi186_12 hl186_12
                                replace p186 := eq_true p186
                                replace q186 := eq_true q186
                                have ea_ := Option.some.inj (hx182_8.symm.trans hx186_8)
                                injection ea_ with ea_ en_ ec_
                                subst ea_
                                subst ec_
                                clear en_
                                have ea_ := Option.some.inj (hx182_11.symm.trans hx186_11)
                                injection ea_ with ea_ en_ ec_
                                subst ea_
                                subst ec_
                                clear en_
                                have ea_ := Option.some.inj (hx182_12.symm.trans hx186_12)
                                injection ea_ with ea_ en_ ec_
                                subst ea_
                                subst ec_
                                clear en_
                                have p187 : 0 ≤ (x5_1 : Int) := of_decide_eq_true (by first | (with_reducible assumption) | assumption)
                                have q187 : x5_1 < (l0.length : Int) := of_decide_eq_true (by first | (with_reducible assumption) | assumption)
                                obtain ⟨ad187, A187_8, c187_8, A187_11, c187_11, A187_12, c187_12, e187, hx187_0, hx187_1, hx187_2, hx187_3, hx187_4, hx187_5, hx187_6, hx187_7, hx187_8, hx187_9, hx187_10, hx187_11, hx187_12, hl187_8, hi187_8, hl187_11, hi187_11, hl187_12, hi187_12⟩ := at_T37 HR0.out x5_1 p187 q187
                                obtain rfl : ad182 = ad187 := (by injection e187)
                                have HR187_8 := Aside0.mk hi187_8
                                have HC187_8 := Aside0.mk hl187_8
                                clear hi187_8 hl187_8
                                have HR187_11 := Aside0.mk hi187_11
                                have HC187_11 := Aside0.mk hl187_11
                                clear hi187_11 hl187_11
                                have HR187_12 := Aside0.mk hi187_12
                                have HC187_12 := Aside0.mk hl187_12
                                clear hi187_12 hl187_12
                                replace p187 := eq_true p187
                                replace q187 := eq_true q187
                                have ea_ := Option.some.inj (hx182_8.symm.trans hx187_8)
                                injection ea_ with ea_ en_ ec_
                                subst ea_
                                subst ec_
                                clear en_
                                have ea_ := Option.some.inj (hx182_11.symm.trans hx187_11)
                                injection ea_ with ea_ en_ ec_
                                subst ea_
                                subst ec_
                                clear en_
                                have ea_ := Option.some.inj (hx182_12.symm.trans hx187_12)
                                injection ea_ with ea_ en_ ec_
                                subst ea_
                                subst ec_
                                clear en_
                                have p188 : 0 ≤ (x5_1 : Int) := of_decide_eq_true (by first | (with_reducible assumption) | assumption)
                                have q188 : x5_1 < (l0.length : Int) := of_decide_eq_true (by first | (with_reducible assumption) | assumption)
                                obtain ⟨ad188, A188_8, c188_8, A188_11, c188_11, A188_12, c188_12, e188, hx188_0, hx188_1, hx188_2, hx188_3, hx188_4, hx188_5, hx188_6, hx188_7, hx188_8, hx188_9, hx188_10, hx188_11, hx188_12, hl188_8, hi188_8, hl188_11, hi188_11, hl188_12, hi188_12⟩ := at_T37 HR0.out x5_1 p188 q188
                                obtain rfl : ad182 = ad188 := (by injection e188)
                                have HR188_8 := Aside0.mk hi188_8
                                have HC188_8 := Aside0.mk hl188_8
                                clear hi188_8 hl188_8
                                have HR188_11 := Aside0.mk hi188_11
                                have HC188_11 := Aside0.mk hl188_11
                                clear hi188_11 hl188_11
                                have HR188_12 := Aside0.mk hi188_12
                                have HC188_12 := Aside0.mk hl188_12
                                clear hi188_12 hl188_12
                                replace p188 := eq_true p188
                                replace q188 := eq_true q188
                                have ea_ := Option.some.inj (hx182_8.symm.trans hx188_8)
                                injection ea_ with ea_ en_ ec_
                                subst ea_
                                subst ec_
                                clear en_
                                have ea_ := Option.some.inj (hx182_11.symm.trans hx188_11)
                                injection ea_ with ea_ en_ ec_
                                subst ea_
                                subst ec_
                                clear en_
                                have ea_ := Option.some.inj (hx182_12.symm.trans hx188_12)
                                injection ea_ with ea_ en_ ec_
                                subst ea_
                                subst ec_
                                clear en_
                                have p189 : 0 ≤ (x5_1 : Int) := of_decide_eq_true (by first | (with_reducible assumption) | assumption)
                                have q189 : x5_1 < (l0.length : Int) := of_decide_eq_true (by first | (with_reducible assumption) | assumption)
                                obtain ⟨ad189, A189_8, c189_8, A189_11, c189_11, A189_12, c189_12, e189, hx189_0, hx189_1, hx189_2, hx189_3, hx189_4, hx189_5, hx189_6, hx189_7, hx189_8, hx189_9, hx189_10, hx189_11, hx189_12, hl189_8, hi189_8, hl189_11, hi189_11, hl189_12, hi189_12⟩ := at_T37 HR0.out x5_1 p189 q189
                                obtain rfl : ad182 = ad189 := (by injection e189)
                                have HR189_8 := Aside0.mk hi189_8
                                have HC189_8 := Aside0.mk hl189_8
                                clear hi189_8 hl189_8
                                have HR189_11 := Aside0.mk hi189_11
                                have HC189_11 := Aside0.mk hl189_11
                                clear hi189_11 hl189_11
                                have HR189_12 := Aside0.mk hi189_12
                                have HC189_12 := Aside0.mk hl189_12
                                clear hi189_12 hl189_12
                                replace p189 := eq_true p189
                                replace q189 := eq_true q189
                                have ea_ := Option.some.inj (hx182_8.symm.trans hx189_8)
                                injection ea_ with ea_ en_ ec_
                                subst ea_
                                subst ec_
                                clear en_
                                have ea_ := Option.some.inj (hx182_11.symm.trans hx189_11)
                                injection ea_ with ea_ en_ ec_
                                subst ea_
                                subst ec_
                                clear en_
                                have ea_ := Option.some.inj (hx182_12.symm.trans hx189_12)
                                injection ea_ with ea_ en_ ec_
                                subst ea_
                                subst ec_
                                clear en_
                                have p190 : 0 ≤ (x5_1 : Int) := of_decide_eq_true (by first | (with_reducible assumption) | assumption)
                                have q190 : x5_1 < (l0.length : Int) := of_decide_eq_true (by first | (with_reducible assumption) | assumption)
                                obtain ⟨ad190, A190_8, c190_8, A190_11, c190_11, A190_12, c190_12, e190, hx190_0, hx190_1, hx190_2, hx190_3, hx190_4, hx190_5, hx190_6, hx190_7, hx190_8, hx190_9, hx190_10, hx190_11, hx190_12, hl190_8, hi190_8, hl190_11, hi190_11, hl190_12, hi190_12⟩ := at_T37 HR0.out x5_1 p190 q190
                                obtain rfl : ad182 = ad190 := (by injection e190)
                                have HR190_8 := Aside0.mk hi190_8
                                have HC190_8 := Aside0.mk hl190_8
                                clear hi190_8 hl190_8
                                have HR190_11 := Aside0.mk hi190_11
                                have HC190_11 := Aside0.mk hl190_11
                                clear hi190_11 hl190_11
                                have HR190_12 := Aside0.mk hi190_12
                                have HC190_12 := Aside0.mk hl190_12
                                clear hi190_12 hl190_12
                                replace p190 := eq_true p190
                                replace q190 := eq_true q190
                                have ea_ := Option.some.inj (hx182_8.symm.trans hx190_8)
                                injection ea_ with ea_ en_ ec_
                                subst ea_
                                subst ec_
                                clear en_
                                have ea_ := Option.some.inj (hx182_11.symm.trans hx190_11)
                                injection ea_ with ea_ en_ ec_
                                subst ea_
                                subst ec_
                                clear en_
                                have ea_ := Option.some.inj (hx182_12.symm.trans hx190_12)
                                injection ea_ with ea_ en_ ec_
                                subst ea_
                                subst ec_
                                clear en_
                                go_wp2_with (first | ((with_reducible refine gate_callee (f := 39) rfl ?_); refine goesL_ (some 90) rfl rfl Try.func39 (by kernel_rfl) rfl #[.slice A182_8 ((rd_T37 l0 x5_1).f8).length c182_8, .int .i64 (wrap64 ((wrap64 ((wrap64 ((wrap64 ((wrap64 ((wrap64 ((wrap64 ((wrap64 (x1_1 + 1)) + 1)) + 1)) + 1)) + 1)) + 1)) + 1)) + 1))] rfl (by (try simp only [List.map_toArray, List.map_cons, List.map_nil]); first | done | rfl | (simp only [List.length_drop, List.length_take]; rfl)) ?_; (with_reducible refine (laws_heldIntS.calls k1 _ _ ((rd_T37 l0 x5_1).f8) (wrap64 ((wrap64 ((wrap64 ((wrap64 ((wrap64 ((wrap64 ((wrap64 ((wrap64 (x1_1 + 1)) + 1)) + 1)) + 1)) + 1)) + 1)) + 1)) + 1)) t191 _ ?side1 ?side2 A13.out).mono ?_); (case side1 => repeat (first | exact HR190_8.out | (with_reducible refine Kd.C_alloc ?_ _) | (with_reducible refine Kd.C_drewN ?_ _) | (with_reducible refine Kd.C_drew ?_))); (case side2 => exact HC190_8.out); rintro e w' ⟨rfl, ⟨nd, rfl⟩⟩; refine ⟨_, rfl, ?_⟩; have p192 : 0 ≤ (x5_1 : Int) := of_decide_eq_true (by first | (with_reducible assumption) | assumption); have q192 : x5_1 < (l0.length : Int) := of_decide_eq_true (by first | (with_reducible assumption) | assumption); obtain ⟨ad192, A192_8, c192_8, A192_11, c192_11, A192_12, c192_12, e192, hx192_0, hx192_1, hx192_2, hx192_3, hx192_4, hx192_5, hx192_6, hx192_7, hx192_8, hx192_9, hx192_10, hx192_11, hx192_12, hl192_8, hi192_8, hl192_11, hi192_11, hl192_12, hi192_12⟩ := at_T37 HR0.out x5_1 p192 q192; obtain rfl : ad182 = ad192 := (by injection e192); have HR192_8 := Aside0.mk hi192_8; have HC192_8 := Aside0.mk hl192_8; clear hi192_8 hl192_8; have HR192_11 := Aside0.mk hi192_11; have HC192_11 := Aside0.mk hl192_11; clear hi192_11 hl192_11; have HR192_12 := Aside0.mk hi192_12; have HC192_12 := Aside0.mk hl192_12; clear hi192_12 hl192_12; replace p192 := eq_true p192; replace q192 := eq_true q192; have ea_ := Option.some.inj (hx182_8.symm.trans hx192_8); injection ea_ with ea_ en_ ec_; subst ea_; subst ec_; clear en_; have ea_ := Option.some.inj (hx182_11.symm.trans hx192_11); injection ea_ with ea_ en_ ec_; subst ea_; subst ec_; clear en_; have ea_ := Option.some.inj (hx182_12.symm.trans hx192_12); injection ea_ with ea_ en_ ec_; subst ea_; subst ec_; clear en_; have p193 : 0 ≤ (x5_1 : Int) := of_decide_eq_true (by first | (with_reducible assumption) | assumption); have q193 : x5_1 < (l0.length : Int) := of_decide_eq_true (by first | (with_reducible assumption) | assumption); obtain ⟨ad193, A193_8, c193_8, A193_11, c193_11, A193_12, c193_12, e193, hx193_0, hx193_1, hx193_2, hx193_3, hx193_4, hx193_5, hx193_6, hx193_7, hx193_8, hx193_9, hx193_10, hx193_11, hx193_12, hl193_8, hi193_8, hl193_11, hi193_11, hl193_12, hi193_12⟩ := at_T37 HR0.out x5_1 p193 q193; obtain rfl : ad182 = ad193 := (by injection e193); have HR193_8 := Aside0.mk hi193_8; have HC193_8 := Aside0.mk hl193_8; clear hi193_8 hl193_8; have HR193_11 := Aside0.mk hi193_11; have HC193_11 := Aside0.mk hl193_11; clear hi193_11 hl193_11; have HR193_12 := Aside0.mk hi193_12; have HC193_12 := Aside0.mk hl193_12; clear hi193_12 hl193_12; replace p193 := eq_true p193; replace q193 := eq_true q193; have ea_ := Option.some.inj (hx182_8.symm.trans hx193_8); injection ea_ with ea_ en_ ec_; subst ea_; subst ec_; clear en_; have ea_ := Option.some.inj (hx182_11.symm.trans hx193_11); injection ea_ with ea_ en_ ec_; subst ea_; subst ec_; clear en_; have ea_ := Option.some.inj (hx182_12.symm.trans hx193_12); injection ea_ with ea_ en_ ec_; subst ea_; subst ec_; clear en_))
                                go_ret
                                exact ⟨by first | rfl | (simp; done) | (simp [*]; done), by repeat (first | exact Drawn0.refl _ | apply Drawn0.step)⟩
                            · rw [if_neg c15] at H
                              have c15b0 : (((rd_T37 l0 x5_1).f9) == t191) = false := beq_eq_false_iff_ne.mpr c15
                              have c15b1 : (((rd_T37 l0 x5_1).f9) != t191) = true := bne_iff_ne.mpr c15
                              obtain rfl := Option.some.inj H
                              have p182 : 0 ≤ (x5_1 : Int) := of_decide_eq_true (by first | (with_reducible assumption) | assumption)
                              have q182 : x5_1 < (l0.length : Int) := of_decide_eq_true (by first | (with_reducible assumption) | assumption)
                              obtain ⟨ad182, A182_8, c182_8, A182_11, c182_11, A182_12, c182_12, e182, hx182_0, hx182_1, hx182_2, hx182_3, hx182_4, hx182_5, hx182_6, hx182_7, hx182_8, hx182_9, hx182_10, hx182_11, hx182_12, hl182_8, hi182_8, hl182_11, hi182_11, hl182_12, hi182_12⟩ := at_T37 HR0.out x5_1 p182 q182
                              cases e182
                              have HR182_8 := Aside0.mk hi182_8
                              have HC182_8 := Aside0.mk hl182_8
                              clear hi182_8 hl182_8
                              have HR182_11 := Aside0.mk hi182_11
                              have HC182_11 := Aside0.mk hl182_11
                              clear hi182_11 hl182_11
                              have HR182_12 := Aside0.mk hi182_12
                              have HC182_12 := Aside0.mk hl182_12
                              clear hi182_12 hl182_12
                              replace p182 := eq_true p182
                              replace q182 := eq_true q182
                              have p183 : 0 ≤ (x5_1 : Int) := of_decide_eq_true (by first | (with_reducible assumption) | assumption)
                              have q183 : x5_1 < (l0.length : Int) := of_decide_eq_true (by first | (with_reducible assumption) | assumption)
                              obtain ⟨ad183, A183_8, c183_8, A183_11, c183_11, A183_12, c183_12, e183, hx183_0, hx183_1, hx183_2, hx183_3, hx183_4, hx183_5, hx183_6, hx183_7, hx183_8, hx183_9, hx183_10, hx183_11, hx183_12, hl183_8, hi183_8, hl183_11, hi183_11, hl183_12, hi183_12⟩ := at_T37 HR0.out x5_1 p183 q183
                              obtain rfl : ad182 = ad183 := (by injection e183)
                              have HR183_8 := Aside0.mk hi183_8
                              have HC183_8 := Aside0.mk hl183_8
                              clear hi183_8 hl183_8
                              have HR183_11 := Aside0.mk hi183_11
                              have HC183_11 := Aside0.mk hl183_11
                              clear hi183_11 hl183_11
                              have HR183_12 := Aside0.mk hi183_12
                              have HC183_12 := Aside0.mk hl183_12
                              clear hi183_12 hl183_12
                              replace p183 := eq_true p183
                              replace q183 := eq_true q183
                              have ea_ := Option.some.inj (hx182_8.symm.trans hx183_8)
                              injection ea_ with ea_ en_ ec_
                              subst ea_
                              subst ec_
                              clear en_
                              have ea_ := Option.some.inj (hx182_11.symm.trans hx183_11)
                              injection ea_ with ea_ en_ ec_
                              subst ea_
                              subst ec_
                              clear en_
                              have ea_ := Option.some.inj (hx182_12.symm.trans hx183_12)
                              injection ea_ with ea_ en_ ec_
                              subst ea_
                              subst ec_
                              clear en_
                              have p184 : 0 ≤ (x5_1 : Int) := of_decide_eq_true (by first | (with_reducible assumption) | assumption)
                              have q184 : x5_1 < (l0.length : Int) := of_decide_eq_true (by first | (with_reducible assumption) | assumption)
                              obtain ⟨ad184, A184_8, c184_8, A184_11, c184_11, A184_12, c184_12, e184, hx184_0, hx184_1, hx184_2, hx184_3, hx184_4, hx184_5, hx184_6, hx184_7, hx184_8, hx184_9, hx184_10, hx184_11, hx184_12, hl184_8, hi184_8, hl184_11, hi184_11, hl184_12, hi184_12⟩ := at_T37 HR0.out x5_1 p184 q184
                              obtain rfl : ad182 = ad184 := (by injection e184)
                              have HR184_8 := Aside0.mk hi184_8
                              have HC184_8 := Aside0.mk hl184_8
                              clear hi184_8 hl184_8
                              have HR184_11 := Aside0.mk hi184_11
                              have HC184_11 := Aside0.mk hl184_11
                              clear hi184_11 hl184_11
                              have HR184_12 := Aside0.mk hi184_12
                              have HC184_12 := Aside0.mk hl184_12
                              clear hi184_12 hl184_12
                              replace p184 := eq_true p184
                              replace q184 := eq_true q184
                              have ea_ := Option.some.inj (hx182_8.symm.trans hx184_8)
                              injection ea_ with ea_ en_ ec_
                              subst ea_
                              subst ec_
                              clear en_
                              have ea_ := Option.some.inj (hx182_11.symm.trans hx184_11)
                              injection ea_ with ea_ en_ ec_
                              subst ea_
                              subst ec_
                              clear en_
                              have ea_ := Option.some.inj (hx182_12.symm.trans hx184_12)
                              injection ea_ with ea_ en_ ec_
                              subst ea_
                              subst ec_
                              clear en_
                              have p185 : 0 ≤ (x5_1 : Int) := of_decide_eq_true (by first | (with_reducible assumption) | assumption)
                              have q185 : x5_1 < (l0.length : Int) := of_decide_eq_true (by first | (with_reducible assumption) | assumption)
                              obtain ⟨ad185, A185_8, c185_8, A185_11, c185_11, A185_12, c185_12, e185, hx185_0, hx185_1, hx185_2, hx185_3, hx185_4, hx185_5, hx185_6, hx185_7, hx185_8, hx185_9, hx185_10, hx185_11, hx185_12, hl185_8, hi185_8, hl185_11, hi185_11, hl185_12, hi185_12⟩ := at_T37 HR0.out x5_1 p185 q185
                              obtain rfl : ad182 = ad185 := (by injection e185)
                              have HR185_8 := Aside0.mk hi185_8
                              have HC185_8 := Aside0.mk hl185_8
                              clear hi185_8 hl185_8
                              have HR185_11 := Aside0.mk hi185_11
                              have HC185_11 := Aside0.mk hl185_11
                              clear hi185_11 hl185_11
                              have HR185_12 := Aside0.mk hi185_12
                              have HC185_12 := Aside0.mk hl185_12
                              clear hi185_12 hl185_12
                              replace p185 := eq_true p185
                              replace q185 := eq_true q185
                              have ea_ := Option.some.inj (hx182_8.symm.trans hx185_8)
                              injection ea_ with ea_ en_ ec_
                              subst ea_
                              subst ec_
                              clear en_
                              have ea_ := Option.some.inj (hx182_11.symm.trans hx185_11)
                              injection ea_ with ea_ en_ ec_
                              subst ea_
                              subst ec_
                              clear en_
                              have ea_ := Option.some.inj (hx182_12.symm.trans hx185_12)
                              injection ea_ with ea_ en_ ec_
                              subst ea_
                              subst ec_
                              clear en_
                              have p186 : 0 ≤ (x5_1 : Int) := of_decide_eq_true (by first | (with_reducible assumption) | assumption)
                              have q186 : x5_1 < (l0.length : Int) := of_decide_eq_true (by first | (with_reducible assumption) | assumption)
                              obtain ⟨ad186, A186_8, c186_8, A186_11, c186_11, A186_12, c186_12, e186, hx186_0, hx186_1, hx186_2, hx186_3, hx186_4, hx186_5, hx186_6, hx186_7, hx186_8, hx186_9, hx186_10, hx186_11, hx186_12, hl186_8, hi186_8, hl186_11, hi186_11, hl186_12, hi186_12⟩ := at_T37 HR0.out x5_1 p186 q186
                              obtain rfl : ad182 = ad186 := (by injection e186)
                              have HR186_8 := Aside0.mk hi186_8
                              have HC186_8 := Aside0.mk hl186_8
                              clear hi186_8 hl186_8
                              have HR186_11 := Aside0.mk hi186_11
                              have HC186_11 := Aside0.mk hl186_11
                              clear hi186_11 hl186_11
                              have HR186_12 := Aside0.mk hi186_12
                              have HC186_12 := Aside0.mk hl186_12
                              clear hi186_12 hl186_12
                              replace p186 := eq_true p186
                              replace q186 := eq_true q186
                              have ea_ := Option.some.inj (hx182_8.symm.trans hx186_8)
                              injection ea_ with ea_ en_ ec_
                              subst ea_
                              subst ec_
                              clear en_
                              have ea_ := Option.some.inj (hx182_11.symm.trans hx186_11)
                              injection ea_ with ea_ en_ ec_
                              subst ea_
                              subst ec_
                              clear en_
                              have ea_ := Option.some.inj (hx182_12.symm.trans hx186_12)
                              injection ea_ with ea_ en_ ec_
                              subst ea_
                              subst ec_
                              clear en_
                              have p187 : 0 ≤ (x5_1 : Int) := of_decide_eq_true (by first | (with_reducible assumption) | assumption)
                              have q187 : x5_1 < (l0.length : Int) := of_decide_eq_true (by first | (with_reducible assumption) | assumption)
                              obtain ⟨ad187, A187_8, c187_8, A187_11, c187_11, A187_12, c187_12, e187, hx187_0, hx187_1, hx187_2, hx187_3, hx187_4, hx187_5, hx187_6, hx187_7, hx187_8, hx187_9, hx187_10, hx187_11, hx187_12, hl187_8, hi187_8, hl187_11, hi187_11, hl187_12, hi187_12⟩ := at_T37 HR0.out x5_1 p187 q187
                              obtain rfl : ad182 = ad187 := (by injection e187)
                              have HR187_8 := Aside0.mk hi187_8
                              have HC187_8 := Aside0.mk hl187_8
                              clear hi187_8 hl187_8
                              have HR187_11 := Aside0.mk hi187_11
                              have HC187_11 := Aside0.mk hl187_11
                              clear hi187_11 hl187_11
                              have HR187_12 := Aside0.mk hi187_12
                              have HC187_12 := Aside0.mk hl187_12
                              clear hi187_12 hl187_12
                              replace p187 := eq_true p187
                              replace q187 := eq_true q187
                              have ea_ := Option.some.inj (hx182_8.symm.trans hx187_8)
                              injection ea_ with ea_ en_ ec_
                              subst ea_
                              subst ec_
                              clear en_
                              have ea_ := Option.some.inj (hx182_11.symm.trans hx187_11)
                              injection ea_ with ea_ en_ ec_
                              subst ea_
                              subst ec_
                              clear en_
                              have ea_ := Option.some.inj (hx182_12.symm.trans hx187_12)
                              injection ea_ with ea_ en_ ec_
                              subst ea_
                              subst ec_
                              clear en_
                              have p188 : 0 ≤ (x5_1 : Int) := of_decide_eq_true (by first | (with_reducible assumption) | assumption)
                              have q188 : x5_1 < (l0.length : Int) := of_decide_eq_true (by first | (with_reducible assumption) | assumption)
                              obtain ⟨ad188, A188_8, c188_8, A188_11, c188_11, A188_12, c188_12, e188, hx188_0, hx188_1, hx188_2, hx188_3, hx188_4, hx188_5, hx188_6, hx188_7, hx188_8, hx188_9, hx188_10, hx188_11, hx188_12, hl188_8, hi188_8, hl188_11, hi188_11, hl188_12, hi188_12⟩ := at_T37 HR0.out x5_1 p188 q188
                              obtain rfl : ad182 = ad188 := (by injection e188)
                              have HR188_8 := Aside0.mk hi188_8
                              have HC188_8 := Aside0.mk hl188_8
                              clear hi188_8 hl188_8
                              have HR188_11 := Aside0.mk hi188_11
                              have HC188_11 := Aside0.mk hl188_11
                              clear hi188_11 hl188_11
                              have HR188_12 := Aside0.mk hi188_12
                              have HC188_12 := Aside0.mk hl188_12
                              clear hi188_12 hl188_12
                              replace p188 := eq_true p188
                              replace q188 := eq_true q188
                              have ea_ := Option.some.inj (hx182_8.symm.trans hx188_8)
                              injection ea_ with ea_ en_ ec_
                              subst ea_
                              subst ec_
                              clear en_
                              have ea_ := Option.some.inj (hx182_11.symm.trans hx188_11)
                              injection ea_ with ea_ en_ ec_
                              subst ea_
                              subst ec_
                              clear en_
                              have ea_ := Option.some.inj (hx182_12.symm.trans hx188_12)
                              injection ea_ with ea_ en_ ec_
                              subst ea_
                              subst ec_
                              clear en_
                              have p189 : 0 ≤ (x5_1 : Int) := of_decide_eq_true (by first | (with_reducible assumption) | assumption)
                              have q189 : x5_1 < (l0.length : Int) := of_decide_eq_true (by first | (with_reducible assumption) | assumption)
                              obtain ⟨ad189, A189_8, c189_8, A189_11, c189_11, A189_12, c189_12, e189, hx189_0, hx189_1, hx189_2, hx189_3, hx189_4, hx189_5, hx189_6, hx189_7, hx189_8, hx189_9, hx189_10, hx189_11, hx189_12, hl189_8, hi189_8, hl189_11, hi189_11, hl189_12, hi189_12⟩ := at_T37 HR0.out x5_1 p189 q189
                              obtain rfl : ad182 = ad189 := (by injection e189)
                              have HR189_8 := Aside0.mk hi189_8
                              have HC189_8 := Aside0.mk hl189_8
                              clear hi189_8 hl189_8
                              have HR189_11 := Aside0.mk hi189_11
                              have HC189_11 := Aside0.mk hl189_11
                              clear hi189_11 hl189_11
                              have HR189_12 := Aside0.mk hi189_12
                              have HC189_12 := Aside0.mk hl189_12
                              clear hi189_12 hl189_12
                              replace p189 := eq_true p189
                              replace q189 := eq_true q189
                              have ea_ := Option.some.inj (hx182_8.symm.trans hx189_8)
                              injection ea_ with ea_ en_ ec_
                              subst ea_
                              subst ec_
                              clear en_
                              have ea_ := Option.some.inj (hx182_11.symm.trans hx189_11)
                              injection ea_ with ea_ en_ ec_
                              subst ea_
                              subst ec_
                              clear en_
                              have ea_ := Option.some.inj (hx182_12.symm.trans hx189_12)
                              injection ea_ with ea_ en_ ec_
                              subst ea_
                              subst ec_
                              clear en_
                              have p190 : 0 ≤ (x5_1 : Int) := of_decide_eq_true (by first | (with_reducible assumption) | assumption)
                              have q190 : x5_1 < (l0.length : Int) := of_decide_eq_true (by first | (with_reducible assumption) | assumption)
                              obtain ⟨ad190, A190_8, c190_8, A190_11, c190_11, A190_12, c190_12, e190, hx190_0, hx190_1, hx190_2, hx190_3, hx190_4, hx190_5, hx190_6, hx190_7, hx190_8, hx190_9, hx190_10, hx190_11, hx190_12, hl190_8, hi190_8, hl190_11, hi190_11, hl190_12, hi190_12⟩ := at_T37 HR0.out x5_1 p190 q190
                              obtain rfl : ad182 = ad190 := (by injection e190)
                              have HR190_8 := Aside0.mk hi190_8
                              have HC190_8 := Aside0.mk hl190_8
                              clear hi190_8 hl190_8
                              have HR190_11 := Aside0.mk hi190_11
                              have HC190_11 := Aside0.mk hl190_11
                              clear hi190_11 hl190_11
                              have HR190_12 := Aside0.mk hi190_12
                              have HC190_12 := Aside0.mk hl190_12
                              clear hi190_12 hl190_12
                              replace p190 := eq_true p190
                              replace q190 := eq_true q190
                              have ea_ := Option.some.inj (hx182_8.symm.trans hx190_8)
                              injection ea_ with ea_ en_ ec_
                              subst ea_
                              subst ec_
                              clear en_
                              have ea_ := Option.some.inj (hx182_11.symm.trans hx190_11)
                              injection ea_ with ea_ en_ ec_
                              subst ea_
                              subst ec_
                              clear en_
                              have ea_ := Option.some.inj (hx182_12.symm.trans hx190_12)
                              injection ea_ with ea_ en_ ec_
                              subst ea_
                              subst ec_
                              clear en_
                              go_wp2_with (first | ((with_reducible refine gate_callee (f := 39) rfl ?_); refine goesL_ (some 90) rfl rfl Try.func39 (by kernel_rfl) rfl #[.slice A182_8 ((rd_T37 l0 x5_1).f8).length c182_8, .int .i64 (wrap64 ((wrap64 ((wrap64 ((wrap64 ((wrap64 ((wrap64 ((wrap64 ((wrap64 (x1_1 + 1)) + 1)) + 1)) + 1)) + 1)) + 1)) + 1)) + 1))] rfl (by (try simp only [List.map_toArray, List.map_cons, List.map_nil]); first | done | rfl | (simp only [List.length_drop, List.length_take]; rfl)) ?_; (with_reducible refine (laws_heldIntS.calls k1 _ _ ((rd_T37 l0 x5_1).f8) (wrap64 ((wrap64 ((wrap64 ((wrap64 ((wrap64 ((wrap64 ((wrap64 ((wrap64 (x1_1 + 1)) + 1)) + 1)) + 1)) + 1)) + 1)) + 1)) + 1)) t191 _ ?side1 ?side2 A13.out).mono ?_); (case side1 => repeat (first | exact HR190_8.out | (with_reducible refine Kd.C_alloc ?_ _) | (with_reducible refine Kd.C_drewN ?_ _) | (with_reducible refine Kd.C_drew ?_))); (case side2 => exact HC190_8.out); rintro e w' ⟨rfl, ⟨nd, rfl⟩⟩; refine ⟨_, rfl, ?_⟩; have p192 : 0 ≤ (x5_1 : Int) := of_decide_eq_true (by first | (with_reducible assumption) | assumption); have q192 : x5_1 < (l0.length : Int) := of_decide_eq_true (by first | (with_reducible assumption) | assumption); obtain ⟨ad192, A192_8, c192_8, A192_11, c192_11, A192_12, c192_12, e192, hx192_0, hx192_1, hx192_2, hx192_3, hx192_4, hx192_5, hx192_6, hx192_7, hx192_8, hx192_9, hx192_10, hx192_11, hx192_12, hl192_8, hi192_8, hl192_11, hi192_11, hl192_12, hi192_12⟩ := at_T37 HR0.out x5_1 p192 q192; obtain rfl : ad182 = ad192 := (by injection e192); have HR192_8 := Aside0.mk hi192_8; have HC192_8 := Aside0.mk hl192_8; clear hi192_8 hl192_8; have HR192_11 := Aside0.mk hi192_11; have HC192_11 := Aside0.mk hl192_11; clear hi192_11 hl192_11; have HR192_12 := Aside0.mk hi192_12; have HC192_12 := Aside0.mk hl192_12; clear hi192_12 hl192_12; replace p192 := eq_true p192; replace q192 := eq_true q192; have ea_ := Option.some.inj (hx182_8.symm.trans hx192_8); injection ea_ with ea_ en_ ec_; subst ea_; subst ec_; clear en_; have ea_ := Option.some.inj (hx182_11.symm.trans hx192_11); injection ea_ with ea_ en_ ec_; subst ea_; subst ec_; clear en_; have ea_ := Option.some.inj (hx182_12.symm.trans hx192_12); injection ea_ with ea_ en_ ec_; subst ea_; subst ec_; clear en_))
                              go_ret
                              exact ⟨by first | rfl | (simp; done) | (simp [*]; done), by repeat (first | exact Drawn0.refl _ | apply Drawn0.step)⟩
                        · rw [if_neg c12] at H
                          have c12b0 : (((rd_T37 l0 x5_1).f7) == (wrap64 ((wrap64 ((wrap64 ((wrap64 ((wrap64 ((wrap64 ((wrap64 (x1_1 + 1)) + 1)) + 1)) + 1)) + 1)) + 1)) + 1))) = false := beq_eq_false_iff_ne.mpr c12
                          have c12b1 : (((rd_T37 l0 x5_1).f7) != (wrap64 ((wrap64 ((wrap64 ((wrap64 ((wrap64 ((wrap64 ((wrap64 (x1_1 + 1)) + 1)) + 1)) + 1)) + 1)) + 1)) + 1))) = true := bne_iff_ne.mpr c12
                          obtain rfl := Option.some.inj H
                          have p182 : 0 ≤ (x5_1 : Int) := of_decide_eq_true (by first | (with_reducible assumption) | assumption)
                          have q182 : x5_1 < (l0.length : Int) := of_decide_eq_true (by first | (with_reducible assumption) | assumption)
                          obtain ⟨ad182, A182_8, c182_8, A182_11, c182_11, A182_12, c182_12, e182, hx182_0, hx182_1, hx182_2, hx182_3, hx182_4, hx182_5, hx182_6, hx182_7, hx182_8, hx182_9, hx182_10, hx182_11, hx182_12, hl182_8, hi182_8, hl182_11, hi182_11, hl182_12, hi182_12⟩ := at_T37 HR0.out x5_1 p182 q182
                          cases e182
                          have HR182_8 := Aside0.mk hi182_8
                          have HC182_8 := Aside0.mk hl182_8
                          clear hi182_8 hl182_8
                          have HR182_11 := Aside0.mk hi182_11
                          have HC182_11 := Aside0.mk hl182_11
                          clear hi182_11 hl182_11
                          have HR182_12 := Aside0.mk hi182_12
                          have HC182_12 := Aside0.mk hl182_12
                          clear hi182_12 hl182_12
                          replace p182 := eq_true p182
                          replace q182 := eq_true q182
                          have p183 : 0 ≤ (x5_1 : Int) := of_decide_eq_true (by first | (with_reducible assumption) | assumption)
                          have q183 : x5_1 < (l0.length : Int) := of_decide_eq_true (by first | (with_reducible assumption) | assumption)
                          obtain ⟨ad183, A183_8, c183_8, A183_11, c183_11, A183_12, c183_12, e183, hx183_0, hx183_1, hx183_2, hx183_3, hx183_4, hx183_5, hx183_6, hx183_7, hx183_8, hx183_9, hx183_10, hx183_11, hx183_12, hl183_8, hi183_8, hl183_11, hi183_11, hl183_12, hi183_12⟩ := at_T37 HR0.out x5_1 p183 q183
                          obtain rfl : ad182 = ad183 := (by injection e183)
                          have HR183_8 := Aside0.mk hi183_8
                          have HC183_8 := Aside0.mk hl183_8
                          clear hi183_8 hl183_8
                          have HR183_11 := Aside0.mk hi183_11
                          have HC183_11 := Aside0.mk hl183_11
                          clear hi183_11 hl183_11
                          have HR183_12 := Aside0.mk hi183_12
                          have HC183_12 := Aside0.mk hl183_12
                          clear hi183_12 hl183_12
                          replace p183 := eq_true p183
                          replace q183 := eq_true q183
                          have ea_ := Option.some.inj (hx182_8.symm.trans hx183_8)
                          injection ea_ with ea_ en_ ec_
                          subst ea_
                          subst ec_
                          clear en_
                          have ea_ := Option.some.inj (hx182_11.symm.trans hx183_11)
                          injection ea_ with ea_ en_ ec_
                          subst ea_
                          subst ec_
                          clear en_
                          have ea_ := Option.some.inj (hx182_12.symm.trans hx183_12)
                          injection ea_ with ea_ en_ ec_
                          subst ea_
                          subst ec_
                          clear en_
                          have p184 : 0 ≤ (x5_1 : Int) := of_decide_eq_true (by first | (with_reducible assumption) | assumption)
                          have q184 : x5_1 < (l0.length : Int) := of_decide_eq_true (by first | (with_reducible assumption) | assumption)
                          obtain ⟨ad184, A184_8, c184_8, A184_11, c184_11, A184_12, c184_12, e184, hx184_0, hx184_1, hx184_2, hx184_3, hx184_4, hx184_5, hx184_6, hx184_7, hx184_8, hx184_9, hx184_10, hx184_11, hx184_12, hl184_8, hi184_8, hl184_11, hi184_11, hl184_12, hi184_12⟩ := at_T37 HR0.out x5_1 p184 q184
                          obtain rfl : ad182 = ad184 := (by injection e184)
                          have HR184_8 := Aside0.mk hi184_8
                          have HC184_8 := Aside0.mk hl184_8
                          clear hi184_8 hl184_8
                          have HR184_11 := Aside0.mk hi184_11
                          have HC184_11 := Aside0.mk hl184_11
                          clear hi184_11 hl184_11
                          have HR184_12 := Aside0.mk hi184_12
                          have HC184_12 := Aside0.mk hl184_12
                          clear hi184_12 hl184_12
                          replace p184 := eq_true p184
                          replace q184 := eq_true q184
                          have ea_ := Option.some.inj (hx182_8.symm.trans hx184_8)
                          injection ea_ with ea_ en_ ec_
                          subst ea_
                          subst ec_
                          clear en_
                          have ea_ := Option.some.inj (hx182_11.symm.trans hx184_11)
                          injection ea_ with ea_ en_ ec_
                          subst ea_
                          subst ec_
                          clear en_
                          have ea_ := Option.some.inj (hx182_12.symm.trans hx184_12)
                          injection ea_ with ea_ en_ ec_
                          subst ea_
                          subst ec_
                          clear en_
                          have p185 : 0 ≤ (x5_1 : Int) := of_decide_eq_true (by first | (with_reducible assumption) | assumption)
                          have q185 : x5_1 < (l0.length : Int) := of_decide_eq_true (by first | (with_reducible assumption) | assumption)
                          obtain ⟨ad185, A185_8, c185_8, A185_11, c185_11, A185_12, c185_12, e185, hx185_0, hx185_1, hx185_2, hx185_3, hx185_4, hx185_5, hx185_6, hx185_7, hx185_8, hx185_9, hx185_10, hx185_11, hx185_12, hl185_8, hi185_8, hl185_11, hi185_11, hl185_12, hi185_12⟩ := at_T37 HR0.out x5_1 p185 q185
                          obtain rfl : ad182 = ad185 := (by injection e185)
                          have HR185_8 := Aside0.mk hi185_8
                          have HC185_8 := Aside0.mk hl185_8
                          clear hi185_8 hl185_8
                          have HR185_11 := Aside0.mk hi185_11
                          have HC185_11 := Aside0.mk hl185_11
                          clear hi185_11 hl185_11
                          have HR185_12 := Aside0.mk hi185_12
                          have HC185_12 := Aside0.mk hl185_12
                          clear hi185_12 hl185_12
                          replace p185 := eq_true p185
                          replace q185 := eq_true q185
                          have ea_ := Option.some.inj (hx182_8.symm.trans hx185_8)
                          injection ea_ with ea_ en_ ec_
                          subst ea_
                          subst ec_
                          clear en_
                          have ea_ := Option.some.inj (hx182_11.symm.trans hx185_11)
                          injection ea_ with ea_ en_ ec_
                          subst ea_
                          subst ec_
                          clear en_
                          have ea_ := Option.some.inj (hx182_12.symm.trans hx185_12)
                          injection ea_ with ea_ en_ ec_
                          subst ea_
                          subst ec_
                          clear en_
                          have p186 : 0 ≤ (x5_1 : Int) := of_decide_eq_true (by first | (with_reducible assumption) | assumption)
                          have q186 : x5_1 < (l0.length : Int) := of_decide_eq_true (by first | (with_reducible assumption) | assumption)
                          obtain ⟨ad186, A186_8, c186_8, A186_11, c186_11, A186_12, c186_12, e186, hx186_0, hx186_1, hx186_2, hx186_3, hx186_4, hx186_5, hx186_6, hx186_7, hx186_8, hx186_9, hx186_10, hx186_11, hx186_12, hl186_8, hi186_8, hl186_11, hi186_11, hl186_12, hi186_12⟩ := at_T37 HR0.out x5_1 p186 q186
                          obtain rfl : ad182 = ad186 := (by injection e186)
                          have HR186_8 := Aside0.mk hi186_8
                          have HC186_8 := Aside0.mk hl186_8
                          clear hi186_8 hl186_8
                          have HR186_11 := Aside0.mk hi186_11
                          have HC186_11 := Aside0.mk hl186_11
                          clear hi186_11 hl186_11
                          have HR186_12 := Aside0.mk hi186_12
                          have HC186_12 := Aside0.mk hl186_12
                          clear hi186_12 hl186_12
                          replace p186 := eq_true p186
                          replace q186 := eq_true q186
                          have ea_ := Option.some.inj (hx182_8.symm.trans hx186_8)
                          injection ea_ with ea_ en_ ec_
                          subst ea_
                          subst ec_
                          clear en_
                          have ea_ := Option.some.inj (hx182_11.symm.trans hx186_11)
                          injection ea_ with ea_ en_ ec_
                          subst ea_
                          subst ec_
                          clear en_
                          have ea_ := Option.some.inj (hx182_12.symm.trans hx186_12)
                          injection ea_ with ea_ en_ ec_
                          subst ea_
                          subst ec_
                          clear en_
                          have p187 : 0 ≤ (x5_1 : Int) := of_decide_eq_true (by first | (with_reducible assumption) | assumption)
                          have q187 : x5_1 < (l0.length : Int) := of_decide_eq_true (by first | (with_reducible assumption) | assumption)
                          obtain ⟨ad187, A187_8, c187_8, A187_11, c187_11, A187_12, c187_12, e187, hx187_0, hx187_1, hx187_2, hx187_3, hx187_4, hx187_5, hx187_6, hx187_7, hx187_8, hx187_9, hx187_10, hx187_11, hx187_12, hl187_8, hi187_8, hl187_11, hi187_11, hl187_12, hi187_12⟩ := at_T37 HR0.out x5_1 p187 q187
                          obtain rfl : ad182 = ad187 := (by injection e187)
                          have HR187_8 := Aside0.mk hi187_8
                          have HC187_8 := Aside0.mk hl187_8
                          clear hi187_8 hl187_8
                          have HR187_11 := Aside0.mk hi187_11
                          have HC187_11 := Aside0.mk hl187_11
                          clear hi187_11 hl187_11
                          have HR187_12 := Aside0.mk hi187_12
                          have HC187_12 := Aside0.mk hl187_12
                          clear hi187_12 hl187_12
                          replace p187 := eq_true p187
                          replace q187 := eq_true q187
                          have ea_ := Option.some.inj (hx182_8.symm.trans hx187_8)
                          injection ea_ with ea_ en_ ec_
                          subst ea_
                          subst ec_
                          clear en_
                          have ea_ := Option.some.inj (hx182_11.symm.trans hx187_11)
                          injection ea_ with ea_ en_ ec_
                          subst ea_
                          subst ec_
                          clear en_
                          have ea_ := Option.some.inj (hx182_12.symm.trans hx187_12)
                          injection ea_ with ea_ en_ ec_
                          subst ea_
                          subst ec_
                          clear en_
                          have p188 : 0 ≤ (x5_1 : Int) := of_decide_eq_true (by first | (with_reducible assumption) | assumption)
                          have q188 : x5_1 < (l0.length : Int) := of_decide_eq_true (by first | (with_reducible assumption) | assumption)
                          obtain ⟨ad188, A188_8, c188_8, A188_11, c188_11, A188_12, c188_12, e188, hx188_0, hx188_1, hx188_2, hx188_3, hx188_4, hx188_5, hx188_6, hx188_7, hx188_8, hx188_9, hx188_10, hx188_11, hx188_12, hl188_8, hi188_8, hl188_11, hi188_11, hl188_12, hi188_12⟩ := at_T37 HR0.out x5_1 p188 q188
                          obtain rfl : ad182 = ad188 := (by injection e188)
                          have HR188_8 := Aside0.mk hi188_8
                          have HC188_8 := Aside0.mk hl188_8
                          clear hi188_8 hl188_8
                          have HR188_11 := Aside0.mk hi188_11
                          have HC188_11 := Aside0.mk hl188_11
                          clear hi188_11 hl188_11
                          have HR188_12 := Aside0.mk hi188_12
                          have HC188_12 := Aside0.mk hl188_12
                          clear hi188_12 hl188_12
                          replace p188 := eq_true p188
                          replace q188 := eq_true q188
                          have ea_ := Option.some.inj (hx182_8.symm.trans hx188_8)
                          injection ea_ with ea_ en_ ec_
                          subst ea_
                          subst ec_
                          clear en_
                          have ea_ := Option.some.inj (hx182_11.symm.trans hx188_11)
                          injection ea_ with ea_ en_ ec_
                          subst ea_
                          subst ec_
                          clear en_
                          have ea_ := Option.some.inj (hx182_12.symm.trans hx188_12)
                          injection ea_ with ea_ en_ ec_
                          subst ea_
                          subst ec_
                          clear en_
                          have p189 : 0 ≤ (x5_1 : Int) := of_decide_eq_true (by first | (with_reducible assumption) | assumption)
                          have q189 : x5_1 < (l0.length : Int) := of_decide_eq_true (by first | (with_reducible assumption) | assumption)
                          obtain ⟨ad189, A189_8, c189_8, A189_11, c189_11, A189_12, c189_12, e189, hx189_0, hx189_1, hx189_2, hx189_3, hx189_4, hx189_5, hx189_6, hx189_7, hx189_8, hx189_9, hx189_10, hx189_11, hx189_12, hl189_8, hi189_8, hl189_11, hi189_11, hl189_12, hi189_12⟩ := at_T37 HR0.out x5_1 p189 q189
                          obtain rfl : ad182 = ad189 := (by injection e189)
                          have HR189_8 := Aside0.mk hi189_8
                          have HC189_8 := Aside0.mk hl189_8
                          clear hi189_8 hl189_8
                          have HR189_11 := Aside0.mk hi189_11
                          have HC189_11 := Aside0.mk hl189_11
                          clear hi189_11 hl189_11
                          have HR189_12 := Aside0.mk hi189_12
                          have HC189_12 := Aside0.mk hl189_12
                          clear hi189_12 hl189_12
                          replace p189 := eq_true p189
                          replace q189 := eq_true q189
                          have ea_ := Option.some.inj (hx182_8.symm.trans hx189_8)
                          injection ea_ with ea_ en_ ec_
                          subst ea_
                          subst ec_
                          clear en_
                          have ea_ := Option.some.inj (hx182_11.symm.trans hx189_11)
                          injection ea_ with ea_ en_ ec_
                          subst ea_
                          subst ec_
                          clear en_
                          have ea_ := Option.some.inj (hx182_12.symm.trans hx189_12)
                          injection ea_ with ea_ en_ ec_
                          subst ea_
                          subst ec_
                          clear en_
                          go_wp2
                          go_ret
                          exact ⟨by first | rfl | (simp; done) | (simp [*]; done), by repeat (first | exact Drawn0.refl _ | apply Drawn0.step)⟩
                      · rw [if_neg c11] at H
                        have c11b0 : (((rd_T37 l0 x5_1).f6) == (wrap64 ((wrap64 ((wrap64 ((wrap64 ((wrap64 ((wrap64 (x1_1 + 1)) + 1)) + 1)) + 1)) + 1)) + 1))) = false := beq_eq_false_iff_ne.mpr c11
                        have c11b1 : (((rd_T37 l0 x5_1).f6) != (wrap64 ((wrap64 ((wrap64 ((wrap64 ((wrap64 ((wrap64 (x1_1 + 1)) + 1)) + 1)) + 1)) + 1)) + 1))) = true := bne_iff_ne.mpr c11
                        obtain rfl := Option.some.inj H
                        have p182 : 0 ≤ (x5_1 : Int) := of_decide_eq_true (by first | (with_reducible assumption) | assumption)
                        have q182 : x5_1 < (l0.length : Int) := of_decide_eq_true (by first | (with_reducible assumption) | assumption)
                        obtain ⟨ad182, A182_8, c182_8, A182_11, c182_11, A182_12, c182_12, e182, hx182_0, hx182_1, hx182_2, hx182_3, hx182_4, hx182_5, hx182_6, hx182_7, hx182_8, hx182_9, hx182_10, hx182_11, hx182_12, hl182_8, hi182_8, hl182_11, hi182_11, hl182_12, hi182_12⟩ := at_T37 HR0.out x5_1 p182 q182
                        cases e182
                        have HR182_8 := Aside0.mk hi182_8
                        have HC182_8 := Aside0.mk hl182_8
                        clear hi182_8 hl182_8
                        have HR182_11 := Aside0.mk hi182_11
                        have HC182_11 := Aside0.mk hl182_11
                        clear hi182_11 hl182_11
                        have HR182_12 := Aside0.mk hi182_12
                        have HC182_12 := Aside0.mk hl182_12
                        clear hi182_12 hl182_12
                        replace p182 := eq_true p182
                        replace q182 := eq_true q182
                        have p183 : 0 ≤ (x5_1 : Int) := of_decide_eq_true (by first | (with_reducible assumption) | assumption)
                        have q183 : x5_1 < (l0.length : Int) := of_decide_eq_true (by first | (with_reducible assumption) | assumption)
                        obtain ⟨ad183, A183_8, c183_8, A183_11, c183_11, A183_12, c183_12, e183, hx183_0, hx183_1, hx183_2, hx183_3, hx183_4, hx183_5, hx183_6, hx183_7, hx183_8, hx183_9, hx183_10, hx183_11, hx183_12, hl183_8, hi183_8, hl183_11, hi183_11, hl183_12, hi183_12⟩ := at_T37 HR0.out x5_1 p183 q183
                        obtain rfl : ad182 = ad183 := (by injection e183)
                        have HR183_8 := Aside0.mk hi183_8
                        have HC183_8 := Aside0.mk hl183_8
                        clear hi183_8 hl183_8
                        have HR183_11 := Aside0.mk hi183_11
                        have HC183_11 := Aside0.mk hl183_11
                        clear hi183_11 hl183_11
                        have HR183_12 := Aside0.mk hi183_12
                        have HC183_12 := Aside0.mk hl183_12
                        clear hi183_12 hl183_12
                        replace p183 := eq_true p183
                        replace q183 := eq_true q183
                        have ea_ := Option.some.inj (hx182_8.symm.trans hx183_8)
                        injection ea_ with ea_ en_ ec_
                        subst ea_
                        subst ec_
                        clear en_
                        have ea_ := Option.some.inj (hx182_11.symm.trans hx183_11)
                        injection ea_ with ea_ en_ ec_
                        subst ea_
                        subst ec_
                        clear en_
                        have ea_ := Option.some.inj (hx182_12.symm.trans hx183_12)
                        injection ea_ with ea_ en_ ec_
                        subst ea_
                        subst ec_
                        clear en_
                        have p184 : 0 ≤ (x5_1 : Int) := of_decide_eq_true (by first | (with_reducible assumption) | assumption)
                        have q184 : x5_1 < (l0.length : Int) := of_decide_eq_true (by first | (with_reducible assumption) | assumption)
                        obtain ⟨ad184, A184_8, c184_8, A184_11, c184_11, A184_12, c184_12, e184, hx184_0, hx184_1, hx184_2, hx184_3, hx184_4, hx184_5, hx184_6, hx184_7, hx184_8, hx184_9, hx184_10, hx184_11, hx184_12, hl184_8, hi184_8, hl184_11, hi184_11, hl184_12, hi184_12⟩ := at_T37 HR0.out x5_1 p184 q184
                        obtain rfl : ad182 = ad184 := (by injection e184)
                        have HR184_8 := Aside0.mk hi184_8
                        have HC184_8 := Aside0.mk hl184_8
                        clear hi184_8 hl184_8
                        have HR184_11 := Aside0.mk hi184_11
                        have HC184_11 := Aside0.mk hl184_11
                        clear hi184_11 hl184_11
                        have HR184_12 := Aside0.mk hi184_12
                        have HC184_12 := Aside0.mk hl184_12
                        clear hi184_12 hl184_12
                        replace p184 := eq_true p184
                        replace q184 := eq_true q184
                        have ea_ := Option.some.inj (hx182_8.symm.trans hx184_8)
                        injection ea_ with ea_ en_ ec_
                        subst ea_
                        subst ec_
                        clear en_
                        have ea_ := Option.some.inj (hx182_11.symm.trans hx184_11)
                        injection ea_ with ea_ en_ ec_
                        subst ea_
                        subst ec_
                        clear en_
                        have ea_ := Option.some.inj (hx182_12.symm.trans hx184_12)
                        injection ea_ with ea_ en_ ec_
                        subst ea_
                        subst ec_
                        clear en_
                        have p185 : 0 ≤ (x5_1 : Int) := of_decide_eq_true (by first | (with_reducible assumption) | assumption)
                        have q185 : x5_1 < (l0.length : Int) := of_decide_eq_true (by first | (with_reducible assumption) | assumption)
                        obtain ⟨ad185, A185_8, c185_8, A185_11, c185_11, A185_12, c185_12, e185, hx185_0, hx185_1, hx185_2, hx185_3, hx185_4, hx185_5, hx185_6, hx185_7, hx185_8, hx185_9, hx185_10, hx185_11, hx185_12, hl185_8, hi185_8, hl185_11, hi185_11, hl185_12, hi185_12⟩ := at_T37 HR0.out x5_1 p185 q185
                        obtain rfl : ad182 = ad185 := (by injection e185)
                        have HR185_8 := Aside0.mk hi185_8
                        have HC185_8 := Aside0.mk hl185_8
                        clear hi185_8 hl185_8
                        have HR185_11 := Aside0.mk hi185_11
                        have HC185_11 := Aside0.mk hl185_11
                        clear hi185_11 hl185_11
                        have HR185_12 := Aside0.mk hi185_12
                        have HC185_12 := Aside0.mk hl185_12
                        clear hi185_12 hl185_12
                        replace p185 := eq_true p185
                        replace q185 := eq_true q185
                        have ea_ := Option.some.inj (hx182_8.symm.trans hx185_8)
                        injection ea_ with ea_ en_ ec_
                        subst ea_
                        subst ec_
                        clear en_
                        have ea_ := Option.some.inj (hx182_11.symm.trans hx185_11)
                        injection ea_ with ea_ en_ ec_
                        subst ea_
                        subst ec_
                        clear en_
                        have ea_ := Option.some.inj (hx182_12.symm.trans hx185_12)
                        injection ea_ with ea_ en_ ec_
                        subst ea_
                        subst ec_
                        clear en_
                        have p186 : 0 ≤ (x5_1 : Int) := of_decide_eq_true (by first | (with_reducible assumption) | assumption)
                        have q186 : x5_1 < (l0.length : Int) := of_decide_eq_true (by first | (with_reducible assumption) | assumption)
                        obtain ⟨ad186, A186_8, c186_8, A186_11, c186_11, A186_12, c186_12, e186, hx186_0, hx186_1, hx186_2, hx186_3, hx186_4, hx186_5, hx186_6, hx186_7, hx186_8, hx186_9, hx186_10, hx186_11, hx186_12, hl186_8, hi186_8, hl186_11, hi186_11, hl186_12, hi186_12⟩ := at_T37 HR0.out x5_1 p186 q186
                        obtain rfl : ad182 = ad186 := (by injection e186)
                        have HR186_8 := Aside0.mk hi186_8
                        have HC186_8 := Aside0.mk hl186_8
                        clear hi186_8 hl186_8
                        have HR186_11 := Aside0.mk hi186_11
                        have HC186_11 := Aside0.mk hl186_11
                        clear hi186_11 hl186_11
                        have HR186_12 := Aside0.mk hi186_12
                        have HC186_12 := Aside0.mk hl186_12
                        clear hi186_12 hl186_12
                        replace p186 := eq_true p186
                        replace q186 := eq_true q186
                        have ea_ := Option.some.inj (hx182_8.symm.trans hx186_8)
                        injection ea_ with ea_ en_ ec_
                        subst ea_
                        subst ec_
                        clear en_
                        have ea_ := Option.some.inj (hx182_11.symm.trans hx186_11)
                        injection ea_ with ea_ en_ ec_
                        subst ea_
                        subst ec_
                        clear en_
                        have ea_ := Option.some.inj (hx182_12.symm.trans hx186_12)
                        injection ea_ with ea_ en_ ec_
                        subst ea_
                        subst ec_
                        clear en_
                        have p187 : 0 ≤ (x5_1 : Int) := of_decide_eq_true (by first | (with_reducible assumption) | assumption)
                        have q187 : x5_1 < (l0.length : Int) := of_decide_eq_true (by first | (with_reducible assumption) | assumption)
                        obtain ⟨ad187, A187_8, c187_8, A187_11, c187_11, A187_12, c187_12, e187, hx187_0, hx187_1, hx187_2, hx187_3, hx187_4, hx187_5, hx187_6, hx187_7, hx187_8, hx187_9, hx187_10, hx187_11, hx187_12, hl187_8, hi187_8, hl187_11, hi187_11, hl187_12, hi187_12⟩ := at_T37 HR0.out x5_1 p187 q187
                        obtain rfl : ad182 = ad187 := (by injection e187)
                        have HR187_8 := Aside0.mk hi187_8
                        have HC187_8 := Aside0.mk hl187_8
                        clear hi187_8 hl187_8
                        have HR187_11 := Aside0.mk hi187_11
                        have HC187_11 := Aside0.mk hl187_11
                        clear hi187_11 hl187_11
                        have HR187_12 := Aside0.mk hi187_12
                        have HC187_12 := Aside0.mk hl187_12
                        clear hi187_12 hl187_12
                        replace p187 := eq_true p187
                        replace q187 := eq_true q187
                        have ea_ := Option.some.inj (hx182_8.symm.trans hx187_8)
                        injection ea_ with ea_ en_ ec_
                        subst ea_
                        subst ec_
                        clear en_
                        have ea_ := Option.some.inj (hx182_11.symm.trans hx187_11)
                        injection ea_ with ea_ en_ ec_
                        subst ea_
                        subst ec_
                        clear en_
                        have ea_ := Option.some.inj (hx182_12.symm.trans hx187_12)
                        injection ea_ with ea_ en_ ec_
                        subst ea_
                        subst ec_
                        clear en_
                        have p188 : 0 ≤ (x5_1 : Int) := of_decide_eq_true (by first | (with_reducible assumption) | assumption)
                        have q188 : x5_1 < (l0.length : Int) := of_decide_eq_true (by first | (with_reducible assumption) | assumption)
                        obtain ⟨ad188, A188_8, c188_8, A188_11, c188_11, A188_12, c188_12, e188, hx188_0, hx188_1, hx188_2, hx188_3, hx188_4, hx188_5, hx188_6, hx188_7, hx188_8, hx188_9, hx188_10, hx188_11, hx188_12, hl188_8, hi188_8, hl188_11, hi188_11, hl188_12, hi188_12⟩ := at_T37 HR0.out x5_1 p188 q188
                        obtain rfl : ad182 = ad188 := (by injection e188)
                        have HR188_8 := Aside0.mk hi188_8
                        have HC188_8 := Aside0.mk hl188_8
                        clear hi188_8 hl188_8
                        have HR188_11 := Aside0.mk hi188_11
                        have HC188_11 := Aside0.mk hl188_11
                        clear hi188_11 hl188_11
                        have HR188_12 := Aside0.mk hi188_12
                        have HC188_12 := Aside0.mk hl188_12
                        clear hi188_12 hl188_12
                        replace p188 := eq_true p188
                        replace q188 := eq_true q188
                        have ea_ := Option.some.inj (hx182_8.symm.trans hx188_8)
                        injection ea_ with ea_ en_ ec_
                        subst ea_
                        subst ec_
                        clear en_
                        have ea_ := Option.some.inj (hx182_11.symm.trans hx188_11)
                        injection ea_ with ea_ en_ ec_
                        subst ea_
                        subst ec_
                        clear en_
                        have ea_ := Option.some.inj (hx182_12.symm.trans hx188_12)
                        injection ea_ with ea_ en_ ec_
                        subst ea_
                        subst ec_
                        clear en_
                        go_wp2
                        go_ret
                        exact ⟨by first | rfl | (simp; done) | (simp [*]; done), by repeat (first | exact Drawn0.refl _ | apply Drawn0.step)⟩
                    · rw [if_neg c10] at H
                      have c10b0 : (((rd_T37 l0 x5_1).f5) == (wrap64 ((wrap64 ((wrap64 ((wrap64 ((wrap64 (x1_1 + 1)) + 1)) + 1)) + 1)) + 1))) = false := beq_eq_false_iff_ne.mpr c10
                      have c10b1 : (((rd_T37 l0 x5_1).f5) != (wrap64 ((wrap64 ((wrap64 ((wrap64 ((wrap64 (x1_1 + 1)) + 1)) + 1)) + 1)) + 1))) = true := bne_iff_ne.mpr c10
                      obtain rfl := Option.some.inj H
                      have p182 : 0 ≤ (x5_1 : Int) := of_decide_eq_true (by first | (with_reducible assumption) | assumption)
                      have q182 : x5_1 < (l0.length : Int) := of_decide_eq_true (by first | (with_reducible assumption) | assumption)
                      obtain ⟨ad182, A182_8, c182_8, A182_11, c182_11, A182_12, c182_12, e182, hx182_0, hx182_1, hx182_2, hx182_3, hx182_4, hx182_5, hx182_6, hx182_7, hx182_8, hx182_9, hx182_10, hx182_11, hx182_12, hl182_8, hi182_8, hl182_11, hi182_11, hl182_12, hi182_12⟩ := at_T37 HR0.out x5_1 p182 q182
                      cases e182
                      have HR182_8 := Aside0.mk hi182_8
                      have HC182_8 := Aside0.mk hl182_8
                      clear hi182_8 hl182_8
                      have HR182_11 := Aside0.mk hi182_11
                      have HC182_11 := Aside0.mk hl182_11
                      clear hi182_11 hl182_11
                      have HR182_12 := Aside0.mk hi182_12
                      have HC182_12 := Aside0.mk hl182_12
                      clear hi182_12 hl182_12
                      replace p182 := eq_true p182
                      replace q182 := eq_true q182
                      have p183 : 0 ≤ (x5_1 : Int) := of_decide_eq_true (by first | (with_reducible assumption) | assumption)
                      have q183 : x5_1 < (l0.length : Int) := of_decide_eq_true (by first | (with_reducible assumption) | assumption)
                      obtain ⟨ad183, A183_8, c183_8, A183_11, c183_11, A183_12, c183_12, e183, hx183_0, hx183_1, hx183_2, hx183_3, hx183_4, hx183_5, hx183_6, hx183_7, hx183_8, hx183_9, hx183_10, hx183_11, hx183_12, hl183_8, hi183_8, hl183_11, hi183_11, hl183_12, hi183_12⟩ := at_T37 HR0.out x5_1 p183 q183
                      obtain rfl : ad182 = ad183 := (by injection e183)
                      have HR183_8 := Aside0.mk hi183_8
                      have HC183_8 := Aside0.mk hl183_8
                      clear hi183_8 hl183_8
                      have HR183_11 := Aside0.mk hi183_11
                      have HC183_11 := Aside0.mk hl183_11
                      clear hi183_11 hl183_11
                      have HR183_12 := Aside0.mk hi183_12
                      have HC183_12 := Aside0.mk hl183_12
                      clear hi183_12 hl183_12
                      replace p183 := eq_true p183
                      replace q183 := eq_true q183
                      have ea_ := Option.some.inj (hx182_8.symm.trans hx183_8)
                      injection ea_ with ea_ en_ ec_
                      subst ea_
                      subst ec_
                      clear en_
                      have ea_ := Option.some.inj (hx182_11.symm.trans hx183_11)
                      injection ea_ with ea_ en_ ec_
                      subst ea_
                      subst ec_
                      clear en_
                      have ea_ := Option.some.inj (hx182_12.symm.trans hx183_12)
                      injection ea_ with ea_ en_ ec_
                      subst ea_
                      subst ec_
                      clear en_
                      have p184 : 0 ≤ (x5_1 : Int) := of_decide_eq_true (by first | (with_reducible assumption) | assumption)
                      have q184 : x5_1 < (l0.length : Int) := of_decide_eq_true (by first | (with_reducible assumption) | assumption)
                      obtain ⟨ad184, A184_8, c184_8, A184_11, c184_11, A184_12, c184_12, e184, hx184_0, hx184_1, hx184_2, hx184_3, hx184_4, hx184_5, hx184_6, hx184_7, hx184_8, hx184_9, hx184_10, hx184_11, hx184_12, hl184_8, hi184_8, hl184_11, hi184_11, hl184_12, hi184_12⟩ := at_T37 HR0.out x5_1 p184 q184
                      obtain rfl : ad182 = ad184 := (by injection e184)
                      have HR184_8 := Aside0.mk hi184_8
                      have HC184_8 := Aside0.mk hl184_8
                      clear hi184_8 hl184_8
                      have HR184_11 := Aside0.mk hi184_11
                      have HC184_11 := Aside0.mk hl184_11
                      clear hi184_11 hl184_11
                      have HR184_12 := Aside0.mk hi184_12
                      have HC184_12 := Aside0.mk hl184_12
                      clear hi184_12 hl184_12
                      replace p184 := eq_true p184
                      replace q184 := eq_true q184
                      have ea_ := Option.some.inj (hx182_8.symm.trans hx184_8)
                      injection ea_ with ea_ en_ ec_
                      subst ea_
                      subst ec_
                      clear en_
                      have ea_ := Option.some.inj (hx182_11.symm.trans hx184_11)
                      injection ea_ with ea_ en_ ec_
                      subst ea_
                      subst ec_
                      clear en_
                      have ea_ := Option.some.inj (hx182_12.symm.trans hx184_12)
                      injection ea_ with ea_ en_ ec_
                      subst ea_
                      subst ec_
                      clear en_
                      have p185 : 0 ≤ (x5_1 : Int) := of_decide_eq_true (by first | (with_reducible assumption) | assumption)
                      have q185 : x5_1 < (l0.length : Int) := of_decide_eq_true (by first | (with_reducible assumption) | assumption)
                      obtain ⟨ad185, A185_8, c185_8, A185_11, c185_11, A185_12, c185_12, e185, hx185_0, hx185_1, hx185_2, hx185_3, hx185_4, hx185_5, hx185_6, hx185_7, hx185_8, hx185_9, hx185_10, hx185_11, hx185_12, hl185_8, hi185_8, hl185_11, hi185_11, hl185_12, hi185_12⟩ := at_T37 HR0.out x5_1 p185 q185
                      obtain rfl : ad182 = ad185 := (by injection e185)
                      have HR185_8 := Aside0.mk hi185_8
                      have HC185_8 := Aside0.mk hl185_8
                      clear hi185_8 hl185_8
                      have HR185_11 := Aside0.mk hi185_11
                      have HC185_11 := Aside0.mk hl185_11
                      clear hi185_11 hl185_11
                      have HR185_12 := Aside0.mk hi185_12
                      have HC185_12 := Aside0.mk hl185_12
                      clear hi185_12 hl185_12
                      replace p185 := eq_true p185
                      replace q185 := eq_true q185
                      have ea_ := Option.some.inj (hx182_8.symm.trans hx185_8)
                      injection ea_ with ea_ en_ ec_
                      subst ea_
                      subst ec_
                      clear en_
                      have ea_ := Option.some.inj (hx182_11.symm.trans hx185_11)
                      injection ea_ with ea_ en_ ec_
                      subst ea_
                      subst ec_
                      clear en_
                      have ea_ := Option.some.inj (hx182_12.symm.trans hx185_12)
                      injection ea_ with ea_ en_ ec_
                      subst ea_
                      subst ec_
                      clear en_
                      have p186 : 0 ≤ (x5_1 : Int) := of_decide_eq_true (by first | (with_reducible assumption) | assumption)
                      have q186 : x5_1 < (l0.length : Int) := of_decide_eq_true (by first | (with_reducible assumption) | assumption)
                      obtain ⟨ad186, A186_8, c186_8, A186_11, c186_11, A186_12, c186_12, e186, hx186_0, hx186_1, hx186_2, hx186_3, hx186_4, hx186_5, hx186_6, hx186_7, hx186_8, hx186_9, hx186_10, hx186_11, hx186_12, hl186_8, hi186_8, hl186_11, hi186_11, hl186_12, hi186_12⟩ := at_T37 HR0.out x5_1 p186 q186
                      obtain rfl : ad182 = ad186 := (by injection e186)
                      have HR186_8 := Aside0.mk hi186_8
                      have HC186_8 := Aside0.mk hl186_8
                      clear hi186_8 hl186_8
                      have HR186_11 := Aside0.mk hi186_11
                      have HC186_11 := Aside0.mk hl186_11
                      clear hi186_11 hl186_11
                      have HR186_12 := Aside0.mk hi186_12
                      have HC186_12 := Aside0.mk hl186_12
                      clear hi186_12 hl186_12
                      replace p186 := eq_true p186
                      replace q186 := eq_true q186
                      have ea_ := Option.some.inj (hx182_8.symm.trans hx186_8)
                      injection ea_ with ea_ en_ ec_
                      subst ea_
                      subst ec_
                      clear en_
                      have ea_ := Option.some.inj (hx182_11.symm.trans hx186_11)
                      injection ea_ with ea_ en_ ec_
                      subst ea_
                      subst ec_
                      clear en_
                      have ea_ := Option.some.inj (hx182_12.symm.trans hx186_12)
                      injection ea_ with ea_ en_ ec_
                      subst ea_
                      subst ec_
                      clear en_
                      have p187 : 0 ≤ (x5_1 : Int) := of_decide_eq_true (by first | (with_reducible assumption) | assumption)
                      have q187 : x5_1 < (l0.length : Int) := of_decide_eq_true (by first | (with_reducible assumption) | assumption)
                      obtain ⟨ad187, A187_8, c187_8, A187_11, c187_11, A187_12, c187_12, e187, hx187_0, hx187_1, hx187_2, hx187_3, hx187_4, hx187_5, hx187_6, hx187_7, hx187_8, hx187_9, hx187_10, hx187_11, hx187_12, hl187_8, hi187_8, hl187_11, hi187_11, hl187_12, hi187_12⟩ := at_T37 HR0.out x5_1 p187 q187
                      obtain rfl : ad182 = ad187 := (by injection e187)
                      have HR187_8 := Aside0.mk hi187_8
                      have HC187_8 := Aside0.mk hl187_8
                      clear hi187_8 hl187_8
                      have HR187_11 := Aside0.mk hi187_11
                      have HC187_11 := Aside0.mk hl187_11
                      clear hi187_11 hl187_11
                      have HR187_12 := Aside0.mk hi187_12
                      have HC187_12 := Aside0.mk hl187_12
                      clear hi187_12 hl187_12
                      replace p187 := eq_true p187
                      replace q187 := eq_true q187
                      have ea_ := Option.some.inj (hx182_8.symm.trans hx187_8)
                      injection ea_ with ea_ en_ ec_
                      subst ea_
                      subst ec_
                      clear en_
                      have ea_ := Option.some.inj (hx182_11.symm.trans hx187_11)
                      injection ea_ with ea_ en_ ec_
                      subst ea_
                      subst ec_
                      clear en_
                      have ea_ := Option.some.inj (hx182_12.symm.trans hx187_12)
                      injection ea_ with ea_ en_ ec_
                      subst ea_
                      subst ec_
                      clear en_
                      go_wp2
                      go_ret
                      exact ⟨by first | rfl | (simp; done) | (simp [*]; done), by repeat (first | exact Drawn0.refl _ | apply Drawn0.step)⟩
                  · rw [if_neg c9] at H
                    have c9b0 : (((rd_T37 l0 x5_1).f4) == (wrap64 ((wrap64 ((wrap64 ((wrap64 (x1_1 + 1)) + 1)) + 1)) + 1))) = false := beq_eq_false_iff_ne.mpr c9
                    have c9b1 : (((rd_T37 l0 x5_1).f4) != (wrap64 ((wrap64 ((wrap64 ((wrap64 (x1_1 + 1)) + 1)) + 1)) + 1))) = true := bne_iff_ne.mpr c9
                    obtain rfl := Option.some.inj H
                    have p182 : 0 ≤ (x5_1 : Int) := of_decide_eq_true (by first | (with_reducible assumption) | assumption)
                    have q182 : x5_1 < (l0.length : Int) := of_decide_eq_true (by first | (with_reducible assumption) | assumption)
                    obtain ⟨ad182, A182_8, c182_8, A182_11, c182_11, A182_12, c182_12, e182, hx182_0, hx182_1, hx182_2, hx182_3, hx182_4, hx182_5, hx182_6, hx182_7, hx182_8, hx182_9, hx182_10, hx182_11, hx182_12, hl182_8, hi182_8, hl182_11, hi182_11, hl182_12, hi182_12⟩ := at_T37 HR0.out x5_1 p182 q182
                    cases e182
                    have HR182_8 := Aside0.mk hi182_8
                    have HC182_8 := Aside0.mk hl182_8
                    clear hi182_8 hl182_8
                    have HR182_11 := Aside0.mk hi182_11
                    have HC182_11 := Aside0.mk hl182_11
                    clear hi182_11 hl182_11
                    have HR182_12 := Aside0.mk hi182_12
                    have HC182_12 := Aside0.mk hl182_12
                    clear hi182_12 hl182_12
                    replace p182 := eq_true p182
                    replace q182 := eq_true q182
                    have p183 : 0 ≤ (x5_1 : Int) := of_decide_eq_true (by first | (with_reducible assumption) | assumption)
                    have q183 : x5_1 < (l0.length : Int) := of_decide_eq_true (by first | (with_reducible assumption) | assumption)
                    obtain ⟨ad183, A183_8, c183_8, A183_11, c183_11, A183_12, c183_12, e183, hx183_0, hx183_1, hx183_2, hx183_3, hx183_4, hx183_5, hx183_6, hx183_7, hx183_8, hx183_9, hx183_10, hx183_11, hx183_12, hl183_8, hi183_8, hl183_11, hi183_11, hl183_12, hi183_12⟩ := at_T37 HR0.out x5_1 p183 q183
                    obtain rfl : ad182 = ad183 := (by injection e183)
                    have HR183_8 := Aside0.mk hi183_8
                    have HC183_8 := Aside0.mk hl183_8
                    clear hi183_8 hl183_8
                    have HR183_11 := Aside0.mk hi183_11
                    have HC183_11 := Aside0.mk hl183_11
                    clear hi183_11 hl183_11
                    have HR183_12 := Aside0.mk hi183_12
                    have HC183_12 := Aside0.mk hl183_12
                    clear hi183_12 hl183_12
                    replace p183 := eq_true p183
                    replace q183 := eq_true q183
                    have ea_ := Option.some.inj (hx182_8.symm.trans hx183_8)
                    injection ea_ with ea_ en_ ec_
                    subst ea_
                    subst ec_
                    clear en_
                    have ea_ := Option.some.inj (hx182_11.symm.trans hx183_11)
                    injection ea_ with ea_ en_ ec_
                    subst ea_
                    subst ec_
                    clear en_
                    have ea_ := Option.some.inj (hx182_12.symm.trans hx183_12)
                    injection ea_ with ea_ en_ ec_
                    subst ea_
                    subst ec_
                    clear en_
                    have p184 : 0 ≤ (x5_1 : Int) := of_decide_eq_true (by first | (with_reducible assumption) | assumption)
                    have q184 : x5_1 < (l0.length : Int) := of_decide_eq_true (by first | (with_reducible assumption) | assumption)
                    obtain ⟨ad184, A184_8, c184_8, A184_11, c184_11, A184_12, c184_12, e184, hx184_0, hx184_1, hx184_2, hx184_3, hx184_4, hx184_5, hx184_6, hx184_7, hx184_8, hx184_9, hx184_10, hx184_11, hx184_12, hl184_8, hi184_8, hl184_11, hi184_11, hl184_12, hi184_12⟩ := at_T37 HR0.out x5_1 p184 q184
                    obtain rfl : ad182 = ad184 := (by injection e184)
                    have HR184_8 := Aside0.mk hi184_8
                    have HC184_8 := Aside0.mk hl184_8
                    clear hi184_8 hl184_8
                    have HR184_11 := Aside0.mk hi184_11
                    have HC184_11 := Aside0.mk hl184_11
                    clear hi184_11 hl184_11
                    have HR184_12 := Aside0.mk hi184_12
                    have HC184_12 := Aside0.mk hl184_12
                    clear hi184_12 hl184_12
                    replace p184 := eq_true p184
                    replace q184 := eq_true q184
                    have ea_ := Option.some.inj (hx182_8.symm.trans hx184_8)
                    injection ea_ with ea_ en_ ec_
                    subst ea_
                    subst ec_
                    clear en_
                    have ea_ := Option.some.inj (hx182_11.symm.trans hx184_11)
                    injection ea_ with ea_ en_ ec_
                    subst ea_
                    subst ec_
                    clear en_
                    have ea_ := Option.some.inj (hx182_12.symm.trans hx184_12)
                    injection ea_ with ea_ en_ ec_
                    subst ea_
                    subst ec_
                    clear en_
                    have p185 : 0 ≤ (x5_1 : Int) := of_decide_eq_true (by first | (with_reducible assumption) | assumption)
                    have q185 : x5_1 < (l0.length : Int) := of_decide_eq_true (by first | (with_reducible assumption) | assumption)
                    obtain ⟨ad185, A185_8, c185_8, A185_11, c185_11, A185_12, c185_12, e185, hx185_0, hx185_1, hx185_2, hx185_3, hx185_4, hx185_5, hx185_6, hx185_7, hx185_8, hx185_9, hx185_10, hx185_11, hx185_12, hl185_8, hi185_8, hl185_11, hi185_11, hl185_12, hi185_12⟩ := at_T37 HR0.out x5_1 p185 q185
                    obtain rfl : ad182 = ad185 := (by injection e185)
                    have HR185_8 := Aside0.mk hi185_8
                    have HC185_8 := Aside0.mk hl185_8
                    clear hi185_8 hl185_8
                    have HR185_11 := Aside0.mk hi185_11
                    have HC185_11 := Aside0.mk hl185_11
                    clear hi185_11 hl185_11
                    have HR185_12 := Aside0.mk hi185_12
                    have HC185_12 := Aside0.mk hl185_12
                    clear hi185_12 hl185_12
                    replace p185 := eq_true p185
                    replace q185 := eq_true q185
                    have ea_ := Option.some.inj (hx182_8.symm.trans hx185_8)
                    injection ea_ with ea_ en_ ec_
                    subst ea_
                    subst ec_
                    clear en_
                    have ea_ := Option.some.inj (hx182_11.symm.trans hx185_11)
                    injection ea_ with ea_ en_ ec_
                    subst ea_
                    subst ec_
                    clear en_
                    have ea_ := Option.some.inj (hx182_12.symm.trans hx185_12)
                    injection ea_ with ea_ en_ ec_
                    subst ea_
                    subst ec_
                    clear en_
                    have p186 : 0 ≤ (x5_1 : Int) := of_decide_eq_true (by first | (with_reducible assumption) | assumption)
                    have q186 : x5_1 < (l0.length : Int) := of_decide_eq_true (by first | (with_reducible assumption) | assumption)
                    obtain ⟨ad186, A186_8, c186_8, A186_11, c186_11, A186_12, c186_12, e186, hx186_0, hx186_1, hx186_2, hx186_3, hx186_4, hx186_5, hx186_6, hx186_7, hx186_8, hx186_9, hx186_10, hx186_11, hx186_12, hl186_8, hi186_8, hl186_11, hi186_11, hl186_12, hi186_12⟩ := at_T37 HR0.out x5_1 p186 q186
                    obtain rfl : ad182 = ad186 := (by injection e186)
                    have HR186_8 := Aside0.mk hi186_8
                    have HC186_8 := Aside0.mk hl186_8
                    clear hi186_8 hl186_8
                    have HR186_11 := Aside0.mk hi186_11
                    have HC186_11 := Aside0.mk hl186_11
                    clear hi186_11 hl186_11
                    have HR186_12 := Aside0.mk hi186_12
                    have HC186_12 := Aside0.mk hl186_12
                    clear hi186_12 hl186_12
                    replace p186 := eq_true p186
                    replace q186 := eq_true q186
                    have ea_ := Option.some.inj (hx182_8.symm.trans hx186_8)
                    injection ea_ with ea_ en_ ec_
                    subst ea_
                    subst ec_
                    clear en_
                    have ea_ := Option.some.inj (hx182_11.symm.trans hx186_11)
                    injection ea_ with ea_ en_ ec_
                    subst ea_
                    subst ec_
                    clear en_
                    have ea_ := Option.some.inj (hx182_12.symm.trans hx186_12)
                    injection ea_ with ea_ en_ ec_
                    subst ea_
                    subst ec_
                    clear en_
                    go_wp2
                    go_ret
                    exact ⟨by first | rfl | (simp; done) | (simp [*]; done), by repeat (first | exact Drawn0.refl _ | apply Drawn0.step)⟩
                · rw [if_neg c8] at H
                  have c8b0 : (((rd_T37 l0 x5_1).f3) == (wrap64 ((wrap64 ((wrap64 (x1_1 + 1)) + 1)) + 1))) = false := beq_eq_false_iff_ne.mpr c8
                  have c8b1 : (((rd_T37 l0 x5_1).f3) != (wrap64 ((wrap64 ((wrap64 (x1_1 + 1)) + 1)) + 1))) = true := bne_iff_ne.mpr c8
                  obtain rfl := Option.some.inj H
                  have p182 : 0 ≤ (x5_1 : Int) := of_decide_eq_true (by first | (with_reducible assumption) | assumption)
                  have q182 : x5_1 < (l0.length : Int) := of_decide_eq_true (by first | (with_reducible assumption) | assumption)
                  obtain ⟨ad182, A182_8, c182_8, A182_11, c182_11, A182_12, c182_12, e182, hx182_0, hx182_1, hx182_2, hx182_3, hx182_4, hx182_5, hx182_6, hx182_7, hx182_8, hx182_9, hx182_10, hx182_11, hx182_12, hl182_8, hi182_8, hl182_11, hi182_11, hl182_12, hi182_12⟩ := at_T37 HR0.out x5_1 p182 q182
                  cases e182
                  have HR182_8 := Aside0.mk hi182_8
                  have HC182_8 := Aside0.mk hl182_8
                  clear hi182_8 hl182_8
                  have HR182_11 := Aside0.mk hi182_11
                  have HC182_11 := Aside0.mk hl182_11
                  clear hi182_11 hl182_11
                  have HR182_12 := Aside0.mk hi182_12
                  have HC182_12 := Aside0.mk hl182_12
                  clear hi182_12 hl182_12
                  replace p182 := eq_true p182
                  replace q182 := eq_true q182
                  have p183 : 0 ≤ (x5_1 : Int) := of_decide_eq_true (by first | (with_reducible assumption) | assumption)
                  have q183 : x5_1 < (l0.length : Int) := of_decide_eq_true (by first | (with_reducible assumption) | assumption)
                  obtain ⟨ad183, A183_8, c183_8, A183_11, c183_11, A183_12, c183_12, e183, hx183_0, hx183_1, hx183_2, hx183_3, hx183_4, hx183_5, hx183_6, hx183_7, hx183_8, hx183_9, hx183_10, hx183_11, hx183_12, hl183_8, hi183_8, hl183_11, hi183_11, hl183_12, hi183_12⟩ := at_T37 HR0.out x5_1 p183 q183
                  obtain rfl : ad182 = ad183 := (by injection e183)
                  have HR183_8 := Aside0.mk hi183_8
                  have HC183_8 := Aside0.mk hl183_8
                  clear hi183_8 hl183_8
                  have HR183_11 := Aside0.mk hi183_11
                  have HC183_11 := Aside0.mk hl183_11
                  clear hi183_11 hl183_11
                  have HR183_12 := Aside0.mk hi183_12
                  have HC183_12 := Aside0.mk hl183_12
                  clear hi183_12 hl183_12
                  replace p183 := eq_true p183
                  replace q183 := eq_true q183
                  have ea_ := Option.some.inj (hx182_8.symm.trans hx183_8)
                  injection ea_ with ea_ en_ ec_
                  subst ea_
                  subst ec_
                  clear en_
                  have ea_ := Option.some.inj (hx182_11.symm.trans hx183_11)
                  injection ea_ with ea_ en_ ec_
                  subst ea_
                  subst ec_
                  clear en_
                  have ea_ := Option.some.inj (hx182_12.symm.trans hx183_12)
                  injection ea_ with ea_ en_ ec_
                  subst ea_
                  subst ec_
                  clear en_
                  have p184 : 0 ≤ (x5_1 : Int) := of_decide_eq_true (by first | (with_reducible assumption) | assumption)
                  have q184 : x5_1 < (l0.length : Int) := of_decide_eq_true (by first | (with_reducible assumption) | assumption)
                  obtain ⟨ad184, A184_8, c184_8, A184_11, c184_11, A184_12, c184_12, e184, hx184_0, hx184_1, hx184_2, hx184_3, hx184_4, hx184_5, hx184_6, hx184_7, hx184_8, hx184_9, hx184_10, hx184_11, hx184_12, hl184_8, hi184_8, hl184_11, hi184_11, hl184_12, hi184_12⟩ := at_T37 HR0.out x5_1 p184 q184
                  obtain rfl : ad182 = ad184 := (by injection e184)
                  have HR184_8 := Aside0.mk hi184_8
                  have HC184_8 := Aside0.mk hl184_8
                  clear hi184_8 hl184_8
                  have HR184_11 := Aside0.mk hi184_11
                  have HC184_11 := Aside0.mk hl184_11
                  clear hi184_11 hl184_11
                  have HR184_12 := Aside0.mk hi184_12
                  have HC184_12 := Aside0.mk hl184_12
                  clear hi184_12 hl184_12
                  replace p184 := eq_true p184
                  replace q184 := eq_true q184
                  have ea_ := Option.some.inj (hx182_8.symm.trans hx184_8)
                  injection ea_ with ea_ en_ ec_
                  subst ea_
                  subst ec_
                  clear en_
                  have ea_ := Option.some.inj (hx182_11.symm.trans hx184_11)
                  injection ea_ with ea_ en_ ec_
                  subst ea_
                  subst ec_
                  clear en_
                  have ea_ := Option.some.inj (hx182_12.symm.trans hx184_12)
                  injection ea_ with ea_ en_ ec_
                  subst ea_
                  subst ec_
                  clear en_
                  have p185 : 0 ≤ (x5_1 : Int) := of_decide_eq_true (by first | (with_reducible assumption) | assumption)
                  have q185 : x5_1 < (l0.length : Int) := of_decide_eq_true (by first | (with_reducible assumption) | assumption)
                  obtain ⟨ad185, A185_8, c185_8, A185_11, c185_11, A185_12, c185_12, e185, hx185_0, hx185_1, hx185_2, hx185_3, hx185_4, hx185_5, hx185_6, hx185_7, hx185_8, hx185_9, hx185_10, hx185_11, hx185_12, hl185_8, hi185_8, hl185_11, hi185_11, hl185_12, hi185_12⟩ := at_T37 HR0.out x5_1 p185 q185
                  obtain rfl : ad182 = ad185 := (by injection e185)
                  have HR185_8 := Aside0.mk hi185_8
                  have HC185_8 := Aside0.mk hl185_8
                  clear hi185_8 hl185_8
                  have HR185_11 := Aside0.mk hi185_11
                  have HC185_11 := Aside0.mk hl185_11
                  clear hi185_11 hl185_11
                  have HR185_12 := Aside0.mk hi185_12
                  have HC185_12 := Aside0.mk hl185_12
                  clear hi185_12 hl185_12
                  replace p185 := eq_true p185
                  replace q185 := eq_true q185
                  have ea_ := Option.some.inj (hx182_8.symm.trans hx185_8)
                  injection ea_ with ea_ en_ ec_
                  subst ea_
                  subst ec_
                  clear en_
                  have ea_ := Option.some.inj (hx182_11.symm.trans hx185_11)
                  injection ea_ with ea_ en_ ec_
                  subst ea_
                  subst ec_
                  clear en_
                  have ea_ := Option.some.inj (hx182_12.symm.trans hx185_12)
                  injection ea_ with ea_ en_ ec_
                  subst ea_
                  subst ec_
                  clear en_
                  go_wp2
                  go_ret
                  exact ⟨by first | rfl | (simp; done) | (simp [*]; done), by repeat (first | exact Drawn0.refl _ | apply Drawn0.step)⟩
              · rw [if_neg c7] at H
                have c7b0 : (((rd_T37 l0 x5_1).f2) == (wrap64 ((wrap64 (x1_1 + 1)) + 1))) = false := beq_eq_false_iff_ne.mpr c7
                have c7b1 : (((rd_T37 l0 x5_1).f2) != (wrap64 ((wrap64 (x1_1 + 1)) + 1))) = true := bne_iff_ne.mpr c7
                obtain rfl := Option.some.inj H
                have p182 : 0 ≤ (x5_1 : Int) := of_decide_eq_true (by first | (with_reducible assumption) | assumption)
                have q182 : x5_1 < (l0.length : Int) := of_decide_eq_true (by first | (with_reducible assumption) | assumption)
                obtain ⟨ad182, A182_8, c182_8, A182_11, c182_11, A182_12, c182_12, e182, hx182_0, hx182_1, hx182_2, hx182_3, hx182_4, hx182_5, hx182_6, hx182_7, hx182_8, hx182_9, hx182_10, hx182_11, hx182_12, hl182_8, hi182_8, hl182_11, hi182_11, hl182_12, hi182_12⟩ := at_T37 HR0.out x5_1 p182 q182
                cases e182
                have HR182_8 := Aside0.mk hi182_8
                have HC182_8 := Aside0.mk hl182_8
                clear hi182_8 hl182_8
                have HR182_11 := Aside0.mk hi182_11
                have HC182_11 := Aside0.mk hl182_11
                clear hi182_11 hl182_11
                have HR182_12 := Aside0.mk hi182_12
                have HC182_12 := Aside0.mk hl182_12
                clear hi182_12 hl182_12
                replace p182 := eq_true p182
                replace q182 := eq_true q182
                have p183 : 0 ≤ (x5_1 : Int) := of_decide_eq_true (by first | (with_reducible assumption) | assumption)
                have q183 : x5_1 < (l0.length : Int) := of_decide_eq_true (by first | (with_reducible assumption) | assumption)
                obtain ⟨ad183, A183_8, c183_8, A183_11, c183_11, A183_12, c183_12, e183, hx183_0, hx183_1, hx183_2, hx183_3, hx183_4, hx183_5, hx183_6, hx183_7, hx183_8, hx183_9, hx183_10, hx183_11, hx183_12, hl183_8, hi183_8, hl183_11, hi183_11, hl183_12, hi183_12⟩ := at_T37 HR0.out x5_1 p183 q183
                obtain rfl : ad182 = ad183 := (by injection e183)
                have HR183_8 := Aside0.mk hi183_8
                have HC183_8 := Aside0.mk hl183_8
                clear hi183_8 hl183_8
                have HR183_11 := Aside0.mk hi183_11
                have HC183_11 := Aside0.mk hl183_11
                clear hi183_11 hl183_11
                have HR183_12 := Aside0.mk hi183_12
                have HC183_12 := Aside0.mk hl183_12
                clear hi183_12 hl183_12
                replace p183 := eq_true p183
                replace q183 := eq_true q183
                have ea_ := Option.some.inj (hx182_8.symm.trans hx183_8)
                injection ea_ with ea_ en_ ec_
                subst ea_
                subst ec_
                clear en_
                have ea_ := Option.some.inj (hx182_11.symm.trans hx183_11)
                injection ea_ with ea_ en_ ec_
                subst ea_
                subst ec_
                clear en_
                have ea_ := Option.some.inj (hx182_12.symm.trans hx183_12)
                injection ea_ with ea_ en_ ec_
                subst ea_
                subst ec_
                clear en_
                have p184 : 0 ≤ (x5_1 : Int) := of_decide_eq_true (by first | (with_reducible assumption) | assumption)
                have q184 : x5_1 < (l0.length : Int) := of_decide_eq_true (by first | (with_reducible assumption) | assumption)
                obtain ⟨ad184, A184_8, c184_8, A184_11, c184_11, A184_12, c184_12, e184, hx184_0, hx184_1, hx184_2, hx184_3, hx184_4, hx184_5, hx184_6, hx184_7, hx184_8, hx184_9, hx184_10, hx184_11, hx184_12, hl184_8, hi184_8, hl184_11, hi184_11, hl184_12, hi184_12⟩ := at_T37 HR0.out x5_1 p184 q184
                obtain rfl : ad182 = ad184 := (by injection e184)
                have HR184_8 := Aside0.mk hi184_8
                have HC184_8 := Aside0.mk hl184_8
                clear hi184_8 hl184_8
                have HR184_11 := Aside0.mk hi184_11
                have HC184_11 := Aside0.mk hl184_11
                clear hi184_11 hl184_11
                have HR184_12 := Aside0.mk hi184_12
                have HC184_12 := Aside0.mk hl184_12
                clear hi184_12 hl184_12
                replace p184 := eq_true p184
                replace q184 := eq_true q184
                have ea_ := Option.some.inj (hx182_8.symm.trans hx184_8)
                injection ea_ with ea_ en_ ec_
                subst ea_
                subst ec_
                clear en_
                have ea_ := Option.some.inj (hx182_11.symm.trans hx184_11)
                injection ea_ with ea_ en_ ec_
                subst ea_
                subst ec_
                clear en_
                have ea_ := Option.some.inj (hx182_12.symm.trans hx184_12)
                injection ea_ with ea_ en_ ec_
                subst ea_
                subst ec_
                clear en_
                go_wp2
                go_ret
                exact ⟨by first | rfl | (simp; done) | (simp [*]; done), by repeat (first | exact Drawn0.refl _ | apply Drawn0.step)⟩
            · rw [if_neg c6] at H
              have c6b0 : (((rd_T37 l0 x5_1).f1) == (wrap64 (x1_1 + 1))) = false := beq_eq_false_iff_ne.mpr c6
              have c6b1 : (((rd_T37 l0 x5_1).f1) != (wrap64 (x1_1 + 1))) = true := bne_iff_ne.mpr c6
              obtain rfl := Option.some.inj H
              have p182 : 0 ≤ (x5_1 : Int) := of_decide_eq_true (by first | (with_reducible assumption) | assumption)
              have q182 : x5_1 < (l0.length : Int) := of_decide_eq_true (by first | (with_reducible assumption) | assumption)
              obtain ⟨ad182, A182_8, c182_8, A182_11, c182_11, A182_12, c182_12, e182, hx182_0, hx182_1, hx182_2, hx182_3, hx182_4, hx182_5, hx182_6, hx182_7, hx182_8, hx182_9, hx182_10, hx182_11, hx182_12, hl182_8, hi182_8, hl182_11, hi182_11, hl182_12, hi182_12⟩ := at_T37 HR0.out x5_1 p182 q182
              cases e182
              have HR182_8 := Aside0.mk hi182_8
              have HC182_8 := Aside0.mk hl182_8
              clear hi182_8 hl182_8
              have HR182_11 := Aside0.mk hi182_11
              have HC182_11 := Aside0.mk hl182_11
              clear hi182_11 hl182_11
              have HR182_12 := Aside0.mk hi182_12
              have HC182_12 := Aside0.mk hl182_12
              clear hi182_12 hl182_12
              replace p182 := eq_true p182
              replace q182 := eq_true q182
              have p183 : 0 ≤ (x5_1 : Int) := of_decide_eq_true (by first | (with_reducible assumption) | assumption)
              have q183 : x5_1 < (l0.length : Int) := of_decide_eq_true (by first | (with_reducible assumption) | assumption)
              obtain ⟨ad183, A183_8, c183_8, A183_11, c183_11, A183_12, c183_12, e183, hx183_0, hx183_1, hx183_2, hx183_3, hx183_4, hx183_5, hx183_6, hx183_7, hx183_8, hx183_9, hx183_10, hx183_11, hx183_12, hl183_8, hi183_8, hl183_11, hi183_11, hl183_12, hi183_12⟩ := at_T37 HR0.out x5_1 p183 q183
              obtain rfl : ad182 = ad183 := (by injection e183)
              have HR183_8 := Aside0.mk hi183_8
              have HC183_8 := Aside0.mk hl183_8
              clear hi183_8 hl183_8
              have HR183_11 := Aside0.mk hi183_11
              have HC183_11 := Aside0.mk hl183_11
              clear hi183_11 hl183_11
              have HR183_12 := Aside0.mk hi183_12
              have HC183_12 := Aside0.mk hl183_12
              clear hi183_12 hl183_12
              replace p183 := eq_true p183
              replace q183 := eq_true q183
              have ea_ := Option.some.inj (hx182_8.symm.trans hx183_8)
              injection ea_ with ea_ en_ ec_
              subst ea_
              subst ec_
              clear en_
              have ea_ := Option.some.inj (hx182_11.symm.trans hx183_11)
              injection ea_ with ea_ en_ ec_
              subst ea_
              subst ec_
              clear en_
              have ea_ := Option.some.inj (hx182_12.symm.trans hx183_12)
              injection ea_ with ea_ en_ ec_
              subst ea_
              subst ec_
              clear en_
              go_wp2
              go_ret
              exact ⟨by first | rfl | (simp; done) | (simp [*]; done), by repeat (first | exact Drawn0.refl _ | apply Drawn0.step)⟩
          · rw [if_neg c5] at H
            have c5b0 : (((rd_T37 l0 x5_1).f0) == x1_1) = false := beq_eq_false_iff_ne.mpr c5
            have c5b1 : (((rd_T37 l0 x5_1).f0) != x1_1) = true := bne_iff_ne.mpr c5
            obtain rfl := Option.some.inj H
            have p182 : 0 ≤ (x5_1 : Int) := of_decide_eq_true (by first | (with_reducible assumption) | assumption)
            have q182 : x5_1 < (l0.length : Int) := of_decide_eq_true (by first | (with_reducible assumption) | assumption)
            obtain ⟨ad182, A182_8, c182_8, A182_11, c182_11, A182_12, c182_12, e182, hx182_0, hx182_1, hx182_2, hx182_3, hx182_4, hx182_5, hx182_6, hx182_7, hx182_8, hx182_9, hx182_10, hx182_11, hx182_12, hl182_8, hi182_8, hl182_11, hi182_11, hl182_12, hi182_12⟩ := at_T37 HR0.out x5_1 p182 q182
            cases e182
            have HR182_8 := Aside0.mk hi182_8
            have HC182_8 := Aside0.mk hl182_8
            clear hi182_8 hl182_8
            have HR182_11 := Aside0.mk hi182_11
            have HC182_11 := Aside0.mk hl182_11
            clear hi182_11 hl182_11
            have HR182_12 := Aside0.mk hi182_12
            have HC182_12 := Aside0.mk hl182_12
            clear hi182_12 hl182_12
            replace p182 := eq_true p182
            replace q182 := eq_true q182
            go_wp2
            go_ret
            exact ⟨by first | rfl | (simp; done) | (simp [*]; done), by repeat (first | exact Drawn0.refl _ | apply Drawn0.step)⟩
        · rw [if_neg c4] at H
          exact absurd H (by simp)
      · rw [if_neg c3] at H
        have c3b0 : decide (x5_1 < (l0.length : Int)) = false := decide_eq_false c3
        clear c3
        obtain rfl := Option.some.inj H
        go_wp2
        go_ret
        exact ⟨by first | rfl | (simp; done) | (simp [*]; done), by repeat (first | exact Drawn0.refl _ | apply Drawn0.step)⟩

end Go.Proofs.Ytnloeihhimcblaa.QFnExactClear
