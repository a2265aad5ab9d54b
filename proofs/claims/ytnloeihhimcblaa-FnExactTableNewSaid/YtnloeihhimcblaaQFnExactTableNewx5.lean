/- What the functions that the law FnExactTableNew reaches compute, as plain functions, and that the code computes just that (by a program of this session's; the library's functions by hand). No condition. -/
import Derived.Test.YtnloeihhimcblaaQFnExactTableNewx0
import Derived.Test.YtnloeihhimcblaaQFnExactTableNewx4
namespace Go.Proofs.Ytnloeihhimcblaa.QFnExactTableNew
open Go.RowKit Go.Proofs.YtnloeihhimcblaaW.PrintWords Go.Proofs.YtnloeihhimcblaaW.PrintLast Go.Proofs.YtnloeihhimcblaaW.PrintMore
attribute [local go_sem] max2_int min2_int max_two min_two max_three min_three max_four min_four   -- for this text's walks alone
set_option linter.unusedVariables false
set_option linter.unusedSimpArgs false

/-! ### laws_heldNodeS: function 43 -/
def laws_heldNodeS.l0 : Nat → List (S37) → Int → Int → Option (Int)
  | 0, _, _, _ => none
  | k + 1, x0, x1, x5 => if x5 < (x0.length : Int) then (if 0 ≤ x5 then (if ((rd_T37 x0 x5).f0) = x1 then (if ((rd_T37 x0 x5).f1) = (wrap64 (x1 + 1)) then (if ((rd_T37 x0 x5).f2) = (wrap64 ((wrap64 (x1 + 1)) + 1)) then (if ((rd_T37 x0 x5).f3) = (wrap64 ((wrap64 ((wrap64 (x1 + 1)) + 1)) + 1)) then (if ((rd_T37 x0 x5).f4) = (wrap64 ((wrap64 ((wrap64 ((wrap64 (x1 + 1)) + 1)) + 1)) + 1)) then (if ((rd_T37 x0 x5).f5) = (wrap64 ((wrap64 ((wrap64 ((wrap64 ((wrap64 (x1 + 1)) + 1)) + 1)) + 1)) + 1)) then (if ((rd_T37 x0 x5).f6) = (wrap64 ((wrap64 ((wrap64 ((wrap64 ((wrap64 ((wrap64 (x1 + 1)) + 1)) + 1)) + 1)) + 1)) + 1)) then (if ((rd_T37 x0 x5).f7) = (wrap64 ((wrap64 ((wrap64 ((wrap64 ((wrap64 ((wrap64 ((wrap64 (x1 + 1)) + 1)) + 1)) + 1)) + 1)) + 1)) + 1)) then ((laws_heldIntS.f k ((rd_T37 x0 x5).f8) (wrap64 ((wrap64 ((wrap64 ((wrap64 ((wrap64 ((wrap64 ((wrap64 ((wrap64 (x1 + 1)) + 1)) + 1)) + 1)) + 1)) + 1)) + 1)) + 1))).bind fun t178 => (if t178 < 0 then (some (-1)) else (if ((rd_T37 x0 x5).f9) = t178 then (if ((rd_T37 x0 x5).f10) = (wrap64 (t178 + 1)) then ((laws_heldThingS.f k ((rd_T37 x0 x5).f11) (wrap64 ((wrap64 (t178 + 1)) + 1))).bind fun t182 => (if t182 < 0 then (some (-1)) else ((laws_heldIntS.f k ((rd_T37 x0 x5).f12) t182).bind fun t184 => (if t184 < 0 then (some (-1)) else (laws_heldNodeS.l0 k x0 t184 (wrap64 (x5 + 1))))))) else (some (-1))) else (some (-1))))) else (some (-1))) else (some (-1))) else (some (-1))) else (some (-1))) else (some (-1))) else (some (-1))) else (some (-1))) else (some (-1))) else (none)) else (some x1)
def laws_heldNodeS.f (k : Nat) (l0 : List (S37)) (a1 : Int) : Option (Int) := laws_heldNodeS.l0 k l0 a1 0
theorem laws_heldNodeS.mono_l : ∀ k, (∀ y0 y1 y2, LeO (laws_heldNodeS.l0 k y0 y1 y2) (laws_heldNodeS.l0 (k + 1) y0 y1 y2))
  | 0 => fun _ _ _ r h => by simp [laws_heldNodeS.l0] at h
  | k + 1 => by
    have ih0 := laws_heldNodeS.mono_l k
    · intro y0 y1 y2
      unfold laws_heldNodeS.l0
      repeat' first
      | (with_reducible exact ih0 _ _ _)
      | (with_reducible exact laws_heldIntS.mono _ _ _)
      | (with_reducible exact laws_heldThingS.mono _ _ _)
      | (with_reducible exact LeO.refl _)
      | (with_reducible exact LeO.none _)
      | (with_reducible refine LeO.ite ?_ ?_)
      | (with_reducible refine LeO.bind ?_ (fun _ => ?_))
      | exact ih0 _ _ _
      | exact laws_heldIntS.mono _ _ _
      | exact laws_heldThingS.mono _ _ _
      | exact LeO.none _
      | refine LeO.ite ?_ ?_
      | refine LeO.bind ?_ (fun _ => ?_)
theorem laws_heldNodeS.mono : ∀ a0 a1 k, LeO (laws_heldNodeS.f k a0 a1) (laws_heldNodeS.f (k + 1) a0 a1) := by
  intro a0 a1 k
  have ih0 := laws_heldNodeS.mono_l k
  unfold laws_heldNodeS.f
  repeat' first
      | (with_reducible exact ih0 _ _ _)
      | (with_reducible exact laws_heldIntS.mono _ _ _)
      | (with_reducible exact laws_heldThingS.mono _ _ _)
      | (with_reducible exact LeO.refl _)
      | (with_reducible exact LeO.none _)
      | (with_reducible refine LeO.ite ?_ ?_)
      | (with_reducible refine LeO.bind ?_ (fun _ => ?_))
      | exact ih0 _ _ _
      | exact laws_heldIntS.mono _ _ _
      | exact laws_heldThingS.mono _ _ _
      | exact LeO.none _
      | refine LeO.ite ?_ ?_
      | refine LeO.bind ?_ (fun _ => ?_)
set_option maxHeartbeats 8000000 in
set_option maxRecDepth 100000 in
theorem laws_heldNodeS.calls (k : Nat) (A0 : Option Addr) (c0 : Nat) (l0 : List (S37)) (a1 : Int) (r : Int) (w : World) (hr0 : Kd.C k37 w A0 l0.length l0) (hc0 : l0.length ≤ c0) (h : laws_heldNodeS.f k l0 a1 = some r) :
    Calls Try.prog 43 #[.slice A0 l0.length c0, .int .i64 a1] w fun e w' => e = .returned (.int .i64 r) ∧ Drawn0 w w' := by
  have HR0 := Aside0.mk hr0
  have HC0 := Aside0.mk hc0
  clear hr0 hc0
  have H : (laws_heldNodeS.l0 k l0 a1 0) = some r := h
  clear h
  have H' := Aside0.mk H
  clear H
  go_enter Try.func43, Try.ntmps43
  go_wp2
  go_loopg [1, 5] k (fun kq v1 v5 w' => ∃ (x1_1 : Int) (x5_1 : Int), v1 = .int .i64 x1_1 ∧ v5 = .int .i64 x5_1 ∧ Aside0 (laws_heldNodeS.l0 kq l0 x1_1 x5_1 = some r) ∧ Aside0 (kq ≤ k) ∧ Drawn0 w w')
  case atStart => exact ⟨(a1), (0), (by first | rfl | (simp; done) | (simp [*]; done)), (by first | rfl | (simp; done) | (simp [*]; done)), H', ⟨Nat.le_refl _⟩, by repeat (first | exact Drawn0.refl _ | apply Drawn0.step)⟩
  case round =>
    clear H'
    try clear p2
    obtain ⟨x1_1, x5_1, rfl, rfl, HA, HK1, ⟨m1, rfl⟩⟩ := hrel
    cases gk with
    | zero => exact absurd HA.out (by simp [laws_heldNodeS.l0])
    | succ k1 =>
      have H := HA.out
      clear HA
      simp only [laws_heldNodeS.l0] at H
      by_cases c3 : x5_1 < (l0.length : Int)
      · rw [if_pos c3] at H
        have c3b0 : decide (x5_1 < (l0.length : Int)) = true := decide_eq_true c3
        clear c3
        by_cases c4 : 0 ≤ x5_1
        · rw [if_pos c4] at H
          have c4b0 : decide (0 ≤ x5_1) = true := decide_eq_true c4
          clear c4
          by_cases c5 : ((rd_T37 l0 x5_1).f0) = x1_1
          · rw [if_pos c5] at H
            have c5b0 : (((rd_T37 l0 x5_1).f0) == x1_1) = true := beq_iff_eq.mpr c5
            have c5b1 : (((rd_T37 l0 x5_1).f0) != x1_1) = false := bne_eq_false_iff_eq.mpr c5
            clear c5
            by_cases c6 : ((rd_T37 l0 x5_1).f1) = (wrap64 (x1_1 + 1))
            · rw [if_pos c6] at H
              have c6b0 : (((rd_T37 l0 x5_1).f1) == (wrap64 (x1_1 + 1))) = true := beq_iff_eq.mpr c6
              have c6b1 : (((rd_T37 l0 x5_1).f1) != (wrap64 (x1_1 + 1))) = false := bne_eq_false_iff_eq.mpr c6
              clear c6
              by_cases c7 : ((rd_T37 l0 x5_1).f2) = (wrap64 ((wrap64 (x1_1 + 1)) + 1))
              · rw [if_pos c7] at H
                have c7b0 : (((rd_T37 l0 x5_1).f2) == (wrap64 ((wrap64 (x1_1 + 1)) + 1))) = true := beq_iff_eq.mpr c7
                have c7b1 : (((rd_T37 l0 x5_1).f2) != (wrap64 ((wrap64 (x1_1 + 1)) + 1))) = false := bne_eq_false_iff_eq.mpr c7
                clear c7
                by_cases c8 : ((rd_T37 l0 x5_1).f3) = (wrap64 ((wrap64 ((wrap64 (x1_1 + 1)) + 1)) + 1))
                · rw [if_pos c8] at H
                  have c8b0 : (((rd_T37 l0 x5_1).f3) == (wrap64 ((wrap64 ((wrap64 (x1_1 + 1)) + 1)) + 1))) = true := beq_iff_eq.mpr c8
                  have c8b1 : (((rd_T37 l0 x5_1).f3) != (wrap64 ((wrap64 ((wrap64 (x1_1 + 1)) + 1)) + 1))) = false := bne_eq_false_iff_eq.mpr c8
                  clear c8
                  by_cases c9 : ((rd_T37 l0 x5_1).f4) = (wrap64 ((wrap64 ((wrap64 ((wrap64 (x1_1 + 1)) + 1)) + 1)) + 1))
                  · rw [if_pos c9] at H
                    have c9b0 : (((rd_T37 l0 x5_1).f4) == (wrap64 ((wrap64 ((wrap64 ((wrap64 (x1_1 + 1)) + 1)) + 1)) + 1))) = true := beq_iff_eq.mpr c9
                    have c9b1 : (((rd_T37 l0 x5_1).f4) != (wrap64 ((wrap64 ((wrap64 ((wrap64 (x1_1 + 1)) + 1)) + 1)) + 1))) = false := bne_eq_false_iff_eq.mpr c9
                    clear c9
                    by_cases c10 : ((rd_T37 l0 x5_1).f5) = (wrap64 ((wrap64 ((wrap64 ((wrap64 ((wrap64 (x1_1 + 1)) + 1)) + 1)) + 1)) + 1))
                    · rw [if_pos c10] at H
                      have c10b0 : (((rd_T37 l0 x5_1).f5) == (wrap64 ((wrap64 ((wrap64 ((wrap64 ((wrap64 (x1_1 + 1)) + 1)) + 1)) + 1)) + 1))) = true := beq_iff_eq.mpr c10
                      have c10b1 : (((rd_T37 l0 x5_1).f5) != (wrap64 ((wrap64 ((wrap64 ((wrap64 ((wrap64 (x1_1 + 1)) + 1)) + 1)) + 1)) + 1))) = false := bne_eq_false_iff_eq.mpr c10
                      clear c10
                      by_cases c11 : ((rd_T37 l0 x5_1).f6) = (wrap64 ((wrap64 ((wrap64 ((wrap64 ((wrap64 ((wrap64 (x1_1 + 1)) + 1)) + 1)) + 1)) + 1)) + 1))
                      · rw [if_pos c11] at H
                        have c11b0 : (((rd_T37 l0 x5_1).f6) == (wrap64 ((wrap64 ((wrap64 ((wrap64 ((wrap64 ((wrap64 (x1_1 + 1)) + 1)) + 1)) + 1)) + 1)) + 1))) = true := beq_iff_eq.mpr c11
                        have c11b1 : (((rd_T37 l0 x5_1).f6) != (wrap64 ((wrap64 ((wrap64 ((wrap64 ((wrap64 ((wrap64 (x1_1 + 1)) + 1)) + 1)) + 1)) + 1)) + 1))) = false := bne_eq_false_iff_eq.mpr c11
                        clear c11
                        by_cases c12 : ((rd_T37 l0 x5_1).f7) = (wrap64 ((wrap64 ((wrap64 ((wrap64 ((wrap64 ((wrap64 ((wrap64 (x1_1 + 1)) + 1)) + 1)) + 1)) + 1)) + 1)) + 1))
                        · rw [if_pos c12] at H
                          have c12b0 : (((rd_T37 l0 x5_1).f7) == (wrap64 ((wrap64 ((wrap64 ((wrap64 ((wrap64 ((wrap64 ((wrap64 (x1_1 + 1)) + 1)) + 1)) + 1)) + 1)) + 1)) + 1))) = true := beq_iff_eq.mpr c12
                          have c12b1 : (((rd_T37 l0 x5_1).f7) != (wrap64 ((wrap64 ((wrap64 ((wrap64 ((wrap64 ((wrap64 ((wrap64 (x1_1 + 1)) + 1)) + 1)) + 1)) + 1)) + 1)) + 1))) = false := bne_eq_false_iff_eq.mpr c12
                          clear c12
                          replace H := Option.bind_eq_some_iff.mp H
                          obtain ⟨t178, A130, H⟩ := H
                          replace H : (if t178 < 0 then (some (-1)) else (if ((rd_T37 l0 x5_1).f9) = t178 then (if ((rd_T37 l0 x5_1).f10) = (wrap64 (t178 + 1)) then ((laws_heldThingS.f k1 ((rd_T37 l0 x5_1).f11) (wrap64 ((wrap64 (t178 + 1)) + 1))).bind fun t182 => (if t182 < 0 then (some (-1)) else ((laws_heldIntS.f k1 ((rd_T37 l0 x5_1).f12) t182).bind fun t184 => (if t184 < 0 then (some (-1)) else (laws_heldNodeS.l0 k1 l0 t184 (wrap64 (x5_1 + 1))))))) else (some (-1))) else (some (-1)))) = some r := H
                          have A13 := Aside0.mk A130
                          clear A130
                          by_cases c14 : t178 < 0
                          · rw [if_pos c14] at H
                            have c14b0 : decide (t178 < 0) = true := decide_eq_true c14
                            clear c14
                            obtain rfl := Option.some.inj H
                            have p169 : 0 ≤ (x5_1 : Int) := of_decide_eq_true (by first | (with_reducible assumption) | assumption)
                            have q169 : x5_1 < (l0.length : Int) := of_decide_eq_true (by first | (with_reducible assumption) | assumption)
                            obtain ⟨ad169, A169_8, c169_8, A169_11, c169_11, A169_12, c169_12, e169, hx169_0, hx169_1, hx169_2, hx169_3, hx169_4, hx169_5, hx169_6, hx169_7, hx169_8, hx169_9, hx169_10, hx169_11, hx169_12, hl169_8, hi169_8, hl169_11, hi169_11, hl169_12, hi169_12⟩ := at_T37 HR0.out x5_1 p169 q169
                            cases e169
                            have HR169_8 := Aside0.mk hi169_8
                            have HC169_8 := Aside0.mk hl169_8
                            clear hi169_8 hl169_8
                            have HR169_11 := Aside0.mk hi169_11
                            have HC169_11 := Aside0.mk hl169_11
                            clear hi169_11 hl169_11
                            have HR169_12 := Aside0.mk hi169_12
                            have HC169_12 := Aside0.mk hl169_12
                            clear hi169_12 hl169_12
                            replace p169 := eq_true p169
                            replace q169 := eq_true q169
                            have p170 : 0 ≤ (x5_1 : Int) := of_decide_eq_true (by first | (with_reducible assumption) | assumption)
                            have q170 : x5_1 < (l0.length : Int) := of_decide_eq_true (by first | (with_reducible assumption) | assumption)
                            obtain ⟨ad170, A170_8, c170_8, A170_11, c170_11, A170_12, c170_12, e170, hx170_0, hx170_1, hx170_2, hx170_3, hx170_4, hx170_5, hx170_6, hx170_7, hx170_8, hx170_9, hx170_10, hx170_11, hx170_12, hl170_8, hi170_8, hl170_11, hi170_11, hl170_12, hi170_12⟩ := at_T37 HR0.out x5_1 p170 q170
                            obtain rfl : ad169 = ad170 := (by injection e170)
                            have HR170_8 := Aside0.mk hi170_8
                            have HC170_8 := Aside0.mk hl170_8
                            clear hi170_8 hl170_8
                            have HR170_11 := Aside0.mk hi170_11
                            have HC170_11 := Aside0.mk hl170_11
                            clear hi170_11 hl170_11
                            have HR170_12 := Aside0.mk hi170_12
                            have HC170_12 := Aside0.mk hl170_12
                            clear hi170_12 hl170_12
                            replace p170 := eq_true p170
                            replace q170 := eq_true q170
                            have ea_ := Option.some.inj (hx169_8.symm.trans hx170_8)
                            injection ea_ with ea_ en_ ec_
                            subst ea_
                            subst ec_
                            clear en_
                            have ea_ := Option.some.inj (hx169_11.symm.trans hx170_11)
                            injection ea_ with ea_ en_ ec_
                            subst ea_
                            subst ec_
                            clear en_
                            have ea_ := Option.some.inj (hx169_12.symm.trans hx170_12)
                            injection ea_ with ea_ en_ ec_
                            subst ea_
                            subst ec_
                            clear en_
                            have p171 : 0 ≤ (x5_1 : Int) := of_decide_eq_true (by first | (with_reducible assumption) | assumption)
                            have q171 : x5_1 < (l0.length : Int) := of_decide_eq_true (by first | (with_reducible assumption) | assumption)
                            obtain ⟨ad171, A171_8, c171_8, A171_11, c171_11, A171_12, c171_12, e171, hx171_0, hx171_1, hx171_2, hx171_3, hx171_4, hx171_5, hx171_6, hx171_7, hx171_8, hx171_9, hx171_10, hx171_11, hx171_12, hl171_8, hi171_8, hl171_11, hi171_11, hl171_12, hi171_12⟩ := at_T37 HR0.out x5_1 p171 q171
                            obtain rfl : ad169 = ad171 := (by injection e171)
                            have HR171_8 := Aside0.mk hi171_8
                            have HC171_8 := Aside0.mk hl171_8
                            clear hi171_8 hl171_8
                            have HR171_11 := Aside0.mk hi171_11
                            have HC171_11 := Aside0.mk hl171_11
                            clear hi171_11 hl171_11
                            have HR171_12 := Aside0.mk hi171_12
                            have HC171_12 := Aside0.mk hl171_12
                            clear hi171_12 hl171_12
                            replace p171 := eq_true p171
                            replace q171 := eq_true q171
                            have ea_ := Option.some.inj (hx169_8.symm.trans hx171_8)
                            injection ea_ with ea_ en_ ec_
                            subst ea_
                            subst ec_
                            clear en_
                            have ea_ := Option.some.inj (hx169_11.symm.trans hx171_11)
                            injection ea_ with ea_ en_ ec_
                            subst ea_
                            subst ec_
                            clear en_
                            have ea_ := Option.some.inj (hx169_12.symm.trans hx171_12)
                            injection ea_ with ea_ en_ ec_
                            subst ea_
                            subst ec_
                            clear en_
                            have p172 : 0 ≤ (x5_1 : Int) := of_decide_eq_true (by first | (with_reducible assumption) | assumption)
                            have q172 : x5_1 < (l0.length : Int) := of_decide_eq_true (by first | (with_reducible assumption) | assumption)
                            obtain ⟨ad172, A172_8, c172_8, A172_11, c172_11, A172_12, c172_12, e172, hx172_0, hx172_1, hx172_2, hx172_3, hx172_4, hx172_5, hx172_6, hx172_7, hx172_8, hx172_9, hx172_10, hx172_11, hx172_12, hl172_8, hi172_8, hl172_11, hi172_11, hl172_12, hi172_12⟩ := at_T37 HR0.out x5_1 p172 q172
                            obtain rfl : ad169 = ad172 := (by injection e172)
                            have HR172_8 := Aside0.mk hi172_8
                            have HC172_8 := Aside0.mk hl172_8
                            clear hi172_8 hl172_8
                            have HR172_11 := Aside0.mk hi172_11
                            have HC172_11 := Aside0.mk hl172_11
                            clear hi172_11 hl172_11
                            have HR172_12 := Aside0.mk hi172_12
                            have HC172_12 := Aside0.mk hl172_12
                            clear hi172_12 hl172_12
                            replace p172 := eq_true p172
                            replace q172 := eq_true q172
                            have ea_ := Option.some.inj (hx169_8.symm.trans hx172_8)
                            injection ea_ with ea_ en_ ec_
                            subst ea_
                            subst ec_
                            clear en_
                            have ea_ := Option.some.inj (hx169_11.symm.trans hx172_11)
                            injection ea_ with ea_ en_ ec_
                            subst ea_
                            subst ec_
                            clear en_
                            have ea_ := Option.some.inj (hx169_12.symm.trans hx172_12)
                            injection ea_ with ea_ en_ ec_
                            subst ea_
                            subst ec_
                            clear en_
                            have p173 : 0 ≤ (x5_1 : Int) := of_decide_eq_true (by first | (with_reducible assumption) | assumption)
                            have q173 : x5_1 < (l0.length : Int) := of_decide_eq_true (by first | (with_reducible assumption) | assumption)
                            obtain ⟨ad173, A173_8, c173_8, A173_11, c173_11, A173_12, c173_12, e173, hx173_0, hx173_1, hx173_2, hx173_3, hx173_4, hx173_5, hx173_6, hx173_7, hx173_8, hx173_9, hx173_10, hx173_11, hx173_12, hl173_8, hi173_8, hl173_11, hi173_11, hl173_12, hi173_12⟩ := at_T37 HR0.out x5_1 p173 q173
                            obtain rfl : ad169 = ad173 := (by injection e173)
                            have HR173_8 := Aside0.mk hi173_8
                            have HC173_8 := Aside0.mk hl173_8
                            clear hi173_8 hl173_8
                            have HR173_11 := Aside0.mk hi173_11
                            have HC173_11 := Aside0.mk hl173_11
                            clear hi173_11 hl173_11
                            have HR173_12 := Aside0.mk hi173_12
                            have HC173_12 := Aside0.mk hl173_12
                            clear hi173_12 hl173_12
                            replace p173 := eq_true p173
                            replace q173 := eq_true q173
                            have ea_ := Option.some.inj (hx169_8.symm.trans hx173_8)
                            injection ea_ with ea_ en_ ec_
                            subst ea_
                            subst ec_
                            clear en_
                            have ea_ := Option.some.inj (hx169_11.symm.trans hx173_11)
                            injection ea_ with ea_ en_ ec_
                            subst ea_
                            subst ec_
                            clear en_
                            have ea_ := Option.some.inj (hx169_12.symm.trans hx173_12)
                            injection ea_ with ea_ en_ ec_
                            subst ea_
                            subst ec_
                            clear en_
                            have p174 : 0 ≤ (x5_1 : Int) := of_decide_eq_true (by first | (with_reducible assumption) | assumption)
                            have q174 : x5_1 < (l0.length : Int) := of_decide_eq_true (by first | (with_reducible assumption) | assumption)
                            obtain ⟨ad174, A174_8, c174_8, A174_11, c174_11, A174_12, c174_12, e174, hx174_0, hx174_1, hx174_2, hx174_3, hx174_4, hx174_5, hx174_6, hx174_7, hx174_8, hx174_9, hx174_10, hx174_11, hx174_12, hl174_8, hi174_8, hl174_11, hi174_11, hl174_12, hi174_12⟩ := at_T37 HR0.out x5_1 p174 q174
                            obtain rfl : ad169 = ad174 := (by injection e174)
                            have HR174_8 := Aside0.mk hi174_8
                            have HC174_8 := Aside0.mk hl174_8
                            clear hi174_8 hl174_8
                            have HR174_11 := Aside0.mk hi174_11
                            have HC174_11 := Aside0.mk hl174_11
                            clear hi174_11 hl174_11
                            have HR174_12 := Aside0.mk hi174_12
                            have HC174_12 := Aside0.mk hl174_12
                            clear hi174_12 hl174_12
                            replace p174 := eq_true p174
                            replace q174 := eq_true q174
                            have ea_ := Option.some.inj (hx169_8.symm.trans hx174_8)
                            injection ea_ with ea_ en_ ec_
                            subst ea_
                            subst ec_
                            clear en_
                            have ea_ := Option.some.inj (hx169_11.symm.trans hx174_11)
                            injection ea_ with ea_ en_ ec_
                            subst ea_
                            subst ec_
                            clear en_
                            have ea_ := Option.some.inj (hx169_12.symm.trans hx174_12)
                            injection ea_ with ea_ en_ ec_
                            subst ea_
                            subst ec_
                            clear en_
                            have p175 : 0 ≤ (x5_1 : Int) := of_decide_eq_true (by first | (with_reducible assumption) | assumption)
                            have q175 : x5_1 < (l0.length : Int) := of_decide_eq_true (by first | (with_reducible assumption) | assumption)
                            obtain ⟨ad175, A175_8, c175_8, A175_11, c175_11, A175_12, c175_12, e175, hx175_0, hx175_1, hx175_2, hx175_3, hx175_4, hx175_5, hx175_6, hx175_7, hx175_8, hx175_9, hx175_10, hx175_11, hx175_12, hl175_8, hi175_8, hl175_11, hi175_11, hl175_12, hi175_12⟩ := at_T37 HR0.out x5_1 p175 q175
                            obtain rfl : ad169 = ad175 := (by injection e175)
                            have HR175_8 := Aside0.mk hi175_8
                            have HC175_8 := Aside0.mk hl175_8
                            clear hi175_8 hl175_8
                            have HR175_11 := Aside0.mk hi175_11
                            have HC175_11 := Aside0.mk hl175_11
                            clear hi175_11 hl175_11
                            have HR175_12 := Aside0.mk hi175_12
                            have HC175_12 := Aside0.mk hl175_12
                            clear hi175_12 hl175_12
                            replace p175 := eq_true p175
                            replace q175 := eq_true q175
                            have ea_ := Option.some.inj (hx169_8.symm.trans hx175_8)
                            injection ea_ with ea_ en_ ec_
                            subst ea_
                            subst ec_
                            clear en_
                            have ea_ := Option.some.inj (hx169_11.symm.trans hx175_11)
                            injection ea_ with ea_ en_ ec_
                            subst ea_
                            subst ec_
                            clear en_
                            have ea_ := Option.some.inj (hx169_12.symm.trans hx175_12)
                            injection ea_ with ea_ en_ ec_
                            subst ea_
                            subst ec_
                            clear en_
                            have p176 : 0 ≤ (x5_1 : Int) := of_decide_eq_true (by first | (with_reducible assumption) | assumption)
                            have q176 : x5_1 < (l0.length : Int) := of_decide_eq_true (by first | (with_reducible assumption) | assumption)
                            obtain ⟨ad176, A176_8, c176_8, A176_11, c176_11, A176_12, c176_12, e176, hx176_0, hx176_1, hx176_2, hx176_3, hx176_4, hx176_5, hx176_6, hx176_7, hx176_8, hx176_9, hx176_10, hx176_11, hx176_12, hl176_8, hi176_8, hl176_11, hi176_11, hl176_12, hi176_12⟩ := at_T37 HR0.out x5_1 p176 q176
                            obtain rfl : ad169 = ad176 := (by injection e176)
                            have HR176_8 := Aside0.mk hi176_8
                            have HC176_8 := Aside0.mk hl176_8
                            clear hi176_8 hl176_8
                            have HR176_11 := Aside0.mk hi176_11
                            have HC176_11 := Aside0.mk hl176_11
                            clear hi176_11 hl176_11
                            have HR176_12 := Aside0.mk hi176_12
                            have HC176_12 := Aside0.mk hl176_12
                            clear hi176_12 hl176_12
                            replace p176 := eq_true p176
                            replace q176 := eq_true q176
                            have ea_ := Option.some.inj (hx169_8.symm.trans hx176_8)
                            injection ea_ with ea_ en_ ec_
                            subst ea_
                            subst ec_
                            clear en_
                            have ea_ := Option.some.inj (hx169_11.symm.trans hx176_11)
                            injection ea_ with ea_ en_ ec_
                            subst ea_
                            subst ec_
                            clear en_
                            have ea_ := Option.some.inj (hx169_12.symm.trans hx176_12)
                            injection ea_ with ea_ en_ ec_
                            subst ea_
                            subst ec_
                            clear en_
                            have p177 : 0 ≤ (x5_1 : Int) := of_decide_eq_true (by first | (with_reducible assumption) | assumption)
                            have q177 : x5_1 < (l0.length : Int) := of_decide_eq_true (by first | (with_reducible assumption) | assumption)
                            obtain ⟨ad177, A177_8, c177_8, A177_11, c177_11, A177_12, c177_12, e177, hx177_0, hx177_1, hx177_2, hx177_3, hx177_4, hx177_5, hx177_6, hx177_7, hx177_8, hx177_9, hx177_10, hx177_11, hx177_12, hl177_8, hi177_8, hl177_11, hi177_11, hl177_12, hi177_12⟩ := at_T37 HR0.out x5_1 p177 q177
                            obtain rfl : ad169 = ad177 := (by injection e177)
                            have HR177_8 := Aside0.mk hi177_8
                            have HC177_8 := Aside0.mk hl177_8
                            clear hi177_8 hl177_8
                            have HR177_11 := Aside0.mk hi177_11
                            have HC177_11 := Aside0.mk hl177_11
                            clear hi177_11 hl177_11
                            have HR177_12 := Aside0.mk hi177_12
                            have HC177_12 := Aside0.mk hl177_12
                            clear hi177_12 hl177_12
                            replace p177 := eq_true p177
                            replace q177 := eq_true q177
                            have ea_ := Option.some.inj (hx169_8.symm.trans hx177_8)
                            injection ea_ with ea_ en_ ec_
                            subst ea_
                            subst ec_
                            clear en_
                            have ea_ := Option.some.inj (hx169_11.symm.trans hx177_11)
                            injection ea_ with ea_ en_ ec_
                            subst ea_
                            subst ec_
                            clear en_
                            have ea_ := Option.some.inj (hx169_12.symm.trans hx177_12)
                            injection ea_ with ea_ en_ ec_
                            subst ea_
                            subst ec_
                            clear en_
                            go_wp2_with (first | ((with_reducible refine gate_callee (f := 39) rfl ?_); refine goesL_ (some 90) rfl rfl Try.func39 (by kernel_rfl) rfl #[.slice A169_8 ((rd_T37 l0 x5_1).f8).length c169_8, .int .i64 (wrap64 ((wrap64 ((wrap64 ((wrap64 ((wrap64 ((wrap64 ((wrap64 ((wrap64 (x1_1 + 1)) + 1)) + 1)) + 1)) + 1)) + 1)) + 1)) + 1))] rfl (by (try simp only [List.map_toArray, List.map_cons, List.map_nil]); first | done | rfl | (simp only [List.length_drop, List.length_take]; rfl)) ?_; (with_reducible refine (laws_heldIntS.calls k1 _ _ ((rd_T37 l0 x5_1).f8) (wrap64 ((wrap64 ((wrap64 ((wrap64 ((wrap64 ((wrap64 ((wrap64 ((wrap64 (x1_1 + 1)) + 1)) + 1)) + 1)) + 1)) + 1)) + 1)) + 1)) t178 _ ?side1 ?side2 A13.out).mono ?_); (case side1 => repeat (first | exact HR177_8.out | (with_reducible refine Kd.C_alloc ?_ _) | (with_reducible refine Kd.C_drewN ?_ _) | (with_reducible refine Kd.C_drew ?_))); (case side2 => exact HC177_8.out); rintro e w' ⟨rfl, ⟨nd, rfl⟩⟩; refine ⟨_, rfl, ?_⟩))
                            go_ret
                            exact ⟨by first | rfl | (simp; done) | (simp [*]; done), by repeat (first | exact Drawn0.refl _ | apply Drawn0.step)⟩
                          · rw [if_neg c14] at H
                            have c14b0 : decide (t178 < 0) = false := decide_eq_false c14
                            clear c14
                            by_cases c15 : ((rd_T37 l0 x5_1).f9) = t178
                            · rw [if_pos c15] at H
                              have c15b0 : (((rd_T37 l0 x5_1).f9) == t178) = true := beq_iff_eq.mpr c15
                              have c15b1 : (((rd_T37 l0 x5_1).f9) != t178) = false := bne_eq_false_iff_eq.mpr c15
                              clear c15
                              by_cases c16 : ((rd_T37 l0 x5_1).f10) = (wrap64 (t178 + 1))
                              · rw [if_pos c16] at H
                                have c16b0 : (((rd_T37 l0 x5_1).f10) == (wrap64 (t178 + 1))) = true := beq_iff_eq.mpr c16
                                have c16b1 : (((rd_T37 l0 x5_1).f10) != (wrap64 (t178 + 1))) = false := bne_eq_false_iff_eq.mpr c16
                                clear c16
                                replace H := Option.bind_eq_some_iff.mp H
                                obtain ⟨t182, A170, H⟩ := H
                                replace H : (if t182 < 0 then (some (-1)) else ((laws_heldIntS.f k1 ((rd_T37 l0 x5_1).f12) t182).bind fun t184 => (if t184 < 0 then (some (-1)) else (laws_heldNodeS.l0 k1 l0 t184 (wrap64 (x5_1 + 1)))))) = some r := H
                                have A17 := Aside0.mk A170
                                clear A170
                                by_cases c18 : t182 < 0
                                · rw [if_pos c18] at H
                                  have c18b0 : decide (t182 < 0) = true := decide_eq_true c18
                                  clear c18
                                  obtain rfl := Option.some.inj H
                                  have p169 : 0 ≤ (x5_1 : Int) := of_decide_eq_true (by first | (with_reducible assumption) | assumption)
                                  have q169 : x5_1 < (l0.length : Int) := of_decide_eq_true (by first | (with_reducible assumption) | assumption)
                                  obtain ⟨ad169, A169_8, c169_8, A169_11, c169_11, A169_12, c169_12, e169, hx169_0, hx169_1, hx169_2, hx169_3, hx169_4, hx169_5, hx169_6, hx169_7, hx169_8, hx169_9, hx169_10, hx169_11, hx169_12, hl169_8, hi169_8, hl169_11, hi169_11, hl169_12, hi169_12⟩ := at_T37 HR0.out x5_1 p169 q169
                                  cases e169
                                  have HR169_8 := Aside0.mk hi169_8
                                  have HC169_8 := Aside0.mk hl169_8
                                  clear hi169_8 hl169_8
                                  have HR169_11 := Aside0.mk hi169_11
                                  have HC169_11 := Aside0.mk hl169_11
                                  clear hi169_11 hl169_11
                                  have HR169_12 := Aside0.mk hi169_12
                                  have HC169_12 := Aside0.mk hl169_12
                                  clear hi169_12 hl169_12
                                  replace p169 := eq_true p169
                                  replace q169 := eq_true q169
                                  have p170 : 0 ≤ (x5_1 : Int) := of_decide_eq_true (by first | (with_reducible assumption) | assumption)
                                  have q170 : x5_1 < (l0.length : Int) := of_decide_eq_true (by first | (with_reducible assumption) | assumption)
                                  obtain ⟨ad170, A170_8, c170_8, A170_11, c170_11, A170_12, c170_12, e170, hx170_0, hx170_1, hx170_2, hx170_3, hx170_4, hx170_5, hx170_6, hx170_7, hx170_8, hx170_9, hx170_10, hx170_11, hx170_12, hl170_8, hi170_8, hl170_11, hi170_11, hl170_12, hi170_12⟩ := at_T37 HR0.out x5_1 p170 q170
                                  obtain rfl : ad169 = ad170 := (by injection e170)
                                  have HR170_8 := Aside0.mk hi170_8
                                  have HC170_8 := Aside0.mk hl170_8
                                  clear hi170_8 hl170_8
                                  have HR170_11 := Aside0.mk hi170_11
                                  have HC170_11 := Aside0.mk hl170_11
                                  clear hi170_11 hl170_11
                                  have HR170_12 := Aside0.mk hi170_12
                                  have HC170_12 := Aside0.mk hl170_12
                                  clear hi170_12 hl170_12
                                  replace p170 := eq_true p170
                                  replace q170 := eq_true q170
                                  have ea_ := Option.some.inj (hx169_8.symm.trans hx170_8)
                                  injection ea_ with ea_ en_ ec_
                                  subst ea_
                                  subst ec_
                                  clear en_
                                  have ea_ := Option.some.inj (hx169_11.symm.trans hx170_11)
                                  injection ea_ with ea_ en_ ec_
                                  subst ea_
                                  subst ec_
                                  clear en_
                                  have ea_ := Option.some.inj (hx169_12.symm.trans hx170_12)
                                  injection ea_ with ea_ en_ ec_
                                  subst ea_
                                  subst ec_
                                  clear en_
                                  have p171 : 0 ≤ (x5_1 : Int) := of_decide_eq_true (by first | (with_reducible assumption) | assumption)
                                  have q171 : x5_1 < (l0.length : Int) := of_decide_eq_true (by first | (with_reducible assumption) | assumption)
                                  obtain ⟨ad171, A171_8, c171_8, A171_11, c171_11, A171_12, c171_12, e171, hx171_0, hx171_1, hx171_2, hx171_3, hx171_4, hx171_5, hx171_6, hx171_7, hx171_8, hx171_9, hx171_10, hx171_11, hx171_12, hl171_8, hi171_8, hl171_11, hi171_11, hl171_12, hi171_12⟩ := at_T37 HR0.out x5_1 p171 q171
                                  obtain rfl : ad169 = ad171 := (by injection e171)
                                  have HR171_8 := Aside0.mk hi171_8
                                  have HC171_8 := Aside0.mk hl171_8
                                  clear hi171_8 hl171_8
                                  have HR171_11 := Aside0.mk hi171_11
                                  have HC171_11 := Aside0.mk hl171_11
                                  clear hi171_11 hl171_11
                                  have HR171_12 := Aside0.mk hi171_12
                                  have HC171_12 := Aside0.mk hl171_12
                                  clear hi171_12 hl171_12
                                  replace p171 := eq_true p171
                                  replace q171 := eq_true q171
                                  have ea_ := Option.some.inj (hx169_8.symm.trans hx171_8)
                                  injection ea_ with ea_ en_ ec_
                                  subst ea_
                                  subst ec_
                                  clear en_
                                  have ea_ := Option.some.inj (hx169_11.symm.trans hx171_11)
                                  injection ea_ with ea_ en_ ec_
                                  subst ea_
                                  subst ec_
                                  clear en_
                                  have ea_ := Option.some.inj (hx169_12.symm.trans hx171_12)
                                  injection ea_ with ea_ en_ ec_
                                  subst ea_
                                  subst ec_
                                  clear en_
                                  have p172 : 0 ≤ (x5_1 : Int) := of_decide_eq_true (by first | (with_reducible assumption) | assumption)
                                  have q172 : x5_1 < (l0.length : Int) := of_decide_eq_true (by first | (with_reducible assumption) | assumption)
                                  obtain ⟨ad172, A172_8, c172_8, A172_11, c172_11, A172_12, c172_12, e172, hx172_0, hx172_1, hx172_2, hx172_3, hx172_4, hx172_5, hx172_6, hx172_7, hx172_8, hx172_9, hx172_10, hx172_11, hx172_12, hl172_8, hi172_8, hl172_11, hi172_11, hl172_12, hi172_12⟩ := at_T37 HR0.out x5_1 p172 q172
                                  obtain rfl : ad169 = ad172 := (by injection e172)
                                  have HR172_8 := Aside0.mk hi172_8
                                  have HC172_8 := Aside0.mk hl172_8
                                  clear hi172_8 hl172_8
                                  have HR172_11 := Aside0.mk hi172_11
                                  have HC172_11 := Aside0.mk hl172_11
                                  clear hi172_11 hl172_11
                                  have HR172_12 := Aside0.mk hi172_12
                                  have HC172_12 := Aside0.mk hl172_12
                                  clear hi172_12 hl172_12
                                  replace p172 := eq_true p172
                                  replace q172 := eq_true q172
                                  have ea_ := Option.some.inj (hx169_8.symm.trans hx172_8)
                                  injection ea_ with ea_ en_ ec_
                                  subst ea_
                                  subst ec_
                                  clear en_
                                  have ea_ := Option.some.inj (hx169_11.symm.trans hx172_11)
                                  injection ea_ with ea_ en_ ec_
                                  subst ea_
                                  subst ec_
                                  clear en_
                                  have ea_ := Option.some.inj (hx169_12.symm.trans hx172_12)
                                  injection ea_ with ea_ en_ ec_
                                  subst ea_
                                  subst ec_
                                  clear en_
                                  have p173 : 0 ≤ (x5_1 : Int) := of_decide_eq_true (by first | (with_reducible assumption) | assumption)
                                  have q173 : x5_1 < (l0.length : Int) := of_decide_eq_true (by first | (with_reducible assumption) | assumption)
                                  obtain ⟨ad173, A173_8, c173_8, A173_11, c173_11, A173_12, c173_12, e173, hx173_0, hx173_1, hx173_2, hx173_3, hx173_4, hx173_5, hx173_6, hx173_7, hx173_8, hx173_9, hx173_10, hx173_11, hx173_12, hl173_8, hi173_8, hl173_11, hi173_11, hl173_12, hi173_12⟩ := at_T37 HR0.out x5_1 p173 q173
                                  obtain rfl : ad169 = ad173 := (by injection e173)
                                  have HR173_8 := Aside0.mk hi173_8
                                  have HC173_8 := Aside0.mk hl173_8
                                  clear hi173_8 hl173_8
                                  have HR173_11 := Aside0.mk hi173_11
                                  have HC173_11 := Aside0.mk hl173_11
                                  clear hi173_11 hl173_11
                                  have HR173_12 := Aside0.mk hi173_12
                                  have HC173_12 := Aside0.mk hl173_12
                                  clear hi173_12 hl173_12
                                  replace p173 := eq_true p173
                                  replace q173 := eq_true q173
                                  have ea_ := Option.some.inj (hx169_8.symm.trans hx173_8)
                                  injection ea_ with ea_ en_ ec_
                                  subst ea_
                                  subst ec_
                                  clear en_
                                  have ea_ := Option.some.inj (hx169_11.symm.trans hx173_11)
                                  injection ea_ with ea_ en_ ec_
                                  subst ea_
                                  subst ec_
                                  clear en_
                                  have ea_ := Option.some.inj (hx169_12.symm.trans hx173_12)
                                  injection ea_ with ea_ en_ ec_
                                  subst ea_
                                  subst ec_
                                  clear en_
                                  have p174 : 0 ≤ (x5_1 : Int) := of_decide_eq_true (by first | (with_reducible assumption) | assumption)
                                  have q174 : x5_1 < (l0.length : Int) := of_decide_eq_true (by first | (with_reducible assumption) | assumption)
                                  obtain ⟨ad174, A174_8, c174_8, A174_11, c174_11, A174_12, c174_12, e174, hx174_0, hx174_1, hx174_2, hx174_3, hx174_4, hx174_5, hx174_6, hx174_7, hx174_8, hx174_9, hx174_10, hx174_11, hx174_12, hl174_8, hi174_8, hl174_11, hi174_11, hl174_12, hi174_12⟩ := at_T37 HR0.out x5_1 p174 q174
                                  obtain rfl : ad169 = ad174 := (by injection e174)
                                  have HR174_8 := Aside0.mk hi174_8
                                  have HC174_8 := Aside0.mk hl174_8
                                  clear hi174_8 hl174_8
                                  have HR174_11 := Aside0.mk hi174_11
                                  have HC174_11 := Aside0.mk hl174_11
                                  clear hi174_11 hl174_11
                                  have HR174_12 := Aside0.mk hi174_12
                                  have HC174_12 := Aside0.mk hl174_12
                                  clear hi174_12 hl174_12
                                  replace p174 := eq_true p174
                                  replace q174 := eq_true q174
                                  have ea_ := Option.some.inj (hx169_8.symm.trans hx174_8)
                                  injection ea_ with ea_ en_ ec_
                                  subst ea_
                                  subst ec_
                                  clear en_
                                  have ea_ := Option.some.inj (hx169_11.symm.trans hx174_11)
                                  injection ea_ with ea_ en_ ec_
                                  subst ea_
                                  subst ec_
                                  clear en_
                                  have ea_ := Option.some.inj (hx169_12.symm.trans hx174_12)
                                  injection ea_ with ea_ en_ ec_
                                  subst ea_
                                  subst ec_
                                  clear en_
                                  have p175 : 0 ≤ (x5_1 : Int) := of_decide_eq_true (by first | (with_reducible assumption) | assumption)
                                  have q175 : x5_1 < (l0.length : Int) := of_decide_eq_true (by first | (with_reducible assumption) | assumption)
                                  obtain ⟨ad175, A175_8, c175_8, A175_11, c175_11, A175_12, c175_12, e175, hx175_0, hx175_1, hx175_2, hx175_3, hx175_4, hx175_5, hx175_6, hx175_7, hx175_8, hx175_9, hx175_10, hx175_11, hx175_12, hl175_8, hi175_8, hl175_11, hi175_11, hl175_12, hi175_12⟩ := at_T37 HR0.out x5_1 p175 q175
                                  obtain rfl : ad169 = ad175 := (by injection e175)
                                  have HR175_8 := Aside0.mk hi175_8
                                  have HC175_8 := Aside0.mk hl175_8
                                  clear hi175_8 hl175_8
                                  have HR175_11 := Aside0.mk hi175_11
                                  have HC175_11 := Aside0.mk hl175_11
                                  clear hi175_11 hl175_11
                                  have HR175_12 := Aside0.mk hi175_12
                                  have HC175_12 := Aside0.mk hl175_12
                                  clear hi175_12 hl175_12
                                  replace p175 := eq_true p175
                                  replace q175 := eq_true q175
                                  have ea_ := Option.some.inj (hx169_8.symm.trans hx175_8)
                                  injection ea_ with ea_ en_ ec_
                                  subst ea_
                                  subst ec_
                                  clear en_
                                  have ea_ := Option.some.inj (hx169_11.symm.trans hx175_11)
                                  injection ea_ with ea_ en_ ec_
                                  subst ea_
                                  subst ec_
                                  clear en_
                                  have ea_ := Option.some.inj (hx169_12.symm.trans hx175_12)
                                  injection ea_ with ea_ en_ ec_
                                  subst ea_
                                  subst ec_
                                  clear en_
                                  have p176 : 0 ≤ (x5_1 : Int) := of_decide_eq_true (by first | (with_reducible assumption) | assumption)
                                  have q176 : x5_1 < (l0.length : Int) := of_decide_eq_true (by first | (with_reducible assumption) | assumption)
                                  obtain ⟨ad176, A176_8, c176_8, A176_11, c176_11, A176_12, c176_12, e176, hx176_0, hx176_1, hx176_2, hx176_3, hx176_4, hx176_5, hx176_6, hx176_7, hx176_8, hx176_9, hx176_10, hx176_11, hx176_12, hl176_8, hi176_8, hl176_11, hi176_11, hl176_12, hi176_12⟩ := at_T37 HR0.out x5_1 p176 q176
                                  obtain rfl : ad169 = ad176 := (by injection e176)
                                  have HR176_8 := Aside0.mk hi176_8
                                  have HC176_8 := Aside0.mk hl176_8
                                  clear hi176_8 hl176_8
                                  have HR176_11 := Aside0.mk hi176_11
                                  have HC176_11 := Aside0.mk hl176_11
                                  clear hi176_11 hl176_11
                                  have HR176_12 := Aside0.mk hi176_12
                                  have HC176_12 := Aside0.mk hl176_12
                                  clear hi176_12 hl176_12
                                  replace p176 := eq_true p176
                                  replace q176 := eq_true q176
                                  have ea_ := Option.some.inj (hx169_8.symm.trans hx176_8)
                                  injection ea_ with ea_ en_ ec_
                                  subst ea_
                                  subst ec_
                                  clear en_
                                  have ea_ := Option.some.inj (hx169_11.symm.trans hx176_11)
                                  injection ea_ with ea_ en_ ec_
                                  subst ea_
                                  subst ec_
                                  clear en_
                                  have ea_ := Option.some.inj (hx169_12.symm.trans hx176_12)
                                  injection ea_ with ea_ en_ ec_
                                  subst ea_
                                  subst ec_
                                  clear en_
                                  have p177 : 0 ≤ (x5_1 : Int) := of_decide_eq_true (by first | (with_reducible assumption) | assumption)
                                  have q177 : x5_1 < (l0.length : Int) := of_decide_eq_true (by first | (with_reducible assumption) | assumption)
                                  obtain ⟨ad177, A177_8, c177_8, A177_11, c177_11, A177_12, c177_12, e177, hx177_0, hx177_1, hx177_2, hx177_3, hx177_4, hx177_5, hx177_6, hx177_7, hx177_8, hx177_9, hx177_10, hx177_11, hx177_12, hl177_8, hi177_8, hl177_11, hi177_11, hl177_12, hi177_12⟩ := at_T37 HR0.out x5_1 p177 q177
                                  obtain rfl : ad169 = ad177 := (by injection e177)
                                  have HR177_8 := Aside0.mk hi177_8
                                  have HC177_8 := Aside0.mk hl177_8
                                  clear hi177_8 hl177_8
                                  have HR177_11 := Aside0.mk hi177_11
                                  have HC177_11 := Aside0.mk hl177_11
                                  clear hi177_11 hl177_11
                                  have HR177_12 := Aside0.mk hi177_12
                                  have HC177_12 := Aside0.mk hl177_12
                                  clear hi177_12 hl177_12
                                  replace p177 := eq_true p177
                                  replace q177 := eq_true q177
                                  have ea_ := Option.some.inj (hx169_8.symm.trans hx177_8)
                                  injection ea_ with ea_ en_ ec_
                                  subst ea_
                                  subst ec_
                                  clear en_
                                  have ea_ := Option.some.inj (hx169_11.symm.trans hx177_11)
                                  injection ea_ with ea_ en_ ec_
                                  subst ea_
                                  subst ec_
                                  clear en_
                                  have ea_ := Option.some.inj (hx169_12.symm.trans hx177_12)
                                  injection ea_ with ea_ en_ ec_
                                  subst ea_
                                  subst ec_
                                  clear en_
                                  go_wp2_with (first | ((with_reducible refine gate_callee (f := 39) rfl ?_); refine goesL_ (some 90) rfl rfl Try.func39 (by kernel_rfl) rfl #[.slice A169_8 ((rd_T37 l0 x5_1).f8).length c169_8, .int .i64 (wrap64 ((wrap64 ((wrap64 ((wrap64 ((wrap64 ((wrap64 ((wrap64 ((wrap64 (x1_1 + 1)) + 1)) + 1)) + 1)) + 1)) + 1)) + 1)) + 1))] rfl (by (try simp only [List.map_toArray, List.map_cons, List.map_nil]); first | done | rfl | (simp only [List.length_drop, List.length_take]; rfl)) ?_; (with_reducible refine (laws_heldIntS.calls k1 _ _ ((rd_T37 l0 x5_1).f8) (wrap64 ((wrap64 ((wrap64 ((wrap64 ((wrap64 ((wrap64 ((wrap64 ((wrap64 (x1_1 + 1)) + 1)) + 1)) + 1)) + 1)) + 1)) + 1)) + 1)) t178 _ ?side1 ?side2 A13.out).mono ?_); (case side1 => repeat (first | exact HR177_8.out | (with_reducible refine Kd.C_alloc ?_ _) | (with_reducible refine Kd.C_drewN ?_ _) | (with_reducible refine Kd.C_drew ?_))); (case side2 => exact HC177_8.out); rintro e w' ⟨rfl, ⟨nd, rfl⟩⟩; refine ⟨_, rfl, ?_⟩; have p179 : 0 ≤ (x5_1 : Int) := of_decide_eq_true (by first | (with_reducible assumption) | assumption); have q179 : x5_1 < (l0.length : Int) := of_decide_eq_true (by first | (with_reducible assumption) | assumption); obtain ⟨ad179, A179_8, c179_8, A179_11, c179_11, A179_12, c179_12, e179, hx179_0, hx179_1, hx179_2, hx179_3, hx179_4, hx179_5, hx179_6, hx179_7, hx179_8, hx179_9, hx179_10, hx179_11, hx179_12, hl179_8, hi179_8, hl179_11, hi179_11, hl179_12, hi179_12⟩ := at_T37 HR0.out x5_1 p179 q179; obtain rfl : ad169 = ad179 := (by injection e179); have HR179_8 := Aside0.mk hi179_8; have HC179_8 := Aside0.mk hl179_8; clear hi179_8 hl179_8; have HR179_11 := Aside0.mk hi179_11; have HC179_11 := Aside0.mk hl179_11; clear hi179_11 hl179_11; have HR179_12 := Aside0.mk hi179_12; have HC179_12 := Aside0.mk hl179_12; clear hi179_12 hl179_12; replace p179 := eq_true p179; replace q179 := eq_true q179; have ea_ := Option.some.inj (hx169_8.symm.trans hx179_8); injection ea_ with ea_ en_ ec_; subst ea_; subst ec_; clear en_; have ea_ := Option.some.inj (hx169_11.symm.trans hx179_11); injection ea_ with ea_ en_ ec_; subst ea_; subst ec_; clear en_; have ea_ := Option.some.inj (hx169_12.symm.trans hx179_12); injection ea_ with ea_ en_ ec_; subst ea_; subst ec_; clear en_; have p180 : 0 ≤ (x5_1 : Int) := of_decide_eq_true (by first | (with_reducible assumption) | assumption); have q180 : x5_1 < (l0.length : Int) := of_decide_eq_true (by first | (with_reducible assumption) | assumption); obtain ⟨ad180, A180_8, c180_8, A180_11, c180_11, A180_12, c180_12, e180, hx180_0, hx180_1, hx180_2, hx180_3, hx180_4, hx180_5, hx180_6, hx180_7, hx180_8, hx180_9, hx180_10, hx180_11, hx180_12, hl180_8, hi180_8, hl180_11, hi180_11, hl180_12, hi180_12⟩ := at_T37 HR0.out x5_1 p180 q180; obtain rfl : ad169 = ad180 := (by injection e180); have HR180_8 := Aside0.mk hi180_8; have HC180_8 := Aside0.mk hl180_8; clear hi180_8 hl180_8; have HR180_11 := Aside0.mk hi180_11; have HC180_11 := Aside0.mk hl180_11; clear hi180_11 hl180_11; have HR180_12 := Aside0.mk hi180_12; have HC180_12 := Aside0.mk hl180_12; clear hi180_12 hl180_12; replace p180 := eq_true p180; replace q180 := eq_true q180; have ea_ := Option.some.inj (hx169_8.symm.trans hx180_8); injection ea_ with ea_ en_ ec_; subst ea_; subst ec_; clear en_; have ea_ := Option.some.inj (hx169_11.symm.trans hx180_11); injection ea_ with ea_ en_ ec_; subst ea_; subst ec_; clear en_; have ea_ := Option.some.inj (hx169_12.symm.trans hx180_12); injection ea_ with ea_ en_ ec_; subst ea_; subst ec_; clear en_; have p181 : 0 ≤ (x5_1 : Int) := of_decide_eq_true (by first | (with_reducible assumption) | assumption); have q181 : x5_1 < (l0.length : Int) := of_decide_eq_true (by first | (with_reducible assumption) | assumption); obtain ⟨ad181, A181_8, c181_8, A181_11, c181_11, A181_12, c181_12, e181, hx181_0, hx181_1, hx181_2, hx181_3, hx181_4, hx181_5, hx181_6, hx181_7, hx181_8, hx181_9, hx181_10, hx181_11, hx181_12, hl181_8, hi181_8, hl181_11, hi181_11, hl181_12, hi181_12⟩ := at_T37 HR0.out x5_1 p181 q181; obtain rfl : ad169 = ad181 := (by injection e181); have HR181_8 := Aside0.mk hi181_8; have HC181_8 := Aside0.mk hl181_8; clear hi181_8 hl181_8; have HR181_11 := Aside0.mk hi181_11; have HC181_11 := Aside0.mk hl181_11; clear hi181_11 hl181_11; have HR181_12 := Aside0.mk hi181_12; have HC181_12 := Aside0.mk hl181_12; clear hi181_12 hl181_12; replace p181 := eq_true p181; replace q181 := eq_true q181; have ea_ := Option.some.inj (hx169_8.symm.trans hx181_8); injection ea_ with ea_ en_ ec_; subst ea_; subst ec_; clear en_; have ea_ := Option.some.inj (hx169_11.symm.trans hx181_11); injection ea_ with ea_ en_ ec_; subst ea_; subst ec_; clear en_; have ea_ := Option.some.inj (hx169_12.symm.trans hx181_12); injection ea_ with ea_ en_ ec_; subst ea_; subst ec_; clear en_) | ((with_reducible refine gate_callee (f := 97) rfl ?_); refine goesL_ (some 117) rfl rfl Try.func97 (by kernel_rfl) rfl #[.slice A169_11 ((rd_T37 l0 x5_1).f11).length c169_11, .int .i64 (wrap64 ((wrap64 (t178 + 1)) + 1))] rfl (by (try simp only [List.map_toArray, List.map_cons, List.map_nil]); first | done | rfl | (simp only [List.length_drop, List.length_take]; rfl)) ?_; (with_reducible refine (laws_heldThingS.calls k1 _ _ ((rd_T37 l0 x5_1).f11) (wrap64 ((wrap64 (t178 + 1)) + 1)) t182 _ ?side1 ?side2 A17.out).mono ?_); (case side1 => repeat (first | exact HR181_11.out | (with_reducible refine Kd.C_alloc ?_ _) | (with_reducible refine Kd.C_drewN ?_ _) | (with_reducible refine Kd.C_drew ?_))); (case side2 => exact HC181_11.out); rintro e w' ⟨rfl, ⟨nd, rfl⟩⟩; refine ⟨_, rfl, ?_⟩))
                                  go_ret
                                  exact ⟨by first | rfl | (simp; done) | (simp [*]; done), by repeat (first | exact Drawn0.refl _ | apply Drawn0.step)⟩
                                · rw [if_neg c18] at H
                                  have c18b0 : decide (t182 < 0) = false := decide_eq_false c18
                                  clear c18
                                  replace H := Option.bind_eq_some_iff.mp H
                                  obtain ⟨t184, A190, H⟩ := H
                                  replace H : (if t184 < 0 then (some (-1)) else (laws_heldNodeS.l0 k1 l0 t184 (wrap64 (x5_1 + 1)))) = some r := H
                                  have A19 := Aside0.mk A190
                                  clear A190
                                  by_cases c20 : t184 < 0
                                  · rw [if_pos c20] at H
                                    have c20b0 : decide (t184 < 0) = true := decide_eq_true c20
                                    clear c20
                                    obtain rfl := Option.some.inj H
                                    have p169 : 0 ≤ (x5_1 : Int) := of_decide_eq_true (by first | (with_reducible assumption) | assumption)
                                    have q169 : x5_1 < (l0.length : Int) := of_decide_eq_true (by first | (with_reducible assumption) | assumption)
                                    obtain ⟨ad169, A169_8, c169_8, A169_11, c169_11, A169_12, c169_12, e169, hx169_0, hx169_1, hx169_2, hx169_3, hx169_4, hx169_5, hx169_6, hx169_7, hx169_8, hx169_9, hx169_10, hx169_11, hx169_12, hl169_8, hi169_8, hl169_11, hi169_11, hl169_12, hi169_12⟩ := at_T37 HR0.out x5_1 p169 q169
                                    cases e169
                                    have HR169_8 := Aside0.mk hi169_8
                                    have HC169_8 := Aside0.mk hl169_8
                                    clear hi169_8 hl169_8
                                    have HR169_11 := Aside0.mk hi169_11
                                    have HC169_11 := Aside0.mk hl169_11
                                    clear hi169_11 hl169_11
                                    have HR169_12 := Aside0.mk hi169_12
                                    have HC169_12 := Aside0.mk hl169_12
                                    clear hi169_12 hl169_12
                                    replace p169 := eq_true p169
                                    replace q169 := eq_true q169
                                    have p170 : 0 ≤ (x5_1 : Int) := of_decide_eq_true (by first | (with_reducible assumption) | assumption)
                                    have q170 : x5_1 < (l0.length : Int) := of_decide_eq_true (by first | (with_reducible assumption) | assumption)
                                    obtain ⟨ad170, A170_8, c170_8, A170_11, c170_11, A170_12, c170_12, e170, hx170_0, hx170_1, hx170_2, hx170_3, hx170_4, hx170_5, hx170_6, hx170_7, hx170_8, hx170_9, hx170_10, hx170_11, hx170_12, hl170_8, hi170_8, hl170_11, hi170_11, hl170_12, hi170_12⟩ := at_T37 HR0.out x5_1 p170 q170
                                    obtain rfl : ad169 = ad170 := (by injection e170)
                                    have HR170_8 := Aside0.mk hi170_8
                                    have HC170_8 := Aside0.mk hl170_8
                                    clear hi170_8 hl170_8
                                    have HR170_11 := Aside0.mk hi170_11
                                    have HC170_11 := Aside0.mk hl170_11
                                    clear hi170_11 hl170_11
                                    have HR170_12 := Aside0.mk hi170_12
                                    have HC170_12 := Aside0.mk hl170_12
                                    clear hi170_12 hl170_12
                                    replace p170 := eq_true p170
                                    replace q170 := eq_true q170
                                    have ea_ := Option.some.inj (hx169_8.symm.trans hx170_8)
                                    injection ea_ with ea_ en_ ec_
                                    subst ea_
                                    subst ec_
                                    clear en_
                                    have ea_ := Option.some.inj (hx169_11.symm.trans hx170_11)
                                    injection ea_ with ea_ en_ ec_
                                    subst ea_
                                    subst ec_
                                    clear en_
                                    have ea_ := Option.some.inj (hx169_12.symm.trans hx170_12)
                                    injection ea_ with ea_ en_ ec_
                                    subst ea_
                                    subst ec_
                                    clear en_
                                    have p171 : 0 ≤ (x5_1 : Int) := of_decide_eq_true (by first | (with_reducible assumption) | assumption)
                                    have q171 : x5_1 < (l0.length : Int) := of_decide_eq_true (by first | (with_reducible assumption) | assumption)
                                    obtain ⟨ad171, A171_8, c171_8, A171_11, c171_11, A171_12, c171_12, e171, hx171_0, hx171_1, hx171_2, hx171_3, hx171_4, hx171_5, hx171_6, hx171_7, hx171_8, hx171_9, hx171_10, hx171_11, hx171_12, hl171_8, hi171_8, hl171_11, hi171_11, hl171_12, hi171_12⟩ := at_T37 HR0.out x5_1 p171 q171
                                    obtain rfl : ad169 = ad171 := (by injection e171)
                                    have HR171_8 := Aside0.mk hi171_8
                                    have HC171_8 := Aside0.mk hl171_8
                                    clear hi171_8 hl171_8
                                    have HR171_11 := Aside0.mk hi171_11
                                    have HC171_11 := Aside0.mk hl171_11
                                    clear hi171_11 hl171_11
                                    have HR171_12 := Aside0.mk hi171_12
                                    have HC171_12 := Aside0.mk hl171_12
                                    clear hi171_12 hl171_12
                                    replace p171 := eq_true p171
                                    replace q171 := eq_true q171
                                    have ea_ := Option.some.inj (hx169_8.symm.trans hx171_8)
                                    injection ea_ with ea_ en_ ec_
                                    subst ea_
                                    subst ec_
                                    clear en_
                                    have ea_ := Option.some.inj (hx169_11.symm.trans hx171_11)
                                    injection ea_ with ea_ en_ ec_
                                    subst ea_
                                    subst ec_
                                    clear en_
                                    have ea_ := Option.some.inj (hx169_12.symm.trans hx171_12)
                                    injection ea_ with ea_ en_ ec_
                                    subst ea_
                                    subst ec_
                                    clear en_
                                    have p172 : 0 ≤ (x5_1 : Int) := of_decide_eq_true (by first | (with_reducible assumption) | assumption)
                                    have q172 : x5_1 < (l0.length : Int) := of_decide_eq_true (by first | (with_reducible assumption) | assumption)
                                    obtain ⟨ad172, A172_8, c172_8, A172_11, c172_11, A172_12, c172_12, e172, hx172_0, hx172_1, hx172_2, hx172_3, hx172_4, hx172_5, hx172_6, hx172_7, hx172_8, hx172_9, hx172_10, hx172_11, hx172_12, hl172_8, hi172_8, hl172_11, hi172_11, hl172_12, hi172_12⟩ := at_T37 HR0.out x5_1 p172 q172
                                    obtain rfl : ad169 = ad172 := (by injection e172)
                                    have HR172_8 := Aside0.mk hi172_8
                                    have HC172_8 := Aside0.mk hl172_8
                                    clear hi172_8 hl172_8
                                    have HR172_11 := Aside0.mk hi172_11
                                    have HC172_11 := Aside0.mk hl172_11
                                    clear hi172_11 hl172_11
                                    have HR172_12 := Aside0.mk hi172_12
                                    have HC172_12 := Aside0.mk hl172_12
                                    clear hi172_12 hl172_12
                                    replace p172 := eq_true p172
                                    replace q172 := eq_true q172
                                    have ea_ := Option.some.inj (hx169_8.symm.trans hx172_8)
                                    injection ea_ with ea_ en_ ec_
                                    subst ea_
                                    subst ec_
                                    clear en_
                                    have ea_ := Option.some.inj (hx169_11.symm.trans hx172_11)
                                    injection ea_ with ea_ en_ ec_
                                    subst ea_
                                    subst ec_
                                    clear en_
                                    have ea_ := Option.some.inj (hx169_12.symm.trans hx172_12)
                                    injection ea_ with ea_ en_ ec_
                                    subst ea_
                                    subst ec_
                                    clear en_
                                    have p173 : 0 ≤ (x5_1 : Int) := of_decide_eq_true (by first | (with_reducible assumption) | assumption)
                                    have q173 : x5_1 < (l0.length : Int) := of_decide_eq_true (by first | (with_reducible assumption) | assumption)
                                    obtain ⟨ad173, A173_8, c173_8, A173_11, c173_11, A173_12, c173_12, e173, hx173_0, hx173_1, hx173_2, hx173_3, hx173_4, hx173_5, hx173_6, hx173_7, hx173_8, hx173_9, hx173_10, hx173_11, hx173_12, hl173_8, hi173_8, hl173_11, hi173_11, hl173_12, hi173_12⟩ := at_T37 HR0.out x5_1 p173 q173
                                    obtain rfl : ad169 = ad173 := (by injection e173)
                                    have HR173_8 := Aside0.mk hi173_8
                                    have HC173_8 := Aside0.mk hl173_8
                                    clear hi173_8 hl173_8
                                    have HR173_11 := Aside0.mk hi173_11
                                    have HC173_11 := Aside0.mk hl173_11
                                    clear hi173_11 hl173_11
                                    have HR173_12 := Aside0.mk hi173_12
                                    have HC173_12 := Aside0.mk hl173_12
                                    clear hi173_12 hl173_12
                                    replace p173 := eq_true p173
                                    replace q173 := eq_true q173
                                    have ea_ := Option.some.inj (hx169_8.symm.trans hx173_8)
                                    injection ea_ with ea_ en_ ec_
                                    subst ea_
                                    subst ec_
                                    clear en_
                                    have ea_ := Option.some.inj (hx169_11.symm.trans hx173_11)
                                    injection ea_ with ea_ en_ ec_
                                    subst ea_
                                    subst ec_
                                    clear en_
                                    have ea_ := Option.some.inj (hx169_12.symm.trans hx173_12)
                                    injection ea_ with ea_ en_ ec_
                                    subst ea_
                                    subst ec_
                                    clear en_
                                    have p174 : 0 ≤ (x5_1 : Int) := of_decide_eq_true (by first | (with_reducible assumption) | assumption)
                                    have q174 : x5_1 < (l0.length : Int) := of_decide_eq_true (by first | (with_reducible assumption) | assumption)
                                    obtain ⟨ad174, A174_8, c174_8, A174_11, c174_11, A174_12, c174_12, e174, hx174_0, hx174_1, hx174_2, hx174_3, hx174_4, hx174_5, hx174_6, hx174_7, hx174_8, hx174_9, hx174_10, hx174_11, hx174_12, hl174_8, hi174_8, hl174_11, hi174_11, hl174_12, hi174_12⟩ := at_T37 HR0.out x5_1 p174 q174
                                    obtain rfl : ad169 = ad174 := (by injection e174)
                                    have HR174_8 := Aside0.mk hi174_8
                                    have HC174_8 := Aside0.mk hl174_8
                                    clear hi174_8 hl174_8
                                    have HR174_11 := Aside0.mk hi174_11
                                    have HC174_11 := Aside0.mk hl174_11
                                    clear hi174_11 hl174_11
                                    have HR174_12 := Aside0.mk hi174_12
                                    have HC174_12 := Aside0.mk hl174_12
                                    clear hi174_12 hl174_12
                                    replace p174 := eq_true p174
                                    replace q174 := eq_true q174
                                    have ea_ := Option.some.inj (hx169_8.symm.trans hx174_8)
                                    injection ea_ with ea_ en_ ec_
                                    subst ea_
                                    subst ec_
                                    clear en_
                                    have ea_ := Option.some.inj (hx169_11.symm.trans hx174_11)
                                    injection ea_ with ea_ en_ ec_
                                    subst ea_
                                    subst ec_
                                    clear en_
                                    have ea_ := Option.some.inj (hx169_12.symm.trans hx174_12)
                                    injection ea_ with ea_ en_ ec_
                                    subst ea_
                                    subst ec_
                                    clear en_
                                    have p175 : 0 ≤ (x5_1 : Int) := of_decide_eq_true (by first | (with_reducible assumption) | assumption)
                                    have q175 : x5_1 < (l0.length : Int) := of_decide_eq_true (by first | (with_reducible assumption) | assumption)
                                    obtain ⟨ad175, A175_8, c175_8, A175_11, c175_11, A175_12, c175_12, e175, hx175_0, hx175_1, hx175_2, hx175_3, hx175_4, hx175_5, hx175_6, hx175_7, hx175_8, hx175_9, hx175_10, hx175_11, hx175_12, hl175_8, hi175_8, hl175_11, hi175_11, hl175_12, hi175_12⟩ := at_T37 HR0.out x5_1 p175 q175
                                    obtain rfl : ad169 = ad175 := (by injection e175)
                                    have HR175_8 := Aside0.mk hi175_8
                                    have HC175_8 := Aside0.mk hl175_8
                                    clear hi175_8 hl175_8
                                    have HR175_11 := Aside0.mk hi175_11
                                    have HC175_11 := Aside0.mk hl175_11
                                    clear hi175_11 hl175_11
                                    have HR175_12 := Aside0.mk hi175_12
                                    have HC175_12 := Aside0.mk hl175_12
                                    clear hi175_12 hl175_12
                                    replace p175 := eq_true p175
                                    replace q175 := eq_true q175
                                    have ea_ := Option.some.inj (hx169_8.symm.trans hx175_8)
                                    injection ea_ with ea_ en_ ec_
                                    subst ea_
                                    subst ec_
                                    clear en_
                                    have ea_ := Option.some.inj (hx169_11.symm.trans hx175_11)
                                    injection ea_ with ea_ en_ ec_
                                    subst ea_
                                    subst ec_
                                    clear en_
                                    have ea_ := Option.some.inj (hx169_12.symm.trans hx175_12)
                                    injection ea_ with ea_ en_ ec_
                                    subst ea_
                                    subst ec_
                                    clear en_
                                    have p176 : 0 ≤ (x5_1 : Int) := of_decide_eq_true (by first | (with_reducible assumption) | assumption)
                                    have q176 : x5_1 < (l0.length : Int) := of_decide_eq_true (by first | (with_reducible assumption) | assumption)
                                    obtain ⟨ad176, A176_8, c176_8, A176_11, c176_11, A176_12, c176_12, e176, hx176_0, hx176_1, hx176_2, hx176_3, hx176_4, hx176_5, hx176_6, hx176_7, hx176_8, hx176_9, hx176_10, hx176_11, hx176_12, hl176_8, hi176_8, hl176_11, hi176_11, hl176_12, hi176_12⟩ := at_T37 HR0.out x5_1 p176 q176
                                    obtain rfl : ad169 = ad176 := (by injection e176)
                                    have HR176_8 := Aside0.mk hi176_8
                                    have HC176_8 := Aside0.mk hl176_8
                                    clear hi176_8 hl176_8
                                    have HR176_11 := Aside0.mk hi176_11
                                    have HC176_11 := Aside0.mk hl176_11
                                    clear hi176_11 hl176_11
                                    have HR176_12 := Aside0.mk hi176_12
                                    have HC176_12 := Aside0.mk hl176_12
                                    clear hi176_12 hl176_12
                                    replace p176 := eq_true p176
                                    replace q176 := eq_true q176
                                    have ea_ := Option.some.inj (hx169_8.symm.trans hx176_8)
                                    injection ea_ with ea_ en_ ec_
                                    subst ea_
                                    subst ec_
                                    clear en_
                                    have ea_ := Option.some.inj (hx169_11.symm.trans hx176_11)
                                    injection ea_ with ea_ en_ ec_
                                    subst ea_
                                    subst ec_
                                    clear en_
                                    have ea_ := Option.some.inj (hx169_12.symm.trans hx176_12)
                                    injection ea_ with ea_ en_ ec_
                                    subst ea_
                                    subst ec_
                                    clear en_
                                    have p177 : 0 ≤ (x5_1 : Int) := of_decide_eq_true (by first | (with_reducible assumption) | assumption)
                                    have q177 : x5_1 < (l0.length : Int) := of_decide_eq_true (by first | (with_reducible assumption) | assumption)
                                    obtain ⟨ad177, A177_8, c177_8, A177_11, c177_11, A177_12, c177_12, e177, hx177_0, hx177_1, hx177_2, hx177_3, hx177_4, hx177_5, hx177_6, hx177_7, hx177_8, hx177_9, hx177_10, hx177_11, hx177_12, hl177_8, hi177_8, hl177_11, hi177_11, hl177_12, hi177_12⟩ := at_T37 HR0.out x5_1 p177 q177
                                    obtain rfl : ad169 = ad177 := (by injection e177)
                                    have HR177_8 := Aside0.mk hi177_8
                                    have HC177_8 := Aside0.mk hl177_8
                                    clear hi177_8 hl177_8
                                    have HR177_11 := Aside0.mk hi177_11
                                    have HC177_11 := Aside0.mk hl177_11
                                    clear hi177_11 hl177_11
                                    have HR177_12 := Aside0.mk hi177_12
                                    have HC177_12 := Aside0.mk hl177_12
                                    clear hi177_12 hl177_12
                                    replace p177 := eq_true p177
                                    replace q177 := eq_true q177
                                    have ea_ := Option.some.inj (hx169_8.symm.trans hx177_8)
                                    injection ea_ with ea_ en_ ec_
                                    subst ea_
                                    subst ec_
                                    clear en_
                                    have ea_ := Option.some.inj (hx169_11.symm.trans hx177_11)
                                    injection ea_ with ea_ en_ ec_
                                    subst ea_
                                    subst ec_
                                    clear en_
                                    have ea_ := Option.some.inj (hx169_12.symm.trans hx177_12)
                                    injection ea_ with ea_ en_ ec_
                                    subst ea_
                                    subst ec_
                                    clear en_
                                    go_wp2_with (first | ((with_reducible refine gate_callee (f := 39) rfl ?_); refine goesL_ (some 90) rfl rfl Try.func39 (by kernel_rfl) rfl #[.slice A169_8 ((rd_T37 l0 x5_1).f8).length c169_8, .int .i64 (wrap64 ((wrap64 ((wrap64 ((wrap64 ((wrap64 ((wrap64 ((wrap64 ((wrap64 (x1_1 + 1)) + 1)) + 1)) + 1)) + 1)) + 1)) + 1)) + 1))] rfl (by (try simp only [List.map_toArray, List.map_cons, List.map_nil]); first | done | rfl | (simp only [List.length_drop, List.length_take]; rfl)) ?_; (with_reducible refine (laws_heldIntS.calls k1 _ _ ((rd_T37 l0 x5_1).f8) (wrap64 ((wrap64 ((wrap64 ((wrap64 ((wrap64 ((wrap64 ((wrap64 ((wrap64 (x1_1 + 1)) + 1)) + 1)) + 1)) + 1)) + 1)) + 1)) + 1)) t178 _ ?side1 ?side2 A13.out).mono ?_); (case side1 => repeat (first | exact HR177_8.out | (with_reducible refine Kd.C_alloc ?_ _) | (with_reducible refine Kd.C_drewN ?_ _) | (with_reducible refine Kd.C_drew ?_))); (case side2 => exact HC177_8.out); rintro e w' ⟨rfl, ⟨nd, rfl⟩⟩; refine ⟨_, rfl, ?_⟩; have p179 : 0 ≤ (x5_1 : Int) := of_decide_eq_true (by first | (with_reducible assumption) | assumption); have q179 : x5_1 < (l0.length : Int) := of_decide_eq_true (by first | (with_reducible assumption) | assumption); obtain ⟨ad179, A179_8, c179_8, A179_11, c179_11, A179_12, c179_12, e179, hx179_0, hx179_1, hx179_2, hx179_3, hx179_4, hx179_5, hx179_6, hx179_7, hx179_8, hx179_9, hx179_10, hx179_11, hx179_12, hl179_8, hi179_8, hl179_11, hi179_11, hl179_12, hi179_12⟩ := at_T37 HR0.out x5_1 p179 q179; obtain rfl : ad169 = ad179 := (by injection e179); have HR179_8 := Aside0.mk hi179_8; have HC179_8 := Aside0.mk hl179_8; clear hi179_8 hl179_8; have HR179_11 := Aside0.mk hi179_11; have HC179_11 := Aside0.mk hl179_11; clear hi179_11 hl179_11; have HR179_12 := Aside0.mk hi179_12; have HC179_12 := Aside0.mk hl179_12; clear hi179_12 hl179_12; replace p179 := eq_true p179; replace q179 := eq_true q179; have ea_ := Option.some.inj (hx169_8.symm.trans hx179_8); injection ea_ with ea_ en_ ec_; subst ea_; subst ec_; clear en_; have ea_ := Option.some.inj (hx169_11.symm.trans hx179_11); injection ea_ with ea_ en_ ec_; subst ea_; subst ec_; clear en_; have ea_ := Option.some.inj (hx169_12.symm.trans hx179_12); injection ea_ with ea_ en_ ec_; subst ea_; subst ec_; clear en_; have p180 : 0 ≤ (x5_1 : Int) := of_decide_eq_true (by first | (with_reducible assumption) | assumption); have q180 : x5_1 < (l0.length : Int) := of_decide_eq_true (by first | (with_reducible assumption) | assumption); obtain ⟨ad180, A180_8, c180_8, A180_11, c180_11, A180_12, c180_12, e180, hx180_0, hx180_1, hx180_2, hx180_3, hx180_4, hx180_5, hx180_6, hx180_7, hx180_8, hx180_9, hx180_10, hx180_11, hx180_12, hl180_8, hi180_8, hl180_11, hi180_11, hl180_12, hi180_12⟩ := at_T37 HR0.out x5_1 p180 q180; obtain rfl : ad169 = ad180 := (by injection e180); have HR180_8 := Aside0.mk hi180_8; have HC180_8 := Aside0.mk hl180_8; clear hi180_8 hl180_8; have HR180_11 := Aside0.mk hi180_11; have HC180_11 := Aside0.mk hl180_11; clear hi180_11 hl180_11; have HR180_12 := Aside0.mk hi180_12; have HC180_12 := Aside0.mk hl180_12; clear hi180_12 hl180_12; replace p180 := eq_true p180; replace q180 := eq_true q180; have ea_ := Option.some.inj (hx169_8.symm.trans hx180_8); injection ea_ with ea_ en_ ec_; subst ea_; subst ec_; clear en_; have ea_ := Option.some.inj (hx169_11.symm.trans hx180_11); injection ea_ with ea_ en_ ec_; subst ea_; subst ec_; clear en_; have ea_ := Option.some.inj (hx169_12.symm.trans hx180_12); injection ea_ with ea_ en_ ec_; subst ea_; subst ec_; clear en_; have p181 : 0 ≤ (x5_1 : Int) := of_decide_eq_true (by first | (with_reducible assumption) | assumption); have q181 : x5_1 < (l0.length : Int) := of_decide_eq_true (by first | (with_reducible assumption) | assumption); obtain ⟨ad181, A181_8, c181_8, A181_11, c181_11, A181_12, c181_12, e181, hx181_0, hx181_1, hx181_2, hx181_3, hx181_4, hx181_5, hx181_6, hx181_7, hx181_8, hx181_9, hx181_10, hx181_11, hx181_12, hl181_8, hi181_8, hl181_11, hi181_11, hl181_12, hi181_12⟩ := at_T37 HR0.out x5_1 p181 q181; obtain rfl : ad169 = ad181 := (by injection e181); have HR181_8 := Aside0.mk hi181_8; have HC181_8 := Aside0.mk hl181_8; clear hi181_8 hl181_8; have HR181_11 := Aside0.mk hi181_11; have HC181_11 := Aside0.mk hl181_11; clear hi181_11 hl181_11; have HR181_12 := Aside0.mk hi181_12; have HC181_12 := Aside0.mk hl181_12; clear hi181_12 hl181_12; replace p181 := eq_true p181; replace q181 := eq_true q181; have ea_ := Option.some.inj (hx169_8.symm.trans hx181_8); injection ea_ with ea_ en_ ec_; subst ea_; subst ec_; clear en_; have ea_ := Option.some.inj (hx169_11.symm.trans hx181_11); injection ea_ with ea_ en_ ec_; subst ea_; subst ec_; clear en_; have ea_ := Option.some.inj (hx169_12.symm.trans hx181_12); injection ea_ with ea_ en_ ec_; subst ea_; subst ec_; clear en_) | ((with_reducible refine gate_callee (f := 97) rfl ?_); refine goesL_ (some 117) rfl rfl Try.func97 (by kernel_rfl) rfl #[.slice A169_11 ((rd_T37 l0 x5_1).f11).length c169_11, .int .i64 (wrap64 ((wrap64 (t178 + 1)) + 1))] rfl (by (try simp only [List.map_toArray, List.map_cons, List.map_nil]); first | done | rfl | (simp only [List.length_drop, List.length_take]; rfl)) ?_; (with_reducible refine (laws_heldThingS.calls k1 _ _ ((rd_T37 l0 x5_1).f11) (wrap64 ((wrap64 (t178 + 1)) + 1)) t182 _ ?side1 ?side2 A17.out).mono ?_); (case side1 => repeat (first | exact HR181_11.out | (with_reducible refine Kd.C_alloc ?_ _) | (with_reducible refine Kd.C_drewN ?_ _) | (with_reducible refine Kd.C_drew ?_))); (case side2 => exact HC181_11.out); rintro e w' ⟨rfl, ⟨nd, rfl⟩⟩; refine ⟨_, rfl, ?_⟩; have p183 : 0 ≤ (x5_1 : Int) := of_decide_eq_true (by first | (with_reducible assumption) | assumption); have q183 : x5_1 < (l0.length : Int) := of_decide_eq_true (by first | (with_reducible assumption) | assumption); obtain ⟨ad183, A183_8, c183_8, A183_11, c183_11, A183_12, c183_12, e183, hx183_0, hx183_1, hx183_2, hx183_3, hx183_4, hx183_5, hx183_6, hx183_7, hx183_8, hx183_9, hx183_10, hx183_11, hx183_12, hl183_8, hi183_8, hl183_11, hi183_11, hl183_12, hi183_12⟩ := at_T37 HR0.out x5_1 p183 q183; obtain rfl : ad169 = ad183 := (by injection e183); have HR183_8 := Aside0.mk hi183_8; have HC183_8 := Aside0.mk hl183_8; clear hi183_8 hl183_8; have HR183_11 := Aside0.mk hi183_11; have HC183_11 := Aside0.mk hl183_11; clear hi183_11 hl183_11; have HR183_12 := Aside0.mk hi183_12; have HC183_12 := Aside0.mk hl183_12; clear hi183_12 hl183_12; replace p183 := eq_true p183; replace q183 := eq_true q183; have ea_ := Option.some.inj (hx169_8.symm.trans hx183_8); injection ea_ with ea_ en_ ec_; subst ea_; subst ec_; clear en_; have ea_ := Option.some.inj (hx169_11.symm.trans hx183_11); injection ea_ with ea_ en_ ec_; subst ea_; subst ec_; clear en_; have ea_ := Option.some.inj (hx169_12.symm.trans hx183_12); injection ea_ with ea_ en_ ec_; subst ea_; subst ec_; clear en_) | ((with_reducible refine gate_callee (f := 39) rfl ?_); refine goesL_ (some 126) rfl rfl Try.func39 (by kernel_rfl) rfl #[.slice A169_12 ((rd_T37 l0 x5_1).f12).length c169_12, .int .i64 t182] rfl (by (try simp only [List.map_toArray, List.map_cons, List.map_nil]); first | done | rfl | (simp only [List.length_drop, List.length_take]; rfl)) ?_; (with_reducible refine (laws_heldIntS.calls k1 _ _ ((rd_T37 l0 x5_1).f12) t182 t184 _ ?side1 ?side2 A19.out).mono ?_); (case side1 => repeat (first | exact HR183_12.out | (with_reducible refine Kd.C_alloc ?_ _) | (with_reducible refine Kd.C_drewN ?_ _) | (with_reducible refine Kd.C_drew ?_))); (case side2 => exact HC183_12.out); rintro e w' ⟨rfl, ⟨nd, rfl⟩⟩; refine ⟨_, rfl, ?_⟩))
                                    go_ret
                                    exact ⟨by first | rfl | (simp; done) | (simp [*]; done), by repeat (first | exact Drawn0.refl _ | apply Drawn0.step)⟩
                                  · rw [if_neg c20] at H
                                    have c20b0 : decide (t184 < 0) = false := decide_eq_false c20
                                    clear c20
                                    have H' := Aside0.mk H
                                    clear H
                                    have p169 : 0 ≤ (x5_1 : Int) := of_decide_eq_true (by first | (with_reducible assumption) | assumption)
                                    have q169 : x5_1 < (l0.length : Int) := of_decide_eq_true (by first | (with_reducible assumption) | assumption)
                                    obtain ⟨ad169, A169_8, c169_8, A169_11, c169_11, A169_12, c169_12, e169, hx169_0, hx169_1, hx169_2, hx169_3, hx169_4, hx169_5, hx169_6, hx169_7, hx169_8, hx169_9, hx169_10, hx169_11, hx169_12, hl169_8, hi169_8, hl169_11, hi169_11, hl169_12, hi169_12⟩ := at_T37 HR0.out x5_1 p169 q169
                                    cases e169
                                    have HR169_8 := Aside0.mk hi169_8
                                    have HC169_8 := Aside0.mk hl169_8
                                    clear hi169_8 hl169_8
                                    have HR169_11 := Aside0.mk hi169_11
                                    have HC169_11 := Aside0.mk hl169_11
                                    clear hi169_11 hl169_11
                                    have HR169_12 := Aside0.mk hi169_12
                                    have HC169_12 := Aside0.mk hl169_12
                                    clear hi169_12 hl169_12
                                    replace p169 := eq_true p169
                                    replace q169 := eq_true q169
                                    have p170 : 0 ≤ (x5_1 : Int) := of_decide_eq_true (by first | (with_reducible assumption) | assumption)
                                    have q170 : x5_1 < (l0.length : Int) := of_decide_eq_true (by first | (with_reducible assumption) | assumption)
                                    obtain ⟨ad170, A170_8, c170_8, A170_11, c170_11, A170_12, c170_12, e170, hx170_0, hx170_1, hx170_2, hx170_3, hx170_4, hx170_5, hx170_6, hx170_7, hx170_8, hx170_9, hx170_10, hx170_11, hx170_12, hl170_8, hi170_8, hl170_11, hi170_11, hl170_12, hi170_12⟩ := at_T37 HR0.out x5_1 p170 q170
                                    obtain rfl : ad169 = ad170 := (by injection e170)
                                    have HR170_8 := Aside0.mk hi170_8
                                    have HC170_8 := Aside0.mk hl170_8
                                    clear hi170_8 hl170_8
                                    have HR170_11 := Aside0.mk hi170_11
                                    have HC170_11 := Aside0.mk hl170_11
                                    clear hi170_11 hl170_11
                                    have HR170_12 := Aside0.mk hi170_12
                                    have HC170_12 := Aside0.mk hl170_12
                                    clear hi170_12 hl170_12
                                    replace p170 := eq_true p170
                                    replace q170 := eq_true q170
                                    have ea_ := Option.some.inj (hx169_8.symm.trans hx170_8)
                                    injection ea_ with ea_ en_ ec_
                                    subst ea_
                                    subst ec_
                                    clear en_
                                    have ea_ := Option.some.inj (hx169_11.symm.trans hx170_11)
                                    injection ea_ with ea_ en_ ec_
                                    subst ea_
                                    subst ec_
                                    clear en_
                                    have ea_ := Option.some.inj (hx169_12.symm.trans hx170_12)
                                    injection ea_ with ea_ en_ ec_
                                    subst ea_
                                    subst ec_
                                    clear en_
                                    have p171 : 0 ≤ (x5_1 : Int) := of_decide_eq_true (by first | (with_reducible assumption) | assumption)
                                    have q171 : x5_1 < (l0.length : Int) := of_decide_eq_true (by first | (with_reducible assumption) | assumption)
                                    obtain ⟨ad171, A171_8, c171_8, A171_11, c171_11, A171_12, c171_12, e171, hx171_0, hx171_1, hx171_2, hx171_3, hx171_4, hx171_5, hx171_6, hx171_7, hx171_8, hx171_9, hx171_10, hx171_11, hx171_12, hl171_8, hi171_8, hl171_11, hi171_11, hl171_12, hi171_12⟩ := at_T37 HR0.out x5_1 p171 q171
                                    obtain rfl : ad169 = ad171 := (by injection e171)
                                    have HR171_8 := Aside0.mk hi171_8
                                    have HC171_8 := Aside0.mk hl171_8
                                    clear hi171_8 hl171_8
                                    have HR171_11 := Aside0.mk hi171_11
                                    have HC171_11 := Aside0.mk hl171_11
                                    clear hi171_11 hl171_11
                                    have HR171_12 := Aside0.mk hi171_12
                                    have HC171_12 := Aside0.mk hl171_12
                                    clear hi171_12 hl171_12
                                    replace p171 := eq_true p171
                                    replace q171 := eq_true q171
                                    have ea_ := Option.some.inj (hx169_8.symm.trans hx171_8)
                                    injection ea_ with ea_ en_ ec_
                                    subst ea_
                                    subst ec_
                                    clear en_
                                    have ea_ := Option.some.inj (hx169_11.symm.trans hx171_11)
                                    injection ea_ with ea_ en_ ec_
                                    subst ea_
                                    subst ec_
                                    clear en_
                                    have ea_ := Option.some.inj (hx169_12.symm.trans hx171_12)
                                    injection ea_ with ea_ en_ ec_
                                    subst ea_
                                    subst ec_
                                    clear en_
                                    have p172 : 0 ≤ (x5_1 : Int) := of_decide_eq_true (by first | (with_reducible assumption) | assumption)
                                    have q172 : x5_1 < (l0.length : Int) := of_decide_eq_true (by first | (with_reducible assumption) | assumption)
                                    obtain ⟨ad172, A172_8, c172_8, A172_11, c172_11, A172_12, c172_12, e172, hx172_0, hx172_1, hx172_2, hx172_3, hx172_4, hx172_5, hx172_6, hx172_7, hx172_8, hx172_9, hx172_10, hx172_11, hx172_12, hl172_8, hi172_8, hl172_11, hi172_11, hl172_12, hi172_12⟩ := at_T37 HR0.out x5_1 p172 q172
                                    obtain rfl : ad169 = ad172 := (by injection e172)
                                    have HR172_8 := Aside0.mk hi172_8
                                    have HC172_8 := Aside0.mk hl172_8
                                    clear hi172_8 hl172_8
                                    have HR172_11 := Aside0.mk hi172_11
                                    have HC172_11 := Aside0.mk hl172_11
                                    clear hi172_11 hl172_11
                                    have HR172_12 := Aside0.mk hi172_12
                                    have HC172_12 := Aside0.mk hl172_12
                                    clear hi172_12 hl172_12
                                    replace p172 := eq_true p172
                                    replace q172 := eq_true q172
                                    have ea_ := Option.some.inj (hx169_8.symm.trans hx172_8)
                                    injection ea_ with ea_ en_ ec_
                                    subst ea_
                                    subst ec_
                                    clear en_
                                    have ea_ := Option.some.inj (hx169_11.symm.trans hx172_11)
                                    injection ea_ with ea_ en_ ec_
                                    subst ea_
                                    subst ec_
                                    clear en_
                                    have ea_ := Option.some.inj (hx169_12.symm.trans hx172_12)
                                    injection ea_ with ea_ en_ ec_
                                    subst ea_
                                    subst ec_
                                    clear en_
                                    have p173 : 0 ≤ (x5_1 : Int) := of_decide_eq_true (by first | (with_reducible assumption) | assumption)
                                    have q173 : x5_1 < (l0.length : Int) := of_decide_eq_true (by first | (with_reducible assumption) | assumption)
                                    obtain ⟨ad173, A173_8, c173_8, A173_11, c173_11, A173_12, c173_12, e173, hx173_0, hx173_1, hx173_2, hx173_3, hx173_4, hx173_5, hx173_6, hx173_7, hx173_8, hx173_9, hx173_10, hx173_11, hx173_12, hl173_8, hi173_8, hl173_11, hi173_11, hl173_12, hi173_12⟩ := at_T37 HR0.out x5_1 p173 q173
                                    obtain rfl : ad169 = ad173 := (by injection e173)
                                    have HR173_8 := Aside0.mk hi173_8
                                    have HC173_8 := Aside0.mk hl173_8
                                    clear hi173_8 hl173_8
                                    have HR173_11 := Aside0.mk hi173_11
                                    have HC173_11 := Aside0.mk hl173_11
                                    clear hi173_11 hl173_11
                                    have HR173_12 := Aside0.mk hi173_12
                                    have HC173_12 := Aside0.mk hl173_12
                                    clear hi173_12 hl173_12
                                    replace p173 := eq_true p173
                                    replace q173 := eq_true q173
                                    have ea_ := Option.some.inj (hx169_8.symm.trans hx173_8)
                                    injection ea_ with ea_ en_ ec_
                                    subst ea_
                                    subst ec_
                                    clear en_
                                    have ea_ := Option.some.inj (hx169_11.symm.trans hx173_11)
                                    injection ea_ with ea_ en_ ec_
                                    subst ea_
                                    subst ec_
                                    clear en_
                                    have ea_ := Option.some.inj (hx169_12.symm.trans hx173_12)
                                    injection ea_ with ea_ en_ ec_
                                    subst ea_
                                    subst ec_
                                    clear en_
                                    have p174 : 0 ≤ (x5_1 : Int) := of_decide_eq_true (by first | (with_reducible assumption) | assumption)
                                    have q174 : x5_1 < (l0.length : Int) := of_decide_eq_true (by first | (with_reducible assumption) | assumption)
                                    obtain ⟨ad174, A174_8, c174_8, A174_11, c174_11, A174_12, c174_12, e174, hx174_0, hx174_1, hx174_2, hx174_3, hx174_4, hx174_5, hx174_6, hx174_7, hx174_8, hx174_9, hx174_10, hx174_11, hx174_12, hl174_8, hi174_8, hl174_11, hi174_11, hl174_12, hi174_12⟩ := at_T37 HR0.out x5_1 p174 q174
                                    obtain rfl : ad169 = ad174 := (by injection e174)
                                    have HR174_8 := Aside0.mk hi174_8
                                    have HC174_8 := Aside0.mk hl174_8
                                    clear hi174_8 hl174_8
                                    have HR174_11 := Aside0.mk hi174_11
                                    have HC174_11 := Aside0.mk hl174_11
                                    clear hi174_11 hl174_11
                                    have HR174_12 := Aside0.mk hi174_12
                                    have HC174_12 := Aside0.mk hl174_12
                                    clear hi174_12 hl174_12
                                    replace p174 := eq_true p174
                                    replace q174 := eq_true q174
                                    have ea_ := Option.some.inj (hx169_8.symm.trans hx174_8)
                                    injection ea_ with ea_ en_ ec_
                                    subst ea_
                                    subst ec_
                                    clear en_
                                    have ea_ := Option.some.inj (hx169_11.symm.trans hx174_11)
                                    injection ea_ with ea_ en_ ec_
                                    subst ea_
                                    subst ec_
                                    clear en_
                                    have ea_ := Option.some.inj (hx169_12.symm.trans hx174_12)
                                    injection ea_ with ea_ en_ ec_
                                    subst ea_
                                    subst ec_
                                    clear en_
                                    have p175 : 0 ≤ (x5_1 : Int) := of_decide_eq_true (by first | (with_reducible assumption) | assumption)
                                    have q175 : x5_1 < (l0.length : Int) := of_decide_eq_true (by first | (with_reducible assumption) | assumption)
                                    obtain ⟨ad175, A175_8, c175_8, A175_11, c175_11, A175_12, c175_12, e175, hx175_0, hx175_1, hx175_2, hx175_3, hx175_4, hx175_5, hx175_6, hx175_7, hx175_8, hx175_9, hx175_10, hx175_11, hx175_12, hl175_8, hi175_8, hl175_11, hi175_11, hl175_12, hi175_12⟩ := at_T37 HR0.out x5_1 p175 q175
                                    obtain rfl : ad169 = ad175 := (by injection e175)
                                    have HR175_8 := Aside0.mk hi175_8
                                    have HC175_8 := Aside0.mk hl175_8
                                    clear hi175_8 hl175_8
                                    have HR175_11 := Aside0.mk hi175_11
                                    have HC175_11 := Aside0.mk hl175_11
                                    clear hi175_11 hl175_11
                                    have HR175_12 := Aside0.mk hi175_12
                                    have HC175_12 := Aside0.mk hl175_12
                                    clear hi175_12 hl175_12
                                    replace p175 := eq_true p175
                                    replace q175 := eq_true q175
                                    have ea_ := Option.some.inj (hx169_8.symm.trans hx175_8)
                                    injection ea_ with ea_ en_ ec_
                                    subst ea_
                                    subst ec_
                                    clear en_
                                    have ea_ := Option.some.inj (hx169_11.symm.trans hx175_11)
                                    injection ea_ with ea_ en_ ec_
                                    subst ea_
                                    subst ec_
                                    clear en_
                                    have ea_ := Option.some.inj (hx169_12.symm.trans hx175_12)
                                    injection ea_ with ea_ en_ ec_
                                    subst ea_
                                    subst ec_
                                    clear en_
                                    have p176 : 0 ≤ (x5_1 : Int) := of_decide_eq_true (by first | (with_reducible assumption) | assumption)
                                    have q176 : x5_1 < (l0.length : Int) := of_decide_eq_true (by first | (with_reducible assumption) | assumption)
                                    obtain ⟨ad176, A176_8, c176_8, A176_11, c176_11, A176_12, c176_12, e176, hx176_0, hx176_1, hx176_2, hx176_3, hx176_4, hx176_5, hx176_6, hx176_7, hx176_8, hx176_9, hx176_10, hx176_11, hx176_12, hl176_8, hi176_8, hl176_11, hi176_11, hl176_12, hi176_12⟩ := at_T37 HR0.out x5_1 p176 q176
                                    obtain rfl : ad169 = ad176 := (by injection e176)
                                    have HR176_8 := Aside0.mk hi176_8
                                    have HC176_8 := Aside0.mk hl176_8
                                    clear hi176_8 hl176_8
                                    have HR176_11 := Aside0.mk hi176_11
                                    have HC176_11 := Aside0.mk hl176_11
                                    clear hi176_11 hl176_11
                                    have HR176_12 := Aside0.mk hi176_12
                                    have HC176_12 := Aside0.mk hl176_12
                                    clear hi176_12 hl176_12
                                    replace p176 := eq_true p176
                                    replace q176 := eq_true q176
                                    have ea_ := Option.some.inj (hx169_8.symm.trans hx176_8)
                                    injection ea_ with ea_ en_ ec_
                                    subst ea_
                                    subst ec_
                                    clear en_
                                    have ea_ := Option.some.inj (hx169_11.symm.trans hx176_11)
                                    injection ea_ with ea_ en_ ec_
                                    subst ea_
                                    subst ec_
                                    clear en_
                                    have ea_ := Option.some.inj (hx169_12.symm.trans hx176_12)
                                    injection ea_ with ea_ en_ ec_
                                    subst ea_
                                    subst ec_
                                    clear en_
                                    have p177 : 0 ≤ (x5_1 : Int) := of_decide_eq_true (by first | (with_reducible assumption) | assumption)
                                    have q177 : x5_1 < (l0.length : Int) := of_decide_eq_true (by first | (with_reducible assumption) | assumption)
                                    obtain ⟨ad177, A177_8, c177_8, A177_11, c177_11, A177_12, c177_12, e177, hx177_0, hx177_1, hx177_2, hx177_3, hx177_4, hx177_5, hx177_6, hx177_7, hx177_8, hx177_9, hx177_10, hx177_11, hx177_12, hl177_8, hi177_8, hl177_11, hi177_11, hl177_12, hi177_12⟩ := at_T37 HR0.out x5_1 p177 q177
                                    obtain rfl : ad169 = ad177 := (by injection e177)
                                    have HR177_8 := Aside0.mk hi177_8
                                    have HC177_8 := Aside0.mk hl177_8
                                    clear hi177_8 hl177_8
                                    have HR177_11 := Aside0.mk hi177_11
                                    have HC177_11 := Aside0.mk hl177_11
                                    clear hi177_11 hl177_11
                                    have HR177_12 := Aside0.mk hi177_12
                                    have HC177_12 := Aside0.mk hl177_12
                                    clear hi177_12 hl177_12
                                    replace p177 := eq_true p177
                                    replace q177 := eq_true q177
                                    have ea_ := Option.some.inj (hx169_8.symm.trans hx177_8)
                                    injection ea_ with ea_ en_ ec_
                                    subst ea_
                                    subst ec_
                                    clear en_
                                    have ea_ := Option.some.inj (hx169_11.symm.trans hx177_11)
                                    injection ea_ with ea_ en_ ec_
                                    subst ea_
                                    subst ec_
                                    clear en_
                                    have ea_ := Option.some.inj (hx169_12.symm.trans hx177_12)
                                    injection ea_ with ea_ en_ ec_
                                    subst ea_
                                    subst ec_
                                    clear en_
                                    go_wp2_with (first | ((with_reducible refine gate_callee (f := 39) rfl ?_); refine goesL_ (some 90) rfl rfl Try.func39 (by kernel_rfl) rfl #[.slice A169_8 ((rd_T37 l0 x5_1).f8).length c169_8, .int .i64 (wrap64 ((wrap64 ((wrap64 ((wrap64 ((wrap64 ((wrap64 ((wrap64 ((wrap64 (x1_1 + 1)) + 1)) + 1)) + 1)) + 1)) + 1)) + 1)) + 1))] rfl (by (try simp only [List.map_toArray, List.map_cons, List.map_nil]); first | done | rfl | (simp only [List.length_drop, List.length_take]; rfl)) ?_; (with_reducible refine (laws_heldIntS.calls k1 _ _ ((rd_T37 l0 x5_1).f8) (wrap64 ((wrap64 ((wrap64 ((wrap64 ((wrap64 ((wrap64 ((wrap64 ((wrap64 (x1_1 + 1)) + 1)) + 1)) + 1)) + 1)) + 1)) + 1)) + 1)) t178 _ ?side1 ?side2 A13.out).mono ?_); (case side1 => repeat (first | exact HR177_8.out | (with_reducible refine Kd.C_alloc ?_ _) | (with_reducible refine Kd.C_drewN ?_ _) | (with_reducible refine Kd.C_drew ?_))); (case side2 => exact HC177_8.out); rintro e w' ⟨rfl, ⟨nd, rfl⟩⟩; refine ⟨_, rfl, ?_⟩; have p179 : 0 ≤ (x5_1 : Int) := of_decide_eq_true (by first | (with_reducible assumption) | assumption); have q179 : x5_1 < (l0.length : Int) := of_decide_eq_true (by first | (with_reducible assumption) | assumption); obtain ⟨ad179, A179_8, c179_8, A179_11, c179_11, A179_12, c179_12, e179, hx179_0, hx179_1, hx179_2, hx179_3, hx179_4, hx179_5, hx179_6, hx179_7, hx179_8, hx179_9, hx179_10, hx179_11, hx179_12, hl179_8, hi179_8, hl179_11, hi179_11, hl179_12, hi179_12⟩ := at_T37 HR0.out x5_1 p179 q179; obtain rfl : ad169 = ad179 := (by injection e179); have HR179_8 := Aside0.mk hi179_8; have HC179_8 := Aside0.mk hl179_8; clear hi179_8 hl179_8; have HR179_11 := Aside0.mk hi179_11; have HC179_11 := Aside0.mk hl179_11; clear hi179_11 hl179_11; have HR179_12 := Aside0.mk hi179_12; have HC179_12 := Aside0.mk hl179_12; clear hi179_12 hl179_12; replace p179 := eq_true p179; replace q179 := eq_true q179; have ea_ := Option.some.inj (hx169_8.symm.trans hx179_8); injection ea_ with ea_ en_ ec_; subst ea_; subst ec_; clear en_; have ea_ := Option.some.inj (hx169_11.symm.trans hx179_11); injection ea_ with ea_ en_ ec_; subst ea_; subst ec_; clear en_; have ea_ := Option.some.inj (hx169_12.symm.trans hx179_12); injection ea_ with ea_ en_ ec_; subst ea_; subst ec_; clear en_; have p180 : 0 ≤ (x5_1 : Int) := of_decide_eq_true (by first | (with_reducible assumption) | assumption); have q180 : x5_1 < (l0.length : Int) := of_decide_eq_true (by first | (with_reducible assumption) | assumption); obtain ⟨ad180, A180_8, c180_8, A180_11, c180_11, A180_12, c180_12, e180, hx180_0, hx180_1, hx180_2, hx180_3, hx180_4, hx180_5, hx180_6, hx180_7, hx180_8, hx180_9, hx180_10, hx180_11, hx180_12, hl180_8, hi180_8, hl180_11, hi180_11, hl180_12, hi180_12⟩ := at_T37 HR0.out x5_1 p180 q180; obtain rfl : ad169 = ad180 := (by injection e180); have HR180_8 := Aside0.mk hi180_8; have HC180_8 := Aside0.mk hl180_8; clear hi180_8 hl180_8; have HR180_11 := Aside0.mk hi180_11; have HC180_11 := Aside0.mk hl180_11; clear hi180_11 hl180_11; have HR180_12 := Aside0.mk hi180_12; have HC180_12 := Aside0.mk hl180_12; clear hi180_12 hl180_12; replace p180 := eq_true p180; replace q180 := eq_true q180; have ea_ := Option.some.inj (hx169_8.symm.trans hx180_8); injection ea_ with ea_ en_ ec_; subst ea_; subst ec_; clear en_; have ea_ := Option.some.inj (hx169_11.symm.trans hx180_11); injection ea_ with ea_ en_ ec_; subst ea_; subst ec_; clear en_; have ea_ := Option.some.inj (hx169_12.symm.trans hx180_12); injection ea_ with ea_ en_ ec_; subst ea_; subst ec_; clear en_; have p181 : 0 ≤ (x5_1 : Int) := of_decide_eq_true (by first | (with_reducible assumption) | assumption); have q181 : x5_1 < (l0.length : Int) := of_decide_eq_true (by first | (with_reducible assumption) | assumption); obtain ⟨ad181, A181_8, c181_8, A181_11, c181_11, A181_12, c181_12, e181, hx181_0, hx181_1, hx181_2, hx181_3, hx181_4, hx181_5, hx181_6, hx181_7, hx181_8, hx181_9, hx181_10, hx181_11, hx181_12, hl181_8, hi181_8, hl181_11, hi181_11, hl181_12, hi181_12⟩ := at_T37 HR0.out x5_1 p181 q181; obtain rfl : ad169 = ad181 := (by injection e181); have HR181_8 := Aside0.mk hi181_8; have HC181_8 := Aside0.mk hl181_8; clear hi181_8 hl181_8; have HR181_11 := Aside0.mk hi181_11; have HC181_11 := Aside0.mk hl181_11; clear hi181_11 hl181_11; have HR181_12 := Aside0.mk hi181_12; have HC181_12 := Aside0.mk hl181_12; clear hi181_12 hl181_12; replace p181 := eq_true p181; replace q181 := eq_true q181; have ea_ := Option.some.inj (hx169_8.symm.trans hx181_8); injection ea_ with ea_ en_ ec_; subst ea_; subst ec_; clear en_; have ea_ := Option.some.inj (hx169_11.symm.trans hx181_11); injection ea_ with ea_ en_ ec_; subst ea_; subst ec_; clear en_; have ea_ := Option.some.inj (hx169_12.symm.trans hx181_12); injection ea_ with ea_ en_ ec_; subst ea_; subst ec_; clear en_) | ((with_reducible refine gate_callee (f := 97) rfl ?_); refine goesL_ (some 117) rfl rfl Try.func97 (by kernel_rfl) rfl #[.slice A169_11 ((rd_T37 l0 x5_1).f11).length c169_11, .int .i64 (wrap64 ((wrap64 (t178 + 1)) + 1))] rfl (by (try simp only [List.map_toArray, List.map_cons, List.map_nil]); first | done | rfl | (simp only [List.length_drop, List.length_take]; rfl)) ?_; (with_reducible refine (laws_heldThingS.calls k1 _ _ ((rd_T37 l0 x5_1).f11) (wrap64 ((wrap64 (t178 + 1)) + 1)) t182 _ ?side1 ?side2 A17.out).mono ?_); (case side1 => repeat (first | exact HR181_11.out | (with_reducible refine Kd.C_alloc ?_ _) | (with_reducible refine Kd.C_drewN ?_ _) | (with_reducible refine Kd.C_drew ?_))); (case side2 => exact HC181_11.out); rintro e w' ⟨rfl, ⟨nd, rfl⟩⟩; refine ⟨_, rfl, ?_⟩; have p183 : 0 ≤ (x5_1 : Int) := of_decide_eq_true (by first | (with_reducible assumption) | assumption); have q183 : x5_1 < (l0.length : Int) := of_decide_eq_true (by first | (with_reducible assumption) | assumption); obtain ⟨ad183, A183_8, c183_8, A183_11, c183_11, A183_12, c183_12, e183, hx183_0, hx183_1, hx183_2, hx183_3, hx183_4, hx183_5, hx183_6, hx183_7, hx183_8, hx183_9, hx183_10, hx183_11, hx183_12, hl183_8, hi183_8, hl183_11, hi183_11, hl183_12, hi183_12⟩ := at_T37 HR0.out x5_1 p183 q183; obtain rfl : ad169 = ad183 := (by injection e183); have HR183_8 := Aside0.mk hi183_8; have HC183_8 := Aside0.mk hl183_8; clear hi183_8 hl183_8; have HR183_11 := Aside0.mk hi183_11; have HC183_11 := Aside0.mk hl183_11; clear hi183_11 hl183_11; have HR183_12 := Aside0.mk hi183_12; have HC183_12 := Aside0.mk hl183_12; clear hi183_12 hl183_12; replace p183 := eq_true p183; replace q183 := eq_true q183; have ea_ := Option.some.inj (hx169_8.symm.trans hx183_8); injection ea_ with ea_ en_ ec_; subst ea_; subst ec_; clear en_; have ea_ := Option.some.inj (hx169_11.symm.trans hx183_11); injection ea_ with ea_ en_ ec_; subst ea_; subst ec_; clear en_; have ea_ := Option.some.inj (hx169_12.symm.trans hx183_12); injection ea_ with ea_ en_ ec_; subst ea_; subst ec_; clear en_) | ((with_reducible refine gate_callee (f := 39) rfl ?_); refine goesL_ (some 126) rfl rfl Try.func39 (by kernel_rfl) rfl #[.slice A169_12 ((rd_T37 l0 x5_1).f12).length c169_12, .int .i64 t182] rfl (by (try simp only [List.map_toArray, List.map_cons, List.map_nil]); first | done | rfl | (simp only [List.length_drop, List.length_take]; rfl)) ?_; (with_reducible refine (laws_heldIntS.calls k1 _ _ ((rd_T37 l0 x5_1).f12) t182 t184 _ ?side1 ?side2 A19.out).mono ?_); (case side1 => repeat (first | exact HR183_12.out | (with_reducible refine Kd.C_alloc ?_ _) | (with_reducible refine Kd.C_drewN ?_ _) | (with_reducible refine Kd.C_drew ?_))); (case side2 => exact HC183_12.out); rintro e w' ⟨rfl, ⟨nd, rfl⟩⟩; refine ⟨_, rfl, ?_⟩))
                                    go_roundg k1
                                    case measure => have := HK1.out; omega
                                    case rel => exact ⟨(t184), (wrap64 (x5_1 + 1)), (by first | rfl | (simp; done) | (simp [*]; done)), (by first | rfl | (simp; done) | (simp [*]; done)), H', ⟨by have := HK1.out; omega⟩, by repeat (first | exact Drawn0.refl _ | apply Drawn0.step)⟩
                              · rw [if_neg c16] at H
                                have c16b0 : (((rd_T37 l0 x5_1).f10) == (wrap64 (t178 + 1))) = false := beq_eq_false_iff_ne.mpr c16
                                have c16b1 : (((rd_T37 l0 x5_1).f10) != (wrap64 (t178 + 1))) = true := bne_iff_ne.mpr c16
                                obtain rfl := Option.some.inj H
                                have p169 : 0 ≤ (x5_1 : Int) := of_decide_eq_true (by first | (with_reducible assumption) | assumption)
                                have q169 : x5_1 < (l0.length : Int) := of_decide_eq_true (by first | (with_reducible assumption) | assumption)
                                obtain ⟨ad169, A169_8, c169_8, A169_11, c169_11, A169_12, c169_12, e169, hx169_0, hx169_1, hx169_2, hx169_3, hx169_4, hx169_5, hx169_6, hx169_7, hx169_8, hx169_9, hx169_10, hx169_11, hx169_12, hl169_8, hi169_8, hl169_11, hi169_11, hl169_12, hi169_12⟩ := at_T37 HR0.out x5_1 p169 q169
                                cases e169
                                have HR169_8 := Aside0.mk hi169_8
                                have HC169_8 := Aside0.mk hl169_8
                                clear hi169_8 hl169_8
                                have HR169_11 := Aside0.mk hi169_11
                                have HC169_11 := Aside0.mk hl169_11
                                clear hi169_11 hl169_11
                                have HR169_12 := Aside0.mk hi169_12
                                have HC169_12 := Aside0.mk hl169_12
                                clear hi169_12 hl169_12
                                replace p169 := eq_true p169
                                replace q169 := eq_true q169
                                have p170 : 0 ≤ (x5_1 : Int) := of_decide_eq_true (by first | (with_reducible assumption) | assumption)
                                have q170 : x5_1 < (l0.length : Int) := of_decide_eq_true (by first | (with_reducible assumption) | assumption)
                                obtain ⟨ad170, A170_8, c170_8, A170_11, c170_11, A170_12, c170_12, e170, hx170_0, hx170_1, hx170_2, hx170_3, hx170_4, hx170_5, hx170_6, hx170_7, hx170_8, hx170_9, hx170_10, hx170_11, hx170_12, hl170_8, hi170_8, hl170_11, hi170_11, hl170_12, hi170_12⟩ := at_T37 HR0.out x5_1 p170 q170
                                obtain rfl : ad169 = ad170 := (by injection e170)
                                have HR170_8 := Aside0.mk hi170_8
                                have HC170_8 := Aside0.mk hl170_8
                                clear hi170_8 hl170_8
                                have HR170_11 := Aside0.mk hi170_11
                                have HC170_11 := Aside0.mk hl170_11
                                clear hi170_11 hl170_11
                                have HR170_12 := Aside0.mk hi170_12
                                have HC170_12 := Aside0.mk hl170_12
                                clear hi170_12 hl170_12
                                replace p170 := eq_true p170
                                replace q170 := eq_true q170
                                have ea_ := Option.some.inj (hx169_8.symm.trans hx170_8)
                                injection ea_ with ea_ en_ ec_
                                subst ea_
                                subst ec_
                                clear en_
                                have ea_ := Option.some.inj (hx169_11.symm.trans hx170_11)
                                injection ea_ with ea_ en_ ec_
                                subst ea_
                                subst ec_
                                clear en_
                                have ea_ := Option.some.inj (hx169_12.symm.trans hx170_12)
                                injection ea_ with ea_ en_ ec_
                                subst ea_
                                subst ec_
                                clear en_
                                have p171 : 0 ≤ (x5_1 : Int) := of_decide_eq_true (by first | (with_reducible assumption) | assumption)
                                have q171 : x5_1 < (l0.length : Int) := of_decide_eq_true (by first | (with_reducible assumption) | assumption)
                                obtain ⟨ad171, A171_8, c171_8, A171_11, c171_11, A171_12, c171_12, e171, hx171_0, hx171_1, hx171_2, hx171_3, hx171_4, hx171_5, hx171_6, hx171_7, hx171_8, hx171_9, hx171_10, hx171_11, hx171_12, hl171_8, hi171_8, hl171_11, hi171_11, hl171_12, hi171_12⟩ := at_T37 HR0.out x5_1 p171 q171
                                obtain rfl : ad169 = ad171 := (by injection e171)
                                have HR171_8 := Aside0.mk hi171_8
                                have HC171_8 := Aside0.mk hl171_8
                                clear hi171_8 hl171_8
                                have HR171_11 := Aside0.mk hi171_11
                                have HC171_11 := Aside0.mk hl171_11
                                clear hi171_11 hl171_11
                                have HR171_12 := Aside0.mk hi171_12
                                have HC171_12 := Aside0.mk hl171_12
                                clear hi171_12 hl171_12
                                replace p171 := eq_true p171
                                replace q171 := eq_true q171
                                have ea_ := Option.some.inj (hx169_8.symm.trans hx171_8)
                                injection ea_ with ea_ en_ ec_
                                subst ea_
                                subst ec_
                                clear en_
                                have ea_ := Option.some.inj (hx169_11.symm.trans hx171_11)
                                injection ea_ with ea_ en_ ec_
                                subst ea_
                                subst ec_
                                clear en_
                                have ea_ := Option.some.inj (hx169_12.symm.trans hx171_12)
                                injection ea_ with ea_ en_ ec_
                                subst ea_
                                subst ec_
                                clear en_
                                have p172 : 0 ≤ (x5_1 : Int) := of_decide_eq_true (by first | (with_reducible assumption) | assumption)
                                have q172 : x5_1 < (l0.length : Int) := of_decide_eq_true (by first | (with_reducible assumption) | assumption)
                                obtain ⟨ad172, A172_8, c172_8, A172_11, c172_11, A172_12, c172_12, e172, hx172_0, hx172_1, hx172_2, hx172_3, hx172_4, hx172_5, hx172_6, hx172_7, hx172_8, hx172_9, hx172_10, hx172_11, hx172_12, hl172_8, hi172_8, hl172_11, hi172_11, hl172_12, hi172_12⟩ := at_T37 HR0.out x5_1 p172 q172
                                obtain rfl : ad169 = ad172 := (by injection e172)
                                have HR172_8 := Aside0.mk hi172_8
                                have HC172_8 := Aside0.mk hl172_8
                                clear hi172_8 hl172_8
                                have HR172_11 := Aside0.mk hi172_11
                                have HC172_11 := Aside0.mk hl172_11
                                clear hi172_11 hl172_11
                                have HR172_12 := Aside0.mk hi172_12
                                have HC172_12 := Aside0.mk hl172_12
                                clear hi172_12 hl172_12
                                replace p172 := eq_true p172
                                replace q172 := eq_true q172
                                have ea_ := Option.some.inj (hx169_8.symm.trans hx172_8)
                                injection ea_ with ea_ en_ ec_
                                subst ea_
                                subst ec_
                                clear en_
                                have ea_ := Option.some.inj (hx169_11.symm.trans hx172_11)
                                injection ea_ with ea_ en_ ec_
                                subst ea_
                                subst ec_
                                clear en_
                                have ea_ := Option.some.inj (hx169_12.symm.trans hx172_12)
                                injection ea_ with ea_ en_ ec_
                                subst ea_
                                subst ec_
                                clear en_
                                have p173 : 0 ≤ (x5_1 : Int) := of_decide_eq_true (by first | (with_reducible assumption) | assumption)
                                have q173 : x5_1 < (l0.length : Int) := of_decide_eq_true (by first | (with_reducible assumption) | assumption)
                                obtain ⟨ad173, A173_8, c173_8, A173_11, c173_11, A173_12, c173_12, e173, hx173_0, hx173_1, hx173_2, hx173_3, hx173_4, hx173_5, hx173_6, hx173_7, hx173_8, hx173_9, hx173_10, hx173_11, hx173_12, hl173_8, hi173_8, hl173_11, hi173_11, hl173_12, hi173_12⟩ := at_T37 HR0.out x5_1 p173 q173
                                obtain rfl : ad169 = ad173 := (by injection e173)
                                have HR173_8 := Aside0.mk hi173_8
                                have HC173_8 := Aside0.mk hl173_8
                                clear hi173_8 hl173_8
                                have HR173_11 := Aside0.mk hi173_11
                                have HC173_11 := Aside0.mk hl173_11
                                clear hi173_11 hl173_11
                                have HR173_12 := Aside0.mk hi173_12
                                have HC173_12 := Aside0.mk hl173_12
                                clear hi173_12 hl173_12
                                replace p173 := eq_true p173
                                replace q173 := eq_true q173
                                have ea_ := Option.some.inj (hx169_8.symm.trans hx173_8)
                                injection ea_ with ea_ en_ ec_
                                subst ea_
                                subst ec_
                                clear en_
                                have ea_ := Option.some.inj (hx169_11.symm.trans hx173_11)
                                injection ea_ with ea_ en_ ec_
                                subst ea_
                                subst ec_
                                clear en_
                                have ea_ := Option.some.inj (hx169_12.symm.trans hx173_12)
                                injection ea_ with ea_ en_ ec_
                                subst ea_
                                subst ec_
                                clear en_
                                have p174 : 0 ≤ (x5_1 : Int) := of_decide_eq_true (by first | (with_reducible assumption) | assumption)
                                have q174 : x5_1 < (l0.length : Int) := of_decide_eq_true (by first | (with_reducible assumption) | assumption)
                                obtain ⟨ad174, A174_8, c174_8, A174_11, c174_11, A174_12, c174_12, e174, hx174_0, hx174_1, hx174_2, hx174_3, hx174_4, hx174_5, hx174_6, hx174_7, hx174_8, hx174_9, hx174_10, hx174_11, hx174_12, hl174_8, hi174_8, hl174_11, hi174_11, hl174_12, hi174_12⟩ := at_T37 HR0.out x5_1 p174 q174
                                obtain rfl : ad169 = ad174 := (by injection e174)
                                have HR174_8 := Aside0.mk hi174_8
                                have HC174_8 := Aside0.mk hl174_8
                                clear hi174_8 hl174_8
                                have HR174_11 := Aside0.mk hi174_11
                                have HC174_11 := Aside0.mk hl174_11
                                clear hi174_11 hl174_11
                                have HR174_12 := Aside0.mk hi174_12
                                have HC174_12 := Aside0.mk hl174_12
                                clear hi174_12 hl174_12
                                replace p174 := eq_true p174
                                replace q174 := eq_true q174
                                have ea_ := Option.some.inj (hx169_8.symm.trans hx174_8)
                                injection ea_ with ea_ en_ ec_
                                subst ea_
                                subst ec_
                                clear en_
                                have ea_ := Option.some.inj (hx169_11.symm.trans hx174_11)
                                injection ea_ with ea_ en_ ec_
                                subst ea_
                                subst ec_
                                clear en_
                                have ea_ := Option.some.inj (hx169_12.symm.trans hx174_12)
                                injection ea_ with ea_ en_ ec_
                                subst ea_
                                subst ec_
                                clear en_
                                have p175 : 0 ≤ (x5_1 : Int) := of_decide_eq_true (by first | (with_reducible assumption) | assumption)
                                have q175 : x5_1 < (l0.length : Int) := of_decide_eq_true (by first | (with_reducible assumption) | assumption)
                                obtain ⟨ad175, A175_8, c175_8, A175_11, c175_11, A175_12, c175_12, e175, hx175_0, hx175_1, hx175_2, hx175_3, hx175_4, hx175_5, hx175_6, hx175_7, hx175_8, hx175_9, hx175_10, hx175_11, hx175_12, hl175_8, hi175_8, hl175_11, hi175_11, hl175_12, hi175_12⟩ := at_T37 HR0.out x5_1 p175 q175
                                obtain rfl : ad169 = ad175 := (by injection e175)
                                have HR175_8 := Aside0.mk hi175_8
                                have HC175_8 := Aside0.mk hl175_8
                                clear hi175_8 hl175_8
                                have HR175_11 := Aside0.mk hi175_11
                                have HC175_11 := Aside0.mk hl175_11
                                clear hi175_11 hl175_11
                                have HR175_12 := Aside0.mk hi175_12
                                have HC175_12 := Aside0.mk hl175_12
                                clear hi175_12 hl175_12
                                replace p175 := eq_true p175
                                replace q175 := eq_true q175
                                have ea_ := Option.some.inj (hx169_8.symm.trans hx175_8)
                                injection ea_ with ea_ en_ ec_
                                subst ea_
                                subst ec_
                                clear en_
                                have ea_ := Option.some.inj (hx169_11.symm.trans hx175_11)
                                injection ea_ with ea_ en_ ec_
                                subst ea_
                                subst ec_
                                clear en_
                                have ea_ := Option.some.inj (hx169_12.symm.trans hx175_12)
                                injection ea_ with ea_ en_ ec_
                                subst ea_
                                subst ec_
                                clear en_
                                have p176 : 0 ≤ (x5_1 : Int) := of_decide_eq_true (by first | (with_reducible assumption) | assumption)
                                have q176 : x5_1 < (l0.length : Int) := of_decide_eq_true (by first | (with_reducible assumption) | assumption)
                                obtain ⟨ad176, A176_8, c176_8, A176_11, c176_11, A176_12, c176_12, e176, hx176_0, hx176_1, hx176_2, hx176_3, hx176_4, hx176_5, hx176_6, hx176_7, hx176_8, hx176_9, hx176_10, hx176_11, hx176_12, hl176_8, hi176_8, hl176_11, hi176_11, hl176_12, hi176_12⟩ := at_T37 HR0.out x5_1 p176 q176
                                obtain rfl : ad169 = ad176 := (by injection e176)
                                have HR176_8 := Aside0.mk hi176_8
                                have HC176_8 := Aside0.mk hl176_8
                                clear hi176_8 hl176_8
                                have HR176_11 := Aside0.mk hi176_11
                                have HC176_11 := Aside0.mk hl176_11
                                clear hi176_11 hl176_11
                                have HR176_12 := Aside0.mk hi176_12
                                have HC176_12 := Aside0.mk hl176_12
                                clear hi176_12 hl176_12
                                replace p176 := eq_true p176
                                replace q176 := eq_true q176
                                have ea_ := Option.some.inj (hx169_8.symm.trans hx176_8)
                                injection ea_ with ea_ en_ ec_
                                subst ea_
                                subst ec_
                                clear en_
                                have ea_ := Option.some.inj (hx169_11.symm.trans hx176_11)
                                injection ea_ with ea_ en_ ec_
                                subst ea_
                                subst ec_
                                clear en_
                                have ea_ := Option.some.inj (hx169_12.symm.trans hx176_12)
                                injection ea_ with ea_ en_ ec_
                                subst ea_
                                subst ec_
                                clear en_
                                have p177 : 0 ≤ (x5_1 : Int) := of_decide_eq_true (by first | (with_reducible assumption) | assumption)
                                have q177 : x5_1 < (l0.length : Int) := of_decide_eq_true (by first | (with_reducible assumption) | assumption)
                                obtain ⟨ad177, A177_8, c177_8, A177_11, c177_11, A177_12, c177_12, e177, hx177_0, hx177_1, hx177_2, hx177_3, hx177_4, hx177_5, hx177_6, hx177_7, hx177_8, hx177_9, hx177_10, hx177_11, hx177_12, hl177_8, hi177_8, hl177_11, hi177_11, hl177_12, hi177_12⟩ := at_T37 HR0.out x5_1 p177 q177
                                obtain rfl : ad169 = ad177 := (by injection e177)
                                have HR177_8 := Aside0.mk hi177_8
                                have HC177_8 := Aside0.mk hl177_8
                                clear hi177_8 hl177_8
                                have HR177_11 := Aside0.mk hi177_11
                                have HC177_11 := Aside0.mk hl177_11
                                clear hi177_11 hl177_11
                                have HR177_12 := Aside0.mk hi177_12
                                have HC177_12 := Aside0.mk hl177_12
                                clear hi177_12 hl177_12
                                replace p177 := eq_true p177
                                replace q177 := eq_true q177
                                have ea_ := Option.some.inj (hx169_8.symm.trans hx177_8)
                                injection ea_ with ea_ en_ ec_
                                subst ea_
                                subst ec_
                                clear en_
                                have ea_ := Option.some.inj (hx169_11.symm.trans hx177_11)
                                injection ea_ with ea_ en_ ec_
                                subst ea_
                                subst ec_
                                clear en_
                                have ea_ := Option.some.inj (hx169_12.symm.trans hx177_12)
                                injection ea_ with ea_ en_ ec_
                                subst ea_
                                subst ec_
                                clear en_
                                go_wp2_with (first | ((with_reducible refine gate_callee (f := 39) rfl ?_); refine goesL_ (some 90) rfl rfl Try.func39 (by kernel_rfl) rfl #[.slice A169_8 ((rd_T37 l0 x5_1).f8).length c169_8, .int .i64 (wrap64 ((wrap64 ((wrap64 ((wrap64 ((wrap64 ((wrap64 ((wrap64 ((wrap64 (x1_1 + 1)) + 1)) + 1)) + 1)) + 1)) + 1)) + 1)) + 1))] rfl (by (try simp only [List.map_toArray, List.map_cons, List.map_nil]); first | done | rfl | (simp only [List.length_drop, List.length_take]; rfl)) ?_; (with_reducible refine (laws_heldIntS.calls k1 _ _ ((rd_T37 l0 x5_1).f8) (wrap64 ((wrap64 ((wrap64 ((wrap64 ((wrap64 ((wrap64 ((wrap64 ((wrap64 (x1_1 + 1)) + 1)) + 1)) + 1)) + 1)) + 1)) + 1)) + 1)) t178 _ ?side1 ?side2 A13.out).mono ?_); (case side1 => repeat (first | exact HR177_8.out | (with_reducible refine Kd.C_alloc ?_ _) | (with_reducible refine Kd.C_drewN ?_ _) | (with_reducible refine Kd.C_drew ?_))); (case side2 => exact HC177_8.out); rintro e w' ⟨rfl, ⟨nd, rfl⟩⟩; refine ⟨_, rfl, ?_⟩; have p179 : 0 ≤ (x5_1 : Int) := of_decide_eq_true (by first | (with_reducible assumption) | assumption); have q179 : x5_1 < (l0.length : Int) := of_decide_eq_true (by first | (with_reducible assumption) | assumption); obtain ⟨ad179, A179_8, c179_8, A179_11, c179_11, A179_12, c179_12, e179, hx179_0, hx179_1, hx179_2, hx179_3, hx179_4, hx179_5, hx179_6, hx179_7, hx179_8, hx179_9, hx179_10, hx179_11, hx179_12, hl179_8, hi179_8, hl179_11, hi179_11, hl179_12, hi179_12⟩ := at_T37 HR0.out x5_1 p179 q179; obtain rfl : ad169 = ad179 := (by injection e179); have HR179_8 := Aside0.mk hi179_8; have HC179_8 := Aside0.mk hl179_8; clear hi179_8 hl179_8; have HR179_11 := Aside0.mk hi179_11; have HC179_11 := Aside0.mk hl179_11; clear hi179_11 hl179_11; have HR179_12 := Aside0.mk hi179_12; have HC179_12 := Aside0.mk hl179_12; clear hi179_12 hl179_12; replace p179 := eq_true p179; replace q179 := eq_true q179; have ea_ := Option.some.inj (hx169_8.symm.trans hx179_8); injection ea_ with ea_ en_ ec_; subst ea_; subst ec_; clear en_; have ea_ := Option.some.inj (hx169_11.symm.trans hx179_11); injection ea_ with ea_ en_ ec_; subst ea_; subst ec_; clear en_; have ea_ := Option.some.inj (hx169_12.symm.trans hx179_12); injection ea_ with ea_ en_ ec_; subst ea_; subst ec_; clear en_; have p180 : 0 ≤ (x5_1 : Int) := of_decide_eq_true (by first | (with_reducible assumption) | assumption); have q180 : x5_1 < (l0.length : Int) := of_decide_eq_true (by first | (with_reducible assumption) | assumption); obtain ⟨ad180, A180_8, c180_8, A180_11, c180_11, A180_12, c180_12, e180, hx180_0, hx180_1, hx180_2, hx180_3, hx180_4, hx180_5, hx180_6, hx180_7, hx180_8, hx180_9, hx180_10, hx180_11, hx180_12, hl180_8, hi180_8, hl180_11, hi180_11, hl180_12, hi180_12⟩ := at_T37 HR0.out x5_1 p180 q180; obtain rfl : ad169 = ad180 := (by injection e180); have HR180_8 := Aside0.mk hi180_8; have HC180_8 := Aside0.mk hl180_8; clear hi180_8 hl180_8; have HR180_11 := Aside0.mk hi180_11; have HC180_11 := Aside0.mk hl180_11; clear hi180_11 hl180_11; have HR180_12 := Aside0.mk hi180_12; have HC180_12 := Aside0.mk hl180_12; clear hi180_12 hl180_12; replace p180 := eq_true p180; replace q180 := eq_true q180; have ea_ := Option.some.inj (hx169_8.symm.trans hx180_8); injection ea_ with ea_ en_ ec_; subst ea_; subst ec_; clear en_; have ea_ := Option.some.inj (hx169_11.symm.trans hx180_11); injection ea_ with ea_ en_ ec_; subst ea_; subst ec_; clear en_; have ea_ := Option.some.inj (hx169_12.symm.trans hx180_12); injection ea_ with ea_ en_ ec_; subst ea_; subst ec_; clear en_))
                                go_ret
                                exact ⟨by first | rfl | (simp; done) | (simp [*]; done), by repeat (first | exact Drawn0.refl _ | apply Drawn0.step)⟩
                            · rw [if_neg c15] at H
                              have c15b0 : (((rd_T37 l0 x5_1).f9) == t178) = false := beq_eq_false_iff_ne.mpr c15
                              have c15b1 : (((rd_T37 l0 x5_1).f9) != t178) = true := bne_iff_ne.mpr c15
                              obtain rfl := Option.some.inj H
                              have p169 : 0 ≤ (x5_1 : Int) := of_decide_eq_true (by first | (with_reducible assumption) | assumption)
                              have q169 : x5_1 < (l0.length : Int) := of_decide_eq_true (by first | (with_reducible assumption) | assumption)
                              obtain ⟨ad169, A169_8, c169_8, A169_11, c169_11, A169_12, c169_12, e169, hx169_0, hx169_1, hx169_2, hx169_3, hx169_4, hx169_5, hx169_6, hx169_7, hx169_8, hx169_9, hx169_10, hx169_11, hx169_12, hl169_8, hi169_8, hl169_11, hi169_11, hl169_12, hi169_12⟩ := at_T37 HR0.out x5_1 p169 q169
                              cases e169
                              have HR169_8 := Aside0.mk hi169_8
                              have HC169_8 := Aside0.mk hl169_8
                              clear hi169_8 hl169_8
                              have HR169_11 := Aside0.mk hi169_11
                              have HC169_11 := Aside0.mk hl169_11
                              clear hi169_11 hl169_11
                              have HR169_12 := Aside0.mk hi169_12
                              have HC169_12 := Aside0.mk hl169_12
                              clear hi169_12 hl169_12
                              replace p169 := eq_true p169
                              replace q169 := eq_true q169
                              have p170 : 0 ≤ (x5_1 : Int) := of_decide_eq_true (by first | (with_reducible assumption) | assumption)
                              have q170 : x5_1 < (l0.length : Int) := of_decide_eq_true (by first | (with_reducible assumption) | assumption)
                              obtain ⟨ad170, A170_8, c170_8, A170_11, c170_11, A170_12, c170_12, e170, hx170_0, hx170_1, hx170_2, hx170_3, hx170_4, hx170_5, hx170_6, hx170_7, hx170_8, hx170_9, hx170_10, hx170_11, hx170_12, hl170_8, hi170_8, hl170_11, hi170_11, hl170_12, hi170_12⟩ := at_T37 HR0.out x5_1 p170 q170
                              obtain rfl : ad169 = ad170 := (by injection e170)
                              have HR170_8 := Aside0.mk hi170_8
                              have HC170_8 := Aside0.mk hl170_8
                              clear hi170_8 hl170_8
                              have HR170_11 := Aside0.mk hi170_11
                              have HC170_11 := Aside0.mk hl170_11
                              clear hi170_11 hl170_11
                              have HR170_12 := Aside0.mk hi170_12
                              have HC170_12 := Aside0.mk hl170_12
                              clear hi170_12 hl170_12
                              replace p170 := eq_true p170
                              replace q170 := eq_true q170
                              have ea_ := Option.some.inj (hx169_8.symm.trans hx170_8)
                              injection ea_ with ea_ en_ ec_
                              subst ea_
                              subst ec_
                              clear en_
                              have ea_ := Option.some.inj (hx169_11.symm.trans hx170_11)
                              injection ea_ with ea_ en_ ec_
                              subst ea_
                              subst ec_
                              clear en_
                              have ea_ := Option.some.inj (hx169_12.symm.trans hx170_12)
                              injection ea_ with ea_ en_ ec_
                              subst ea_
                              subst ec_
                              clear en_
                              have p171 : 0 ≤ (x5_1 : Int) := of_decide_eq_true (by first | (with_reducible assumption) | assumption)
                              have q171 : x5_1 < (l0.length : Int) := of_decide_eq_true (by first | (with_reducible assumption) | assumption)
                              obtain ⟨ad171, A171_8, c171_8, A171_11, c171_11, A171_12, c171_12, e171, hx171_0, hx171_1, hx171_2, hx171_3, hx171_4, hx171_5, hx171_6, hx171_7, hx171_8, hx171_9, hx171_10, hx171_11, hx171_12, hl171_8, hi171_8, hl171_11, hi171_11, hl171_12, hi171_12⟩ := at_T37 HR0.out x5_1 p171 q171
                              obtain rfl : ad169 = ad171 := (by injection e171)
                              have HR171_8 := Aside0.mk hi171_8
                              have HC171_8 := Aside0.mk hl171_8
                              clear hi171_8 hl171_8
                              have HR171_11 := Aside0.mk hi171_11
                              have HC171_11 := Aside0.mk hl171_11
                              clear hi171_11 hl171_11
                              have HR171_12 := Aside0.mk hi171_12
                              have HC171_12 := Aside0.mk hl171_12
                              clear hi171_12 hl171_12
                              replace p171 := eq_true p171
                              replace q171 := eq_true q171
                              have ea_ := Option.some.inj (hx169_8.symm.trans hx171_8)
                              injection ea_ with ea_ en_ ec_
                              subst ea_
                              subst ec_
                              clear en_
                              have ea_ := Option.some.inj (hx169_11.symm.trans hx171_11)
                              injection ea_ with ea_ en_ ec_
                              subst ea_
                              subst ec_
                              clear en_
                              have ea_ := Option.some.inj (hx169_12.symm.trans hx171_12)
                              injection ea_ with ea_ en_ ec_
                              subst ea_
                              subst ec_
                              clear en_
                              have p172 : 0 ≤ (x5_1 : Int) := of_decide_eq_true (by first | (with_reducible assumption) | assumption)
                              have q172 : x5_1 < (l0.length : Int) := of_decide_eq_true (by first | (with_reducible assumption) | assumption)
                              obtain ⟨ad172, A172_8, c172_8, A172_11, c172_11, A172_12, c172_12, e172, hx172_0, hx172_1, hx172_2, hx172_3, hx172_4, hx172_5, hx172_6, hx172_7, hx172_8, hx172_9, hx172_10, hx172_11, hx172_12, hl172_8, hi172_8, hl172_11, hi172_11, hl172_12, hi172_12⟩ := at_T37 HR0.out x5_1 p172 q172
                              obtain rfl : ad169 = ad172 := (by injection e172)
                              have HR172_8 := Aside0.mk hi172_8
                              have HC172_8 := Aside0.mk hl172_8
                              clear hi172_8 hl172_8
                              have HR172_11 := Aside0.mk hi172_11
                              have HC172_11 := Aside0.mk hl172_11
                              clear hi172_11 hl172_11
                              have HR172_12 := Aside0.mk hi172_12
                              have HC172_12 := Aside0.mk hl172_12
                              clear hi172_12 hl172_12
                              replace p172 := eq_true p172
                              replace q172 := eq_true q172
                              have ea_ := Option.some.inj (hx169_8.symm.trans hx172_8)
                              injection ea_ with ea_ en_ ec_
                              subst ea_
                              subst ec_
                              clear en_
                              have ea_ := Option.some.inj (hx169_11.symm.trans hx172_11)
                              injection ea_ with ea_ en_ ec_
                              subst ea_
                              subst ec_
                              clear en_
                              have ea_ := Option.some.inj (hx169_12.symm.trans hx172_12)
                              injection ea_ with ea_ en_ ec_
                              subst ea_
                              subst ec_
                              clear en_
                              have p173 : 0 ≤ (x5_1 : Int) := of_decide_eq_true (by first | (with_reducible assumption) | assumption)
                              have q173 : x5_1 < (l0.length : Int) := of_decide_eq_true (by first | (with_reducible assumption) | assumption)
                              obtain ⟨ad173, A173_8, c173_8, A173_11, c173_11, A173_12, c173_12, e173, hx173_0, hx173_1, hx173_2, hx173_3, hx173_4, hx173_5, hx173_6, hx173_7, hx173_8, hx173_9, hx173_10, hx173_11, hx173_12, hl173_8, hi173_8, hl173_11, hi173_11, hl173_12, hi173_12⟩ := at_T37 HR0.out x5_1 p173 q173
                              obtain rfl : ad169 = ad173 := (by injection e173)
                              have HR173_8 := Aside0.mk hi173_8
                              have HC173_8 := Aside0.mk hl173_8
                              clear hi173_8 hl173_8
                              have HR173_11 := Aside0.mk hi173_11
                              have HC173_11 := Aside0.mk hl173_11
                              clear hi173_11 hl173_11
                              have HR173_12 := Aside0.mk hi173_12
                              have HC173_12 := Aside0.mk hl173_12
                              clear hi173_12 hl173_12
                              replace p173 := eq_true p173
                              replace q173 := eq_true q173
                              have ea_ := Option.some.inj (hx169_8.symm.trans hx173_8)
                              injection ea_ with ea_ en_ ec_
                              subst ea_
                              subst ec_
                              clear en_
                              have ea_ := Option.some.inj (hx169_11.symm.trans hx173_11)
                              injection ea_ with ea_ en_ ec_
                              subst ea_
                              subst ec_
                              clear en_
                              have ea_ := Option.some.inj (hx169_12.symm.trans hx173_12)
                              injection ea_ with ea_ en_ ec_
                              subst ea_
                              subst ec_
                              clear en_
                              have p174 : 0 ≤ (x5_1 : Int) := of_decide_eq_true (by first | (with_reducible assumption) | assumption)
                              have q174 : x5_1 < (l0.length : Int) := of_decide_eq_true (by first | (with_reducible assumption) | assumption)
                              obtain ⟨ad174, A174_8, c174_8, A174_11, c174_11, A174_12, c174_12, e174, hx174_0, hx174_1, hx174_2, hx174_3, hx174_4, hx174_5, hx174_6, hx174_7, hx174_8, hx174_9, hx174_10, hx174_11, hx174_12, hl174_8, hi174_8, hl174_11, hi174_11, hl174_12, hi174_12⟩ := at_T37 HR0.out x5_1 p174 q174
                              obtain rfl : ad169 = ad174 := (by injection e174)
                              have HR174_8 := Aside0.mk hi174_8
                              have HC174_8 := Aside0.mk hl174_8
                              clear hi174_8 hl174_8
                              have HR174_11 := Aside0.mk hi174_11
                              have HC174_11 := Aside0.mk hl174_11
                              clear hi174_11 hl174_11
                              have HR174_12 := Aside0.mk hi174_12
                              have HC174_12 := Aside0.mk hl174_12
                              clear hi174_12 hl174_12
                              replace p174 := eq_true p174
                              replace q174 := eq_true q174
                              have ea_ := Option.some.inj (hx169_8.symm.trans hx174_8)
                              injection ea_ with ea_ en_ ec_
                              subst ea_
                              subst ec_
                              clear en_
                              have ea_ := Option.some.inj (hx169_11.symm.trans hx174_11)
                              injection ea_ with ea_ en_ ec_
                              subst ea_
                              subst ec_
                              clear en_
                              have ea_ := Option.some.inj (hx169_12.symm.trans hx174_12)
                              injection ea_ with ea_ en_ ec_
                              subst ea_
                              subst ec_
                              clear en_
                              have p175 : 0 ≤ (x5_1 : Int) := of_decide_eq_true (by first | (with_reducible assumption) | assumption)
                              have q175 : x5_1 < (l0.length : Int) := of_decide_eq_true (by first | (with_reducible assumption) | assumption)
                              obtain ⟨ad175, A175_8, c175_8, A175_11, c175_11, A175_12, c175_12, e175, hx175_0, hx175_1, hx175_2, hx175_3, hx175_4, hx175_5, hx175_6, hx175_7, hx175_8, hx175_9, hx175_10, hx175_11, hx175_12, hl175_8, hi175_8, hl175_11, hi175_11, hl175_12, hi175_12⟩ := at_T37 HR0.out x5_1 p175 q175
                              obtain rfl : ad169 = ad175 := (by injection e175)
                              have HR175_8 := Aside0.mk hi175_8
                              have HC175_8 := Aside0.mk hl175_8
                              clear hi175_8 hl175_8
                              have HR175_11 := Aside0.mk hi175_11
                              have HC175_11 := Aside0.mk hl175_11
                              clear hi175_11 hl175_11
                              have HR175_12 := Aside0.mk hi175_12
                              have HC175_12 := Aside0.mk hl175_12
                              clear hi175_12 hl175_12
                              replace p175 := eq_true p175
                              replace q175 := eq_true q175
                              have ea_ := Option.some.inj (hx169_8.symm.trans hx175_8)
                              injection ea_ with ea_ en_ ec_
                              subst ea_
                              subst ec_
                              clear en_
                              have ea_ := Option.some.inj (hx169_11.symm.trans hx175_11)
                              injection ea_ with ea_ en_ ec_
                              subst ea_
                              subst ec_
                              clear en_
                              have ea_ := Option.some.inj (hx169_12.symm.trans hx175_12)
                              injection ea_ with ea_ en_ ec_
                              subst ea_
                              subst ec_
                              clear en_
                              have p176 : 0 ≤ (x5_1 : Int) := of_decide_eq_true (by first | (with_reducible assumption) | assumption)
                              have q176 : x5_1 < (l0.length : Int) := of_decide_eq_true (by first | (with_reducible assumption) | assumption)
                              obtain ⟨ad176, A176_8, c176_8, A176_11, c176_11, A176_12, c176_12, e176, hx176_0, hx176_1, hx176_2, hx176_3, hx176_4, hx176_5, hx176_6, hx176_7, hx176_8, hx176_9, hx176_10, hx176_11, hx176_12, hl176_8, hi176_8, hl176_11, hi176_11, hl176_12, hi176_12⟩ := at_T37 HR0.out x5_1 p176 q176
                              obtain rfl : ad169 = ad176 := (by injection e176)
                              have HR176_8 := Aside0.mk hi176_8
                              have HC176_8 := Aside0.mk hl176_8
                              clear hi176_8 hl176_8
                              have HR176_11 := Aside0.mk hi176_11
                              have HC176_11 := Aside0.mk hl176_11
                              clear hi176_11 hl176_11
                              have HR176_12 := Aside0.mk hi176_12
                              have HC176_12 := Aside0.mk hl176_12
                              clear hi176_12 hl176_12
                              replace p176 := eq_true p176
                              replace q176 := eq_true q176
                              have ea_ := Option.some.inj (hx169_8.symm.trans hx176_8)
                              injection ea_ with ea_ en_ ec_
                              subst ea_
                              subst ec_
                              clear en_
                              have ea_ := Option.some.inj (hx169_11.symm.trans hx176_11)
                              injection ea_ with ea_ en_ ec_
                              subst ea_
                              subst ec_
                              clear en_
                              have ea_ := Option.some.inj (hx169_12.symm.trans hx176_12)
                              injection ea_ with ea_ en_ ec_
                              subst ea_
                              subst ec_
                              clear en_
                              have p177 : 0 ≤ (x5_1 : Int) := of_decide_eq_true (by first | (with_reducible assumption) | assumption)
                              have q177 : x5_1 < (l0.length : Int) := of_decide_eq_true (by first | (with_reducible assumption) | assumption)
                              obtain ⟨ad177, A177_8, c177_8, A177_11, c177_11, A177_12, c177_12, e177, hx177_0, hx177_1, hx177_2, hx177_3, hx177_4, hx177_5, hx177_6, hx177_7, hx177_8, hx177_9, hx177_10, hx177_11, hx177_12, hl177_8, hi177_8, hl177_11, hi177_11, hl177_12, hi177_12⟩ := at_T37 HR0.out x5_1 p177 q177
                              obtain rfl : ad169 = ad177 := (by injection e177)
                              have HR177_8 := Aside0.mk hi177_8
                              have HC177_8 := Aside0.mk hl177_8
                              clear hi177_8 hl177_8
                              have HR177_11 := Aside0.mk hi177_11
                              have HC177_11 := Aside0.mk hl177_11
                              clear hi177_11 hl177_11
                              have HR177_12 := Aside0.mk hi177_12
                              have HC177_12 := Aside0.mk hl177_12
                              clear hi177_12 hl177_12
                              replace p177 := eq_true p177
                              replace q177 := eq_true q177
                              have ea_ := Option.some.inj (hx169_8.symm.trans hx177_8)
                              injection ea_ with ea_ en_ ec_
                              subst ea_
                              subst ec_
                              clear en_
                              have ea_ := Option.some.inj (hx169_11.symm.trans hx177_11)
                              injection ea_ with ea_ en_ ec_
                              subst ea_
                              subst ec_
                              clear en_
                              have ea_ := Option.some.inj (hx169_12.symm.trans hx177_12)
                              injection ea_ with ea_ en_ ec_
                              subst ea_
                              subst ec_
                              clear en_
                              go_wp2_with (first | ((with_reducible refine gate_callee (f := 39) rfl ?_); refine goesL_ (some 90) rfl rfl Try.func39 (by kernel_rfl) rfl #[.slice A169_8 ((rd_T37 l0 x5_1).f8).length c169_8, .int .i64 (wrap64 ((wrap64 ((wrap64 ((wrap64 ((wrap64 ((wrap64 ((wrap64 ((wrap64 (x1_1 + 1)) + 1)) + 1)) + 1)) + 1)) + 1)) + 1)) + 1))] rfl (by (try simp only [List.map_toArray, List.map_cons, List.map_nil]); first | done | rfl | (simp only [List.length_drop, List.length_take]; rfl)) ?_; (with_reducible refine (laws_heldIntS.calls k1 _ _ ((rd_T37 l0 x5_1).f8) (wrap64 ((wrap64 ((wrap64 ((wrap64 ((wrap64 ((wrap64 ((wrap64 ((wrap64 (x1_1 + 1)) + 1)) + 1)) + 1)) + 1)) + 1)) + 1)) + 1)) t178 _ ?side1 ?side2 A13.out).mono ?_); (case side1 => repeat (first | exact HR177_8.out | (with_reducible refine Kd.C_alloc ?_ _) | (with_reducible refine Kd.C_drewN ?_ _) | (with_reducible refine Kd.C_drew ?_))); (case side2 => exact HC177_8.out); rintro e w' ⟨rfl, ⟨nd, rfl⟩⟩; refine ⟨_, rfl, ?_⟩; have p179 : 0 ≤ (x5_1 : Int) := of_decide_eq_true (by first | (with_reducible assumption) | assumption); have q179 : x5_1 < (l0.length : Int) := of_decide_eq_true (by first | (with_reducible assumption) | assumption); obtain ⟨ad179, A179_8, c179_8, A179_11, c179_11, A179_12, c179_12, e179, hx179_0, hx179_1, hx179_2, hx179_3, hx179_4, hx179_5, hx179_6, hx179_7, hx179_8, hx179_9, hx179_10, hx179_11, hx179_12, hl179_8, hi179_8, hl179_11, hi179_11, hl179_12, hi179_12⟩ := at_T37 HR0.out x5_1 p179 q179; obtain rfl : ad169 = ad179 := (by injection e179); have HR179_8 := Aside0.mk hi179_8; have HC179_8 := Aside0.mk hl179_8; clear hi179_8 hl179_8; have HR179_11 := Aside0.mk hi179_11; have HC179_11 := Aside0.mk hl179_11; clear hi179_11 hl179_11; have HR179_12 := Aside0.mk hi179_12; have HC179_12 := Aside0.mk hl179_12; clear hi179_12 hl179_12; replace p179 := eq_true p179; replace q179 := eq_true q179; have ea_ := Option.some.inj (hx169_8.symm.trans hx179_8); injection ea_ with ea_ en_ ec_; subst ea_; subst ec_; clear en_; have ea_ := Option.some.inj (hx169_11.symm.trans hx179_11); injection ea_ with ea_ en_ ec_; subst ea_; subst ec_; clear en_; have ea_ := Option.some.inj (hx169_12.symm.trans hx179_12); injection ea_ with ea_ en_ ec_; subst ea_; subst ec_; clear en_))
                              go_ret
                              exact ⟨by first | rfl | (simp; done) | (simp [*]; done), by repeat (first | exact Drawn0.refl _ | apply Drawn0.step)⟩
                        · rw [if_neg c12] at H
                          have c12b0 : (((rd_T37 l0 x5_1).f7) == (wrap64 ((wrap64 ((wrap64 ((wrap64 ((wrap64 ((wrap64 ((wrap64 (x1_1 + 1)) + 1)) + 1)) + 1)) + 1)) + 1)) + 1))) = false := beq_eq_false_iff_ne.mpr c12
                          have c12b1 : (((rd_T37 l0 x5_1).f7) != (wrap64 ((wrap64 ((wrap64 ((wrap64 ((wrap64 ((wrap64 ((wrap64 (x1_1 + 1)) + 1)) + 1)) + 1)) + 1)) + 1)) + 1))) = true := bne_iff_ne.mpr c12
                          obtain rfl := Option.some.inj H
                          have p169 : 0 ≤ (x5_1 : Int) := of_decide_eq_true (by first | (with_reducible assumption) | assumption)
                          have q169 : x5_1 < (l0.length : Int) := of_decide_eq_true (by first | (with_reducible assumption) | assumption)
                          obtain ⟨ad169, A169_8, c169_8, A169_11, c169_11, A169_12, c169_12, e169, hx169_0, hx169_1, hx169_2, hx169_3, hx169_4, hx169_5, hx169_6, hx169_7, hx169_8, hx169_9, hx169_10, hx169_11, hx169_12, hl169_8, hi169_8, hl169_11, hi169_11, hl169_12, hi169_12⟩ := at_T37 HR0.out x5_1 p169 q169
                          cases e169
                          have HR169_8 := Aside0.mk hi169_8
                          have HC169_8 := Aside0.mk hl169_8
                          clear hi169_8 hl169_8
                          have HR169_11 := Aside0.mk hi169_11
                          have HC169_11 := Aside0.mk hl169_11
                          clear hi169_11 hl169_11
                          have HR169_12 := Aside0.mk hi169_12
                          have HC169_12 := Aside0.mk hl169_12
                          clear hi169_12 hl169_12
                          replace p169 := eq_true p169
                          replace q169 := eq_true q169
                          have p170 : 0 ≤ (x5_1 : Int) := of_decide_eq_true (by first | (with_reducible assumption) | assumption)
                          have q170 : x5_1 < (l0.length : Int) := of_decide_eq_true (by first | (with_reducible assumption) | assumption)
                          obtain ⟨ad170, A170_8, c170_8, A170_11, c170_11, A170_12, c170_12, e170, hx170_0, hx170_1, hx170_2, hx170_3, hx170_4, hx170_5, hx170_6, hx170_7, hx170_8, hx170_9, hx170_10, hx170_11, hx170_12, hl170_8, hi170_8, hl170_11, hi170_11, hl170_12, hi170_12⟩ := at_T37 HR0.out x5_1 p170 q170
                          obtain rfl : ad169 = ad170 := (by injection e170)
                          have HR170_8 := Aside0.mk hi170_8
                          have HC170_8 := Aside0.mk hl170_8
                          clear hi170_8 hl170_8
                          have HR170_11 := Aside0.mk hi170_11
                          have HC170_11 := Aside0.mk hl170_11
                          clear hi170_11 hl170_11
                          have HR170_12 := Aside0.mk hi170_12
                          have HC170_12 := Aside0.mk hl170_12
                          clear hi170_12 hl170_12
                          replace p170 := eq_true p170
                          replace q170 := eq_true q170
                          have ea_ := Option.some.inj (hx169_8.symm.trans hx170_8)
                          injection ea_ with ea_ en_ ec_
                          subst ea_
                          subst ec_
                          clear en_
                          have ea_ := Option.some.inj (hx169_11.symm.trans hx170_11)
                          injection ea_ with ea_ en_ ec_
                          subst ea_
                          subst ec_
                          clear en_
                          have ea_ := Option.some.inj (hx169_12.symm.trans hx170_12)
                          injection ea_ with ea_ en_ ec_
                          subst ea_
                          subst ec_
                          clear en_
                          have p171 : 0 ≤ (x5_1 : Int) := of_decide_eq_true (by first | (with_reducible assumption) | assumption)
                          have q171 : x5_1 < (l0.length : Int) := of_decide_eq_true (by first | (with_reducible assumption) | assumption)
                          obtain ⟨ad171, A171_8, c171_8, A171_11, c171_11, A171_12, c171_12, e171, hx171_0, hx171_1, hx171_2, hx171_3, hx171_4, hx171_5, hx171_6, hx171_7, hx171_8, hx171_9, hx171_10, hx171_11, hx171_12, hl171_8, hi171_8, hl171_11, hi171_11, hl171_12, hi171_12⟩ := at_T37 HR0.out x5_1 p171 q171
                          obtain rfl : ad169 = ad171 := (by injection e171)
                          have HR171_8 := Aside0.mk hi171_8
                          have HC171_8 := Aside0.mk hl171_8
                          clear hi171_8 hl171_8
                          have HR171_11 := Aside0.mk hi171_11
                          have HC171_11 := Aside0.mk hl171_11
                          clear hi171_11 hl171_11
                          have HR171_12 := Aside0.mk hi171_12
                          have HC171_12 := Aside0.mk hl171_12
                          clear hi171_12 hl171_12
                          replace p171 := eq_true p171
                          replace q171 := eq_true q171
                          have ea_ := Option.some.inj (hx169_8.symm.trans hx171_8)
                          injection ea_ with ea_ en_ ec_
                          subst ea_
                          subst ec_
                          clear en_
                          have ea_ := Option.some.inj (hx169_11.symm.trans hx171_11)
                          injection ea_ with ea_ en_ ec_
                          subst ea_
                          subst ec_
                          clear en_
                          have ea_ := Option.some.inj (hx169_12.symm.trans hx171_12)
                          injection ea_ with ea_ en_ ec_
                          subst ea_
                          subst ec_
                          clear en_
                          have p172 : 0 ≤ (x5_1 : Int) := of_decide_eq_true (by first | (with_reducible assumption) | assumption)
                          have q172 : x5_1 < (l0.length : Int) := of_decide_eq_true (by first | (with_reducible assumption) | assumption)
                          obtain ⟨ad172, A172_8, c172_8, A172_11, c172_11, A172_12, c172_12, e172, hx172_0, hx172_1, hx172_2, hx172_3, hx172_4, hx172_5, hx172_6, hx172_7, hx172_8, hx172_9, hx172_10, hx172_11, hx172_12, hl172_8, hi172_8, hl172_11, hi172_11, hl172_12, hi172_12⟩ := at_T37 HR0.out x5_1 p172 q172
                          obtain rfl : ad169 = ad172 := (by injection e172)
                          have HR172_8 := Aside0.mk hi172_8
                          have HC172_8 := Aside0.mk hl172_8
                          clear hi172_8 hl172_8
                          have HR172_11 := Aside0.mk hi172_11
                          have HC172_11 := Aside0.mk hl172_11
                          clear hi172_11 hl172_11
                          have HR172_12 := Aside0.mk hi172_12
                          have HC172_12 := Aside0.mk hl172_12
                          clear hi172_12 hl172_12
                          replace p172 := eq_true p172
                          replace q172 := eq_true q172
                          have ea_ := Option.some.inj (hx169_8.symm.trans hx172_8)
                          injection ea_ with ea_ en_ ec_
                          subst ea_
                          subst ec_
                          clear en_
                          have ea_ := Option.some.inj (hx169_11.symm.trans hx172_11)
                          injection ea_ with ea_ en_ ec_
                          subst ea_
                          subst ec_
                          clear en_
                          have ea_ := Option.some.inj (hx169_12.symm.trans hx172_12)
                          injection ea_ with ea_ en_ ec_
                          subst ea_
                          subst ec_
                          clear en_
                          have p173 : 0 ≤ (x5_1 : Int) := of_decide_eq_true (by first | (with_reducible assumption) | assumption)
                          have q173 : x5_1 < (l0.length : Int) := of_decide_eq_true (by first | (with_reducible assumption) | assumption)
                          obtain ⟨ad173, A173_8, c173_8, A173_11, c173_11, A173_12, c173_12, e173, hx173_0, hx173_1, hx173_2, hx173_3, hx173_4, hx173_5, hx173_6, hx173_7, hx173_8, hx173_9, hx173_10, hx173_11, hx173_12, hl173_8, hi173_8, hl173_11, hi173_11, hl173_12, hi173_12⟩ := at_T37 HR0.out x5_1 p173 q173
                          obtain rfl : ad169 = ad173 := (by injection e173)
                          have HR173_8 := Aside0.mk hi173_8
                          have HC173_8 := Aside0.mk hl173_8
                          clear hi173_8 hl173_8
                          have HR173_11 := Aside0.mk hi173_11
                          have HC173_11 := Aside0.mk hl173_11
                          clear hi173_11 hl173_11
                          have HR173_12 := Aside0.mk hi173_12
                          have HC173_12 := Aside0.mk hl173_12
                          clear hi173_12 hl173_12
                          replace p173 := eq_true p173
                          replace q173 := eq_true q173
                          have ea_ := Option.some.inj (hx169_8.symm.trans hx173_8)
                          injection ea_ with ea_ en_ ec_
                          subst ea_
                          subst ec_
                          clear en_
                          have ea_ := Option.some.inj (hx169_11.symm.trans hx173_11)
                          injection ea_ with ea_ en_ ec_
                          subst ea_
                          subst ec_
                          clear en_
                          have ea_ := Option.some.inj (hx169_12.symm.trans hx173_12)
                          injection ea_ with ea_ en_ ec_
                          subst ea_
                          subst ec_
                          clear en_
                          have p174 : 0 ≤ (x5_1 : Int) := of_decide_eq_true (by first | (with_reducible assumption) | assumption)
                          have q174 : x5_1 < (l0.length : Int) := of_decide_eq_true (by first | (with_reducible assumption) | assumption)
                          obtain ⟨ad174, A174_8, c174_8, A174_11, c174_11, A174_12, c174_12, e174, hx174_0, hx174_1, hx174_2, hx174_3, hx174_4, hx174_5, hx174_6, hx174_7, hx174_8, hx174_9, hx174_10, hx174_11, hx174_12, hl174_8, hi174_8, hl174_11, hi174_11, hl174_12, hi174_12⟩ := at_T37 HR0.out x5_1 p174 q174
                          obtain rfl : ad169 = ad174 := (by injection e174)
                          have HR174_8 := Aside0.mk hi174_8
                          have HC174_8 := Aside0.mk hl174_8
                          clear hi174_8 hl174_8
                          have HR174_11 := Aside0.mk hi174_11
                          have HC174_11 := Aside0.mk hl174_11
                          clear hi174_11 hl174_11
                          have HR174_12 := Aside0.mk hi174_12
                          have HC174_12 := Aside0.mk hl174_12
                          clear hi174_12 hl174_12
                          replace p174 := eq_true p174
                          replace q174 := eq_true q174
                          have ea_ := Option.some.inj (hx169_8.symm.trans hx174_8)
                          injection ea_ with ea_ en_ ec_
                          subst ea_
                          subst ec_
                          clear en_
                          have ea_ := Option.some.inj (hx169_11.symm.trans hx174_11)
                          injection ea_ with ea_ en_ ec_
                          subst ea_
                          subst ec_
                          clear en_
                          have ea_ := Option.some.inj (hx169_12.symm.trans hx174_12)
                          injection ea_ with ea_ en_ ec_
                          subst ea_
                          subst ec_
                          clear en_
                          have p175 : 0 ≤ (x5_1 : Int) := of_decide_eq_true (by first | (with_reducible assumption) | assumption)
                          have q175 : x5_1 < (l0.length : Int) := of_decide_eq_true (by first | (with_reducible assumption) | assumption)
                          obtain ⟨ad175, A175_8, c175_8, A175_11, c175_11, A175_12, c175_12, e175, hx175_0, hx175_1, hx175_2, hx175_3, hx175_4, hx175_5, hx175_6, hx175_7, hx175_8, hx175_9, hx175_10, hx175_11, hx175_12, hl175_8, hi175_8, hl175_11, hi175_11, hl175_12, hi175_12⟩ := at_T37 HR0.out x5_1 p175 q175
                          obtain rfl : ad169 = ad175 := (by injection e175)
                          have HR175_8 := Aside0.mk hi175_8
                          have HC175_8 := Aside0.mk hl175_8
                          clear hi175_8 hl175_8
                          have HR175_11 := Aside0.mk hi175_11
                          have HC175_11 := Aside0.mk hl175_11
                          clear hi175_11 hl175_11
                          have HR175_12 := Aside0.mk hi175_12
                          have HC175_12 := Aside0.mk hl175_12
                          clear hi175_12 hl175_12
                          replace p175 := eq_true p175
                          replace q175 := eq_true q175
                          have ea_ := Option.some.inj (hx169_8.symm.trans hx175_8)
                          injection ea_ with ea_ en_ ec_
                          subst ea_
                          subst ec_
                          clear en_
                          have ea_ := Option.some.inj (hx169_11.symm.trans hx175_11)
                          injection ea_ with ea_ en_ ec_
                          subst ea_
                          subst ec_
                          clear en_
                          have ea_ := Option.some.inj (hx169_12.symm.trans hx175_12)
                          injection ea_ with ea_ en_ ec_
                          subst ea_
                          subst ec_
                          clear en_
                          have p176 : 0 ≤ (x5_1 : Int) := of_decide_eq_true (by first | (with_reducible assumption) | assumption)
                          have q176 : x5_1 < (l0.length : Int) := of_decide_eq_true (by first | (with_reducible assumption) | assumption)
                          obtain ⟨ad176, A176_8, c176_8, A176_11, c176_11, A176_12, c176_12, e176, hx176_0, hx176_1, hx176_2, hx176_3, hx176_4, hx176_5, hx176_6, hx176_7, hx176_8, hx176_9, hx176_10, hx176_11, hx176_12, hl176_8, hi176_8, hl176_11, hi176_11, hl176_12, hi176_12⟩ := at_T37 HR0.out x5_1 p176 q176
                          obtain rfl : ad169 = ad176 := (by injection e176)
                          have HR176_8 := Aside0.mk hi176_8
                          have HC176_8 := Aside0.mk hl176_8
                          clear hi176_8 hl176_8
                          have HR176_11 := Aside0.mk hi176_11
                          have HC176_11 := Aside0.mk hl176_11
                          clear hi176_11 hl176_11
                          have HR176_12 := Aside0.mk hi176_12
                          have HC176_12 := Aside0.mk hl176_12
                          clear hi176_12 hl176_12
                          replace p176 := eq_true p176
                          replace q176 := eq_true q176
                          have ea_ := Option.some.inj (hx169_8.symm.trans hx176_8)
                          injection ea_ with ea_ en_ ec_
                          subst ea_
                          subst ec_
                          clear en_
                          have ea_ := Option.some.inj (hx169_11.symm.trans hx176_11)
                          injection ea_ with ea_ en_ ec_
                          subst ea_
                          subst ec_
                          clear en_
                          have ea_ := Option.some.inj (hx169_12.symm.trans hx176_12)
                          injection ea_ with ea_ en_ ec_
                          subst ea_
                          subst ec_
                          clear en_
                          go_wp2
                          go_ret
                          exact ⟨by first | rfl | (simp; done) | (simp [*]; done), by repeat (first | exact Drawn0.refl _ | apply Drawn0.step)⟩
                      · rw [if_neg c11] at H
                        have c11b0 : (((rd_T37 l0 x5_1).f6) == (wrap64 ((wrap64 ((wrap64 ((wrap64 ((wrap64 ((wrap64 (x1_1 + 1)) + 1)) + 1)) + 1)) + 1)) + 1))) = false := beq_eq_false_iff_ne.mpr c11
                        have c11b1 : (((rd_T37 l0 x5_1).f6) != (wrap64 ((wrap64 ((wrap64 ((wrap64 ((wrap64 ((wrap64 (x1_1 + 1)) + 1)) + 1)) + 1)) + 1)) + 1))) = true := bne_iff_ne.mpr c11
                        obtain rfl := Option.some.inj H
                        have p169 : 0 ≤ (x5_1 : Int) := of_decide_eq_true (by first | (with_reducible assumption) | assumption)
                        have q169 : x5_1 < (l0.length : Int) := of_decide_eq_true (by first | (with_reducible assumption) | assumption)
                        obtain ⟨ad169, A169_8, c169_8, A169_11, c169_11, A169_12, c169_12, e169, hx169_0, hx169_1, hx169_2, hx169_3, hx169_4, hx169_5, hx169_6, hx169_7, hx169_8, hx169_9, hx169_10, hx169_11, hx169_12, hl169_8, hi169_8, hl169_11, hi169_11, hl169_12, hi169_12⟩ := at_T37 HR0.out x5_1 p169 q169
                        cases e169
                        have HR169_8 := Aside0.mk hi169_8
                        have HC169_8 := Aside0.mk hl169_8
                        clear hi169_8 hl169_8
                        have HR169_11 := Aside0.mk hi169_11
                        have HC169_11 := Aside0.mk hl169_11
                        clear hi169_11 hl169_11
                        have HR169_12 := Aside0.mk hi169_12
                        have HC169_12 := Aside0.mk hl169_12
                        clear hi169_12 hl169_12
                        replace p169 := eq_true p169
                        replace q169 := eq_true q169
                        have p170 : 0 ≤ (x5_1 : Int) := of_decide_eq_true (by first | (with_reducible assumption) | assumption)
                        have q170 : x5_1 < (l0.length : Int) := of_decide_eq_true (by first | (with_reducible assumption) | assumption)
                        obtain ⟨ad170, A170_8, c170_8, A170_11, c170_11, A170_12, c170_12, e170, hx170_0, hx170_1, hx170_2, hx170_3, hx170_4, hx170_5, hx170_6, hx170_7, hx170_8, hx170_9, hx170_10, hx170_11, hx170_12, hl170_8, hi170_8, hl170_11, hi170_11, hl170_12, hi170_12⟩ := at_T37 HR0.out x5_1 p170 q170
                        obtain rfl : ad169 = ad170 := (by injection e170)
                        have HR170_8 := Aside0.mk hi170_8
                        have HC170_8 := Aside0.mk hl170_8
                        clear hi170_8 hl170_8
                        have HR170_11 := Aside0.mk hi170_11
                        have HC170_11 := Aside0.mk hl170_11
                        clear hi170_11 hl170_11
                        have HR170_12 := Aside0.mk hi170_12
                        have HC170_12 := Aside0.mk hl170_12
                        clear hi170_12 hl170_12
                        replace p170 := eq_true p170
                        replace q170 := eq_true q170
                        have ea_ := Option.some.inj (hx169_8.symm.trans hx170_8)
                        injection ea_ with ea_ en_ ec_
                        subst ea_
                        subst ec_
                        clear en_
                        have ea_ := Option.some.inj (hx169_11.symm.trans hx170_11)
                        injection ea_ with ea_ en_ ec_
                        subst ea_
                        subst ec_
                        clear en_
                        have ea_ := Option.some.inj (hx169_12.symm.trans hx170_12)
                        injection ea_ with ea_ en_ ec_
                        subst ea_
                        subst ec_
                        clear en_
                        have p171 : 0 ≤ (x5_1 : Int) := of_decide_eq_true (by first | (with_reducible assumption) | assumption)
                        have q171 : x5_1 < (l0.length : Int) := of_decide_eq_true (by first | (with_reducible assumption) | assumption)
                        obtain ⟨ad171, A171_8, c171_8, A171_11, c171_11, A171_12, c171_12, e171, hx171_0, hx171_1, hx171_2, hx171_3, hx171_4, hx171_5, hx171_6, hx171_7, hx171_8, hx171_9, hx171_10, hx171_11, hx171_12, hl171_8, hi171_8, hl171_11, hi171_11, hl171_12, hi171_12⟩ := at_T37 HR0.out x5_1 p171 q171
                        obtain rfl : ad169 = ad171 := (by injection e171)
                        have HR171_8 := Aside0.mk hi171_8
                        have HC171_8 := Aside0.mk hl171_8
                        clear hi171_8 hl171_8
                        have HR171_11 := Aside0.mk hi171_11
                        have HC171_11 := Aside0.mk hl171_11
                        clear hi171_11 hl171_11
                        have HR171_12 := Aside0.mk hi171_12
                        have HC171_12 := Aside0.mk hl171_12
                        clear hi171_12 hl171_12
                        replace p171 := eq_true p171
                        replace q171 := eq_true q171
                        have ea_ := Option.some.inj (hx169_8.symm.trans hx171_8)
                        injection ea_ with ea_ en_ ec_
                        subst ea_
                        subst ec_
                        clear en_
                        have ea_ := Option.some.inj (hx169_11.symm.trans hx171_11)
                        injection ea_ with ea_ en_ ec_
                        subst ea_
                        subst ec_
                        clear en_
                        have ea_ := Option.some.inj (hx169_12.symm.trans hx171_12)
                        injection ea_ with ea_ en_ ec_
                        subst ea_
                        subst ec_
                        clear en_
                        have p172 : 0 ≤ (x5_1 : Int) := of_decide_eq_true (by first | (with_reducible assumption) | assumption)
                        have q172 : x5_1 < (l0.length : Int) := of_decide_eq_true (by first | (with_reducible assumption) | assumption)
                        obtain ⟨ad172, A172_8, c172_8, A172_11, c172_11, A172_12, c172_12, e172, hx172_0, hx172_1, hx172_2, hx172_3, hx172_4, hx172_5, hx172_6, hx172_7, hx172_8, hx172_9, hx172_10, hx172_11, hx172_12, hl172_8, hi172_8, hl172_11, hi172_11, hl172_12, hi172_12⟩ := at_T37 HR0.out x5_1 p172 q172
                        obtain rfl : ad169 = ad172 := (by injection e172)
                        have HR172_8 := Aside0.mk hi172_8
                        have HC172_8 := Aside0.mk hl172_8
                        clear hi172_8 hl172_8
                        have HR172_11 := Aside0.mk hi172_11
                        have HC172_11 := Aside0.mk hl172_11
                        clear hi172_11 hl172_11
                        have HR172_12 := Aside0.mk hi172_12
                        have HC172_12 := Aside0.mk hl172_12
                        clear hi172_12 hl172_12
                        replace p172 := eq_true p172
                        replace q172 := eq_true q172
                        have ea_ := Option.some.inj (hx169_8.symm.trans hx172_8)
                        injection ea_ with ea_ en_ ec_
                        subst ea_
                        subst ec_
                        clear en_
                        have ea_ := Option.some.inj (hx169_11.symm.trans hx172_11)
                        injection ea_ with ea_ en_ ec_
                        subst ea_
                        subst ec_
                        clear en_
                        have ea_ := Option.some.inj (hx169_12.symm.trans hx172_12)
                        injection ea_ with ea_ en_ ec_
                        subst ea_
                        subst ec_
                        clear en_
                        have p173 : 0 ≤ (x5_1 : Int) := of_decide_eq_true (by first | (with_reducible assumption) | assumption)
                        have q173 : x5_1 < (l0.length : Int) := of_decide_eq_true (by first | (with_reducible assumption) | assumption)
                        obtain ⟨ad173, A173_8, c173_8, A173_11, c173_11, A173_12, c173_12, e173, hx173_0, hx173_1, hx173_2, hx173_3, hx173_4, hx173_5, hx173_6, hx173_7, hx173_8, hx173_9, hx173_10, hx173_11, hx173_12, hl173_8, hi173_8, hl173_11, hi173_11, hl173_12, hi173_12⟩ := at_T37 HR0.out x5_1 p173 q173
                        obtain rfl : ad169 = ad173 := (by injection e173)
                        have HR173_8 := Aside0.mk hi173_8
                        have HC173_8 := Aside0.mk hl173_8
                        clear hi173_8 hl173_8
                        have HR173_11 := Aside0.mk hi173_11
                        have HC173_11 := Aside0.mk hl173_11
                        clear hi173_11 hl173_11
                        have HR173_12 := Aside0.mk hi173_12
                        have HC173_12 := Aside0.mk hl173_12
                        clear hi173_12 hl173_12
                        replace p173 := eq_true p173
                        replace q173 := eq_true q173
                        have ea_ := Option.some.inj (hx169_8.symm.trans hx173_8)
                        injection ea_ with ea_ en_ ec_
                        subst ea_
                        subst ec_
                        clear en_
                        have ea_ := Option.some.inj (hx169_11.symm.trans hx173_11)
                        injection ea_ with ea_ en_ ec_
                        subst ea_
                        subst ec_
                        clear en_
                        have ea_ := Option.some.inj (hx169_12.symm.trans hx173_12)
                        injection ea_ with ea_ en_ ec_
                        subst ea_
                        subst ec_
                        clear en_
                        have p174 : 0 ≤ (x5_1 : Int) := of_decide_eq_true (by first | (with_reducible assumption) | assumption)
                        have q174 : x5_1 < (l0.length : Int) := of_decide_eq_true (by first | (with_reducible assumption) | assumption)
                        obtain ⟨ad174, A174_8, c174_8, A174_11, c174_11, A174_12, c174_12, e174, hx174_0, hx174_1, hx174_2, hx174_3, hx174_4, hx174_5, hx174_6, hx174_7, hx174_8, hx174_9, hx174_10, hx174_11, hx174_12, hl174_8, hi174_8, hl174_11, hi174_11, hl174_12, hi174_12⟩ := at_T37 HR0.out x5_1 p174 q174
                        obtain rfl : ad169 = ad174 := (by injection e174)
                        have HR174_8 := Aside0.mk hi174_8
                        have HC174_8 := Aside0.mk hl174_8
                        clear hi174_8 hl174_8
                        have HR174_11 := Aside0.mk hi174_11
                        have HC174_11 := Aside0.mk hl174_11
                        clear hi174_11 hl174_11
                        have HR174_12 := Aside0.mk hi174_12
                        have HC174_12 := Aside0.mk hl174_12
                        clear hi174_12 hl174_12
                        replace p174 := eq_true p174
                        replace q174 := eq_true q174
                        have ea_ := Option.some.inj (hx169_8.symm.trans hx174_8)
                        injection ea_ with ea_ en_ ec_
                        subst ea_
                        subst ec_
                        clear en_
                        have ea_ := Option.some.inj (hx169_11.symm.trans hx174_11)
                        injection ea_ with ea_ en_ ec_
                        subst ea_
                        subst ec_
                        clear en_
                        have ea_ := Option.some.inj (hx169_12.symm.trans hx174_12)
                        injection ea_ with ea_ en_ ec_
                        subst ea_
                        subst ec_
                        clear en_
                        have p175 : 0 ≤ (x5_1 : Int) := of_decide_eq_true (by first | (with_reducible assumption) | assumption)
                        have q175 : x5_1 < (l0.length : Int) := of_decide_eq_true (by first | (with_reducible assumption) | assumption)
                        obtain ⟨ad175, A175_8, c175_8, A175_11, c175_11, A175_12, c175_12, e175, hx175_0, hx175_1, hx175_2, hx175_3, hx175_4, hx175_5, hx175_6, hx175_7, hx175_8, hx175_9, hx175_10, hx175_11, hx175_12, hl175_8, hi175_8, hl175_11, hi175_11, hl175_12, hi175_12⟩ := at_T37 HR0.out x5_1 p175 q175
                        obtain rfl : ad169 = ad175 := (by injection e175)
                        have HR175_8 := Aside0.mk hi175_8
                        have HC175_8 := Aside0.mk hl175_8
                        clear hi175_8 hl175_8
                        have HR175_11 := Aside0.mk hi175_11
                        have HC175_11 := Aside0.mk hl175_11
                        clear hi175_11 hl175_11
                        have HR175_12 := Aside0.mk hi175_12
                        have HC175_12 := Aside0.mk hl175_12
                        clear hi175_12 hl175_12
                        replace p175 := eq_true p175
                        replace q175 := eq_true q175
                        have ea_ := Option.some.inj (hx169_8.symm.trans hx175_8)
                        injection ea_ with ea_ en_ ec_
                        subst ea_
                        subst ec_
                        clear en_
                        have ea_ := Option.some.inj (hx169_11.symm.trans hx175_11)
                        injection ea_ with ea_ en_ ec_
                        subst ea_
                        subst ec_
                        clear en_
                        have ea_ := Option.some.inj (hx169_12.symm.trans hx175_12)
                        injection ea_ with ea_ en_ ec_
                        subst ea_
                        subst ec_
                        clear en_
                        go_wp2
                        go_ret
                        exact ⟨by first | rfl | (simp; done) | (simp [*]; done), by repeat (first | exact Drawn0.refl _ | apply Drawn0.step)⟩
                    · rw [if_neg c10] at H
                      have c10b0 : (((rd_T37 l0 x5_1).f5) == (wrap64 ((wrap64 ((wrap64 ((wrap64 ((wrap64 (x1_1 + 1)) + 1)) + 1)) + 1)) + 1))) = false := beq_eq_false_iff_ne.mpr c10
                      have c10b1 : (((rd_T37 l0 x5_1).f5) != (wrap64 ((wrap64 ((wrap64 ((wrap64 ((wrap64 (x1_1 + 1)) + 1)) + 1)) + 1)) + 1))) = true := bne_iff_ne.mpr c10
                      obtain rfl := Option.some.inj H
                      have p169 : 0 ≤ (x5_1 : Int) := of_decide_eq_true (by first | (with_reducible assumption) | assumption)
                      have q169 : x5_1 < (l0.length : Int) := of_decide_eq_true (by first | (with_reducible assumption) | assumption)
                      obtain ⟨ad169, A169_8, c169_8, A169_11, c169_11, A169_12, c169_12, e169, hx169_0, hx169_1, hx169_2, hx169_3, hx169_4, hx169_5, hx169_6, hx169_7, hx169_8, hx169_9, hx169_10, hx169_11, hx169_12, hl169_8, hi169_8, hl169_11, hi169_11, hl169_12, hi169_12⟩ := at_T37 HR0.out x5_1 p169 q169
                      cases e169
                      have HR169_8 := Aside0.mk hi169_8
                      have HC169_8 := Aside0.mk hl169_8
                      clear hi169_8 hl169_8
                      have HR169_11 := Aside0.mk hi169_11
                      have HC169_11 := Aside0.mk hl169_11
                      clear hi169_11 hl169_11
                      have HR169_12 := Aside0.mk hi169_12
                      have HC169_12 := Aside0.mk hl169_12
                      clear hi169_12 hl169_12
                      replace p169 := eq_true p169
                      replace q169 := eq_true q169
                      have p170 : 0 ≤ (x5_1 : Int) := of_decide_eq_true (by first | (with_reducible assumption) | assumption)
                      have q170 : x5_1 < (l0.length : Int) := of_decide_eq_true (by first | (with_reducible assumption) | assumption)
                      obtain ⟨ad170, A170_8, c170_8, A170_11, c170_11, A170_12, c170_12, e170, hx170_0, hx170_1, hx170_2, hx170_3, hx170_4, hx170_5, hx170_6, hx170_7, hx170_8, hx170_9, hx170_10, hx170_11, hx170_12, hl170_8, hi170_8, hl170_11, hi170_11, hl170_12, hi170_12⟩ := at_T37 HR0.out x5_1 p170 q170
                      obtain rfl : ad169 = ad170 := (by injection e170)
                      have HR170_8 := Aside0.mk hi170_8
                      have HC170_8 := Aside0.mk hl170_8
                      clear hi170_8 hl170_8
                      have HR170_11 := Aside0.mk hi170_11
                      have HC170_11 := Aside0.mk hl170_11
                      clear hi170_11 hl170_11
                      have HR170_12 := Aside0.mk hi170_12
                      have HC170_12 := Aside0.mk hl170_12
                      clear hi170_12 hl170_12
                      replace p170 := eq_true p170
                      replace q170 := eq_true q170
                      have ea_ := Option.some.inj (hx169_8.symm.trans hx170_8)
                      injection ea_ with ea_ en_ ec_
                      subst ea_
                      subst ec_
                      clear en_
                      have ea_ := Option.some.inj (hx169_11.symm.trans hx170_11)
                      injection ea_ with ea_ en_ ec_
                      subst ea_
                      subst ec_
                      clear en_
                      have ea_ := Option.some.inj (hx169_12.symm.trans hx170_12)
                      injection ea_ with ea_ en_ ec_
                      subst ea_
                      subst ec_
                      clear en_
                      have p171 : 0 ≤ (x5_1 : Int) := of_decide_eq_true (by first | (with_reducible assumption) | assumption)
                      have q171 : x5_1 < (l0.length : Int) := of_decide_eq_true (by first | (with_reducible assumption) | assumption)
                      obtain ⟨ad171, A171_8, c171_8, A171_11, c171_11, A171_12, c171_12, e171, hx171_0, hx171_1, hx171_2, hx171_3, hx171_4, hx171_5, hx171_6, hx171_7, hx171_8, hx171_9, hx171_10, hx171_11, hx171_12, hl171_8, hi171_8, hl171_11, hi171_11, hl171_12, hi171_12⟩ := at_T37 HR0.out x5_1 p171 q171
                      obtain rfl : ad169 = ad171 := (by injection e171)
                      have HR171_8 := Aside0.mk hi171_8
                      have HC171_8 := Aside0.mk hl171_8
                      clear hi171_8 hl171_8
                      have HR171_11 := Aside0.mk hi171_11
                      have HC171_11 := Aside0.mk hl171_11
                      clear hi171_11 hl171_11
                      have HR171_12 := Aside0.mk hi171_12
                      have HC171_12 := Aside0.mk hl171_12
                      clear hi171_12 hl171_12
                      replace p171 := eq_true p171
                      replace q171 := eq_true q171
                      have ea_ := Option.some.inj (hx169_8.symm.trans hx171_8)
                      injection ea_ with ea_ en_ ec_
                      subst ea_
                      subst ec_
                      clear en_
                      have ea_ := Option.some.inj (hx169_11.symm.trans hx171_11)
                      injection ea_ with ea_ en_ ec_
                      subst ea_
                      subst ec_
                      clear en_
                      have ea_ := Option.some.inj (hx169_12.symm.trans hx171_12)
                      injection ea_ with ea_ en_ ec_
                      subst ea_
                      subst ec_
                      clear en_
                      have p172 : 0 ≤ (x5_1 : Int) := of_decide_eq_true (by first | (with_reducible assumption) | assumption)
                      have q172 : x5_1 < (l0.length : Int) := of_decide_eq_true (by first | (with_reducible assumption) | assumption)
                      obtain ⟨ad172, A172_8, c172_8, A172_11, c172_11, A172_12, c172_12, e172, hx172_0, hx172_1, hx172_2, hx172_3, hx172_4, hx172_5, hx172_6, hx172_7, hx172_8, hx172_9, hx172_10, hx172_11, hx172_12, hl172_8, hi172_8, hl172_11, hi172_11, hl172_12, hi172_12⟩ := at_T37 HR0.out x5_1 p172 q172
                      obtain rfl : ad169 = ad172 := (by injection e172)
                      have HR172_8 := Aside0.mk hi172_8
                      have HC172_8 := Aside0.mk hl172_8
                      clear hi172_8 hl172_8
                      have HR172_11 := Aside0.mk hi172_11
                      have HC172_11 := Aside0.mk hl172_11
                      clear hi172_11 hl172_11
                      have HR172_12 := Aside0.mk hi172_12
                      have HC172_12 := Aside0.mk hl172_12
                      clear hi172_12 hl172_12
                      replace p172 := eq_true p172
                      replace q172 := eq_true q172
                      have ea_ := Option.some.inj (hx169_8.symm.trans hx172_8)
                      injection ea_ with ea_ en_ ec_
                      subst ea_
                      subst ec_
                      clear en_
                      have ea_ := Option.some.inj (hx169_11.symm.trans hx172_11)
                      injection ea_ with ea_ en_ ec_
                      subst ea_
                      subst ec_
                      clear en_
                      have ea_ := Option.some.inj (hx169_12.symm.trans hx172_12)
                      injection ea_ with ea_ en_ ec_
                      subst ea_
                      subst ec_
                      clear en_
                      have p173 : 0 ≤ (x5_1 : Int) := of_decide_eq_true (by first | (with_reducible assumption) | assumption)
                      have q173 : x5_1 < (l0.length : Int) := of_decide_eq_true (by first | (with_reducible assumption) | assumption)
                      obtain ⟨ad173, A173_8, c173_8, A173_11, c173_11, A173_12, c173_12, e173, hx173_0, hx173_1, hx173_2, hx173_3, hx173_4, hx173_5, hx173_6, hx173_7, hx173_8, hx173_9, hx173_10, hx173_11, hx173_12, hl173_8, hi173_8, hl173_11, hi173_11, hl173_12, hi173_12⟩ := at_T37 HR0.out x5_1 p173 q173
                      obtain rfl : ad169 = ad173 := (by injection e173)
                      have HR173_8 := Aside0.mk hi173_8
                      have HC173_8 := Aside0.mk hl173_8
                      clear hi173_8 hl173_8
                      have HR173_11 := Aside0.mk hi173_11
                      have HC173_11 := Aside0.mk hl173_11
                      clear hi173_11 hl173_11
                      have HR173_12 := Aside0.mk hi173_12
                      have HC173_12 := Aside0.mk hl173_12
                      clear hi173_12 hl173_12
                      replace p173 := eq_true p173
                      replace q173 := eq_true q173
                      have ea_ := Option.some.inj (hx169_8.symm.trans hx173_8)
                      injection ea_ with ea_ en_ ec_
                      subst ea_
                      subst ec_
                      clear en_
                      have ea_ := Option.some.inj (hx169_11.symm.trans hx173_11)
                      injection ea_ with ea_ en_ ec_
                      subst ea_
                      subst ec_
                      clear en_
                      have ea_ := Option.some.inj (hx169_12.symm.trans hx173_12)
                      injection ea_ with ea_ en_ ec_
                      subst ea_
                      subst ec_
                      clear en_
                      have p174 : 0 ≤ (x5_1 : Int) := of_decide_eq_true (by first | (with_reducible assumption) | assumption)
                      have q174 : x5_1 < (l0.length : Int) := of_decide_eq_true (by first | (with_reducible assumption) | assumption)
                      obtain ⟨ad174, A174_8, c174_8, A174_11, c174_11, A174_12, c174_12, e174, hx174_0, hx174_1, hx174_2, hx174_3, hx174_4, hx174_5, hx174_6, hx174_7, hx174_8, hx174_9, hx174_10, hx174_11, hx174_12, hl174_8, hi174_8, hl174_11, hi174_11, hl174_12, hi174_12⟩ := at_T37 HR0.out x5_1 p174 q174
                      obtain rfl : ad169 = ad174 := (by injection e174)
                      have HR174_8 := Aside0.mk hi174_8
                      have HC174_8 := Aside0.mk hl174_8
                      clear hi174_8 hl174_8
                      have HR174_11 := Aside0.mk hi174_11
                      have HC174_11 := Aside0.mk hl174_11
                      clear hi174_11 hl174_11
                      have HR174_12 := Aside0.mk hi174_12
                      have HC174_12 := Aside0.mk hl174_12
                      clear hi174_12 hl174_12
                      replace p174 := eq_true p174
                      replace q174 := eq_true q174
                      have ea_ := Option.some.inj (hx169_8.symm.trans hx174_8)
                      injection ea_ with ea_ en_ ec_
                      subst ea_
                      subst ec_
                      clear en_
                      have ea_ := Option.some.inj (hx169_11.symm.trans hx174_11)
                      injection ea_ with ea_ en_ ec_
                      subst ea_
                      subst ec_
                      clear en_
                      have ea_ := Option.some.inj (hx169_12.symm.trans hx174_12)
                      injection ea_ with ea_ en_ ec_
                      subst ea_
                      subst ec_
                      clear en_
                      go_wp2
                      go_ret
                      exact ⟨by first | rfl | (simp; done) | (simp [*]; done), by repeat (first | exact Drawn0.refl _ | apply Drawn0.step)⟩
                  · rw [if_neg c9] at H
                    have c9b0 : (((rd_T37 l0 x5_1).f4) == (wrap64 ((wrap64 ((wrap64 ((wrap64 (x1_1 + 1)) + 1)) + 1)) + 1))) = false := beq_eq_false_iff_ne.mpr c9
                    have c9b1 : (((rd_T37 l0 x5_1).f4) != (wrap64 ((wrap64 ((wrap64 ((wrap64 (x1_1 + 1)) + 1)) + 1)) + 1))) = true := bne_iff_ne.mpr c9
                    obtain rfl := Option.some.inj H
                    have p169 : 0 ≤ (x5_1 : Int) := of_decide_eq_true (by first | (with_reducible assumption) | assumption)
                    have q169 : x5_1 < (l0.length : Int) := of_decide_eq_true (by first | (with_reducible assumption) | assumption)
                    obtain ⟨ad169, A169_8, c169_8, A169_11, c169_11, A169_12, c169_12, e169, hx169_0, hx169_1, hx169_2, hx169_3, hx169_4, hx169_5, hx169_6, hx169_7, hx169_8, hx169_9, hx169_10, hx169_11, hx169_12, hl169_8, hi169_8, hl169_11, hi169_11, hl169_12, hi169_12⟩ := at_T37 HR0.out x5_1 p169 q169
                    cases e169
                    have HR169_8 := Aside0.mk hi169_8
                    have HC169_8 := Aside0.mk hl169_8
                    clear hi169_8 hl169_8
                    have HR169_11 := Aside0.mk hi169_11
                    have HC169_11 := Aside0.mk hl169_11
                    clear hi169_11 hl169_11
                    have HR169_12 := Aside0.mk hi169_12
                    have HC169_12 := Aside0.mk hl169_12
                    clear hi169_12 hl169_12
                    replace p169 := eq_true p169
                    replace q169 := eq_true q169
                    have p170 : 0 ≤ (x5_1 : Int) := of_decide_eq_true (by first | (with_reducible assumption) | assumption)
                    have q170 : x5_1 < (l0.length : Int) := of_decide_eq_true (by first | (with_reducible assumption) | assumption)
                    obtain ⟨ad170, A170_8, c170_8, A170_11, c170_11, A170_12, c170_12, e170, hx170_0, hx170_1, hx170_2, hx170_3, hx170_4, hx170_5, hx170_6, hx170_7, hx170_8, hx170_9, hx170_10, hx170_11, hx170_12, hl170_8, hi170_8, hl170_11, hi170_11, hl170_12, hi170_12⟩ := at_T37 HR0.out x5_1 p170 q170
                    obtain rfl : ad169 = ad170 := (by injection e170)
                    have HR170_8 := Aside0.mk hi170_8
                    have HC170_8 := Aside0.mk hl170_8
                    clear hi170_8 hl170_8
                    have HR170_11 := Aside0.mk hi170_11
                    have HC170_11 := Aside0.mk hl170_11
                    clear hi170_11 hl170_11
                    have HR170_12 := Aside0.mk hi170_12
                    have HC170_12 := Aside0.mk hl170_12
                    clear hi170_12 hl170_12
                    replace p170 := eq_true p170
                    replace q170 := eq_true q170
                    have ea_ := Option.some.inj (hx169_8.symm.trans hx170_8)
                    injection ea_ with ea_ en_ ec_
                    subst ea_
                    subst ec_
                    clear en_
                    have ea_ := Option.some.inj (hx169_11.symm.trans hx170_11)
                    injection ea_ with ea_ en_ ec_
                    subst ea_
                    subst ec_
                    clear en_
                    have ea_ := Option.some.inj (hx169_12.symm.trans hx170_12)
                    injection ea_ with ea_ en_ ec_
                    subst ea_
                    subst ec_
                    clear en_
                    have p171 : 0 ≤ (x5_1 : Int) := of_decide_eq_true (by first | (with_reducible assumption) | assumption)
                    have q171 : x5_1 < (l0.length : Int) := of_decide_eq_true (by first | (with_reducible assumption) | assumption)
                    obtain ⟨ad171, A171_8, c171_8, A171_11, c171_11, A171_12, c171_12, e171, hx171_0, hx171_1, hx171_2, hx171_3, hx171_4, hx171_5, hx171_6, hx171_7, hx171_8, hx171_9, hx171_10, hx171_11, hx171_12, hl171_8, hi171_8, hl171_11, hi171_11, hl171_12, hi171_12⟩ := at_T37 HR0.out x5_1 p171 q171
                    obtain rfl : ad169 = ad171 := (by injection e171)
                    have HR171_8 := Aside0.mk hi171_8
                    have HC171_8 := Aside0.mk hl171_8
                    clear hi171_8 hl171_8
                    have HR171_11 := Aside0.mk hi171_11
                    have HC171_11 := Aside0.mk hl171_11
                    clear hi171_11 hl171_11
                    have HR171_12 := Aside0.mk hi171_12
                    have HC171_12 := Aside0.mk hl171_12
                    clear hi171_12 hl171_12
                    replace p171 := eq_true p171
                    replace q171 := eq_true q171
                    have ea_ := Option.some.inj (hx169_8.symm.trans hx171_8)
                    injection ea_ with ea_ en_ ec_
                    subst ea_
                    subst ec_
                    clear en_
                    have ea_ := Option.some.inj (hx169_11.symm.trans hx171_11)
                    injection ea_ with ea_ en_ ec_
                    subst ea_
                    subst ec_
                    clear en_
                    have ea_ := Option.some.inj (hx169_12.symm.trans hx171_12)
                    injection ea_ with ea_ en_ ec_
                    subst ea_
                    subst ec_
                    clear en_
                    have p172 : 0 ≤ (x5_1 : Int) := of_decide_eq_true (by first | (with_reducible assumption) | assumption)
                    have q172 : x5_1 < (l0.length : Int) := of_decide_eq_true (by first | (with_reducible assumption) | assumption)
                    obtain ⟨ad172, A172_8, c172_8, A172_11, c172_11, A172_12, c172_12, e172, hx172_0, hx172_1, hx172_2, hx172_3, hx172_4, hx172_5, hx172_6, hx172_7, hx172_8, hx172_9, hx172_10, hx172_11, hx172_12, hl172_8, hi172_8, hl172_11, hi172_11, hl172_12, hi172_12⟩ := at_T37 HR0.out x5_1 p172 q172
                    obtain rfl : ad169 = ad172 := (by injection e172)
                    have HR172_8 := Aside0.mk hi172_8
                    have HC172_8 := Aside0.mk hl172_8
                    clear hi172_8 hl172_8
                    have HR172_11 := Aside0.mk hi172_11
                    have HC172_11 := Aside0.mk hl172_11
                    clear hi172_11 hl172_11
                    have HR172_12 := Aside0.mk hi172_12
                    have HC172_12 := Aside0.mk hl172_12
                    clear hi172_12 hl172_12
                    replace p172 := eq_true p172
                    replace q172 := eq_true q172
                    have ea_ := Option.some.inj (hx169_8.symm.trans hx172_8)
                    injection ea_ with ea_ en_ ec_
                    subst ea_
                    subst ec_
                    clear en_
                    have ea_ := Option.some.inj (hx169_11.symm.trans hx172_11)
                    injection ea_ with ea_ en_ ec_
                    subst ea_
                    subst ec_
                    clear en_
                    have ea_ := Option.some.inj (hx169_12.symm.trans hx172_12)
                    injection ea_ with ea_ en_ ec_
                    subst ea_
                    subst ec_
                    clear en_
                    have p173 : 0 ≤ (x5_1 : Int) := of_decide_eq_true (by first | (with_reducible assumption) | assumption)
                    have q173 : x5_1 < (l0.length : Int) := of_decide_eq_true (by first | (with_reducible assumption) | assumption)
                    obtain ⟨ad173, A173_8, c173_8, A173_11, c173_11, A173_12, c173_12, e173, hx173_0, hx173_1, hx173_2, hx173_3, hx173_4, hx173_5, hx173_6, hx173_7, hx173_8, hx173_9, hx173_10, hx173_11, hx173_12, hl173_8, hi173_8, hl173_11, hi173_11, hl173_12, hi173_12⟩ := at_T37 HR0.out x5_1 p173 q173
                    obtain rfl : ad169 = ad173 := (by injection e173)
                    have HR173_8 := Aside0.mk hi173_8
                    have HC173_8 := Aside0.mk hl173_8
                    clear hi173_8 hl173_8
                    have HR173_11 := Aside0.mk hi173_11
                    have HC173_11 := Aside0.mk hl173_11
                    clear hi173_11 hl173_11
                    have HR173_12 := Aside0.mk hi173_12
                    have HC173_12 := Aside0.mk hl173_12
                    clear hi173_12 hl173_12
                    replace p173 := eq_true p173
                    replace q173 := eq_true q173
                    have ea_ := Option.some.inj (hx169_8.symm.trans hx173_8)
                    injection ea_ with ea_ en_ ec_
                    subst ea_
                    subst ec_
                    clear en_
                    have ea_ := Option.some.inj (hx169_11.symm.trans hx173_11)
                    injection ea_ with ea_ en_ ec_
                    subst ea_
                    subst ec_
                    clear en_
                    have ea_ := Option.some.inj (hx169_12.symm.trans hx173_12)
                    injection ea_ with ea_ en_ ec_
                    subst ea_
                    subst ec_
                    clear en_
                    go_wp2
                    go_ret
                    exact ⟨by first | rfl | (simp; done) | (simp [*]; done), by repeat (first | exact Drawn0.refl _ | apply Drawn0.step)⟩
                · rw [if_neg c8] at H
                  have c8b0 : (((rd_T37 l0 x5_1).f3) == (wrap64 ((wrap64 ((wrap64 (x1_1 + 1)) + 1)) + 1))) = false := beq_eq_false_iff_ne.mpr c8
                  have c8b1 : (((rd_T37 l0 x5_1).f3) != (wrap64 ((wrap64 ((wrap64 (x1_1 + 1)) + 1)) + 1))) = true := bne_iff_ne.mpr c8
                  obtain rfl := Option.some.inj H
                  have p169 : 0 ≤ (x5_1 : Int) := of_decide_eq_true (by first | (with_reducible assumption) | assumption)
                  have q169 : x5_1 < (l0.length : Int) := of_decide_eq_true (by first | (with_reducible assumption) | assumption)
                  obtain ⟨ad169, A169_8, c169_8, A169_11, c169_11, A169_12, c169_12, e169, hx169_0, hx169_1, hx169_2, hx169_3, hx169_4, hx169_5, hx169_6, hx169_7, hx169_8, hx169_9, hx169_10, hx169_11, hx169_12, hl169_8, hi169_8, hl169_11, hi169_11, hl169_12, hi169_12⟩ := at_T37 HR0.out x5_1 p169 q169
                  cases e169
                  have HR169_8 := Aside0.mk hi169_8
                  have HC169_8 := Aside0.mk hl169_8
                  clear hi169_8 hl169_8
                  have HR169_11 := Aside0.mk hi169_11
                  have HC169_11 := Aside0.mk hl169_11
                  clear hi169_11 hl169_11
                  have HR169_12 := Aside0.mk hi169_12
                  have HC169_12 := Aside0.mk hl169_12
                  clear hi169_12 hl169_12
                  replace p169 := eq_true p169
                  replace q169 := eq_true q169
                  have p170 : 0 ≤ (x5_1 : Int) := of_decide_eq_true (by first | (with_reducible assumption) | assumption)
                  have q170 : x5_1 < (l0.length : Int) := of_decide_eq_true (by first | (with_reducible assumption) | assumption)
                  obtain ⟨ad170, A170_8, c170_8, A170_11, c170_11, A170_12, c170_12, e170, hx170_0, hx170_1, hx170_2, hx170_3, hx170_4, hx170_5, hx170_6, hx170_7, hx170_8, hx170_9, hx170_10, hx170_11, hx170_12, hl170_8, hi170_8, hl170_11, hi170_11, hl170_12, hi170_12⟩ := at_T37 HR0.out x5_1 p170 q170
                  obtain rfl : ad169 = ad170 := (by injection e170)
                  have HR170_8 := Aside0.mk hi170_8
                  have HC170_8 := Aside0.mk hl170_8
                  clear hi170_8 hl170_8
                  have HR170_11 := Aside0.mk hi170_11
                  have HC170_11 := Aside0.mk hl170_11
                  clear hi170_11 hl170_11
                  have HR170_12 := Aside0.mk hi170_12
                  have HC170_12 := Aside0.mk hl170_12
                  clear hi170_12 hl170_12
                  replace p170 := eq_true p170
                  replace q170 := eq_true q170
                  have ea_ := Option.some.inj (hx169_8.symm.trans hx170_8)
                  injection ea_ with ea_ en_ ec_
                  subst ea_
                  subst ec_
                  clear en_
                  have ea_ := Option.some.inj (hx169_11.symm.trans hx170_11)
                  injection ea_ with ea_ en_ ec_
                  subst ea_
                  subst ec_
                  clear en_
                  have ea_ := Option.some.inj (hx169_12.symm.trans hx170_12)
                  injection ea_ with ea_ en_ ec_
                  subst ea_
                  subst ec_
                  clear en_
                  have p171 : 0 ≤ (x5_1 : Int) := of_decide_eq_true (by first | (with_reducible assumption) | assumption)
                  have q171 : x5_1 < (l0.length : Int) := of_decide_eq_true (by first | (with_reducible assumption) | assumption)
                  obtain ⟨ad171, A171_8, c171_8, A171_11, c171_11, A171_12, c171_12, e171, hx171_0, hx171_1, hx171_2, hx171_3, hx171_4, hx171_5, hx171_6, hx171_7, hx171_8, hx171_9, hx171_10, hx171_11, hx171_12, hl171_8, hi171_8, hl171_11, hi171_11, hl171_12, hi171_12⟩ := at_T37 HR0.out x5_1 p171 q171
                  obtain rfl : ad169 = ad171 := (by injection e171)
                  have HR171_8 := Aside0.mk hi171_8
                  have HC171_8 := Aside0.mk hl171_8
                  clear hi171_8 hl171_8
                  have HR171_11 := Aside0.mk hi171_11
                  have HC171_11 := Aside0.mk hl171_11
                  clear hi171_11 hl171_11
                  have HR171_12 := Aside0.mk hi171_12
                  have HC171_12 := Aside0.mk hl171_12
                  clear hi171_12 hl171_12
                  replace p171 := eq_true p171
                  replace q171 := eq_true q171
                  have ea_ := Option.some.inj (hx169_8.symm.trans hx171_8)
                  injection ea_ with ea_ en_ ec_
                  subst ea_
                  subst ec_
                  clear en_
                  have ea_ := Option.some.inj (hx169_11.symm.trans hx171_11)
                  injection ea_ with ea_ en_ ec_
                  subst ea_
                  subst ec_
                  clear en_
                  have ea_ := Option.some.inj (hx169_12.symm.trans hx171_12)
                  injection ea_ with ea_ en_ ec_
                  subst ea_
                  subst ec_
                  clear en_
                  have p172 : 0 ≤ (x5_1 : Int) := of_decide_eq_true (by first | (with_reducible assumption) | assumption)
                  have q172 : x5_1 < (l0.length : Int) := of_decide_eq_true (by first | (with_reducible assumption) | assumption)
                  obtain ⟨ad172, A172_8, c172_8, A172_11, c172_11, A172_12, c172_12, e172, hx172_0, hx172_1, hx172_2, hx172_3, hx172_4, hx172_5, hx172_6, hx172_7, hx172_8, hx172_9, hx172_10, hx172_11, hx172_12, hl172_8, hi172_8, hl172_11, hi172_11, hl172_12, hi172_12⟩ := at_T37 HR0.out x5_1 p172 q172
                  obtain rfl : ad169 = ad172 := (by injection e172)
                  have HR172_8 := Aside0.mk hi172_8
                  have HC172_8 := Aside0.mk hl172_8
                  clear hi172_8 hl172_8
                  have HR172_11 := Aside0.mk hi172_11
                  have HC172_11 := Aside0.mk hl172_11
                  clear hi172_11 hl172_11
                  have HR172_12 := Aside0.mk hi172_12
                  have HC172_12 := Aside0.mk hl172_12
                  clear hi172_12 hl172_12
                  replace p172 := eq_true p172
                  replace q172 := eq_true q172
                  have ea_ := Option.some.inj (hx169_8.symm.trans hx172_8)
                  injection ea_ with ea_ en_ ec_
                  subst ea_
                  subst ec_
                  clear en_
                  have ea_ := Option.some.inj (hx169_11.symm.trans hx172_11)
                  injection ea_ with ea_ en_ ec_
                  subst ea_
                  subst ec_
                  clear en_
                  have ea_ := Option.some.inj (hx169_12.symm.trans hx172_12)
                  injection ea_ with ea_ en_ ec_
                  subst ea_
                  subst ec_
                  clear en_
                  go_wp2
                  go_ret
                  exact ⟨by first | rfl | (simp; done) | (simp [*]; done), by repeat (first | exact Drawn0.refl _ | apply Drawn0.step)⟩
              · rw [if_neg c7] at H
                have c7b0 : (((rd_T37 l0 x5_1).f2) == (wrap64 ((wrap64 (x1_1 + 1)) + 1))) = false := beq_eq_false_iff_ne.mpr c7
                have c7b1 : (((rd_T37 l0 x5_1).f2) != (wrap64 ((wrap64 (x1_1 + 1)) + 1))) = true := bne_iff_ne.mpr c7
                obtain rfl := Option.some.inj H
                have p169 : 0 ≤ (x5_1 : Int) := of_decide_eq_true (by first | (with_reducible assumption) | assumption)
                have q169 : x5_1 < (l0.length : Int) := of_decide_eq_true (by first | (with_reducible assumption) | assumption)
                obtain ⟨ad169, A169_8, c169_8, A169_11, c169_11, A169_12, c169_12, e169, hx169_0, hx169_1, hx169_2, hx169_3, hx169_4, hx169_5, hx169_6, hx169_7, hx169_8, hx169_9, hx169_10, hx169_11, hx169_12, hl169_8, hi169_8, hl169_11, hi169_11, hl169_12, hi169_12⟩ := at_T37 HR0.out x5_1 p169 q169
                cases e169
                have HR169_8 := Aside0.mk hi169_8
                have HC169_8 := Aside0.mk hl169_8
                clear hi169_8 hl169_8
                have HR169_11 := Aside0.mk hi169_11
                have HC169_11 := Aside0.mk hl169_11
                clear hi169_11 hl169_11
                have HR169_12 := Aside0.mk hi169_12
                have HC169_12 := Aside0.mk hl169_12
                clear hi169_12 hl169_12
                replace p169 := eq_true p169
                replace q169 := eq_true q169
                have p170 : 0 ≤ (x5_1 : Int) := of_decide_eq_true (by first | (with_reducible assumption) | assumption)
                have q170 : x5_1 < (l0.length : Int) := of_decide_eq_true (by first | (with_reducible assumption) | assumption)
                obtain ⟨ad170, A170_8, c170_8, A170_11, c170_11, A170_12, c170_12, e170, hx170_0, hx170_1, hx170_2, hx170_3, hx170_4, hx170_5, hx170_6, hx170_7, hx170_8, hx170_9, hx170_10, hx170_11, hx170_12, hl170_8, hi170_8, hl170_11, hi170_11, hl170_12, hi170_12⟩ := at_T37 HR0.out x5_1 p170 q170
                obtain rfl : ad169 = ad170 := (by injection e170)
                have HR170_8 := Aside0.mk hi170_8
                have HC170_8 := Aside0.mk hl170_8
                clear hi170_8 hl170_8
                have HR170_11 := Aside0.mk hi170_11
                have HC170_11 := Aside0.mk hl170_11
                clear hi170_11 hl170_11
                have HR170_12 := Aside0.mk hi170_12
                have HC170_12 := Aside0.mk hl170_12
                clear hi170_12 hl170_12
                replace p170 := eq_true p170
                replace q170 := eq_true q170
                have ea_ := Option.some.inj (hx169_8.symm.trans hx170_8)
                injection ea_ with ea_ en_ ec_
                subst ea_
                subst ec_
                clear en_
                have ea_ := Option.some.inj (hx169_11.symm.trans hx170_11)
                injection ea_ with ea_ en_ ec_
                subst ea_
                subst ec_
                clear en_
                have ea_ := Option.some.inj (hx169_12.symm.trans hx170_12)
                injection ea_ with ea_ en_ ec_
                subst ea_
                subst ec_
                clear en_
                have p171 : 0 ≤ (x5_1 : Int) := of_decide_eq_true (by first | (with_reducible assumption) | assumption)
                have q171 : x5_1 < (l0.length : Int) := of_decide_eq_true (by first | (with_reducible assumption) | assumption)
                obtain ⟨ad171, A171_8, c171_8, A171_11, c171_11, A171_12, c171_12, e171, hx171_0, hx171_1, hx171_2, hx171_3, hx171_4, hx171_5, hx171_6, hx171_7, hx171_8, hx171_9, hx171_10, hx171_11, hx171_12, hl171_8, hi171_8, hl171_11, hi171_11, hl171_12, hi171_12⟩ := at_T37 HR0.out x5_1 p171 q171
                obtain rfl : ad169 = ad171 := (by injection e171)
                have HR171_8 := Aside0.mk hi171_8
                have HC171_8 := Aside0.mk hl171_8
                clear hi171_8 hl171_8
                have HR171_11 := Aside0.mk hi171_11
                have HC171_11 := Aside0.mk hl171_11
                clear hi171_11 hl171_11
                have HR171_12 := Aside0.mk hi171_12
                have HC171_12 := Aside0.mk hl171_12
                clear hi171_12 hl171_12
                replace p171 := eq_true p171
                replace q171 := eq_true q171
                have ea_ := Option.some.inj (hx169_8.symm.trans hx171_8)
                injection ea_ with ea_ en_ ec_
                subst ea_
                subst ec_
                clear en_
                have ea_ := Option.some.inj (hx169_11.symm.trans hx171_11)
                injection ea_ with ea_ en_ ec_
                subst ea_
                subst ec_
                clear en_
                have ea_ := Option.some.inj (hx169_12.symm.trans hx171_12)
                injection ea_ with ea_ en_ ec_
                subst ea_
                subst ec_
                clear en_
                go_wp2
                go_ret
                exact ⟨by first | rfl | (simp; done) | (simp [*]; done), by repeat (first | exact Drawn0.refl _ | apply Drawn0.step)⟩
            · rw [if_neg c6] at H
              have c6b0 : (((rd_T37 l0 x5_1).f1) == (wrap64 (x1_1 + 1))) = false := beq_eq_false_iff_ne.mpr c6
              have c6b1 : (((rd_T37 l0 x5_1).f1) != (wrap64 (x1_1 + 1))) = true := bne_iff_ne.mpr c6
              obtain rfl := Option.some.inj H
              have p169 : 0 ≤ (x5_1 : Int) := of_decide_eq_true (by first | (with_reducible assumption) | assumption)
              have q169 : x5_1 < (l0.length : Int) := of_decide_eq_true (by first | (with_reducible assumption) | assumption)
              obtain ⟨ad169, A169_8, c169_8, A169_11, c169_11, A169_12, c169_12, e169, hx169_0, hx169_1, hx169_2, hx169_3, hx169_4, hx169_5, hx169_6, hx169_7, hx169_8, hx169_9, hx169_10, hx169_11, hx169_12, hl169_8, hi169_8, hl169_11, hi169_11, hl169_12, hi169_12⟩ := at_T37 HR0.out x5_1 p169 q169
              cases e169
              have HR169_8 := Aside0.mk hi169_8
              have HC169_8 := Aside0.mk hl169_8
              clear hi169_8 hl169_8
              have HR169_11 := Aside0.mk hi169_11
              have HC169_11 := Aside0.mk hl169_11
              clear hi169_11 hl169_11
              have HR169_12 := Aside0.mk hi169_12
              have HC169_12 := Aside0.mk hl169_12
              clear hi169_12 hl169_12
              replace p169 := eq_true p169
              replace q169 := eq_true q169
              have p170 : 0 ≤ (x5_1 : Int) := of_decide_eq_true (by first | (with_reducible assumption) | assumption)
              have q170 : x5_1 < (l0.length : Int) := of_decide_eq_true (by first | (with_reducible assumption) | assumption)
              obtain ⟨ad170, A170_8, c170_8, A170_11, c170_11, A170_12, c170_12, e170, hx170_0, hx170_1, hx170_2, hx170_3, hx170_4, hx170_5, hx170_6, hx170_7, hx170_8, hx170_9, hx170_10, hx170_11, hx170_12, hl170_8, hi170_8, hl170_11, hi170_11, hl170_12, hi170_12⟩ := at_T37 HR0.out x5_1 p170 q170
              obtain rfl : ad169 = ad170 := (by injection e170)
              have HR170_8 := Aside0.mk hi170_8
              have HC170_8 := Aside0.mk hl170_8
              clear hi170_8 hl170_8
              have HR170_11 := Aside0.mk hi170_11
              have HC170_11 := Aside0.mk hl170_11
              clear hi170_11 hl170_11
              have HR170_12 := Aside0.mk hi170_12
              have HC170_12 := Aside0.mk hl170_12
              clear hi170_12 hl170_12
              replace p170 := eq_true p170
              replace q170 := eq_true q170
              have ea_ := Option.some.inj (hx169_8.symm.trans hx170_8)
              injection ea_ with ea_ en_ ec_
              subst ea_
              subst ec_
              clear en_
              have ea_ := Option.some.inj (hx169_11.symm.trans hx170_11)
              injection ea_ with ea_ en_ ec_
              subst ea_
              subst ec_
              clear en_
              have ea_ := Option.some.inj (hx169_12.symm.trans hx170_12)
              injection ea_ with ea_ en_ ec_
              subst ea_
              subst ec_
              clear en_
              go_wp2
              go_ret
              exact ⟨by first | rfl | (simp; done) | (simp [*]; done), by repeat (first | exact Drawn0.refl _ | apply Drawn0.step)⟩
          · rw [if_neg c5] at H
            have c5b0 : (((rd_T37 l0 x5_1).f0) == x1_1) = false := beq_eq_false_iff_ne.mpr c5
            have c5b1 : (((rd_T37 l0 x5_1).f0) != x1_1) = true := bne_iff_ne.mpr c5
            obtain rfl := Option.some.inj H
            have p169 : 0 ≤ (x5_1 : Int) := of_decide_eq_true (by first | (with_reducible assumption) | assumption)
            have q169 : x5_1 < (l0.length : Int) := of_decide_eq_true (by first | (with_reducible assumption) | assumption)
            obtain ⟨ad169, A169_8, c169_8, A169_11, c169_11, A169_12, c169_12, e169, hx169_0, hx169_1, hx169_2, hx169_3, hx169_4, hx169_5, hx169_6, hx169_7, hx169_8, hx169_9, hx169_10, hx169_11, hx169_12, hl169_8, hi169_8, hl169_11, hi169_11, hl169_12, hi169_12⟩ := at_T37 HR0.out x5_1 p169 q169
            cases e169
            have HR169_8 := Aside0.mk hi169_8
            have HC169_8 := Aside0.mk hl169_8
            clear hi169_8 hl169_8
            have HR169_11 := Aside0.mk hi169_11
            have HC169_11 := Aside0.mk hl169_11
            clear hi169_11 hl169_11
            have HR169_12 := Aside0.mk hi169_12
            have HC169_12 := Aside0.mk hl169_12
            clear hi169_12 hl169_12
            replace p169 := eq_true p169
            replace q169 := eq_true q169
            go_wp2
            go_ret
            exact ⟨by first | rfl | (simp; done) | (simp [*]; done), by repeat (first | exact Drawn0.refl _ | apply Drawn0.step)⟩
        · rw [if_neg c4] at H
          exact absurd H (by simp)
      · rw [if_neg c3] at H
        have c3b0 : decide (x5_1 < (l0.length : Int)) = false := decide_eq_false c3
        clear c3
        obtain rfl := Option.some.inj H
        go_wp2
        go_ret
        exact ⟨by first | rfl | (simp; done) | (simp [*]; done), by repeat (first | exact Drawn0.refl _ | apply Drawn0.step)⟩

end Go.Proofs.Ytnloeihhimcblaa.QFnExactTableNew
