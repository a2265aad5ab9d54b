/- What the functions that the law FnExactKidsOf reaches compute, as plain functions, and that the code computes just that (by a program of this session's; the library's functions by hand). No condition. -/
import Derived.Test.YtnloeihhimcblaaQFnExactKidsOfx0
import Derived.Test.YtnloeihhimcblaaQFnExactKidsOfx1
import Derived.Test.YtnloeihhimcblaaQFnExactKidsOfx2
import Derived.Test.YtnloeihhimcblaaQFnExactKidsOfx3
namespace Go.Proofs.Ytnloeihhimcblaa.QFnExactKidsOf
open Go.RowKit Go.Proofs.YtnloeihhimcblaaW.PrintWords Go.Proofs.YtnloeihhimcblaaW.PrintLast Go.Proofs.YtnloeihhimcblaaW.PrintMore
attribute [local go_sem] max2_int min2_int max_two min_two max_three min_three max_four min_four   -- for this text's walks alone
set_option linter.unusedVariables false
set_option linter.unusedSimpArgs false

/-! ### laws_markIntS: function 38 -/
def laws_markIntS.l0 : Nat → List Int → Int → Int → Option (Int × List Int)
  | 0, _, _, _ => none
  | k + 1, x0, x1, x5 => if x5 < (x0.length : Int) then (if 0 ≤ x5 then (laws_markIntS.l0 k (x0.set (x5 : Int).toNat x1) (wrap64 (x1 + 1)) (wrap64 (x5 + 1))) else (none)) else (some (x1, x0))
def laws_markIntS.f (k : Nat) (l0 : List Int) (a1 : Int) : Option (Int × List Int) := laws_markIntS.l0 k l0 a1 0
theorem laws_markIntS.mono_l : ∀ k, (∀ y0 y1 y2, LeO (laws_markIntS.l0 k y0 y1 y2) (laws_markIntS.l0 (k + 1) y0 y1 y2))
  | 0 => fun _ _ _ r h => by simp [laws_markIntS.l0] at h
  | k + 1 => by
    have ih0 := laws_markIntS.mono_l k
    · intro y0 y1 y2
      unfold laws_markIntS.l0
      repeat' first
      | (with_reducible exact ih0 _ _ _)
      | (with_reducible exact LeO.refl _)
      | (with_reducible exact LeO.none _)
      | (with_reducible refine LeO.ite ?_ ?_)
      | (with_reducible refine LeO.bind ?_ (fun _ => ?_))
      | exact ih0 _ _ _
      | exact LeO.none _
      | refine LeO.ite ?_ ?_
      | refine LeO.bind ?_ (fun _ => ?_)
theorem laws_markIntS.mono : ∀ a0 a1 k, LeO (laws_markIntS.f k a0 a1) (laws_markIntS.f (k + 1) a0 a1) := by
  intro a0 a1 k
  have ih0 := laws_markIntS.mono_l k
  unfold laws_markIntS.f
  repeat' first
      | (with_reducible exact ih0 _ _ _)
      | (with_reducible exact LeO.refl _)
      | (with_reducible exact LeO.none _)
      | (with_reducible refine LeO.ite ?_ ?_)
      | (with_reducible refine LeO.bind ?_ (fun _ => ?_))
      | exact ih0 _ _ _
      | exact LeO.none _
      | refine LeO.ite ?_ ?_
      | refine LeO.bind ?_ (fun _ => ?_)
set_option maxHeartbeats 8000000 in
set_option maxRecDepth 100000 in
theorem laws_markIntS.calls (k : Nat) (P0_ : Nat → Prop) (u9000_ : Value) (l0 : List Int) (a1 : Int) (r1 : Int) (r2 : List Int) (w0 w : World) (hB : Below w0.heap.size w0 w) (ho0 : Kd.R (Kd.int .i64) 3 w w0.heap.size P0_ u9000_ l0) (h : laws_markIntS.f k l0 a1 = some (r1, r2)) :
    Calls Try.prog 38 #[u9000_, .int .i64 a1] w fun e w' => e = .returned (.int .i64 r1) ∧ Kd.R (Kd.int .i64) 3 w' w0.heap.size (fun k_ => (P0_ k_ ∨ w.heap.size ≤ k_)) u9000_ r2 ∧ Below w0.heap.size w0 w' ∧ Kept w w' (fun k_ => P0_ k_) := by
  have HO0 := Aside0.mk (show Kd.R (Kd.int .i64) 3 w w0.heap.size (fun k_ => (P0_ k_ ∨ w.heap.size ≤ k_)) u9000_ l0 from Kd.R_mono ho0 (fun k_ hk => (.inl hk)))
  have HK := Aside0.mk (Kept.refl w (fun k_ => P0_ k_))
  have HW0 := Aside0.mk hB.size
  have HB := Aside0.mk hB
  clear hB
  have H : (laws_markIntS.l0 k l0 a1 0) = some (r1, r2) := h
  clear h
  have H' := Aside0.mk H
  clear H
  go_enter Try.func38, Try.ntmps38
  go_wp2
  go_loopg [1, 5] k (fun kq v1 v5 w' => ∃ (x0_1 : List Int) (x1_1 : Int) (x5_1 : Int), v1 = .int .i64 x1_1 ∧ v5 = .int .i64 x5_1 ∧ Aside0 (laws_markIntS.l0 kq x0_1 x1_1 x5_1 = some (r1, r2)) ∧ Aside0 (kq ≤ k) ∧ Aside0 (Kd.R (Kd.int .i64) 3 w' w0.heap.size (fun k_ => (P0_ k_ ∨ w.heap.size ≤ k_)) u9000_ x0_1) ∧ Aside0 (Kept w w' (fun k_ => P0_ k_)) ∧ Aside0 (Below w0.heap.size w0 w'))
  case atStart => exact ⟨(l0), (a1), (0), (by first | rfl | (simp; done) | (simp [*]; done)), (by first | rfl | (simp; done) | (simp [*]; done)), H', ⟨Nat.le_refl _⟩, ⟨by (with_reducible repeat (first | apply Kd.R_alloc | apply Kd.R_drewN | apply Kd.R_drew)); exact HO0.out⟩, ⟨by repeat (first | (with_reducible first | exact HK.out | apply Kept.alloc | apply Kept.drewN | apply Kept.drew) | exact HK.out)⟩, ⟨by repeat (first | (with_reducible first | exact HB.out | apply below_alloc | apply pw_below_drewN | apply below_drew1) | exact HB.out)⟩⟩
  case round =>
    clear H'
    try clear p2
    obtain ⟨x0_1, x1_1, x5_1, rfl, rfl, HA, HK1, HO_0, HK, HB⟩ := hrel
    cases gk with
    | zero => exact absurd HA.out (by simp [laws_markIntS.l0])
    | succ k1 =>
      have H := HA.out
      clear HA
      simp only [laws_markIntS.l0] at H
      by_cases c3 : x5_1 < (x0_1.length : Int)
      · rw [if_pos c3] at H
        have c3b0 : decide (x5_1 < (x0_1.length : Int)) = true := decide_eq_true c3
        clear c3
        by_cases c4 : 0 ≤ x5_1
        · rw [if_pos c4] at H
          have c4b0 : decide (0 ≤ x5_1) = true := decide_eq_true c4
          clear c4
          obtain ⟨y191, hy191⟩ : ∃ y_ : List Int, y_ = (x0_1.set (x5_1 : Int).toNat x1_1) := ⟨_, rfl⟩
          replace H : (laws_markIntS.l0 k1 y191 (wrap64 (x1_1 + 1)) (wrap64 (x5_1 + 1))) = some (r1, r2) := by first | (rw [hy191]; with_reducible exact H) | (have H2_ := (Option.bind_some _ _).symm.trans H; rw [hy191]; with_reducible exact H2_) | (have H2_ := (Option.bind_some _ _).symm.trans H; with_reducible exact H2_) | with_reducible exact H | (rw [hy191]; exact H) | exact H
          have Ny191 := Aside0.mk hy191
          clear hy191
          have H' := Aside0.mk H
          clear H
          obtain ⟨Ao6, co6, eo6⟩ := Kd.R_slice HO_0.out
          subst eo6
          have p5 : 0 ≤ (x5_1 : Int) := of_decide_eq_true (by first | (with_reducible assumption) | assumption)
          have q5 : (x5_1 : Int) < ((x0_1.length : Int) : Int) := of_decide_eq_true (by first | (with_reducible assumption) | assumption)
          obtain ⟨go5, co5, eo5, gb5, gl5, cl5, HG5⟩ := Kd.R_form HO_0.out (by omega)
          (first | cases eo5 | (injection eo5 with ea_ en_ ec_; (first | subst ea_ | (injection ea_ with ea_; subst ea_)); subst ec_; clear en_))
          have GB5 := Aside0.mk gb5
          have GG5 := Aside0.mk HG5
          clear gb5 gl5 HG5
          have HMgo5 := Aside0.mk (show (P0_ go5 ∨ w.heap.size ≤ go5) from (HO_0.out.1 _ rfl))
          obtain ⟨hx5_0, hf5_0⟩ := Kd.R_celln 0 HO_0.out (x5_1 : Int) p5 q5
          replace p5 := eq_true p5
          replace q5 := eq_true q5
          have HP7 := Kd.R_putg HO_0.out (x5_1 : Int) x1_1
          go_wp2_with (first | ((with_reducible refine gate_store (t := 3) (p := 15) rfl ?_); refine store_event (t := 3) (p := 15) (v := ?vo_w8) (w1 := (wr.setCell ⟨go5, (x5_1 : Int).toNat, none⟩ (.int .i64 x1_1))) ?hg ?ho ?hn ?hr ?_; (case ho => rfl); (case hg => rfl); (case hn => rfl); (case hr => first | (go_simp; done) | (go_simp; rfl)); intro w8 hw; have hg : wr.grownBy w8 (some go5) := (by rw [hw]; exact HP7.2); have hp_ : Kd.R (Kd.int .i64) 3 w8 w0.heap.size (fun k_ => (P0_ k_ ∨ w.heap.size ≤ k_)) (.slice (some ⟨go5, 0, none⟩) x0_1.length co6) y191 := (by rw [hw, Ny191.out]; exact HP7.1); clear HP7; have n0_ := Aside0.mk (hp_); have n1_ := Aside0.mk ((by rw [hw]; exact below_set (HB.out) GB5.out : Below w0.heap.size w0 w8)); have n2_ := Aside0.mk (Kept.of_grown (S := (fun k_ => P0_ k_)) hg (by repeat (first | (with_reducible first | exact HK.out | apply Kept.alloc | apply Kept.drewN | apply Kept.drew) | exact HK.out)) (fun k_ e_ => (HO_0.out.1 k_ e_))); clear HO_0; clear HB; clear HK; have HO_0 := n0_; have HB := n1_; have HK := n2_; clear n0_ n1_ n2_; clear hg hw hp_))
          go_roundg k1
          case measure => have := HK1.out; omega
          case rel => exact ⟨(y191), (wrap64 (x1_1 + 1)), (wrap64 (x5_1 + 1)), (by first | rfl | (simp; done) | (simp [*]; done)), (by first | rfl | (simp; done) | (simp [*]; done)), H', ⟨by have := HK1.out; omega⟩, ⟨by (with_reducible repeat (first | apply Kd.R_alloc | apply Kd.R_drewN | apply Kd.R_drew)); exact HO_0.out⟩, ⟨by repeat (first | (with_reducible first | exact HK.out | apply Kept.alloc | apply Kept.drewN | apply Kept.drew) | exact HK.out)⟩, ⟨by repeat (first | (with_reducible first | exact HB.out | apply below_alloc | apply pw_below_drewN | apply below_drew1) | exact HB.out)⟩⟩
        · rw [if_neg c4] at H
          exact absurd H (by simp)
      · rw [if_neg c3] at H
        have c3b0 : decide (x5_1 < (x0_1.length : Int)) = false := decide_eq_false c3
        clear c3
        simp only [Option.some.injEq, Prod.mk.injEq] at H
        obtain ⟨rfl, rfl⟩ := H
        obtain ⟨Ao9, co9, eo9⟩ := Kd.R_slice HO_0.out
        subst eo9
        go_wp2
        go_ret
        exact ⟨by first | rfl | (simp [errW_none, errW_some] <;> rfl) | (simp [*, errW_none, errW_some] <;> rfl), by (with_reducible repeat (first | apply Kd.R_alloc | apply Kd.R_drewN | apply Kd.R_drew)); exact HO_0.out, by repeat (first | (with_reducible first | exact HB.out | apply below_alloc | apply pw_below_drewN | apply below_drew1) | exact HB.out), by repeat (first | (with_reducible first | exact HK.out | apply Kept.alloc | apply Kept.drewN | apply Kept.drew) | exact HK.out)⟩

/-! ### laws_markThingS: function 91 -/
def laws_markThingS.l0 : Nat → List (S84) → Int → Int → Option (Int × (List (S84)))
  | 0, _, _, _ => none
  | k + 1, x0, x1, x5 => if x5 < (x0.length : Int) then (if 0 ≤ x5 then ((some (x0.set (x5 : Int).toNat (⟨x1, (rd_T84 x0 x5).f1, (rd_T84 x0 x5).f2⟩ : S84) : List (S84))).bind fun y192 => ((some (y192.set (x5 : Int).toNat (⟨(rd_T84 y192 x5).f0, wrap64 (x1 + 1), (rd_T84 y192 x5).f2⟩ : S84) : List (S84))).bind fun y193 => (laws_markThingS.l0 k (y193.set (x5 : Int).toNat (⟨(rd_T84 y193 x5).f0, (rd_T84 y193 x5).f1, wrap64 ((wrap64 (x1 + 1)) + 1)⟩ : S84)) (wrap64 ((wrap64 ((wrap64 (x1 + 1)) + 1)) + 1)) (wrap64 (x5 + 1))))) else (none)) else (some (x1, x0))
def laws_markThingS.f (k : Nat) (l0 : List (S84)) (a1 : Int) : Option (Int × (List (S84))) := laws_markThingS.l0 k l0 a1 0
theorem laws_markThingS.mono_l : ∀ k, (∀ y0 y1 y2, LeO (laws_markThingS.l0 k y0 y1 y2) (laws_markThingS.l0 (k + 1) y0 y1 y2))
  | 0 => fun _ _ _ r h => by simp [laws_markThingS.l0] at h
  | k + 1 => by
    have ih0 := laws_markThingS.mono_l k
    · intro y0 y1 y2
      unfold laws_markThingS.l0
      repeat' first
      | (with_reducible exact ih0 _ _ _)
      | (with_reducible exact LeO.refl _)
      | (with_reducible exact LeO.none _)
      | (with_reducible refine LeO.ite ?_ ?_)
      | (with_reducible refine LeO.bind ?_ (fun _ => ?_))
      | exact ih0 _ _ _
      | exact LeO.none _
      | refine LeO.ite ?_ ?_
      | refine LeO.bind ?_ (fun _ => ?_)
theorem laws_markThingS.mono : ∀ a0 a1 k, LeO (laws_markThingS.f k a0 a1) (laws_markThingS.f (k + 1) a0 a1) := by
  intro a0 a1 k
  have ih0 := laws_markThingS.mono_l k
  unfold laws_markThingS.f
  repeat' first
      | (with_reducible exact ih0 _ _ _)
      | (with_reducible exact LeO.refl _)
      | (with_reducible exact LeO.none _)
      | (with_reducible refine LeO.ite ?_ ?_)
      | (with_reducible refine LeO.bind ?_ (fun _ => ?_))
      | exact ih0 _ _ _
      | exact LeO.none _
      | refine LeO.ite ?_ ?_
      | refine LeO.bind ?_ (fun _ => ?_)
set_option maxHeartbeats 8000000 in
set_option maxRecDepth 100000 in
theorem laws_markThingS.calls (k : Nat) (P0_ : Nat → Prop) (u9000_ : Value) (l0 : List (S84)) (a1 : Int) (r1 : Int) (r2 : List (S84)) (w0 w : World) (hB : Below w0.heap.size w0 w) (ho0 : Kd.R k84 84 w w0.heap.size P0_ u9000_ l0) (h : laws_markThingS.f k l0 a1 = some (r1, r2)) :
    Calls Try.prog 91 #[u9000_, .int .i64 a1] w fun e w' => e = .returned (.int .i64 r1) ∧ Kd.R k84 84 w' w0.heap.size (fun k_ => (P0_ k_ ∨ w.heap.size ≤ k_)) u9000_ r2 ∧ Below w0.heap.size w0 w' ∧ Kept w w' (fun k_ => P0_ k_) := by
  have HO0 := Aside0.mk (show Kd.R k84 84 w w0.heap.size (fun k_ => (P0_ k_ ∨ w.heap.size ≤ k_)) u9000_ l0 from Kd.R_mono ho0 (fun k_ hk => (.inl hk)))
  have HK := Aside0.mk (Kept.refl w (fun k_ => P0_ k_))
  have HW0 := Aside0.mk hB.size
  have HB := Aside0.mk hB
  clear hB
  have H : (laws_markThingS.l0 k l0 a1 0) = some (r1, r2) := h
  clear h
  have H' := Aside0.mk H
  clear H
  go_enter Try.func91, Try.ntmps91
  go_wp2
  go_loopg [1, 5] k (fun kq v1 v5 w' => ∃ (x0_1 : List (S84)) (x1_1 : Int) (x5_1 : Int), v1 = .int .i64 x1_1 ∧ v5 = .int .i64 x5_1 ∧ Aside0 (laws_markThingS.l0 kq x0_1 x1_1 x5_1 = some (r1, r2)) ∧ Aside0 (kq ≤ k) ∧ Aside0 (Kd.R k84 84 w' w0.heap.size (fun k_ => (P0_ k_ ∨ w.heap.size ≤ k_)) u9000_ x0_1) ∧ Aside0 (Kept w w' (fun k_ => P0_ k_)) ∧ Aside0 (Below w0.heap.size w0 w'))
  case atStart => exact ⟨(l0), (a1), (0), (by first | rfl | (simp; done) | (simp [*]; done)), (by first | rfl | (simp; done) | (simp [*]; done)), H', ⟨Nat.le_refl _⟩, ⟨by (with_reducible repeat (first | apply Kd.R_alloc | apply Kd.R_drewN | apply Kd.R_drew)); exact HO0.out⟩, ⟨by repeat (first | (with_reducible first | exact HK.out | apply Kept.alloc | apply Kept.drewN | apply Kept.drew) | exact HK.out)⟩, ⟨by repeat (first | (with_reducible first | exact HB.out | apply below_alloc | apply pw_below_drewN | apply below_drew1) | exact HB.out)⟩⟩
  case round =>
    clear H'
    try clear p2
    obtain ⟨x0_1, x1_1, x5_1, rfl, rfl, HA, HK1, HO_0, HK, HB⟩ := hrel
    cases gk with
    | zero => exact absurd HA.out (by simp [laws_markThingS.l0])
    | succ k1 =>
      have H := HA.out
      clear HA
      simp only [laws_markThingS.l0] at H
      by_cases c3 : x5_1 < (x0_1.length : Int)
      · rw [if_pos c3] at H
        have c3b0 : decide (x5_1 < (x0_1.length : Int)) = true := decide_eq_true c3
        clear c3
        by_cases c4 : 0 ≤ x5_1
        · rw [if_pos c4] at H
          have c4b0 : decide (0 ≤ x5_1) = true := decide_eq_true c4
          clear c4
          obtain ⟨y192, hy192⟩ : ∃ y_ : List (S84), y_ = (x0_1.set (x5_1 : Int).toNat (⟨x1_1, (rd_T84 x0_1 x5_1).f1, (rd_T84 x0_1 x5_1).f2⟩ : S84)) := ⟨_, rfl⟩
          replace H : ((some (y192.set (x5_1 : Int).toNat (⟨(rd_T84 y192 x5_1).f0, wrap64 (x1_1 + 1), (rd_T84 y192 x5_1).f2⟩ : S84) : List (S84))).bind fun y193 => (laws_markThingS.l0 k1 (y193.set (x5_1 : Int).toNat (⟨(rd_T84 y193 x5_1).f0, (rd_T84 y193 x5_1).f1, wrap64 ((wrap64 (x1_1 + 1)) + 1)⟩ : S84)) (wrap64 ((wrap64 ((wrap64 (x1_1 + 1)) + 1)) + 1)) (wrap64 (x5_1 + 1)))) = some (r1, r2) := by first | (rw [hy192]; with_reducible exact H) | (have H2_ := (Option.bind_some _ _).symm.trans H; rw [hy192]; with_reducible exact H2_) | (have H2_ := (Option.bind_some _ _).symm.trans H; with_reducible exact H2_) | with_reducible exact H | (rw [hy192]; exact H) | exact H
          have Ny192 := Aside0.mk hy192
          clear hy192
          obtain ⟨y193, hy193⟩ : ∃ y_ : List (S84), y_ = (y192.set (x5_1 : Int).toNat (⟨(rd_T84 y192 x5_1).f0, wrap64 (x1_1 + 1), (rd_T84 y192 x5_1).f2⟩ : S84)) := ⟨_, rfl⟩
          replace H : (laws_markThingS.l0 k1 (y193.set (x5_1 : Int).toNat (⟨(rd_T84 y193 x5_1).f0, (rd_T84 y193 x5_1).f1, wrap64 ((wrap64 (x1_1 + 1)) + 1)⟩ : S84)) (wrap64 ((wrap64 ((wrap64 (x1_1 + 1)) + 1)) + 1)) (wrap64 (x5_1 + 1))) = some (r1, r2) := by first | (rw [hy193]; with_reducible exact H) | (have H2_ := (Option.bind_some _ _).symm.trans H; rw [hy193]; with_reducible exact H2_) | (have H2_ := (Option.bind_some _ _).symm.trans H; with_reducible exact H2_) | with_reducible exact H | (rw [hy193]; exact H) | exact H
          have Ny193 := Aside0.mk hy193
          clear hy193
          obtain ⟨y194, hy194⟩ : ∃ y_ : List (S84), y_ = (y193.set (x5_1 : Int).toNat (⟨(rd_T84 y193 x5_1).f0, (rd_T84 y193 x5_1).f1, wrap64 ((wrap64 (x1_1 + 1)) + 1)⟩ : S84)) := ⟨_, rfl⟩
          replace H : (laws_markThingS.l0 k1 y194 (wrap64 ((wrap64 ((wrap64 (x1_1 + 1)) + 1)) + 1)) (wrap64 (x5_1 + 1))) = some (r1, r2) := by first | (rw [hy194]; with_reducible exact H) | (have H2_ := (Option.bind_some _ _).symm.trans H; rw [hy194]; with_reducible exact H2_) | (have H2_ := (Option.bind_some _ _).symm.trans H; with_reducible exact H2_) | with_reducible exact H | (rw [hy194]; exact H) | exact H
          have Ny194 := Aside0.mk hy194
          clear hy194
          have H' := Aside0.mk H
          clear H
          obtain ⟨Ao8, co8, eo8⟩ := Kd.R_slice HO_0.out
          subst eo8
          have p5 : 0 ≤ (x5_1 : Int) := of_decide_eq_true (by first | (with_reducible assumption) | assumption)
          have q5 : (x5_1 : Int) < ((x0_1.length : Int) : Int) := of_decide_eq_true (by first | (with_reducible assumption) | assumption)
          obtain ⟨go5, co5, eo5, gb5, gl5, cl5, HG5⟩ := Kd.R_form HO_0.out (by omega)
          (first | cases eo5 | (injection eo5 with ea_ en_ ec_; (first | subst ea_ | (injection ea_ with ea_; subst ea_)); subst ec_; clear en_))
          have GB5 := Aside0.mk gb5
          have GG5 := Aside0.mk HG5
          clear gb5 gl5 HG5
          have HMgo5 := Aside0.mk (show (P0_ go5 ∨ w.heap.size ≤ go5) from (HO_0.out.1 _ rfl))
          obtain ⟨ce5, hcl5, hM5, hcc5, hfr5⟩ := Kd.R_elem HO_0.out z84 (x5_1 : Int) p5 q5
          obtain rfl := k84_openM hM5
          have hx5_0 : wr.cell? ⟨go5, (x5_1 : Int).toNat * 3, none⟩ = some (.int .i64 ((rd_T84 x0_1 x5_1).f0)) := hcc5 0 _ rfl
          have hx5_1 : wr.cell? ⟨go5, (x5_1 : Int).toNat * 3 + 1, none⟩ = some (.int .i64 ((rd_T84 x0_1 x5_1).f1)) := hcc5 1 _ rfl
          have hx5_2 : wr.cell? ⟨go5, (x5_1 : Int).toNat * 3 + 2, none⟩ = some (.int .i64 ((rd_T84 x0_1 x5_1).f2)) := hcc5 2 _ rfl
          have hf5_0 : wr.frozen? ⟨go5, (x5_1 : Int).toNat * 3, none⟩ = false := hfr5 0
          have hf5_1 : wr.frozen? ⟨go5, (x5_1 : Int).toNat * 3 + 1, none⟩ = false := hfr5 1
          have hf5_2 : wr.frozen? ⟨go5, (x5_1 : Int).toNat * 3 + 2, none⟩ = false := hfr5 2
          clear hcl5 hcc5 hfr5 hM5
          replace p5 := eq_true p5
          replace q5 := eq_true q5
          have HX9 := Aside0.mk (show Kd.R k84 84 wr w0.heap.size (fun k_ => (P0_ k_ ∨ w.heap.size ≤ k_)) (.slice (some ⟨go5, 0, none⟩) x0_1.length co8) x0_1 from (by (with_reducible repeat (first | apply Kd.R_alloc | apply Kd.R_drewN | apply Kd.R_drew)); exact HO_0.out))
          obtain ⟨ce9, hcl9, hM9, hcc9, hfr9⟩ := Kd.R_elem HX9.out z84 (x5_1 : Int) (of_decide_eq_true (by first | (with_reducible assumption) | assumption)) (by have h_ : (x5_1 : Int) < ((x0_1.length : Int) : Int) := of_decide_eq_true (by first | (with_reducible assumption) | assumption); first | exact h_ | (have e_ := (Kd.R_reads' HO_0.out).1; omega) | simpa using h_)
          obtain rfl := k84_openM hM9
          have HP9 := Kd.R_seg HX9.out (x5_1 : Int) (of_decide_eq_true (by first | (with_reducible assumption) | assumption)) (by have h_ : (x5_1 : Int) < ((x0_1.length : Int) : Int) := of_decide_eq_true (by first | (with_reducible assumption) | assumption); first | exact h_ | (have e_ := (Kd.R_reads' HO_0.out).1; omega) | simpa using h_) (seg := [.int .i64 x1_1]) (j := 0) hcl9 hcc9 (show 1 ≤ 3 from by decide) (x' := (⟨x1_1, (rd_T84 x0_1 x5_1).f1, (rd_T84 x0_1 x5_1).f2⟩ : S84)) (k84_mkM _ _ _ (⟨x1_1, (rd_T84 x0_1 x5_1).f1, (rd_T84 x0_1 x5_1).f2⟩ : S84) ) (fun _ hk => hk)
          have hx9_0 := hcc9 0 _ rfl
          (try simp only [show (k84).sz = 3 from rfl, Nat.mul_one, Nat.add_zero] at hx9_0)
          have hf9_0 := hfr9 0
          (try simp only [show (k84).sz = 3 from rfl, Nat.mul_one, Nat.add_zero] at hf9_0)
          clear hcl9 hcc9 hfr9 hM9
          go_wp2_with (first | ((with_reducible refine gate_store (t := 3) (p := 16) rfl ?_); refine store_event (t := 3) (p := 16) (v := ?vo_w10) (w1 := (wr.setCell ⟨go5, (x5_1 : Int).toNat * 3, none⟩ (.int .i64 x1_1))) ?hg ?ho ?hn ?hr ?_; (case ho => rfl); (case hg => rfl); (case hn => rfl); (case hr => first | (go_simp; done) | (go_simp; rfl)); intro w10 hw; have hg : wr.grownBy w10 (some go5) := (by rw [hw]; exact HP9.2); have hp_ : Kd.R k84 84 w10 w0.heap.size (fun k_ => (P0_ k_ ∨ w.heap.size ≤ k_)) (.slice (some ⟨go5, 0, none⟩) x0_1.length co8) y192 := (by rw [hw, Ny192.out]; exact HP9.1); clear HP9; have n0_ := Aside0.mk (hp_); have n1_ := Aside0.mk ((by rw [hw]; exact below_set (HB.out) GB5.out : Below w0.heap.size w0 w10)); have n2_ := Aside0.mk (Kept.of_grown (S := (fun k_ => P0_ k_)) hg (by repeat (first | (with_reducible first | exact HK.out | apply Kept.alloc | apply Kept.drewN | apply Kept.drew) | exact HK.out)) (fun k_ e_ => (HO_0.out.1 k_ e_))); clear HO_0; clear HB; clear HK; have HO_0 := n0_; have HB := n1_; have HK := n2_; clear n0_ n1_ n2_; clear hg hw hp_; have p6 : 0 ≤ (x5_1 : Int) := of_decide_eq_true (by first | (with_reducible assumption) | assumption); have q6 : (x5_1 : Int) < ((x0_1.length : Int) : Int) := of_decide_eq_true (by first | (with_reducible assumption) | assumption); obtain ⟨ce6, hcl6, hM6, hcc6, hfr6⟩ := Kd.R_elem HO_0.out z84 (x5_1 : Int) p6 q6; obtain rfl := k84_openM hM6; have hx6_0 : w10.cell? ⟨go5, (x5_1 : Int).toNat * 3, none⟩ = some (.int .i64 ((rd_T84 y192 x5_1).f0)) := hcc6 0 _ rfl; have hx6_1 : w10.cell? ⟨go5, (x5_1 : Int).toNat * 3 + 1, none⟩ = some (.int .i64 ((rd_T84 y192 x5_1).f1)) := hcc6 1 _ rfl; have hx6_2 : w10.cell? ⟨go5, (x5_1 : Int).toNat * 3 + 2, none⟩ = some (.int .i64 ((rd_T84 y192 x5_1).f2)) := hcc6 2 _ rfl; have hf6_0 : w10.frozen? ⟨go5, (x5_1 : Int).toNat * 3, none⟩ = false := hfr6 0; have hf6_1 : w10.frozen? ⟨go5, (x5_1 : Int).toNat * 3 + 1, none⟩ = false := hfr6 1; have hf6_2 : w10.frozen? ⟨go5, (x5_1 : Int).toNat * 3 + 2, none⟩ = false := hfr6 2; clear hcl6 hcc6 hfr6 hM6; replace p6 := eq_true p6; replace q6 := eq_true q6; have HX11 := Aside0.mk (show Kd.R k84 84 w10 w0.heap.size (fun k_ => (P0_ k_ ∨ w.heap.size ≤ k_)) (.slice (some ⟨go5, 0, none⟩) x0_1.length co8) y192 from (by (with_reducible repeat (first | apply Kd.R_alloc | apply Kd.R_drewN | apply Kd.R_drew)); exact HO_0.out)); obtain ⟨ce11, hcl11, hM11, hcc11, hfr11⟩ := Kd.R_elem HX11.out z84 (x5_1 : Int) (of_decide_eq_true (by first | (with_reducible assumption) | assumption)) (by have h_ : (x5_1 : Int) < ((x0_1.length : Int) : Int) := of_decide_eq_true (by first | (with_reducible assumption) | assumption); first | exact h_ | (have e_ := (Kd.R_reads' HO_0.out).1; omega) | simpa using h_); obtain rfl := k84_openM hM11; have HP11 := Kd.R_seg HX11.out (x5_1 : Int) (of_decide_eq_true (by first | (with_reducible assumption) | assumption)) (by have h_ : (x5_1 : Int) < ((x0_1.length : Int) : Int) := of_decide_eq_true (by first | (with_reducible assumption) | assumption); first | exact h_ | (have e_ := (Kd.R_reads' HO_0.out).1; omega) | simpa using h_) (seg := [.int .i64 (wrap64 (x1_1 + 1))]) (j := 1) hcl11 hcc11 (show 2 ≤ 3 from by decide) (x' := (⟨(rd_T84 y192 x5_1).f0, wrap64 (x1_1 + 1), (rd_T84 y192 x5_1).f2⟩ : S84)) (k84_mkM _ _ _ (⟨(rd_T84 y192 x5_1).f0, wrap64 (x1_1 + 1), (rd_T84 y192 x5_1).f2⟩ : S84) ) (fun _ hk => hk); have hx11_1 := hcc11 1 _ rfl; (try simp only [show (k84).sz = 3 from rfl, Nat.mul_one, Nat.add_zero] at hx11_1); have hf11_1 := hfr11 1; (try simp only [show (k84).sz = 3 from rfl, Nat.mul_one, Nat.add_zero] at hf11_1); clear hcl11 hcc11 hfr11 hM11) | ((with_reducible refine gate_store (t := 3) (p := 23) rfl ?_); refine store_event (t := 3) (p := 23) (v := ?vo_w12) (w1 := (w10.setCell ⟨go5, (x5_1 : Int).toNat * 3 + 1, none⟩ (.int .i64 (wrap64 (x1_1 + 1))))) ?hg ?ho ?hn ?hr ?_; (case ho => rfl); (case hg => rfl); (case hn => rfl); (case hr => first | (go_simp; done) | (go_simp; rfl)); intro w12 hw; have hg : w10.grownBy w12 (some go5) := (by rw [hw]; exact HP11.2); have hp_ : Kd.R k84 84 w12 w0.heap.size (fun k_ => (P0_ k_ ∨ w.heap.size ≤ k_)) (.slice (some ⟨go5, 0, none⟩) x0_1.length co8) y193 := (by rw [hw, Ny193.out]; exact HP11.1); clear HP11; have n0_ := Aside0.mk (hp_); have n1_ := Aside0.mk ((by rw [hw]; exact below_set (HB.out) GB5.out : Below w0.heap.size w0 w12)); have n2_ := Aside0.mk (Kept.of_grown (S := (fun k_ => P0_ k_)) hg (by repeat (first | (with_reducible first | exact HK.out | apply Kept.alloc | apply Kept.drewN | apply Kept.drew) | exact HK.out)) (fun k_ e_ => (HO_0.out.1 k_ e_))); clear HO_0; clear HB; clear HK; have HO_0 := n0_; have HB := n1_; have HK := n2_; clear n0_ n1_ n2_; clear hg hw hp_; have p7 : 0 ≤ (x5_1 : Int) := of_decide_eq_true (by first | (with_reducible assumption) | assumption); have q7 : (x5_1 : Int) < ((x0_1.length : Int) : Int) := of_decide_eq_true (by first | (with_reducible assumption) | assumption); obtain ⟨ce7, hcl7, hM7, hcc7, hfr7⟩ := Kd.R_elem HO_0.out z84 (x5_1 : Int) p7 q7; obtain rfl := k84_openM hM7; have hx7_0 : w12.cell? ⟨go5, (x5_1 : Int).toNat * 3, none⟩ = some (.int .i64 ((rd_T84 y193 x5_1).f0)) := hcc7 0 _ rfl; have hx7_1 : w12.cell? ⟨go5, (x5_1 : Int).toNat * 3 + 1, none⟩ = some (.int .i64 ((rd_T84 y193 x5_1).f1)) := hcc7 1 _ rfl; have hx7_2 : w12.cell? ⟨go5, (x5_1 : Int).toNat * 3 + 2, none⟩ = some (.int .i64 ((rd_T84 y193 x5_1).f2)) := hcc7 2 _ rfl; have hf7_0 : w12.frozen? ⟨go5, (x5_1 : Int).toNat * 3, none⟩ = false := hfr7 0; have hf7_1 : w12.frozen? ⟨go5, (x5_1 : Int).toNat * 3 + 1, none⟩ = false := hfr7 1; have hf7_2 : w12.frozen? ⟨go5, (x5_1 : Int).toNat * 3 + 2, none⟩ = false := hfr7 2; clear hcl7 hcc7 hfr7 hM7; replace p7 := eq_true p7; replace q7 := eq_true q7; have HX13 := Aside0.mk (show Kd.R k84 84 w12 w0.heap.size (fun k_ => (P0_ k_ ∨ w.heap.size ≤ k_)) (.slice (some ⟨go5, 0, none⟩) x0_1.length co8) y193 from (by (with_reducible repeat (first | apply Kd.R_alloc | apply Kd.R_drewN | apply Kd.R_drew)); exact HO_0.out)); obtain ⟨ce13, hcl13, hM13, hcc13, hfr13⟩ := Kd.R_elem HX13.out z84 (x5_1 : Int) (of_decide_eq_true (by first | (with_reducible assumption) | assumption)) (by have h_ : (x5_1 : Int) < ((x0_1.length : Int) : Int) := of_decide_eq_true (by first | (with_reducible assumption) | assumption); first | exact h_ | (have e_ := (Kd.R_reads' HO_0.out).1; omega) | simpa using h_); obtain rfl := k84_openM hM13; have HP13 := Kd.R_seg HX13.out (x5_1 : Int) (of_decide_eq_true (by first | (with_reducible assumption) | assumption)) (by have h_ : (x5_1 : Int) < ((x0_1.length : Int) : Int) := of_decide_eq_true (by first | (with_reducible assumption) | assumption); first | exact h_ | (have e_ := (Kd.R_reads' HO_0.out).1; omega) | simpa using h_) (seg := [.int .i64 (wrap64 ((wrap64 (x1_1 + 1)) + 1))]) (j := 2) hcl13 hcc13 (show 3 ≤ 3 from by decide) (x' := (⟨(rd_T84 y193 x5_1).f0, (rd_T84 y193 x5_1).f1, wrap64 ((wrap64 (x1_1 + 1)) + 1)⟩ : S84)) (k84_mkM _ _ _ (⟨(rd_T84 y193 x5_1).f0, (rd_T84 y193 x5_1).f1, wrap64 ((wrap64 (x1_1 + 1)) + 1)⟩ : S84) ) (fun _ hk => hk); have hx13_2 := hcc13 2 _ rfl; (try simp only [show (k84).sz = 3 from rfl, Nat.mul_one, Nat.add_zero] at hx13_2); have hf13_2 := hfr13 2; (try simp only [show (k84).sz = 3 from rfl, Nat.mul_one, Nat.add_zero] at hf13_2); clear hcl13 hcc13 hfr13 hM13) | ((with_reducible refine gate_store (t := 3) (p := 30) rfl ?_); refine store_event (t := 3) (p := 30) (v := ?vo_w14) (w1 := (w12.setCell ⟨go5, (x5_1 : Int).toNat * 3 + 2, none⟩ (.int .i64 (wrap64 ((wrap64 (x1_1 + 1)) + 1))))) ?hg ?ho ?hn ?hr ?_; (case ho => rfl); (case hg => rfl); (case hn => rfl); (case hr => first | (go_simp; done) | (go_simp; rfl)); intro w14 hw; have hg : w12.grownBy w14 (some go5) := (by rw [hw]; exact HP13.2); have hp_ : Kd.R k84 84 w14 w0.heap.size (fun k_ => (P0_ k_ ∨ w.heap.size ≤ k_)) (.slice (some ⟨go5, 0, none⟩) x0_1.length co8) y194 := (by rw [hw, Ny194.out]; exact HP13.1); clear HP13; have n0_ := Aside0.mk (hp_); have n1_ := Aside0.mk ((by rw [hw]; exact below_set (HB.out) GB5.out : Below w0.heap.size w0 w14)); have n2_ := Aside0.mk (Kept.of_grown (S := (fun k_ => P0_ k_)) hg (by repeat (first | (with_reducible first | exact HK.out | apply Kept.alloc | apply Kept.drewN | apply Kept.drew) | exact HK.out)) (fun k_ e_ => (HO_0.out.1 k_ e_))); clear HO_0; clear HB; clear HK; have HO_0 := n0_; have HB := n1_; have HK := n2_; clear n0_ n1_ n2_; clear hg hw hp_))
          go_roundg k1
          case measure => have := HK1.out; omega
          case rel => exact ⟨(y194), (wrap64 ((wrap64 ((wrap64 (x1_1 + 1)) + 1)) + 1)), (wrap64 (x5_1 + 1)), (by first | rfl | (simp; done) | (simp [*]; done)), (by first | rfl | (simp; done) | (simp [*]; done)), H', ⟨by have := HK1.out; omega⟩, ⟨by (with_reducible repeat (first | apply Kd.R_alloc | apply Kd.R_drewN | apply Kd.R_drew)); exact HO_0.out⟩, ⟨by repeat (first | (with_reducible first | exact HK.out | apply Kept.alloc | apply Kept.drewN | apply Kept.drew) | exact HK.out)⟩, ⟨by repeat (first | (with_reducible first | exact HB.out | apply below_alloc | apply pw_below_drewN | apply below_drew1) | exact HB.out)⟩⟩
        · rw [if_neg c4] at H
          exact absurd H (by simp)
      · rw [if_neg c3] at H
        have c3b0 : decide (x5_1 < (x0_1.length : Int)) = false := decide_eq_false c3
        clear c3
        simp only [Option.some.injEq, Prod.mk.injEq] at H
        obtain ⟨rfl, rfl⟩ := H
        obtain ⟨Ao15, co15, eo15⟩ := Kd.R_slice HO_0.out
        subst eo15
        go_wp2
        go_ret
        exact ⟨by first | rfl | (simp [errW_none, errW_some] <;> rfl) | (simp [*, errW_none, errW_some] <;> rfl), by (with_reducible repeat (first | apply Kd.R_alloc | apply Kd.R_drewN | apply Kd.R_drew)); exact HO_0.out, by repeat (first | (with_reducible first | exact HB.out | apply below_alloc | apply pw_below_drewN | apply below_drew1) | exact HB.out), by repeat (first | (with_reducible first | exact HK.out | apply Kept.alloc | apply Kept.drewN | apply Kept.drew) | exact HK.out)⟩

/-! ### laws_markNodeS: function 37 (by hand) -/
def laws_markNodeS.l0 : Nat → List (S37) → Int → Int → Option (Int × (List (S37)))
  | 0, _, _, _ => none
  | k + 1, x0, x1, x5 => if x5 < (x0.length : Int) then (if 0 ≤ x5 then ((laws_markIntS.f k (rd_T37 x0 x5).f8 (wrap64 ((wrap64 ((wrap64 ((wrap64 ((wrap64 ((wrap64 ((wrap64 ((wrap64 (x1 + 1)) + 1)) + 1)) + 1)) + 1)) + 1)) + 1)) + 1))).bind fun b => ((laws_markThingS.f k (rd_T37 x0 x5).f11 (wrap64 ((wrap64 (b.1 + 1)) + 1))).bind fun c => ((laws_markIntS.f k (rd_T37 x0 x5).f12 c.1).bind fun d => (laws_markNodeS.l0 k (x0.set (x5 : Int).toNat (⟨x1, wrap64 (x1 + 1), wrap64 ((wrap64 (x1 + 1)) + 1), wrap64 ((wrap64 ((wrap64 (x1 + 1)) + 1)) + 1), wrap64 ((wrap64 ((wrap64 ((wrap64 (x1 + 1)) + 1)) + 1)) + 1), wrap64 ((wrap64 ((wrap64 ((wrap64 ((wrap64 (x1 + 1)) + 1)) + 1)) + 1)) + 1), wrap64 ((wrap64 ((wrap64 ((wrap64 ((wrap64 ((wrap64 (x1 + 1)) + 1)) + 1)) + 1)) + 1)) + 1), wrap64 ((wrap64 ((wrap64 ((wrap64 ((wrap64 ((wrap64 ((wrap64 (x1 + 1)) + 1)) + 1)) + 1)) + 1)) + 1)) + 1), b.2, b.1, wrap64 (b.1 + 1), c.2, d.2⟩ : S37)) d.1 (wrap64 (x5 + 1)))))) else (none)) else (some (x1, x0))
def laws_markNodeS.f (k : Nat) (l0 : List (S37)) (a1 : Int) : Option (Int × (List (S37))) := laws_markNodeS.l0 k l0 a1 0
theorem laws_markNodeS.mono_l : ∀ k, (∀ y0 y1 y2, LeO (laws_markNodeS.l0 k y0 y1 y2) (laws_markNodeS.l0 (k + 1) y0 y1 y2))
  | 0 => fun _ _ _ r h => by simp [laws_markNodeS.l0] at h
  | k + 1 => by
    have ih0 := laws_markNodeS.mono_l k
    · intro y0 y1 y2
      unfold laws_markNodeS.l0
      repeat' first
      | (with_reducible exact ih0 _ _ _)
      | (with_reducible exact laws_markIntS.mono _ _ _)
      | (with_reducible exact laws_markThingS.mono _ _ _)
      | (with_reducible exact LeO.refl _)
      | (with_reducible exact LeO.none _)
      | (with_reducible refine LeO.ite ?_ ?_)
      | (with_reducible refine LeO.bind ?_ (fun _ => ?_))
      | exact ih0 _ _ _
      | exact laws_markIntS.mono _ _ _
      | exact laws_markThingS.mono _ _ _
      | exact LeO.none _
      | refine LeO.ite ?_ ?_
      | refine LeO.bind ?_ (fun _ => ?_)
theorem laws_markNodeS.mono : ∀ a0 a1 k, LeO (laws_markNodeS.f k a0 a1) (laws_markNodeS.f (k + 1) a0 a1) := by
  intro a0 a1 k
  exact laws_markNodeS.mono_l k _ _ _
theorem laws_markNodeS.elder {α : Type} {d : Kd α} {e base : Nat} {W w1 : World} {ok : Nat → Prop} {u v : Value} {xs : List α} (h : Kd.S d e W base ok u xs) (hbase : ∀ k, v.ownBlock = some k → W.heap.size ≤ k) (hb : Below W.heap.size W w1) : Kd.S d e w1 base (fun k => (ok k ∧ k < W.heap.size) ∧ some k ≠ v.ownBlock) u xs :=
  Kd.S_elder' (Kd.S_mono (Kd.S_bound h) (fun k hk => ⟨hk.1, hk.2.2.1⟩)) hbase hb
theorem laws_markNodeS.fresh {α : Type} {d : Kd α} {e base : Nat} {w1 : World} {v : Value} {xs : List α} (h : Kd.S d e w1 base (fun _ => True) v xs) : Kd.S d e w1 base (fun k => True ∧ base ≤ k) v xs :=
  Kd.S_mono (Kd.S_bound h) (fun k hk => ⟨trivial, hk.2.1⟩)
theorem laws_markNodeS.ne_blk {w : World} {g t : Nat} {cells : Array Value} {l : List Nat} (h : ∃ q, q ∈ l ∧ ∃ cells, w.heap[g]? = some (.cells cells q (0, 0))) (hb : w.heap[g]? = some (.cells cells t (0, 0))) (ht : ∀ q, q ∈ l → q ≠ t) : False := by
  obtain ⟨q, hq, c, hc⟩ := h
  rw [hc] at hb
  injection hb with hb
  injection hb with _ hb
  exact ht q hq hb
/-- In the midst of element i: the row with a hole, the element's cells, and the three rows that it leads to, apart. -/
structure laws_markNodeS.Mid (w0 w W : World) (P0 : Nat → Prop) (g n cap : Nat) (xs : List (S37)) (i : Int) (oki : Nat → Prop) (c : List Value) (v8 v11 v12 : Value) (l8 : List Int) (l11 : List (S84)) (l12 : List Int) : Prop where
  hole : Kd.H k37 37 W w0.heap.size (fun k_ => P0 k_) (.slice (some ⟨g, 0, none⟩) n cap) xs i oki c
  h0 : 0 ≤ i
  h1 : i < n
  r8 : Kd.R (Kd.int .i64) 3 W w0.heap.size (fun k_ => some k_ = v8.ownBlock) v8 l8
  r11 : Kd.R k84 84 W w0.heap.size (fun k_ => some k_ = v11.ownBlock) v11 l11
  r12 : Kd.R (Kd.int .i64) 3 W w0.heap.size (fun k_ => some k_ = v12.ownBlock) v12 l12
  i8 : ∀ k_, some k_ = v8.ownBlock → oki k_
  i11 : ∀ k_, some k_ = v11.ownBlock → oki k_
  i12 : ∀ k_, some k_ = v12.ownBlock → oki k_
  ap : ∀ b, v8.ownBlock = some b → v12.ownBlock ≠ some b
  below : Below w0.heap.size w0 W
  kept : Kept w W P0
  big : w0.heap.size ≤ w.heap.size
section
variable {w0 w W W1 : World} {P0 : Nat → Prop} {g n cap : Nat} {xs : List (S37)} {i : Int} {oki : Nat → Prop} {c : List Value} {v8 v11 v12 : Value} {l8 m8 : List Int} {l11 m11 : List (S84)} {l12 m12 : List Int}
theorem laws_markNodeS.Mid.own (h : laws_markNodeS.Mid w0 w W P0 g n cap xs i oki c v8 v11 v12 l8 l11 l12) : P0 g := by
  obtain ⟨_, f, hR⟩ := h.hole
  exact (hR.1 g (by simp [Value.ownBlock])).1
theorem laws_markNodeS.Mid.away (h : laws_markNodeS.Mid w0 w W P0 g n cap xs i oki c v8 v11 v12 l8 l11 l12) : ∀ k_, oki k_ → k_ ≠ g := by
  intro k_ hk he
  subst he
  obtain ⟨_, f, hR⟩ := h.hole
  exact (hR.1 k_ (by simp [Value.ownBlock])).2 hk
theorem laws_markNodeS.Mid.base (h : laws_markNodeS.Mid w0 w W P0 g n cap xs i oki c v8 v11 v12 l8 l11 l12) : w0.heap.size ≤ g := by
  obtain ⟨_, f, hR⟩ := h.hole
  obtain ⟨inner, ho⟩ := Kd.R_own hR
  exact own_base ho g (by simp [Value.ownBlock])
theorem laws_markNodeS.Mid.cell (h : laws_markNodeS.Mid w0 w W P0 g n cap xs i oki c v8 v11 v12 l8 l11 l12) (j : Nat) (u : Value) (hu : c[j]? = some u) : W.cell? ⟨g, i.toNat * 13 + j, none⟩ = some u := by
  obtain ⟨_, _, _, _, _, hcc, _⟩ := Kd.H_raw h.hole h.h0 h.h1
  exact hcc j u hu
theorem laws_markNodeS.Mid.len (h : laws_markNodeS.Mid w0 w W P0 g n cap xs i oki c v8 v11 v12 l8 l11 l12) : c.length = 13 := by
  obtain ⟨_, _, _, hcl, _⟩ := Kd.H_raw h.hole h.h0 h.h1
  exact hcl
theorem laws_markNodeS.Mid.frozen (h : laws_markNodeS.Mid w0 w W P0 g n cap xs i oki c v8 v11 v12 l8 l11 l12) (j : Nat) : W.frozen? ⟨g, j, none⟩ = false := by
  obtain ⟨_, f, hR⟩ := h.hole
  obtain ⟨cells, hc⟩ := Kd.R_typed hR g (by simp [Value.ownBlock])
  exact blk_frozen hc j
theorem laws_markNodeS.Mid.store (h : laws_markNodeS.Mid w0 w W P0 g n cap xs i oki c v8 v11 v12 l8 l11 l12) (j : Nat) (hj : j < 13) (u : Value) (hu : u.oneCell' = true) : laws_markNodeS.Mid w0 w (W.setCell ⟨g, i.toNat * 13 + j, none⟩ u) P0 g n cap xs i oki (c.take j ++ [u] ++ c.drop (j + 1)) v8 v11 v12 l8 l11 l12 := by
  obtain ⟨h2, h3⟩ := Kd.H_seg h.hole h.h0 h.h1 (seg := [u]) (j := j) (show j + 1 ≤ 13 from hj) (fun q hq => by rw [List.mem_singleton.mp hq]; exact hu)
  have hne : ∀ k_, oki k_ → k_ ≠ g := h.away
  exact { hole := h2, h0 := h.h0, h1 := h.h1, r8 := Kd.R_far h.r8 (fun k_ hk => hne k_ (h.i8 k_ hk)) u, r11 := Kd.R_far h.r11 (fun k_ hk => hne k_ (h.i11 k_ hk)) u, r12 := Kd.R_far h.r12 (fun k_ hk => hne k_ (h.i12 k_ hk)) u, i8 := h.i8, i11 := h.i11, i12 := h.i12, ap := h.ap, below := below_set h.below h.base, kept := Kept.setCell h.kept (.inl h.own) u, big := h.big }
theorem laws_markNodeS.Mid.ok (h : laws_markNodeS.Mid w0 w W P0 g n cap xs i oki c v8 v11 v12 l8 l11 l12) : ∀ k_, oki k_ → P0 k_ := h.hole.1
theorem laws_markNodeS.Mid.drawn (h : laws_markNodeS.Mid w0 w W P0 g n cap xs i oki c v8 v11 v12 l8 l11 l12) (hb : Below W.heap.size W W1) : laws_markNodeS.Mid w0 w W1 P0 g n cap xs i oki c v8 v11 v12 l8 l11 l12 :=
  { hole := Kd.H_below h.hole hb, h0 := h.h0, h1 := h.h1, r8 := Kd.R_below h.r8 hb, r11 := Kd.R_below h.r11 hb, r12 := Kd.R_below h.r12 hb, i8 := h.i8, i11 := h.i11, i12 := h.i12, ap := h.ap, below := below_step h.below hb, kept := Kept.below h.kept hb, big := h.big }
theorem laws_markNodeS.Mid.split (h : laws_markNodeS.Mid w0 w W P0 g n cap xs i oki c v8 v11 v12 l8 l11 l12) : (∀ k_, some k_ = v11.ownBlock → some k_ ≠ v8.ownBlock) ∧ (∀ k_, some k_ = v11.ownBlock → some k_ ≠ v12.ownBlock) := by
  constructor
  · intro k_ h1 h2
    obtain ⟨c1, e1⟩ := Kd.R_typed h.r11 k_ h1.symm
    obtain ⟨c2, e2⟩ := Kd.R_typed h.r8 k_ h2.symm
    rw [e1] at e2
    injection e2 with e2
    injection e2 with _ e2
    exact absurd e2 (by decide)
  · intro k_ h1 h2
    obtain ⟨c1, e1⟩ := Kd.R_typed h.r11 k_ h1.symm
    obtain ⟨c2, e2⟩ := Kd.R_typed h.r12 k_ h2.symm
    rw [e1] at e2
    injection e2 with e2
    injection e2 with _ e2
    exact absurd e2 (by decide)
theorem laws_markNodeS.Mid.mark8 (h : laws_markNodeS.Mid w0 w W P0 g n cap xs i oki c v8 v11 v12 l8 l11 l12) (hr : Kd.R (Kd.int .i64) 3 W1 w0.heap.size (fun k_ => (some k_ = v8.ownBlock ∨ W.heap.size ≤ k_)) v8 m8) (hb : Below w0.heap.size w0 W1) (hk : Kept W W1 (fun k_ => some k_ = v8.ownBlock)) : laws_markNodeS.Mid w0 w W1 P0 g n cap xs i oki c v8 v11 v12 m8 l11 l12 :=
  { hole := Kd.H_kept h.hole hk (fun k_ _ hn he => hn (h.i8 k_ he)), h0 := h.h0, h1 := h.h1, r8 := Kd.R_tight rfl hr, r11 := Kd.R_kept h.r11 hk (fun k_ hk => h.split.1 k_ hk), r12 := Kd.R_kept h.r12 hk (fun k_ h1 h2 => h.ap k_ h2.symm h1.symm), i8 := h.i8, i11 := h.i11, i12 := h.i12, ap := h.ap, below := hb, kept := Kept.then_ h.kept hk (fun k_ he => .inl (h.ok k_ (h.i8 k_ he))), big := h.big }
theorem laws_markNodeS.Mid.mark11 (h : laws_markNodeS.Mid w0 w W P0 g n cap xs i oki c v8 v11 v12 l8 l11 l12) (hr : Kd.R k84 84 W1 w0.heap.size (fun k_ => (some k_ = v11.ownBlock ∨ W.heap.size ≤ k_)) v11 m11) (hb : Below w0.heap.size w0 W1) (hk : Kept W W1 (fun k_ => some k_ = v11.ownBlock)) : laws_markNodeS.Mid w0 w W1 P0 g n cap xs i oki c v8 v11 v12 l8 m11 l12 :=
  { hole := Kd.H_kept h.hole hk (fun k_ _ hn he => hn (h.i11 k_ he)), h0 := h.h0, h1 := h.h1, r8 := Kd.R_kept h.r8 hk (fun k_ h1 h2 => h.split.1 k_ h2 h1), r11 := Kd.R_tight rfl hr, r12 := Kd.R_kept h.r12 hk (fun k_ h1 h2 => h.split.2 k_ h2 h1), i8 := h.i8, i11 := h.i11, i12 := h.i12, ap := h.ap, below := hb, kept := Kept.then_ h.kept hk (fun k_ he => .inl (h.ok k_ (h.i11 k_ he))), big := h.big }
theorem laws_markNodeS.Mid.mark12 (h : laws_markNodeS.Mid w0 w W P0 g n cap xs i oki c v8 v11 v12 l8 l11 l12) (hr : Kd.R (Kd.int .i64) 3 W1 w0.heap.size (fun k_ => (some k_ = v12.ownBlock ∨ W.heap.size ≤ k_)) v12 m12) (hb : Below w0.heap.size w0 W1) (hk : Kept W W1 (fun k_ => some k_ = v12.ownBlock)) : laws_markNodeS.Mid w0 w W1 P0 g n cap xs i oki c v8 v11 v12 l8 l11 m12 :=
  { hole := Kd.H_kept h.hole hk (fun k_ _ hn he => hn (h.i12 k_ he)), h0 := h.h0, h1 := h.h1, r8 := Kd.R_kept h.r8 hk (fun k_ h1 h2 => h.ap k_ h1.symm h2.symm), r11 := Kd.R_kept h.r11 hk (fun k_ hk => h.split.2 k_ hk), r12 := Kd.R_tight rfl hr, i8 := h.i8, i11 := h.i11, i12 := h.i12, ap := h.ap, below := hb, kept := Kept.then_ h.kept hk (fun k_ he => .inl (h.ok k_ (h.i12 k_ he))), big := h.big }
theorem laws_markNodeS.Mid.start (h : Kd.S k37 37 W w0.heap.size (fun k_ => P0 k_) (.slice (some ⟨g, 0, none⟩) n cap) xs) (h0 : 0 ≤ i) (h1 : i < n) (hB : Below w0.heap.size w0 W) (hK : Kept w W P0) (hW : w0.heap.size ≤ w.heap.size) :
    ∃ oki v8 v11 v12, laws_markNodeS.Mid w0 w W P0 g n cap xs i oki [.int .i64 (rd_T37 xs i).f0, .int .i64 (rd_T37 xs i).f1, .int .i64 (rd_T37 xs i).f2, .int .i64 (rd_T37 xs i).f3, .int .i64 (rd_T37 xs i).f4, .int .i64 (rd_T37 xs i).f5, .int .i64 (rd_T37 xs i).f6, .int .i64 (rd_T37 xs i).f7, v8, .int .i64 (rd_T37 xs i).f9, .int .i64 (rd_T37 xs i).f10, v11, v12] v8 v11 v12 (rd_T37 xs i).f8 (rd_T37 xs i).f11 (rd_T37 xs i).f12 := by
  obtain ⟨oki, c, hcl, hM, hcc, hfr, hoki, hH⟩ := Kd.S_elem h z37 i h0 h1
  have hap := k37_apart hM
  obtain ⟨v8, v11, v12, rfl, g8, g11, g12⟩ := k37_openM hM
  exact ⟨oki, v8, v11, v12, { hole := hH, h0 := h0, h1 := h1, r8 := Kd.R_tight rfl g8, r11 := Kd.R_tight rfl g11, r12 := Kd.R_tight rfl g12, i8 := fun k_ hk => g8.1 k_ hk.symm, i11 := fun k_ hk => g11.1 k_ hk.symm, i12 := fun k_ hk => g12.1 k_ hk.symm, ap := hap, below := hB, kept := hK, big := hW }⟩
theorem laws_markNodeS.Mid.back {x' : S37} (h : laws_markNodeS.Mid w0 w W P0 g n cap xs i oki [.int .i64 x'.f0, .int .i64 x'.f1, .int .i64 x'.f2, .int .i64 x'.f3, .int .i64 x'.f4, .int .i64 x'.f5, .int .i64 x'.f6, .int .i64 x'.f7, v8, .int .i64 x'.f9, .int .i64 x'.f10, v11, v12] v8 v11 v12 x'.f8 x'.f11 x'.f12) :
    Kd.S k37 37 W w0.heap.size (fun k_ => P0 k_) (.slice (some ⟨g, 0, none⟩) n cap) (xs.set i.toNat x') :=
  Kd.H_back h.hole (k37_mkM W w0.heap.size oki x' (Kd.R_mono h.r8 h.i8) (Kd.R_mono h.r11 h.i11) (Kd.R_mono h.r12 h.i12) h.ap) (fun _ hk => hk)
end
set_option maxHeartbeats 16000000 in
set_option maxRecDepth 100000 in
theorem laws_markNodeS.calls (k : Nat) (P0_ : Nat → Prop) (u9000_ : Value) (l0 : List (S37)) (a1 : Int) (r1 : Int) (r2 : List (S37)) (w0 w : World) (hB : Below w0.heap.size w0 w) (ho0 : Kd.S k37 37 w w0.heap.size P0_ u9000_ l0) (h : laws_markNodeS.f k l0 a1 = some (r1, r2)) :
    Calls Try.prog 37 #[u9000_, .int .i64 a1] w fun e w' => e = .returned (.int .i64 r1) ∧ Kd.S k37 37 w' w0.heap.size (fun k_ => P0_ k_) u9000_ r2 ∧ Below w0.heap.size w0 w' ∧ Kept w w' (fun k_ => P0_ k_) := by
  have HO0 := Aside0.mk (show Kd.S k37 37 w w0.heap.size (fun k_ => P0_ k_) u9000_ l0 from ho0)
  have HK := Aside0.mk (Kept.refl w (fun k_ => P0_ k_))
  have HW0 := Aside0.mk hB.size
  have HB := Aside0.mk hB
  clear hB
  have H : (laws_markNodeS.l0 k l0 a1 0) = some (r1, r2) := h
  clear h
  have H' := Aside0.mk H
  clear H
  go_enter Try.func37, Try.ntmps37
  go_wp2
  go_loopg [1, 5] k (fun kq v1 v5 w' => ∃ (x0_1 : List (S37)) (x1_1 : Int) (x5_1 : Int), v1 = .int .i64 x1_1 ∧ v5 = .int .i64 x5_1 ∧ Aside0 (laws_markNodeS.l0 kq x0_1 x1_1 x5_1 = some (r1, r2)) ∧ Aside0 (kq ≤ k) ∧ Aside0 (Kd.S k37 37 w' w0.heap.size (fun k_ => P0_ k_) u9000_ x0_1) ∧ Aside0 (Kept w w' (fun k_ => P0_ k_)) ∧ Aside0 (Below w0.heap.size w0 w'))
  case atStart => exact ⟨(l0), (a1), (0), (by first | rfl | (simp; done) | (simp [*]; done)), (by first | rfl | (simp; done) | (simp [*]; done)), H', ⟨Nat.le_refl _⟩, ⟨by (with_reducible repeat (first | apply Kd.S_alloc | apply Kd.S_drewN | apply Kd.S_drew)); exact HO0.out⟩, ⟨by repeat (first | (with_reducible first | exact HK.out | apply Kept.alloc | apply Kept.drewN | apply Kept.drew) | exact HK.out)⟩, ⟨by repeat (first | (with_reducible first | exact HB.out | apply below_alloc | apply pw_below_drewN | apply below_drew1) | exact HB.out)⟩⟩
  case round =>
    clear H'
    try clear p2
    obtain ⟨x0_1, x1_1, x5_1, rfl, rfl, HA, HK1, HO_0, HK, HB⟩ := hrel
    cases gk with
    | zero => exact absurd HA.out (by simp [laws_markNodeS.l0])
    | succ k1 =>
      have H := HA.out
      clear HA
      simp only [laws_markNodeS.l0] at H
      by_cases c3 : x5_1 < (x0_1.length : Int)
      · rw [if_pos c3] at H
        have c3b0 : decide (x5_1 < (x0_1.length : Int)) = true := decide_eq_true c3
        by_cases c4 : 0 ≤ x5_1
        · rw [if_pos c4] at H
          have c4b0 : decide (0 ≤ x5_1) = true := decide_eq_true c4
          replace H := Option.bind_eq_some_iff.mp H
          obtain ⟨⟨b1, b2⟩, A1, H⟩ := H
          replace H := Option.bind_eq_some_iff.mp H
          obtain ⟨⟨c1, c2⟩, A2, H⟩ := H
          replace H := Option.bind_eq_some_iff.mp H
          obtain ⟨⟨d1, d2⟩, A3, H⟩ := H
          replace A2 : laws_markThingS.f k1 (rd_T37 x0_1 x5_1).f11 (wrap64 ((wrap64 (b1 + 1)) + 1)) = some (c1, c2) := A2
          replace A3 : laws_markIntS.f k1 (rd_T37 x0_1 x5_1).f12 c1 = some (d1, d2) := A3
          replace H : laws_markNodeS.l0 k1 (x0_1.set (x5_1 : Int).toNat (⟨x1_1, wrap64 (x1_1 + 1), wrap64 ((wrap64 (x1_1 + 1)) + 1), wrap64 ((wrap64 ((wrap64 (x1_1 + 1)) + 1)) + 1), wrap64 ((wrap64 ((wrap64 ((wrap64 (x1_1 + 1)) + 1)) + 1)) + 1), wrap64 ((wrap64 ((wrap64 ((wrap64 ((wrap64 (x1_1 + 1)) + 1)) + 1)) + 1)) + 1), wrap64 ((wrap64 ((wrap64 ((wrap64 ((wrap64 ((wrap64 (x1_1 + 1)) + 1)) + 1)) + 1)) + 1)) + 1), wrap64 ((wrap64 ((wrap64 ((wrap64 ((wrap64 ((wrap64 ((wrap64 (x1_1 + 1)) + 1)) + 1)) + 1)) + 1)) + 1)) + 1), b2, b1, wrap64 (b1 + 1), c2, d2⟩ : S37)) d1 (wrap64 (x5_1 + 1)) = some (r1, r2) := H
          replace A1 := Aside0.mk A1
          replace A2 := Aside0.mk A2
          replace A3 := Aside0.mk A3
          have H' := Aside0.mk H
          clear H
          obtain ⟨Ao8, co8, eo8⟩ := Kd.R_slice (Kd.S_R HO_0.out)
          subst eo8
          obtain ⟨go5, co5, eo5, gb5, gl5, cl5, HG5⟩ := Kd.R_form (Kd.S_R HO_0.out) (by omega)
          (first | cases eo5 | (injection eo5 with ea_ en_ ec_; (first | subst ea_ | (injection ea_ with ea_; subst ea_)); subst ec_; clear en_))
          obtain ⟨oki, v8, v11, v12, hm⟩ := laws_markNodeS.Mid.start HO_0.out c4 (by exact_mod_cast c3) HB.out HK.out HW0.out
          have HM := Aside0.mk hm
          clear hm HO_0 HB HK gb5 gl5 HG5
          have p5 := eq_true c4
          have q5 := eq_true c3
          clear c3 c4
          have hx0 : wr.cell? ⟨go5, (x5_1 : Int).toNat * 13, none⟩ = some (.int .i64 (rd_T37 x0_1 x5_1).f0) := HM.out.cell 0 _ rfl
          have hf0 : wr.frozen? ⟨go5, (x5_1 : Int).toNat * 13, none⟩ = false := HM.out.frozen _
          go_wp2_with (first | ((with_reducible refine gate_store (t := 3) (p := 16) rfl ?_); refine store_event (t := 3) (p := 16) (v := ?vo_w20) (w1 := (wr.setCell ⟨go5, (x5_1 : Int).toNat * 13, none⟩ (.int .i64 x1_1))) ?hg ?ho ?hn ?hr ?_; (case ho => rfl); (case hg => rfl); (case hn => rfl); (case hr => first | (go_simp; done) | (go_simp; rfl)); intro w20 hw; have n0_ : Aside0 (laws_markNodeS.Mid w0 w w20 P0_ go5 x0_1.length co8 x0_1 (x5_1 : Int) oki [.int .i64 x1_1, .int .i64 (rd_T37 x0_1 x5_1).f1, .int .i64 (rd_T37 x0_1 x5_1).f2, .int .i64 (rd_T37 x0_1 x5_1).f3, .int .i64 (rd_T37 x0_1 x5_1).f4, .int .i64 (rd_T37 x0_1 x5_1).f5, .int .i64 (rd_T37 x0_1 x5_1).f6, .int .i64 (rd_T37 x0_1 x5_1).f7, v8, .int .i64 (rd_T37 x0_1 x5_1).f9, .int .i64 (rd_T37 x0_1 x5_1).f10, v11, v12] v8 v11 v12 ((rd_T37 x0_1 x5_1).f8) ((rd_T37 x0_1 x5_1).f11) ((rd_T37 x0_1 x5_1).f12)) := ⟨by rw [hw]; exact HM.out.store 0 (by decide) (.int .i64 x1_1) rfl⟩; clear HM hw; have HM := n0_; clear n0_; (try clear hx0 hf0); have hx1 : w20.cell? ⟨go5, (x5_1 : Int).toNat * 13 + 1, none⟩ = some (.int .i64 (rd_T37 x0_1 x5_1).f1) := HM.out.cell 1 _ rfl; have hf1 : w20.frozen? ⟨go5, (x5_1 : Int).toNat * 13 + 1, none⟩ = false := HM.out.frozen _) | ((with_reducible refine gate_store (t := 3) (p := 23) rfl ?_); refine store_event (t := 3) (p := 23) (v := ?vo_w21) (w1 := (w20.setCell ⟨go5, (x5_1 : Int).toNat * 13 + 1, none⟩ (.int .i64 (wrap64 (x1_1 + 1))))) ?hg ?ho ?hn ?hr ?_; (case ho => rfl); (case hg => rfl); (case hn => rfl); (case hr => first | (go_simp; done) | (go_simp; rfl)); intro w21 hw; have n0_ : Aside0 (laws_markNodeS.Mid w0 w w21 P0_ go5 x0_1.length co8 x0_1 (x5_1 : Int) oki [.int .i64 x1_1, .int .i64 (wrap64 (x1_1 + 1)), .int .i64 (rd_T37 x0_1 x5_1).f2, .int .i64 (rd_T37 x0_1 x5_1).f3, .int .i64 (rd_T37 x0_1 x5_1).f4, .int .i64 (rd_T37 x0_1 x5_1).f5, .int .i64 (rd_T37 x0_1 x5_1).f6, .int .i64 (rd_T37 x0_1 x5_1).f7, v8, .int .i64 (rd_T37 x0_1 x5_1).f9, .int .i64 (rd_T37 x0_1 x5_1).f10, v11, v12] v8 v11 v12 ((rd_T37 x0_1 x5_1).f8) ((rd_T37 x0_1 x5_1).f11) ((rd_T37 x0_1 x5_1).f12)) := ⟨by rw [hw]; exact HM.out.store 1 (by decide) (.int .i64 (wrap64 (x1_1 + 1))) rfl⟩; clear HM hw; have HM := n0_; clear n0_; (try clear hx1 hf1); have hx2 : w21.cell? ⟨go5, (x5_1 : Int).toNat * 13 + 2, none⟩ = some (.int .i64 (rd_T37 x0_1 x5_1).f2) := HM.out.cell 2 _ rfl; have hf2 : w21.frozen? ⟨go5, (x5_1 : Int).toNat * 13 + 2, none⟩ = false := HM.out.frozen _) | ((with_reducible refine gate_store (t := 3) (p := 30) rfl ?_); refine store_event (t := 3) (p := 30) (v := ?vo_w22) (w1 := (w21.setCell ⟨go5, (x5_1 : Int).toNat * 13 + 2, none⟩ (.int .i64 (wrap64 ((wrap64 (x1_1 + 1)) + 1))))) ?hg ?ho ?hn ?hr ?_; (case ho => rfl); (case hg => rfl); (case hn => rfl); (case hr => first | (go_simp; done) | (go_simp; rfl)); intro w22 hw; have n0_ : Aside0 (laws_markNodeS.Mid w0 w w22 P0_ go5 x0_1.length co8 x0_1 (x5_1 : Int) oki [.int .i64 x1_1, .int .i64 (wrap64 (x1_1 + 1)), .int .i64 (wrap64 ((wrap64 (x1_1 + 1)) + 1)), .int .i64 (rd_T37 x0_1 x5_1).f3, .int .i64 (rd_T37 x0_1 x5_1).f4, .int .i64 (rd_T37 x0_1 x5_1).f5, .int .i64 (rd_T37 x0_1 x5_1).f6, .int .i64 (rd_T37 x0_1 x5_1).f7, v8, .int .i64 (rd_T37 x0_1 x5_1).f9, .int .i64 (rd_T37 x0_1 x5_1).f10, v11, v12] v8 v11 v12 ((rd_T37 x0_1 x5_1).f8) ((rd_T37 x0_1 x5_1).f11) ((rd_T37 x0_1 x5_1).f12)) := ⟨by rw [hw]; exact HM.out.store 2 (by decide) (.int .i64 (wrap64 ((wrap64 (x1_1 + 1)) + 1))) rfl⟩; clear HM hw; have HM := n0_; clear n0_; (try clear hx2 hf2); have hx3 : w22.cell? ⟨go5, (x5_1 : Int).toNat * 13 + 3, none⟩ = some (.int .i64 (rd_T37 x0_1 x5_1).f3) := HM.out.cell 3 _ rfl; have hf3 : w22.frozen? ⟨go5, (x5_1 : Int).toNat * 13 + 3, none⟩ = false := HM.out.frozen _) | ((with_reducible refine gate_store (t := 3) (p := 37) rfl ?_); refine store_event (t := 3) (p := 37) (v := ?vo_w23) (w1 := (w22.setCell ⟨go5, (x5_1 : Int).toNat * 13 + 3, none⟩ (.int .i64 (wrap64 ((wrap64 ((wrap64 (x1_1 + 1)) + 1)) + 1))))) ?hg ?ho ?hn ?hr ?_; (case ho => rfl); (case hg => rfl); (case hn => rfl); (case hr => first | (go_simp; done) | (go_simp; rfl)); intro w23 hw; have n0_ : Aside0 (laws_markNodeS.Mid w0 w w23 P0_ go5 x0_1.length co8 x0_1 (x5_1 : Int) oki [.int .i64 x1_1, .int .i64 (wrap64 (x1_1 + 1)), .int .i64 (wrap64 ((wrap64 (x1_1 + 1)) + 1)), .int .i64 (wrap64 ((wrap64 ((wrap64 (x1_1 + 1)) + 1)) + 1)), .int .i64 (rd_T37 x0_1 x5_1).f4, .int .i64 (rd_T37 x0_1 x5_1).f5, .int .i64 (rd_T37 x0_1 x5_1).f6, .int .i64 (rd_T37 x0_1 x5_1).f7, v8, .int .i64 (rd_T37 x0_1 x5_1).f9, .int .i64 (rd_T37 x0_1 x5_1).f10, v11, v12] v8 v11 v12 ((rd_T37 x0_1 x5_1).f8) ((rd_T37 x0_1 x5_1).f11) ((rd_T37 x0_1 x5_1).f12)) := ⟨by rw [hw]; exact HM.out.store 3 (by decide) (.int .i64 (wrap64 ((wrap64 ((wrap64 (x1_1 + 1)) + 1)) + 1))) rfl⟩; clear HM hw; have HM := n0_; clear n0_; (try clear hx3 hf3); have hx4 : w23.cell? ⟨go5, (x5_1 : Int).toNat * 13 + 4, none⟩ = some (.int .i64 (rd_T37 x0_1 x5_1).f4) := HM.out.cell 4 _ rfl; have hf4 : w23.frozen? ⟨go5, (x5_1 : Int).toNat * 13 + 4, none⟩ = false := HM.out.frozen _) | ((with_reducible refine gate_store (t := 3) (p := 44) rfl ?_); refine store_event (t := 3) (p := 44) (v := ?vo_w24) (w1 := (w23.setCell ⟨go5, (x5_1 : Int).toNat * 13 + 4, none⟩ (.int .i64 (wrap64 ((wrap64 ((wrap64 ((wrap64 (x1_1 + 1)) + 1)) + 1)) + 1))))) ?hg ?ho ?hn ?hr ?_; (case ho => rfl); (case hg => rfl); (case hn => rfl); (case hr => first | (go_simp; done) | (go_simp; rfl)); intro w24 hw; have n0_ : Aside0 (laws_markNodeS.Mid w0 w w24 P0_ go5 x0_1.length co8 x0_1 (x5_1 : Int) oki [.int .i64 x1_1, .int .i64 (wrap64 (x1_1 + 1)), .int .i64 (wrap64 ((wrap64 (x1_1 + 1)) + 1)), .int .i64 (wrap64 ((wrap64 ((wrap64 (x1_1 + 1)) + 1)) + 1)), .int .i64 (wrap64 ((wrap64 ((wrap64 ((wrap64 (x1_1 + 1)) + 1)) + 1)) + 1)), .int .i64 (rd_T37 x0_1 x5_1).f5, .int .i64 (rd_T37 x0_1 x5_1).f6, .int .i64 (rd_T37 x0_1 x5_1).f7, v8, .int .i64 (rd_T37 x0_1 x5_1).f9, .int .i64 (rd_T37 x0_1 x5_1).f10, v11, v12] v8 v11 v12 ((rd_T37 x0_1 x5_1).f8) ((rd_T37 x0_1 x5_1).f11) ((rd_T37 x0_1 x5_1).f12)) := ⟨by rw [hw]; exact HM.out.store 4 (by decide) (.int .i64 (wrap64 ((wrap64 ((wrap64 ((wrap64 (x1_1 + 1)) + 1)) + 1)) + 1))) rfl⟩; clear HM hw; have HM := n0_; clear n0_; (try clear hx4 hf4); have hx5 : w24.cell? ⟨go5, (x5_1 : Int).toNat * 13 + 5, none⟩ = some (.int .i64 (rd_T37 x0_1 x5_1).f5) := HM.out.cell 5 _ rfl; have hf5 : w24.frozen? ⟨go5, (x5_1 : Int).toNat * 13 + 5, none⟩ = false := HM.out.frozen _) | ((with_reducible refine gate_store (t := 3) (p := 51) rfl ?_); refine store_event (t := 3) (p := 51) (v := ?vo_w25) (w1 := (w24.setCell ⟨go5, (x5_1 : Int).toNat * 13 + 5, none⟩ (.int .i64 (wrap64 ((wrap64 ((wrap64 ((wrap64 ((wrap64 (x1_1 + 1)) + 1)) + 1)) + 1)) + 1))))) ?hg ?ho ?hn ?hr ?_; (case ho => rfl); (case hg => rfl); (case hn => rfl); (case hr => first | (go_simp; done) | (go_simp; rfl)); intro w25 hw; have n0_ : Aside0 (laws_markNodeS.Mid w0 w w25 P0_ go5 x0_1.length co8 x0_1 (x5_1 : Int) oki [.int .i64 x1_1, .int .i64 (wrap64 (x1_1 + 1)), .int .i64 (wrap64 ((wrap64 (x1_1 + 1)) + 1)), .int .i64 (wrap64 ((wrap64 ((wrap64 (x1_1 + 1)) + 1)) + 1)), .int .i64 (wrap64 ((wrap64 ((wrap64 ((wrap64 (x1_1 + 1)) + 1)) + 1)) + 1)), .int .i64 (wrap64 ((wrap64 ((wrap64 ((wrap64 ((wrap64 (x1_1 + 1)) + 1)) + 1)) + 1)) + 1)), .int .i64 (rd_T37 x0_1 x5_1).f6, .int .i64 (rd_T37 x0_1 x5_1).f7, v8, .int .i64 (rd_T37 x0_1 x5_1).f9, .int .i64 (rd_T37 x0_1 x5_1).f10, v11, v12] v8 v11 v12 ((rd_T37 x0_1 x5_1).f8) ((rd_T37 x0_1 x5_1).f11) ((rd_T37 x0_1 x5_1).f12)) := ⟨by rw [hw]; exact HM.out.store 5 (by decide) (.int .i64 (wrap64 ((wrap64 ((wrap64 ((wrap64 ((wrap64 (x1_1 + 1)) + 1)) + 1)) + 1)) + 1))) rfl⟩; clear HM hw; have HM := n0_; clear n0_; (try clear hx5 hf5); have hx6 : w25.cell? ⟨go5, (x5_1 : Int).toNat * 13 + 6, none⟩ = some (.int .i64 (rd_T37 x0_1 x5_1).f6) := HM.out.cell 6 _ rfl; have hf6 : w25.frozen? ⟨go5, (x5_1 : Int).toNat * 13 + 6, none⟩ = false := HM.out.frozen _) | ((with_reducible refine gate_store (t := 3) (p := 58) rfl ?_); refine store_event (t := 3) (p := 58) (v := ?vo_w26) (w1 := (w25.setCell ⟨go5, (x5_1 : Int).toNat * 13 + 6, none⟩ (.int .i64 (wrap64 ((wrap64 ((wrap64 ((wrap64 ((wrap64 ((wrap64 (x1_1 + 1)) + 1)) + 1)) + 1)) + 1)) + 1))))) ?hg ?ho ?hn ?hr ?_; (case ho => rfl); (case hg => rfl); (case hn => rfl); (case hr => first | (go_simp; done) | (go_simp; rfl)); intro w26 hw; have n0_ : Aside0 (laws_markNodeS.Mid w0 w w26 P0_ go5 x0_1.length co8 x0_1 (x5_1 : Int) oki [.int .i64 x1_1, .int .i64 (wrap64 (x1_1 + 1)), .int .i64 (wrap64 ((wrap64 (x1_1 + 1)) + 1)), .int .i64 (wrap64 ((wrap64 ((wrap64 (x1_1 + 1)) + 1)) + 1)), .int .i64 (wrap64 ((wrap64 ((wrap64 ((wrap64 (x1_1 + 1)) + 1)) + 1)) + 1)), .int .i64 (wrap64 ((wrap64 ((wrap64 ((wrap64 ((wrap64 (x1_1 + 1)) + 1)) + 1)) + 1)) + 1)), .int .i64 (wrap64 ((wrap64 ((wrap64 ((wrap64 ((wrap64 ((wrap64 (x1_1 + 1)) + 1)) + 1)) + 1)) + 1)) + 1)), .int .i64 (rd_T37 x0_1 x5_1).f7, v8, .int .i64 (rd_T37 x0_1 x5_1).f9, .int .i64 (rd_T37 x0_1 x5_1).f10, v11, v12] v8 v11 v12 ((rd_T37 x0_1 x5_1).f8) ((rd_T37 x0_1 x5_1).f11) ((rd_T37 x0_1 x5_1).f12)) := ⟨by rw [hw]; exact HM.out.store 6 (by decide) (.int .i64 (wrap64 ((wrap64 ((wrap64 ((wrap64 ((wrap64 ((wrap64 (x1_1 + 1)) + 1)) + 1)) + 1)) + 1)) + 1))) rfl⟩; clear HM hw; have HM := n0_; clear n0_; (try clear hx6 hf6); have hx7 : w26.cell? ⟨go5, (x5_1 : Int).toNat * 13 + 7, none⟩ = some (.int .i64 (rd_T37 x0_1 x5_1).f7) := HM.out.cell 7 _ rfl; have hf7 : w26.frozen? ⟨go5, (x5_1 : Int).toNat * 13 + 7, none⟩ = false := HM.out.frozen _) | ((with_reducible refine gate_store (t := 3) (p := 65) rfl ?_); refine store_event (t := 3) (p := 65) (v := ?vo_w27) (w1 := (w26.setCell ⟨go5, (x5_1 : Int).toNat * 13 + 7, none⟩ (.int .i64 (wrap64 ((wrap64 ((wrap64 ((wrap64 ((wrap64 ((wrap64 ((wrap64 (x1_1 + 1)) + 1)) + 1)) + 1)) + 1)) + 1)) + 1))))) ?hg ?ho ?hn ?hr ?_; (case ho => rfl); (case hg => rfl); (case hn => rfl); (case hr => first | (go_simp; done) | (go_simp; rfl)); intro w27 hw; have n0_ : Aside0 (laws_markNodeS.Mid w0 w w27 P0_ go5 x0_1.length co8 x0_1 (x5_1 : Int) oki [.int .i64 x1_1, .int .i64 (wrap64 (x1_1 + 1)), .int .i64 (wrap64 ((wrap64 (x1_1 + 1)) + 1)), .int .i64 (wrap64 ((wrap64 ((wrap64 (x1_1 + 1)) + 1)) + 1)), .int .i64 (wrap64 ((wrap64 ((wrap64 ((wrap64 (x1_1 + 1)) + 1)) + 1)) + 1)), .int .i64 (wrap64 ((wrap64 ((wrap64 ((wrap64 ((wrap64 (x1_1 + 1)) + 1)) + 1)) + 1)) + 1)), .int .i64 (wrap64 ((wrap64 ((wrap64 ((wrap64 ((wrap64 ((wrap64 (x1_1 + 1)) + 1)) + 1)) + 1)) + 1)) + 1)), .int .i64 (wrap64 ((wrap64 ((wrap64 ((wrap64 ((wrap64 ((wrap64 ((wrap64 (x1_1 + 1)) + 1)) + 1)) + 1)) + 1)) + 1)) + 1)), v8, .int .i64 (rd_T37 x0_1 x5_1).f9, .int .i64 (rd_T37 x0_1 x5_1).f10, v11, v12] v8 v11 v12 ((rd_T37 x0_1 x5_1).f8) ((rd_T37 x0_1 x5_1).f11) ((rd_T37 x0_1 x5_1).f12)) := ⟨by rw [hw]; exact HM.out.store 7 (by decide) (.int .i64 (wrap64 ((wrap64 ((wrap64 ((wrap64 ((wrap64 ((wrap64 ((wrap64 (x1_1 + 1)) + 1)) + 1)) + 1)) + 1)) + 1)) + 1))) rfl⟩; clear HM hw; have HM := n0_; clear n0_; (try clear hx7 hf7); have hx8 : w27.cell? ⟨go5, (x5_1 : Int).toNat * 13 + 8, none⟩ = some (v8) := HM.out.cell 8 _ rfl; have hf8 : w27.frozen? ⟨go5, (x5_1 : Int).toNat * 13 + 8, none⟩ = false := HM.out.frozen _) | ((with_reducible refine gate_callee (f := 38) rfl ?_); refine goesL_ (some 74) rfl rfl Try.func38 (by kernel_rfl) rfl #[v8, .int .i64 (wrap64 ((wrap64 ((wrap64 ((wrap64 ((wrap64 ((wrap64 ((wrap64 ((wrap64 (x1_1 + 1)) + 1)) + 1)) + 1)) + 1)) + 1)) + 1)) + 1))] rfl (by (try simp only [List.map_toArray, List.map_cons, List.map_nil]); first | done | rfl) ?_; refine (laws_markIntS.calls _ (fun k_ => some k_ = v8.ownBlock) v8 ((rd_T37 x0_1 x5_1).f8) (wrap64 ((wrap64 ((wrap64 ((wrap64 ((wrap64 ((wrap64 ((wrap64 ((wrap64 (x1_1 + 1)) + 1)) + 1)) + 1)) + 1)) + 1)) + 1)) + 1)) b1 b2 w0 _ HM.out.below HM.out.r8 A1.out).mono ?_; rintro e w28 ⟨rfl, ho_, hb_, hk_⟩; refine ⟨_, rfl, ?_⟩; have n0_ : Aside0 (laws_markNodeS.Mid w0 w w28 P0_ go5 x0_1.length co8 x0_1 (x5_1 : Int) oki [.int .i64 x1_1, .int .i64 (wrap64 (x1_1 + 1)), .int .i64 (wrap64 ((wrap64 (x1_1 + 1)) + 1)), .int .i64 (wrap64 ((wrap64 ((wrap64 (x1_1 + 1)) + 1)) + 1)), .int .i64 (wrap64 ((wrap64 ((wrap64 ((wrap64 (x1_1 + 1)) + 1)) + 1)) + 1)), .int .i64 (wrap64 ((wrap64 ((wrap64 ((wrap64 ((wrap64 (x1_1 + 1)) + 1)) + 1)) + 1)) + 1)), .int .i64 (wrap64 ((wrap64 ((wrap64 ((wrap64 ((wrap64 ((wrap64 (x1_1 + 1)) + 1)) + 1)) + 1)) + 1)) + 1)), .int .i64 (wrap64 ((wrap64 ((wrap64 ((wrap64 ((wrap64 ((wrap64 ((wrap64 (x1_1 + 1)) + 1)) + 1)) + 1)) + 1)) + 1)) + 1)), v8, .int .i64 (rd_T37 x0_1 x5_1).f9, .int .i64 (rd_T37 x0_1 x5_1).f10, v11, v12] v8 v11 v12 b2 ((rd_T37 x0_1 x5_1).f11) ((rd_T37 x0_1 x5_1).f12)) := ⟨HM.out.mark8 ho_ hb_ hk_⟩; clear HM ho_ hb_ hk_; have HM := n0_; clear n0_; (try clear hx8 hf8); have hx9 : w28.cell? ⟨go5, (x5_1 : Int).toNat * 13 + 9, none⟩ = some (.int .i64 (rd_T37 x0_1 x5_1).f9) := HM.out.cell 9 _ rfl; have hf9 : w28.frozen? ⟨go5, (x5_1 : Int).toNat * 13 + 9, none⟩ = false := HM.out.frozen _) | ((with_reducible refine gate_store (t := 3) (p := 79) rfl ?_); refine store_event (t := 3) (p := 79) (v := ?vo_w29) (w1 := (w28.setCell ⟨go5, (x5_1 : Int).toNat * 13 + 9, none⟩ (.int .i64 b1))) ?hg ?ho ?hn ?hr ?_; (case ho => rfl); (case hg => rfl); (case hn => rfl); (case hr => first | (go_simp; done) | (go_simp; rfl)); intro w29 hw; have n0_ : Aside0 (laws_markNodeS.Mid w0 w w29 P0_ go5 x0_1.length co8 x0_1 (x5_1 : Int) oki [.int .i64 x1_1, .int .i64 (wrap64 (x1_1 + 1)), .int .i64 (wrap64 ((wrap64 (x1_1 + 1)) + 1)), .int .i64 (wrap64 ((wrap64 ((wrap64 (x1_1 + 1)) + 1)) + 1)), .int .i64 (wrap64 ((wrap64 ((wrap64 ((wrap64 (x1_1 + 1)) + 1)) + 1)) + 1)), .int .i64 (wrap64 ((wrap64 ((wrap64 ((wrap64 ((wrap64 (x1_1 + 1)) + 1)) + 1)) + 1)) + 1)), .int .i64 (wrap64 ((wrap64 ((wrap64 ((wrap64 ((wrap64 ((wrap64 (x1_1 + 1)) + 1)) + 1)) + 1)) + 1)) + 1)), .int .i64 (wrap64 ((wrap64 ((wrap64 ((wrap64 ((wrap64 ((wrap64 ((wrap64 (x1_1 + 1)) + 1)) + 1)) + 1)) + 1)) + 1)) + 1)), v8, .int .i64 b1, .int .i64 (rd_T37 x0_1 x5_1).f10, v11, v12] v8 v11 v12 b2 ((rd_T37 x0_1 x5_1).f11) ((rd_T37 x0_1 x5_1).f12)) := ⟨by rw [hw]; exact HM.out.store 9 (by decide) (.int .i64 b1) rfl⟩; clear HM hw; have HM := n0_; clear n0_; (try clear hx9 hf9); have hx10 : w29.cell? ⟨go5, (x5_1 : Int).toNat * 13 + 10, none⟩ = some (.int .i64 (rd_T37 x0_1 x5_1).f10) := HM.out.cell 10 _ rfl; have hf10 : w29.frozen? ⟨go5, (x5_1 : Int).toNat * 13 + 10, none⟩ = false := HM.out.frozen _) | ((with_reducible refine gate_store (t := 3) (p := 86) rfl ?_); refine store_event (t := 3) (p := 86) (v := ?vo_w30) (w1 := (w29.setCell ⟨go5, (x5_1 : Int).toNat * 13 + 10, none⟩ (.int .i64 (wrap64 (b1 + 1))))) ?hg ?ho ?hn ?hr ?_; (case ho => rfl); (case hg => rfl); (case hn => rfl); (case hr => first | (go_simp; done) | (go_simp; rfl)); intro w30 hw; have n0_ : Aside0 (laws_markNodeS.Mid w0 w w30 P0_ go5 x0_1.length co8 x0_1 (x5_1 : Int) oki [.int .i64 x1_1, .int .i64 (wrap64 (x1_1 + 1)), .int .i64 (wrap64 ((wrap64 (x1_1 + 1)) + 1)), .int .i64 (wrap64 ((wrap64 ((wrap64 (x1_1 + 1)) + 1)) + 1)), .int .i64 (wrap64 ((wrap64 ((wrap64 ((wrap64 (x1_1 + 1)) + 1)) + 1)) + 1)), .int .i64 (wrap64 ((wrap64 ((wrap64 ((wrap64 ((wrap64 (x1_1 + 1)) + 1)) + 1)) + 1)) + 1)), .int .i64 (wrap64 ((wrap64 ((wrap64 ((wrap64 ((wrap64 ((wrap64 (x1_1 + 1)) + 1)) + 1)) + 1)) + 1)) + 1)), .int .i64 (wrap64 ((wrap64 ((wrap64 ((wrap64 ((wrap64 ((wrap64 ((wrap64 (x1_1 + 1)) + 1)) + 1)) + 1)) + 1)) + 1)) + 1)), v8, .int .i64 b1, .int .i64 (wrap64 (b1 + 1)), v11, v12] v8 v11 v12 b2 ((rd_T37 x0_1 x5_1).f11) ((rd_T37 x0_1 x5_1).f12)) := ⟨by rw [hw]; exact HM.out.store 10 (by decide) (.int .i64 (wrap64 (b1 + 1))) rfl⟩; clear HM hw; have HM := n0_; clear n0_; (try clear hx10 hf10); have hx11 : w30.cell? ⟨go5, (x5_1 : Int).toNat * 13 + 11, none⟩ = some (v11) := HM.out.cell 11 _ rfl; have hf11 : w30.frozen? ⟨go5, (x5_1 : Int).toNat * 13 + 11, none⟩ = false := HM.out.frozen _) | ((with_reducible refine gate_callee (f := 91) rfl ?_); refine goesL_ (some 95) rfl rfl Try.func91 (by kernel_rfl) rfl #[v11, .int .i64 (wrap64 ((wrap64 (b1 + 1)) + 1))] rfl (by (try simp only [List.map_toArray, List.map_cons, List.map_nil]); first | done | rfl) ?_; refine (laws_markThingS.calls _ (fun k_ => some k_ = v11.ownBlock) v11 ((rd_T37 x0_1 x5_1).f11) (wrap64 ((wrap64 (b1 + 1)) + 1)) c1 c2 w0 _ HM.out.below HM.out.r11 A2.out).mono ?_; rintro e w31 ⟨rfl, ho_, hb_, hk_⟩; refine ⟨_, rfl, ?_⟩; have n0_ : Aside0 (laws_markNodeS.Mid w0 w w31 P0_ go5 x0_1.length co8 x0_1 (x5_1 : Int) oki [.int .i64 x1_1, .int .i64 (wrap64 (x1_1 + 1)), .int .i64 (wrap64 ((wrap64 (x1_1 + 1)) + 1)), .int .i64 (wrap64 ((wrap64 ((wrap64 (x1_1 + 1)) + 1)) + 1)), .int .i64 (wrap64 ((wrap64 ((wrap64 ((wrap64 (x1_1 + 1)) + 1)) + 1)) + 1)), .int .i64 (wrap64 ((wrap64 ((wrap64 ((wrap64 ((wrap64 (x1_1 + 1)) + 1)) + 1)) + 1)) + 1)), .int .i64 (wrap64 ((wrap64 ((wrap64 ((wrap64 ((wrap64 ((wrap64 (x1_1 + 1)) + 1)) + 1)) + 1)) + 1)) + 1)), .int .i64 (wrap64 ((wrap64 ((wrap64 ((wrap64 ((wrap64 ((wrap64 ((wrap64 (x1_1 + 1)) + 1)) + 1)) + 1)) + 1)) + 1)) + 1)), v8, .int .i64 b1, .int .i64 (wrap64 (b1 + 1)), v11, v12] v8 v11 v12 b2 c2 ((rd_T37 x0_1 x5_1).f12)) := ⟨HM.out.mark11 ho_ hb_ hk_⟩; clear HM ho_ hb_ hk_; have HM := n0_; clear n0_; (try clear hx11 hf11); have hx12 : w31.cell? ⟨go5, (x5_1 : Int).toNat * 13 + 12, none⟩ = some (v12) := HM.out.cell 12 _ rfl; have hf12 : w31.frozen? ⟨go5, (x5_1 : Int).toNat * 13 + 12, none⟩ = false := HM.out.frozen _) | ((with_reducible refine gate_callee (f := 38) rfl ?_); refine goesL_ (some 102) rfl rfl Try.func38 (by kernel_rfl) rfl #[v12, .int .i64 c1] rfl (by (try simp only [List.map_toArray, List.map_cons, List.map_nil]); first | done | rfl) ?_; refine (laws_markIntS.calls _ (fun k_ => some k_ = v12.ownBlock) v12 ((rd_T37 x0_1 x5_1).f12) c1 d1 d2 w0 _ HM.out.below HM.out.r12 A3.out).mono ?_; rintro e w32 ⟨rfl, ho_, hb_, hk_⟩; refine ⟨_, rfl, ?_⟩; have n0_ : Aside0 (laws_markNodeS.Mid w0 w w32 P0_ go5 x0_1.length co8 x0_1 (x5_1 : Int) oki [.int .i64 x1_1, .int .i64 (wrap64 (x1_1 + 1)), .int .i64 (wrap64 ((wrap64 (x1_1 + 1)) + 1)), .int .i64 (wrap64 ((wrap64 ((wrap64 (x1_1 + 1)) + 1)) + 1)), .int .i64 (wrap64 ((wrap64 ((wrap64 ((wrap64 (x1_1 + 1)) + 1)) + 1)) + 1)), .int .i64 (wrap64 ((wrap64 ((wrap64 ((wrap64 ((wrap64 (x1_1 + 1)) + 1)) + 1)) + 1)) + 1)), .int .i64 (wrap64 ((wrap64 ((wrap64 ((wrap64 ((wrap64 ((wrap64 (x1_1 + 1)) + 1)) + 1)) + 1)) + 1)) + 1)), .int .i64 (wrap64 ((wrap64 ((wrap64 ((wrap64 ((wrap64 ((wrap64 ((wrap64 (x1_1 + 1)) + 1)) + 1)) + 1)) + 1)) + 1)) + 1)), v8, .int .i64 b1, .int .i64 (wrap64 (b1 + 1)), v11, v12] v8 v11 v12 b2 c2 d2) := ⟨HM.out.mark12 ho_ hb_ hk_⟩; clear HM ho_ hb_ hk_; have HM := n0_; clear n0_; (try clear hx12 hf12); skip))
          have HM2 := Aside0.mk (laws_markNodeS.Mid.back (x' := (⟨x1_1, wrap64 (x1_1 + 1), wrap64 ((wrap64 (x1_1 + 1)) + 1), wrap64 ((wrap64 ((wrap64 (x1_1 + 1)) + 1)) + 1), wrap64 ((wrap64 ((wrap64 ((wrap64 (x1_1 + 1)) + 1)) + 1)) + 1), wrap64 ((wrap64 ((wrap64 ((wrap64 ((wrap64 (x1_1 + 1)) + 1)) + 1)) + 1)) + 1), wrap64 ((wrap64 ((wrap64 ((wrap64 ((wrap64 ((wrap64 (x1_1 + 1)) + 1)) + 1)) + 1)) + 1)) + 1), wrap64 ((wrap64 ((wrap64 ((wrap64 ((wrap64 ((wrap64 ((wrap64 (x1_1 + 1)) + 1)) + 1)) + 1)) + 1)) + 1)) + 1), b2, b1, wrap64 (b1 + 1), c2, d2⟩ : S37)) HM.out)
          go_roundg k1
          case measure => have := HK1.out; omega
          case rel => exact ⟨_, d1, (wrap64 (x5_1 + 1)), (by first | rfl | (simp; done) | (simp [*]; done)), (by first | rfl | (simp; done) | (simp [*]; done)), H', ⟨by have := HK1.out; omega⟩, ⟨by (with_reducible repeat (first | apply Kd.S_alloc | apply Kd.S_drewN | apply Kd.S_drew)); exact HM2.out⟩, ⟨by repeat (first | (with_reducible first | exact HM.out.kept | apply Kept.alloc | apply Kept.drewN | apply Kept.drew) | exact HM.out.kept)⟩, ⟨by repeat (first | (with_reducible first | exact HM.out.below | apply below_alloc | apply pw_below_drewN | apply below_drew1) | exact HM.out.below)⟩⟩
        · rw [if_neg c4] at H
          exact absurd H (by simp)
      · rw [if_neg c3] at H
        have c3b0 : decide (x5_1 < (x0_1.length : Int)) = false := decide_eq_false c3
        clear c3
        simp only [Option.some.injEq, Prod.mk.injEq] at H
        obtain ⟨rfl, rfl⟩ := H
        obtain ⟨Ao15, co15, eo15⟩ := Kd.R_slice (Kd.S_R HO_0.out)
        subst eo15
        go_wp2
        go_ret
        exact ⟨by first | rfl | (simp [errW_none, errW_some] <;> rfl) | (simp [*, errW_none, errW_some] <;> rfl), by (with_reducible repeat (first | apply Kd.S_alloc | apply Kd.S_drewN | apply Kd.S_drew)); exact HO_0.out, by repeat (first | (with_reducible first | exact HB.out | apply below_alloc | apply pw_below_drewN | apply below_drew1) | exact HB.out), by repeat (first | (with_reducible first | exact HK.out | apply Kept.alloc | apply Kept.drewN | apply Kept.drew) | exact HK.out)⟩

/-! ### laws_heldIntS: function 39 -/
def laws_heldIntS.l0 : Nat → List Int → Int → Int → Option (Int)
  | 0, _, _, _ => none
  | k + 1, x0, x1, x5 => if x5 < (x0.length : Int) then (if 0 ≤ x5 then (if (rd x0 x5) = x1 then (laws_heldIntS.l0 k x0 (wrap64 (x1 + 1)) (wrap64 (x5 + 1))) else (some (-1))) else (none)) else (some x1)
def laws_heldIntS.f (k : Nat) (l0 : List Int) (a1 : Int) : Option (Int) := laws_heldIntS.l0 k l0 a1 0
theorem laws_heldIntS.mono_l : ∀ k, (∀ y0 y1 y2, LeO (laws_heldIntS.l0 k y0 y1 y2) (laws_heldIntS.l0 (k + 1) y0 y1 y2))
  | 0 => fun _ _ _ r h => by simp [laws_heldIntS.l0] at h
  | k + 1 => by
    have ih0 := laws_heldIntS.mono_l k
    · intro y0 y1 y2
      unfold laws_heldIntS.l0
      repeat' first
      | (with_reducible exact ih0 _ _ _)
      | (with_reducible exact LeO.refl _)
      | (with_reducible exact LeO.none _)
      | (with_reducible refine LeO.ite ?_ ?_)
      | (with_reducible refine LeO.bind ?_ (fun _ => ?_))
      | exact ih0 _ _ _
      | exact LeO.none _
      | refine LeO.ite ?_ ?_
      | refine LeO.bind ?_ (fun _ => ?_)
theorem laws_heldIntS.mono : ∀ a0 a1 k, LeO (laws_heldIntS.f k a0 a1) (laws_heldIntS.f (k + 1) a0 a1) := by
  intro a0 a1 k
  have ih0 := laws_heldIntS.mono_l k
  unfold laws_heldIntS.f
  repeat' first
      | (with_reducible exact ih0 _ _ _)
      | (with_reducible exact LeO.refl _)
      | (with_reducible exact LeO.none _)
      | (with_reducible refine LeO.ite ?_ ?_)
      | (with_reducible refine LeO.bind ?_ (fun _ => ?_))
      | exact ih0 _ _ _
      | exact LeO.none _
      | refine LeO.ite ?_ ?_
      | refine LeO.bind ?_ (fun _ => ?_)
set_option maxHeartbeats 8000000 in
set_option maxRecDepth 100000 in
theorem laws_heldIntS.calls (k : Nat) (A0 : Option Addr) (c0 : Nat) (l0 : List Int) (a1 : Int) (r : Int) (w : World) (hr0 : Kd.C (Kd.int .i64) w A0 l0.length l0) (hc0 : l0.length ≤ c0) (h : laws_heldIntS.f k l0 a1 = some r) :
    Calls Try.prog 39 #[.slice A0 l0.length c0, .int .i64 a1] w fun e w' => e = .returned (.int .i64 r) ∧ Drawn0 w w' := by
  have HR0 := Aside0.mk hr0
  have HC0 := Aside0.mk hc0
  clear hr0 hc0
  have H : (laws_heldIntS.l0 k l0 a1 0) = some r := h
  clear h
  have H' := Aside0.mk H
  clear H
  go_enter Try.func39, Try.ntmps39
  go_wp2
  go_loopg [1, 5] k (fun kq v1 v5 w' => ∃ (x1_1 : Int) (x5_1 : Int), v1 = .int .i64 x1_1 ∧ v5 = .int .i64 x5_1 ∧ Aside0 (laws_heldIntS.l0 kq l0 x1_1 x5_1 = some r) ∧ Aside0 (kq ≤ k) ∧ Drawn0 w w')
  case atStart => exact ⟨(a1), (0), (by first | rfl | (simp; done) | (simp [*]; done)), (by first | rfl | (simp; done) | (simp [*]; done)), H', ⟨Nat.le_refl _⟩, by repeat (first | exact Drawn0.refl _ | apply Drawn0.step)⟩
  case round =>
    clear H'
    try clear p2
    obtain ⟨x1_1, x5_1, rfl, rfl, HA, HK1, ⟨m1, rfl⟩⟩ := hrel
    cases gk with
    | zero => exact absurd HA.out (by simp [laws_heldIntS.l0])
    | succ k1 =>
      have H := HA.out
      clear HA
      simp only [laws_heldIntS.l0] at H
      by_cases c3 : x5_1 < (l0.length : Int)
      · rw [if_pos c3] at H
        have c3b0 : decide (x5_1 < (l0.length : Int)) = true := decide_eq_true c3
        clear c3
        by_cases c4 : 0 ≤ x5_1
        · rw [if_pos c4] at H
          have c4b0 : decide (0 ≤ x5_1) = true := decide_eq_true c4
          clear c4
          by_cases c5 : (rd l0 x5_1) = x1_1
          · rw [if_pos c5] at H
            have c5b0 : ((rd l0 x5_1) == x1_1) = true := beq_iff_eq.mpr c5
            have c5b1 : ((rd l0 x5_1) != x1_1) = false := bne_eq_false_iff_eq.mpr c5
            clear c5
            have H' := Aside0.mk H
            clear H
            have p195 : 0 ≤ (x5_1 : Int) := of_decide_eq_true (by first | (with_reducible assumption) | assumption)
            have q195 : x5_1 < (l0.length : Int) := of_decide_eq_true (by first | (with_reducible assumption) | assumption)
            obtain ⟨ad195, e195, hx195_0⟩ := Kd.at_int HR0.out x5_1 p195 q195
            cases e195
            replace p195 := eq_true p195
            replace q195 := eq_true q195
            go_wp2
            go_roundg k1
            case measure => have := HK1.out; omega
            case rel => exact ⟨(wrap64 (x1_1 + 1)), (wrap64 (x5_1 + 1)), (by first | rfl | (simp; done) | (simp [*]; done)), (by first | rfl | (simp; done) | (simp [*]; done)), H', ⟨by have := HK1.out; omega⟩, by repeat (first | exact Drawn0.refl _ | apply Drawn0.step)⟩
          · rw [if_neg c5] at H
            have c5b0 : ((rd l0 x5_1) == x1_1) = false := beq_eq_false_iff_ne.mpr c5
            have c5b1 : ((rd l0 x5_1) != x1_1) = true := bne_iff_ne.mpr c5
            obtain rfl := Option.some.inj H
            have p195 : 0 ≤ (x5_1 : Int) := of_decide_eq_true (by first | (with_reducible assumption) | assumption)
            have q195 : x5_1 < (l0.length : Int) := of_decide_eq_true (by first | (with_reducible assumption) | assumption)
            obtain ⟨ad195, e195, hx195_0⟩ := Kd.at_int HR0.out x5_1 p195 q195
            cases e195
            replace p195 := eq_true p195
            replace q195 := eq_true q195
            go_wp2
            go_ret
            exact ⟨by first | rfl | (simp; done) | (simp [*]; done), by repeat (first | exact Drawn0.refl _ | apply Drawn0.step)⟩
        · rw [if_neg c4] at H
          exact absurd H (by simp)
      · rw [if_neg c3] at H
        have c3b0 : decide (x5_1 < (l0.length : Int)) = false := decide_eq_false c3
        clear c3
        obtain rfl := Option.some.inj H
        go_wp2
        go_ret
        exact ⟨by first | rfl | (simp; done) | (simp [*]; done), by repeat (first | exact Drawn0.refl _ | apply Drawn0.step)⟩

/-! ### laws_FnExactKidsOf: function 8 -/
def laws_FnExactKidsOf.f (k : Nat) (l0 : List (S32)) (a1 : Int) : Option (Bool) := (laws_szNodeS.f k l0 1048576).bind fun t196 => (if t196 < 0 then (some true) else ((laws_toNodeS.f k l0).bind fun t197 => ((spec_KidsOf.f k t197 a1).bind fun t200 => ((laws_toNodeS.f k l0).bind fun t203 => ((impl_KidsOf.f k t203 a1).bind fun t206 => ((laws_eqIntS.f k t206 t200).bind fun t209 => (if t209 = true then ((laws_toNodeS.f k l0).bind fun t210 => ((laws_eqNodeS.f k t203 t210).bind fun t213 => (if t213 = true then ((laws_markNodeS.f k t203 1).bind fun bt214 => (if bt214.1 < 0 then (none) else ((laws_eqIntS.f k t206 t200).bind fun t216 => (if t216 = true then ((laws_markIntS.f k t206 1).bind fun bt217 => ((laws_heldIntS.f k bt217.2 1).bind fun t219 => (if t219 < 0 then (none) else (if t219 = bt217.1 then ((laws_toNodeS.f k l0).bind fun t220 => ((impl_KidsOf.f k t220 a1).bind fun t223 => ((laws_eqIntS.f k t223 t200).bind fun t226 => (if t226 = true then ((laws_heldIntS.f k bt217.2 1).bind fun t227 => (if t227 < 0 then (none) else (if t227 = bt217.1 then (some true) else (none)))) else (none))))) else (none))))) else (none))))) else (none)))) else (none))))))))
theorem laws_FnExactKidsOf.mono : ∀ a0 a1 k, LeO (laws_FnExactKidsOf.f k a0 a1) (laws_FnExactKidsOf.f (k + 1) a0 a1) := by
  intro a0 a1 k
  unfold laws_FnExactKidsOf.f
  repeat' first
      | (with_reducible exact impl_KidsOf.mono _ _ _)
      | (with_reducible exact laws_eqIntS.mono _ _ _)
      | (with_reducible exact laws_eqNodeS.mono _ _ _)
      | (with_reducible exact laws_heldIntS.mono _ _ _)
      | (with_reducible exact laws_markIntS.mono _ _ _)
      | (with_reducible exact laws_markNodeS.mono _ _ _)
      | (with_reducible exact laws_szNodeS.mono _ _ _)
      | (with_reducible exact laws_toNodeS.mono _ _)
      | (with_reducible exact spec_KidsOf.mono _ _ _)
      | (with_reducible exact LeO.refl _)
      | (with_reducible exact LeO.none _)
      | (with_reducible refine LeO.ite ?_ ?_)
      | (with_reducible refine LeO.bind ?_ (fun _ => ?_))
      | exact impl_KidsOf.mono _ _ _
      | exact laws_eqIntS.mono _ _ _
      | exact laws_eqNodeS.mono _ _ _
      | exact laws_heldIntS.mono _ _ _
      | exact laws_markIntS.mono _ _ _
      | exact laws_markNodeS.mono _ _ _
      | exact laws_szNodeS.mono _ _ _
      | exact laws_toNodeS.mono _ _
      | exact spec_KidsOf.mono _ _ _
      | exact LeO.none _
      | refine LeO.ite ?_ ?_
      | refine LeO.bind ?_ (fun _ => ?_)
set_option maxHeartbeats 8000000 in
set_option maxRecDepth 100000 in
theorem laws_FnExactKidsOf.calls (k : Nat) (A0 : Option Addr) (c0 : Nat) (l0 : List (S32)) (a1 : Int) (r : Bool) (w : World) (hr0 : Kd.C k32 w A0 l0.length l0) (hc0 : l0.length ≤ c0) (h : laws_FnExactKidsOf.f k l0 a1 = some r) :
    Calls Try.prog 8 #[.slice A0 l0.length c0, .int .i64 a1] w fun e w' => e = .returned (.bool r) ∧ Below w.heap.size w w' := by
  have HR0 := Aside0.mk hr0
  have HC0 := Aside0.mk hc0
  clear hr0 hc0
  have HB := Aside0.mk (Below.refl w.heap.size w)
  have H : ((laws_szNodeS.f k l0 1048576).bind fun t196 => (if t196 < 0 then (some true) else ((laws_toNodeS.f k l0).bind fun t197 => ((spec_KidsOf.f k t197 a1).bind fun t200 => ((laws_toNodeS.f k l0).bind fun t203 => ((impl_KidsOf.f k t203 a1).bind fun t206 => ((laws_eqIntS.f k t206 t200).bind fun t209 => (if t209 = true then ((laws_toNodeS.f k l0).bind fun t210 => ((laws_eqNodeS.f k t203 t210).bind fun t213 => (if t213 = true then ((laws_markNodeS.f k t203 1).bind fun bt214 => (if bt214.1 < 0 then (none) else ((laws_eqIntS.f k t206 t200).bind fun t216 => (if t216 = true then ((laws_markIntS.f k t206 1).bind fun bt217 => ((laws_heldIntS.f k bt217.2 1).bind fun t219 => (if t219 < 0 then (none) else (if t219 = bt217.1 then ((laws_toNodeS.f k l0).bind fun t220 => ((impl_KidsOf.f k t220 a1).bind fun t223 => ((laws_eqIntS.f k t223 t200).bind fun t226 => (if t226 = true then ((laws_heldIntS.f k bt217.2 1).bind fun t227 => (if t227 < 0 then (none) else (if t227 = bt217.1 then (some true) else (none)))) else (none))))) else (none))))) else (none))))) else (none)))) else (none))))))))) = some r := h
  clear h
  replace H := Option.bind_eq_some_iff.mp H
  obtain ⟨t196, A30, H⟩ := H
  replace H : (if t196 < 0 then (some true) else ((laws_toNodeS.f k l0).bind fun t197 => ((spec_KidsOf.f k t197 a1).bind fun t200 => ((laws_toNodeS.f k l0).bind fun t203 => ((impl_KidsOf.f k t203 a1).bind fun t206 => ((laws_eqIntS.f k t206 t200).bind fun t209 => (if t209 = true then ((laws_toNodeS.f k l0).bind fun t210 => ((laws_eqNodeS.f k t203 t210).bind fun t213 => (if t213 = true then ((laws_markNodeS.f k t203 1).bind fun bt214 => (if bt214.1 < 0 then (none) else ((laws_eqIntS.f k t206 t200).bind fun t216 => (if t216 = true then ((laws_markIntS.f k t206 1).bind fun bt217 => ((laws_heldIntS.f k bt217.2 1).bind fun t219 => (if t219 < 0 then (none) else (if t219 = bt217.1 then ((laws_toNodeS.f k l0).bind fun t220 => ((impl_KidsOf.f k t220 a1).bind fun t223 => ((laws_eqIntS.f k t223 t200).bind fun t226 => (if t226 = true then ((laws_heldIntS.f k bt217.2 1).bind fun t227 => (if t227 < 0 then (none) else (if t227 = bt217.1 then (some true) else (none)))) else (none))))) else (none))))) else (none))))) else (none)))) else (none)))))))) = some r := H
  have A3 := Aside0.mk A30
  clear A30
  by_cases c4 : t196 < 0
  · rw [if_pos c4] at H
    have c4b0 : decide (t196 < 0) = true := decide_eq_true c4
    clear c4
    obtain rfl := Option.some.inj H
    go_enter Try.func8, Try.ntmps8
    go_wp2_with (first | ((with_reducible refine gate_callee (f := 13) rfl ?_); refine goesL_ (some 15) rfl rfl Try.func13 (by kernel_rfl) rfl #[.slice A0 l0.length c0, .int .i64 1048576] rfl (by (try simp only [List.map_toArray, List.map_cons, List.map_nil]); first | done | rfl | (simp only [List.length_drop, List.length_take]; rfl)) ?_; (with_reducible refine (laws_szNodeS.calls k _ _ l0 1048576 t196 _ ?side1 ?side2 A3.out).mono ?_); (case side1 => repeat (first | exact HR0.out | (with_reducible refine Kd.C_alloc ?_ _) | (with_reducible refine Kd.C_drewN ?_ _) | (with_reducible refine Kd.C_drew ?_))); (case side2 => exact HC0.out); rintro e w5 ⟨rfl, hb⟩; refine ⟨_, rfl, ?_⟩; have n0_ := Aside0.mk (below_step (by repeat (first | (with_reducible first | exact HB.out | apply below_alloc | apply pw_below_drewN | apply below_drew1) | exact HB.out)) hb); clear HB; have HB := n0_; clear n0_; (try clear hb); (try clear hb2); (try clear hk); (try clear hi)))
    go_ret
    exact ⟨by first | rfl | (simp [errW_none, errW_some] <;> rfl) | (simp [*, errW_none, errW_some] <;> rfl), by repeat (first | (with_reducible first | exact HB.out | apply below_alloc | apply pw_below_drewN | apply below_drew1) | exact HB.out)⟩
  · rw [if_neg c4] at H
    have c4b0 : decide (t196 < 0) = false := decide_eq_false c4
    clear c4
    replace H := Option.bind_eq_some_iff.mp H
    obtain ⟨t197, A60, H⟩ := H
    replace H : ((spec_KidsOf.f k t197 a1).bind fun t200 => ((laws_toNodeS.f k l0).bind fun t203 => ((impl_KidsOf.f k t203 a1).bind fun t206 => ((laws_eqIntS.f k t206 t200).bind fun t209 => (if t209 = true then ((laws_toNodeS.f k l0).bind fun t210 => ((laws_eqNodeS.f k t203 t210).bind fun t213 => (if t213 = true then ((laws_markNodeS.f k t203 1).bind fun bt214 => (if bt214.1 < 0 then (none) else ((laws_eqIntS.f k t206 t200).bind fun t216 => (if t216 = true then ((laws_markIntS.f k t206 1).bind fun bt217 => ((laws_heldIntS.f k bt217.2 1).bind fun t219 => (if t219 < 0 then (none) else (if t219 = bt217.1 then ((laws_toNodeS.f k l0).bind fun t220 => ((impl_KidsOf.f k t220 a1).bind fun t223 => ((laws_eqIntS.f k t223 t200).bind fun t226 => (if t226 = true then ((laws_heldIntS.f k bt217.2 1).bind fun t227 => (if t227 < 0 then (none) else (if t227 = bt217.1 then (some true) else (none)))) else (none))))) else (none))))) else (none))))) else (none)))) else (none)))))) = some r := H
    have A6 := Aside0.mk A60
    clear A60
    replace H := Option.bind_eq_some_iff.mp H
    obtain ⟨t200, A70, H⟩ := H
    replace H : ((laws_toNodeS.f k l0).bind fun t203 => ((impl_KidsOf.f k t203 a1).bind fun t206 => ((laws_eqIntS.f k t206 t200).bind fun t209 => (if t209 = true then ((laws_toNodeS.f k l0).bind fun t210 => ((laws_eqNodeS.f k t203 t210).bind fun t213 => (if t213 = true then ((laws_markNodeS.f k t203 1).bind fun bt214 => (if bt214.1 < 0 then (none) else ((laws_eqIntS.f k t206 t200).bind fun t216 => (if t216 = true then ((laws_markIntS.f k t206 1).bind fun bt217 => ((laws_heldIntS.f k bt217.2 1).bind fun t219 => (if t219 < 0 then (none) else (if t219 = bt217.1 then ((laws_toNodeS.f k l0).bind fun t220 => ((impl_KidsOf.f k t220 a1).bind fun t223 => ((laws_eqIntS.f k t223 t200).bind fun t226 => (if t226 = true then ((laws_heldIntS.f k bt217.2 1).bind fun t227 => (if t227 < 0 then (none) else (if t227 = bt217.1 then (some true) else (none)))) else (none))))) else (none))))) else (none))))) else (none)))) else (none))))) = some r := H
    have A7 := Aside0.mk A70
    clear A70
    replace H := Option.bind_eq_some_iff.mp H
    obtain ⟨t203, A80, H⟩ := H
    replace H : ((impl_KidsOf.f k t203 a1).bind fun t206 => ((laws_eqIntS.f k t206 t200).bind fun t209 => (if t209 = true then ((laws_toNodeS.f k l0).bind fun t210 => ((laws_eqNodeS.f k t203 t210).bind fun t213 => (if t213 = true then ((laws_markNodeS.f k t203 1).bind fun bt214 => (if bt214.1 < 0 then (none) else ((laws_eqIntS.f k t206 t200).bind fun t216 => (if t216 = true then ((laws_markIntS.f k t206 1).bind fun bt217 => ((laws_heldIntS.f k bt217.2 1).bind fun t219 => (if t219 < 0 then (none) else (if t219 = bt217.1 then ((laws_toNodeS.f k l0).bind fun t220 => ((impl_KidsOf.f k t220 a1).bind fun t223 => ((laws_eqIntS.f k t223 t200).bind fun t226 => (if t226 = true then ((laws_heldIntS.f k bt217.2 1).bind fun t227 => (if t227 < 0 then (none) else (if t227 = bt217.1 then (some true) else (none)))) else (none))))) else (none))))) else (none))))) else (none)))) else (none)))) = some r := H
    have A8 := Aside0.mk A80
    clear A80
    replace H := Option.bind_eq_some_iff.mp H
    obtain ⟨t206, A90, H⟩ := H
    replace H : ((laws_eqIntS.f k t206 t200).bind fun t209 => (if t209 = true then ((laws_toNodeS.f k l0).bind fun t210 => ((laws_eqNodeS.f k t203 t210).bind fun t213 => (if t213 = true then ((laws_markNodeS.f k t203 1).bind fun bt214 => (if bt214.1 < 0 then (none) else ((laws_eqIntS.f k t206 t200).bind fun t216 => (if t216 = true then ((laws_markIntS.f k t206 1).bind fun bt217 => ((laws_heldIntS.f k bt217.2 1).bind fun t219 => (if t219 < 0 then (none) else (if t219 = bt217.1 then ((laws_toNodeS.f k l0).bind fun t220 => ((impl_KidsOf.f k t220 a1).bind fun t223 => ((laws_eqIntS.f k t223 t200).bind fun t226 => (if t226 = true then ((laws_heldIntS.f k bt217.2 1).bind fun t227 => (if t227 < 0 then (none) else (if t227 = bt217.1 then (some true) else (none)))) else (none))))) else (none))))) else (none))))) else (none)))) else (none))) = some r := H
    have A9 := Aside0.mk A90
    clear A90
    replace H := Option.bind_eq_some_iff.mp H
    obtain ⟨t209, A100, H⟩ := H
    replace H : (if t209 = true then ((laws_toNodeS.f k l0).bind fun t210 => ((laws_eqNodeS.f k t203 t210).bind fun t213 => (if t213 = true then ((laws_markNodeS.f k t203 1).bind fun bt214 => (if bt214.1 < 0 then (none) else ((laws_eqIntS.f k t206 t200).bind fun t216 => (if t216 = true then ((laws_markIntS.f k t206 1).bind fun bt217 => ((laws_heldIntS.f k bt217.2 1).bind fun t219 => (if t219 < 0 then (none) else (if t219 = bt217.1 then ((laws_toNodeS.f k l0).bind fun t220 => ((impl_KidsOf.f k t220 a1).bind fun t223 => ((laws_eqIntS.f k t223 t200).bind fun t226 => (if t226 = true then ((laws_heldIntS.f k bt217.2 1).bind fun t227 => (if t227 < 0 then (none) else (if t227 = bt217.1 then (some true) else (none)))) else (none))))) else (none))))) else (none))))) else (none)))) else (none)) = some r := H
    have A10 := Aside0.mk A100
    clear A100
    by_cases c11 : t209 = true
    · subst c11
      have H1 : ((laws_toNodeS.f k l0).bind fun t210 => ((laws_eqNodeS.f k t203 t210).bind fun t213 => (if t213 = true then ((laws_markNodeS.f k t203 1).bind fun bt214 => (if bt214.1 < 0 then (none) else ((laws_eqIntS.f k t206 t200).bind fun t216 => (if t216 = true then ((laws_markIntS.f k t206 1).bind fun bt217 => ((laws_heldIntS.f k bt217.2 1).bind fun t219 => (if t219 < 0 then (none) else (if t219 = bt217.1 then ((laws_toNodeS.f k l0).bind fun t220 => ((impl_KidsOf.f k t220 a1).bind fun t223 => ((laws_eqIntS.f k t223 t200).bind fun t226 => (if t226 = true then ((laws_heldIntS.f k bt217.2 1).bind fun t227 => (if t227 < 0 then (none) else (if t227 = bt217.1 then (some true) else (none)))) else (none))))) else (none))))) else (none))))) else (none)))) = some r := by rw [if_pos rfl] at H; exact H
      clear H
      have H := H1
      clear H1
      replace H := Option.bind_eq_some_iff.mp H
      obtain ⟨t210, A120, H⟩ := H
      replace H : ((laws_eqNodeS.f k t203 t210).bind fun t213 => (if t213 = true then ((laws_markNodeS.f k t203 1).bind fun bt214 => (if bt214.1 < 0 then (none) else ((laws_eqIntS.f k t206 t200).bind fun t216 => (if t216 = true then ((laws_markIntS.f k t206 1).bind fun bt217 => ((laws_heldIntS.f k bt217.2 1).bind fun t219 => (if t219 < 0 then (none) else (if t219 = bt217.1 then ((laws_toNodeS.f k l0).bind fun t220 => ((impl_KidsOf.f k t220 a1).bind fun t223 => ((laws_eqIntS.f k t223 t200).bind fun t226 => (if t226 = true then ((laws_heldIntS.f k bt217.2 1).bind fun t227 => (if t227 < 0 then (none) else (if t227 = bt217.1 then (some true) else (none)))) else (none))))) else (none))))) else (none))))) else (none))) = some r := H
      have A12 := Aside0.mk A120
      clear A120
      replace H := Option.bind_eq_some_iff.mp H
      obtain ⟨t213, A130, H⟩ := H
      replace H : (if t213 = true then ((laws_markNodeS.f k t203 1).bind fun bt214 => (if bt214.1 < 0 then (none) else ((laws_eqIntS.f k t206 t200).bind fun t216 => (if t216 = true then ((laws_markIntS.f k t206 1).bind fun bt217 => ((laws_heldIntS.f k bt217.2 1).bind fun t219 => (if t219 < 0 then (none) else (if t219 = bt217.1 then ((laws_toNodeS.f k l0).bind fun t220 => ((impl_KidsOf.f k t220 a1).bind fun t223 => ((laws_eqIntS.f k t223 t200).bind fun t226 => (if t226 = true then ((laws_heldIntS.f k bt217.2 1).bind fun t227 => (if t227 < 0 then (none) else (if t227 = bt217.1 then (some true) else (none)))) else (none))))) else (none))))) else (none))))) else (none)) = some r := H
      have A13 := Aside0.mk A130
      clear A130
      by_cases c14 : t213 = true
      · subst c14
        have H1 : ((laws_markNodeS.f k t203 1).bind fun bt214 => (if bt214.1 < 0 then (none) else ((laws_eqIntS.f k t206 t200).bind fun t216 => (if t216 = true then ((laws_markIntS.f k t206 1).bind fun bt217 => ((laws_heldIntS.f k bt217.2 1).bind fun t219 => (if t219 < 0 then (none) else (if t219 = bt217.1 then ((laws_toNodeS.f k l0).bind fun t220 => ((impl_KidsOf.f k t220 a1).bind fun t223 => ((laws_eqIntS.f k t223 t200).bind fun t226 => (if t226 = true then ((laws_heldIntS.f k bt217.2 1).bind fun t227 => (if t227 < 0 then (none) else (if t227 = bt217.1 then (some true) else (none)))) else (none))))) else (none))))) else (none))))) = some r := by rw [if_pos rfl] at H; exact H
        clear H
        have H := H1
        clear H1
        replace H := Option.bind_eq_some_iff.mp H
        obtain ⟨⟨t214, t215⟩, A150, H⟩ := H
        replace H : (if t214 < 0 then (none) else ((laws_eqIntS.f k t206 t200).bind fun t216 => (if t216 = true then ((laws_markIntS.f k t206 1).bind fun bt217 => ((laws_heldIntS.f k bt217.2 1).bind fun t219 => (if t219 < 0 then (none) else (if t219 = bt217.1 then ((laws_toNodeS.f k l0).bind fun t220 => ((impl_KidsOf.f k t220 a1).bind fun t223 => ((laws_eqIntS.f k t223 t200).bind fun t226 => (if t226 = true then ((laws_heldIntS.f k bt217.2 1).bind fun t227 => (if t227 < 0 then (none) else (if t227 = bt217.1 then (some true) else (none)))) else (none))))) else (none))))) else (none)))) = some r := H
        have A15 := Aside0.mk A150
        clear A150
        by_cases c16 : t214 < 0
        · rw [if_pos c16] at H
          exact absurd H (by simp)
        · rw [if_neg c16] at H
          have c16b0 : decide (t214 < 0) = false := decide_eq_false c16
          clear c16
          replace H := Option.bind_eq_some_iff.mp H
          obtain ⟨t216, A170, H⟩ := H
          replace H : (if t216 = true then ((laws_markIntS.f k t206 1).bind fun bt217 => ((laws_heldIntS.f k bt217.2 1).bind fun t219 => (if t219 < 0 then (none) else (if t219 = bt217.1 then ((laws_toNodeS.f k l0).bind fun t220 => ((impl_KidsOf.f k t220 a1).bind fun t223 => ((laws_eqIntS.f k t223 t200).bind fun t226 => (if t226 = true then ((laws_heldIntS.f k bt217.2 1).bind fun t227 => (if t227 < 0 then (none) else (if t227 = bt217.1 then (some true) else (none)))) else (none))))) else (none))))) else (none)) = some r := H
          have A17 := Aside0.mk A170
          clear A170
          by_cases c18 : t216 = true
          · subst c18
            have H1 : ((laws_markIntS.f k t206 1).bind fun bt217 => ((laws_heldIntS.f k bt217.2 1).bind fun t219 => (if t219 < 0 then (none) else (if t219 = bt217.1 then ((laws_toNodeS.f k l0).bind fun t220 => ((impl_KidsOf.f k t220 a1).bind fun t223 => ((laws_eqIntS.f k t223 t200).bind fun t226 => (if t226 = true then ((laws_heldIntS.f k bt217.2 1).bind fun t227 => (if t227 < 0 then (none) else (if t227 = bt217.1 then (some true) else (none)))) else (none))))) else (none))))) = some r := by rw [if_pos rfl] at H; exact H
            clear H
            have H := H1
            clear H1
            replace H := Option.bind_eq_some_iff.mp H
            obtain ⟨⟨t217, t218⟩, A190, H⟩ := H
            replace H : ((laws_heldIntS.f k t218 1).bind fun t219 => (if t219 < 0 then (none) else (if t219 = t217 then ((laws_toNodeS.f k l0).bind fun t220 => ((impl_KidsOf.f k t220 a1).bind fun t223 => ((laws_eqIntS.f k t223 t200).bind fun t226 => (if t226 = true then ((laws_heldIntS.f k t218 1).bind fun t227 => (if t227 < 0 then (none) else (if t227 = t217 then (some true) else (none)))) else (none))))) else (none)))) = some r := H
            have A19 := Aside0.mk A190
            clear A190
            replace H := Option.bind_eq_some_iff.mp H
            obtain ⟨t219, A200, H⟩ := H
            replace H : (if t219 < 0 then (none) else (if t219 = t217 then ((laws_toNodeS.f k l0).bind fun t220 => ((impl_KidsOf.f k t220 a1).bind fun t223 => ((laws_eqIntS.f k t223 t200).bind fun t226 => (if t226 = true then ((laws_heldIntS.f k t218 1).bind fun t227 => (if t227 < 0 then (none) else (if t227 = t217 then (some true) else (none)))) else (none))))) else (none))) = some r := H
            have A20 := Aside0.mk A200
            clear A200
            by_cases c21 : t219 < 0
            · rw [if_pos c21] at H
              exact absurd H (by simp)
            · rw [if_neg c21] at H
              have c21b0 : decide (t219 < 0) = false := decide_eq_false c21
              clear c21
              by_cases c22 : t219 = t217
              · rw [if_pos c22] at H
                have c22b0 : (t219 == t217) = true := beq_iff_eq.mpr c22
                have c22b1 : (t219 != t217) = false := bne_eq_false_iff_eq.mpr c22
                clear c22
                replace H := Option.bind_eq_some_iff.mp H
                obtain ⟨t220, A230, H⟩ := H
                replace H : ((impl_KidsOf.f k t220 a1).bind fun t223 => ((laws_eqIntS.f k t223 t200).bind fun t226 => (if t226 = true then ((laws_heldIntS.f k t218 1).bind fun t227 => (if t227 < 0 then (none) else (if t227 = t217 then (some true) else (none)))) else (none)))) = some r := H
                have A23 := Aside0.mk A230
                clear A230
                replace H := Option.bind_eq_some_iff.mp H
                obtain ⟨t223, A240, H⟩ := H
                replace H : ((laws_eqIntS.f k t223 t200).bind fun t226 => (if t226 = true then ((laws_heldIntS.f k t218 1).bind fun t227 => (if t227 < 0 then (none) else (if t227 = t217 then (some true) else (none)))) else (none))) = some r := H
                have A24 := Aside0.mk A240
                clear A240
                replace H := Option.bind_eq_some_iff.mp H
                obtain ⟨t226, A250, H⟩ := H
                replace H : (if t226 = true then ((laws_heldIntS.f k t218 1).bind fun t227 => (if t227 < 0 then (none) else (if t227 = t217 then (some true) else (none)))) else (none)) = some r := H
                have A25 := Aside0.mk A250
                clear A250
                by_cases c26 : t226 = true
                · subst c26
                  have H1 : ((laws_heldIntS.f k t218 1).bind fun t227 => (if t227 < 0 then (none) else (if t227 = t217 then (some true) else (none)))) = some r := by rw [if_pos rfl] at H; exact H
                  clear H
                  have H := H1
                  clear H1
                  replace H := Option.bind_eq_some_iff.mp H
                  obtain ⟨t227, A270, H⟩ := H
                  replace H : (if t227 < 0 then (none) else (if t227 = t217 then (some true) else (none))) = some r := H
                  have A27 := Aside0.mk A270
                  clear A270
                  by_cases c28 : t227 < 0
                  · rw [if_pos c28] at H
                    exact absurd H (by simp)
                  · rw [if_neg c28] at H
                    have c28b0 : decide (t227 < 0) = false := decide_eq_false c28
                    clear c28
                    by_cases c29 : t227 = t217
                    · rw [if_pos c29] at H
                      have c29b0 : (t227 == t217) = true := beq_iff_eq.mpr c29
                      have c29b1 : (t227 != t217) = false := bne_eq_false_iff_eq.mpr c29
                      clear c29
                      obtain rfl := Option.some.inj H
                      go_enter Try.func8, Try.ntmps8
                      go_wp2_with (first | ((with_reducible refine gate_callee (f := 13) rfl ?_); refine goesL_ (some 15) rfl rfl Try.func13 (by kernel_rfl) rfl #[.slice A0 l0.length c0, .int .i64 1048576] rfl (by (try simp only [List.map_toArray, List.map_cons, List.map_nil]); first | done | rfl | (simp only [List.length_drop, List.length_take]; rfl)) ?_; (with_reducible refine (laws_szNodeS.calls k _ _ l0 1048576 t196 _ ?side1 ?side2 A3.out).mono ?_); (case side1 => repeat (first | exact HR0.out | (with_reducible refine Kd.C_alloc ?_ _) | (with_reducible refine Kd.C_drewN ?_ _) | (with_reducible refine Kd.C_drew ?_))); (case side2 => exact HC0.out); rintro e w30 ⟨rfl, hb⟩; refine ⟨_, rfl, ?_⟩; have n0_ := Aside0.mk (below_step (by repeat (first | (with_reducible first | exact HB.out | apply below_alloc | apply pw_below_drewN | apply below_drew1) | exact HB.out)) hb); clear HB; have HB := n0_; clear n0_; (try clear hb); (try clear hb2); (try clear hk); (try clear hi)) | ((with_reducible refine gate_callee (f := 15) rfl ?_); refine goesL_ (some 19) rfl rfl Try.func15 (by kernel_rfl) rfl #[.slice A0 l0.length c0] rfl (by (try simp only [List.map_toArray, List.map_cons, List.map_nil]); first | done | rfl | (simp only [List.length_drop, List.length_take]; rfl)) ?_; (with_reducible refine (laws_toNodeS.calls k _ _ l0 t197 _ ?side1 ?side2 A6.out).mono ?_); (case side1 => repeat (first | exact (Kd.C_below HR0.out HB.out) | (with_reducible refine Kd.C_alloc ?_ _) | (with_reducible refine Kd.C_drewN ?_ _) | (with_reducible refine Kd.C_drew ?_))); (case side2 => exact HC0.out); rintro e w31 ⟨v198, rfl, ho0, hb⟩; refine ⟨_, rfl, ?_⟩; have n0_ := Aside0.mk (Kd.S_lower (laws_markNodeS.fresh ho0) (below_size (by repeat (first | (with_reducible first | exact HB.out | apply below_alloc | apply pw_below_drewN | apply below_drew1) | exact HB.out)))); have n1_ := Aside0.mk (below_step (by repeat (first | (with_reducible first | exact HB.out | apply below_alloc | apply pw_below_drewN | apply below_drew1) | exact HB.out)) hb); clear HB; have HO199 := n0_; have HB := n1_; clear n0_ n1_; (try clear hb); (try clear hb2); (try clear hk); (try clear hi); (try clear ho0); obtain ⟨Ao32, co32, eo32⟩ := Kd.S_slice HO199.out; subst eo32) | ((with_reducible refine gate_callee (f := 34) rfl ?_); refine goesL_ (some 21) rfl rfl Try.func34 (by kernel_rfl) rfl #[.slice Ao32 t197.length co32, .int .i64 a1] rfl (by (try simp only [List.map_toArray, List.map_cons, List.map_nil]); first | done | rfl | (simp only [List.length_drop, List.length_take]; rfl)) ?_; (with_reducible refine (spec_KidsOf.calls k _ _ t197 a1 t200 _ ?side1 ?side2 A7.out).mono ?_); (case side1 => repeat (first | exact (Kd.S_reads' HO199.out).2.2 | (with_reducible refine Kd.C_alloc ?_ _) | (with_reducible refine Kd.C_drewN ?_ _) | (with_reducible refine Kd.C_drew ?_))); (case side2 => exact (Kd.S_reads' HO199.out).2.1); rintro e w33 ⟨v201, rfl, ho0, hb⟩; refine ⟨_, rfl, ?_⟩; have n0_ := Aside0.mk (laws_markNodeS.elder (by (with_reducible repeat (first | apply Kd.S_alloc | apply Kd.S_drewN | apply Kd.S_drew)); exact HO199.out) (Kd.R_base ho0) hb); have n1_ := Aside0.mk (Kd.R_lower ho0 (below_size (by repeat (first | (with_reducible first | exact HB.out | apply below_alloc | apply pw_below_drewN | apply below_drew1) | exact HB.out)))); have n2_ := Aside0.mk (below_step (by repeat (first | (with_reducible first | exact HB.out | apply below_alloc | apply pw_below_drewN | apply below_drew1) | exact HB.out)) hb); clear HO199; clear HB; have HO199 := n0_; have HO202 := n1_; have HB := n2_; clear n0_ n1_ n2_; (try clear hb); (try clear hb2); (try clear hk); (try clear hi); (try clear ho0)) | ((with_reducible refine gate_callee (f := 15) rfl ?_); refine goesL_ (some 23) rfl rfl Try.func15 (by kernel_rfl) rfl #[.slice A0 l0.length c0] rfl (by (try simp only [List.map_toArray, List.map_cons, List.map_nil]); first | done | rfl | (simp only [List.length_drop, List.length_take]; rfl)) ?_; (with_reducible refine (laws_toNodeS.calls k _ _ l0 t203 _ ?side1 ?side2 A8.out).mono ?_); (case side1 => repeat (first | exact (Kd.C_below HR0.out HB.out) | (with_reducible refine Kd.C_alloc ?_ _) | (with_reducible refine Kd.C_drewN ?_ _) | (with_reducible refine Kd.C_drew ?_))); (case side2 => exact HC0.out); rintro e w34 ⟨v204, rfl, ho0, hb⟩; refine ⟨_, rfl, ?_⟩; have n0_ := Aside0.mk (laws_markNodeS.elder (by (with_reducible repeat (first | apply Kd.S_alloc | apply Kd.S_drewN | apply Kd.S_drew)); exact HO199.out) (Kd.S_base ho0) hb); have n1_ := Aside0.mk (Kd.R_below (by (with_reducible repeat (first | apply Kd.R_alloc | apply Kd.R_drewN | apply Kd.R_drew)); exact HO202.out) hb); have n2_ := Aside0.mk (Kd.S_lower (Kd.S_new' (Kd.S_new' (laws_markNodeS.fresh ho0) (Kd.S_lt (by (with_reducible repeat (first | apply Kd.S_alloc | apply Kd.S_drewN | apply Kd.S_drew)); exact HO199.out))) (Kd.R_lt (by (with_reducible repeat (first | apply Kd.R_alloc | apply Kd.R_drewN | apply Kd.R_drew)); exact HO202.out))) (below_size (by repeat (first | (with_reducible first | exact HB.out | apply below_alloc | apply pw_below_drewN | apply below_drew1) | exact HB.out)))); have n3_ := Aside0.mk (below_step (by repeat (first | (with_reducible first | exact HB.out | apply below_alloc | apply pw_below_drewN | apply below_drew1) | exact HB.out)) hb); clear HO199; clear HO202; clear HB; have HO199 := n0_; have HO202 := n1_; have HO205 := n2_; have HB := n3_; clear n0_ n1_ n2_ n3_; (try clear hb); (try clear hb2); (try clear hk); (try clear hi); (try clear ho0); obtain ⟨Ao35, co35, eo35⟩ := Kd.S_slice HO205.out; subst eo35) | ((with_reducible refine gate_callee (f := 35) rfl ?_); refine goesL_ (some 26) rfl rfl Try.func35 (by kernel_rfl) rfl #[.slice Ao35 t203.length co35, .int .i64 a1] rfl (by (try simp only [List.map_toArray, List.map_cons, List.map_nil]); first | done | rfl | (simp only [List.length_drop, List.length_take]; rfl)) ?_; (with_reducible refine (impl_KidsOf.calls k _ _ t203 a1 t206 _ ?side1 ?side2 A9.out).mono ?_); (case side1 => repeat (first | exact (Kd.S_reads' HO205.out).2.2 | (with_reducible refine Kd.C_alloc ?_ _) | (with_reducible refine Kd.C_drewN ?_ _) | (with_reducible refine Kd.C_drew ?_))); (case side2 => exact (Kd.S_reads' HO205.out).2.1); rintro e w36 ⟨v207, rfl, ho0, hb⟩; refine ⟨_, rfl, ?_⟩; have n0_ := Aside0.mk (laws_markNodeS.elder (by (with_reducible repeat (first | apply Kd.S_alloc | apply Kd.S_drewN | apply Kd.S_drew)); exact HO199.out) (Kd.R_base ho0) hb); have n1_ := Aside0.mk (Kd.R_elder' (by (with_reducible repeat (first | apply Kd.R_alloc | apply Kd.R_drewN | apply Kd.R_drew)); exact HO202.out) (Kd.R_base ho0) hb); have n2_ := Aside0.mk (laws_markNodeS.elder (by (with_reducible repeat (first | apply Kd.S_alloc | apply Kd.S_drewN | apply Kd.S_drew)); exact HO205.out) (Kd.R_base ho0) hb); have n3_ := Aside0.mk (Kd.R_lower (Kd.R_new' ho0 (Kd.R_lt (by (with_reducible repeat (first | apply Kd.R_alloc | apply Kd.R_drewN | apply Kd.R_drew)); exact HO202.out))) (below_size (by repeat (first | (with_reducible first | exact HB.out | apply below_alloc | apply pw_below_drewN | apply below_drew1) | exact HB.out)))); have n4_ := Aside0.mk (below_step (by repeat (first | (with_reducible first | exact HB.out | apply below_alloc | apply pw_below_drewN | apply below_drew1) | exact HB.out)) hb); clear HO199; clear HO202; clear HO205; clear HB; have HO199 := n0_; have HO202 := n1_; have HO205 := n2_; have HO208 := n3_; have HB := n4_; clear n0_ n1_ n2_ n3_ n4_; (try clear hb); (try clear hb2); (try clear hk); (try clear hi); (try clear ho0); obtain ⟨Ao37, co37, eo37⟩ := Kd.R_slice HO208.out; subst eo37; obtain ⟨Ao38, co38, eo38⟩ := Kd.R_slice HO202.out; subst eo38) | ((with_reducible refine gate_callee (f := 36) rfl ?_); refine goesL_ (some 29) rfl rfl Try.func36 (by kernel_rfl) rfl #[.slice Ao37 t206.length co37, .slice Ao38 t200.length co38] rfl (by (try simp only [List.map_toArray, List.map_cons, List.map_nil]); first | done | rfl | (simp only [List.length_drop, List.length_take]; rfl)) ?_; (with_reducible refine (laws_eqIntS.calls k _ _ t206 _ _ t200 true _ ?side1 ?side2 ?side3 ?side4 A10.out).mono ?_); (case side1 => repeat (first | exact (Kd.R_reads' HO208.out).2.2 | (with_reducible refine Kd.C_alloc ?_ _) | (with_reducible refine Kd.C_drewN ?_ _) | (with_reducible refine Kd.C_drew ?_))); (case side2 => exact (Kd.R_reads' HO208.out).2.1); (case side3 => repeat (first | exact (Kd.R_reads' HO202.out).2.2 | (with_reducible refine Kd.C_alloc ?_ _) | (with_reducible refine Kd.C_drewN ?_ _) | (with_reducible refine Kd.C_drew ?_))); (case side4 => exact (Kd.R_reads' HO202.out).2.1); rintro e w' ⟨rfl, ⟨nd, rfl⟩⟩; refine ⟨_, rfl, ?_⟩) | ((with_reducible refine gate_callee (f := 15) rfl ?_); refine goesL_ (some 33) rfl rfl Try.func15 (by kernel_rfl) rfl #[.slice A0 l0.length c0] rfl (by (try simp only [List.map_toArray, List.map_cons, List.map_nil]); first | done | rfl | (simp only [List.length_drop, List.length_take]; rfl)) ?_; (with_reducible refine (laws_toNodeS.calls k _ _ l0 t210 _ ?side1 ?side2 A12.out).mono ?_); (case side1 => repeat (first | exact (Kd.C_below HR0.out (by repeat (first | (with_reducible first | exact HB.out | apply below_alloc | apply pw_below_drewN | apply below_drew1) | exact HB.out))) | (with_reducible refine Kd.C_alloc ?_ _) | (with_reducible refine Kd.C_drewN ?_ _) | (with_reducible refine Kd.C_drew ?_))); (case side2 => exact HC0.out); rintro e w39 ⟨v211, rfl, ho0, hb⟩; refine ⟨_, rfl, ?_⟩; have n0_ := Aside0.mk (laws_markNodeS.elder (by (with_reducible repeat (first | apply Kd.S_alloc | apply Kd.S_drewN | apply Kd.S_drew)); exact HO199.out) (Kd.S_base ho0) hb); have n1_ := Aside0.mk (Kd.R_below (by (with_reducible repeat (first | apply Kd.R_alloc | apply Kd.R_drewN | apply Kd.R_drew)); exact HO202.out) hb); have n2_ := Aside0.mk (laws_markNodeS.elder (by (with_reducible repeat (first | apply Kd.S_alloc | apply Kd.S_drewN | apply Kd.S_drew)); exact HO205.out) (Kd.S_base ho0) hb); have n3_ := Aside0.mk (Kd.R_below (by (with_reducible repeat (first | apply Kd.R_alloc | apply Kd.R_drewN | apply Kd.R_drew)); exact HO208.out) hb); have n4_ := Aside0.mk (Kd.S_lower (Kd.S_new' (Kd.S_new' (Kd.S_new' (Kd.S_new' (laws_markNodeS.fresh ho0) (Kd.S_lt (by (with_reducible repeat (first | apply Kd.S_alloc | apply Kd.S_drewN | apply Kd.S_drew)); exact HO199.out))) (Kd.R_lt (by (with_reducible repeat (first | apply Kd.R_alloc | apply Kd.R_drewN | apply Kd.R_drew)); exact HO202.out))) (Kd.S_lt (by (with_reducible repeat (first | apply Kd.S_alloc | apply Kd.S_drewN | apply Kd.S_drew)); exact HO205.out))) (Kd.R_lt (by (with_reducible repeat (first | apply Kd.R_alloc | apply Kd.R_drewN | apply Kd.R_drew)); exact HO208.out))) (below_size (by repeat (first | (with_reducible first | exact HB.out | apply below_alloc | apply pw_below_drewN | apply below_drew1) | exact HB.out)))); have n5_ := Aside0.mk (below_step (by repeat (first | (with_reducible first | exact HB.out | apply below_alloc | apply pw_below_drewN | apply below_drew1) | exact HB.out)) hb); clear HO199; clear HO202; clear HO205; clear HO208; clear HB; have HO199 := n0_; have HO202 := n1_; have HO205 := n2_; have HO208 := n3_; have HO212 := n4_; have HB := n5_; clear n0_ n1_ n2_ n3_ n4_ n5_; (try clear hb); (try clear hb2); (try clear hk); (try clear hi); (try clear ho0); obtain ⟨Ao40, co40, eo40⟩ := Kd.S_slice HO212.out; subst eo40) | ((with_reducible refine gate_callee (f := 17) rfl ?_); refine goesL_ (some 34) rfl rfl Try.func17 (by kernel_rfl) rfl #[.slice Ao35 t203.length co35, .slice Ao40 t210.length co40] rfl (by (try simp only [List.map_toArray, List.map_cons, List.map_nil]); first | done | rfl | (simp only [List.length_drop, List.length_take]; rfl)) ?_; (with_reducible refine (laws_eqNodeS.calls k _ _ t203 _ _ t210 true _ ?side1 ?side2 ?side3 ?side4 A13.out).mono ?_); (case side1 => repeat (first | exact (Kd.S_reads' HO205.out).2.2 | (with_reducible refine Kd.C_alloc ?_ _) | (with_reducible refine Kd.C_drewN ?_ _) | (with_reducible refine Kd.C_drew ?_))); (case side2 => exact (Kd.S_reads' HO205.out).2.1); (case side3 => repeat (first | exact (Kd.S_reads' HO212.out).2.2 | (with_reducible refine Kd.C_alloc ?_ _) | (with_reducible refine Kd.C_drewN ?_ _) | (with_reducible refine Kd.C_drew ?_))); (case side4 => exact (Kd.S_reads' HO212.out).2.1); rintro e w41 ⟨rfl, hb⟩; refine ⟨_, rfl, ?_⟩; have n0_ := Aside0.mk (Kd.S_below (by (with_reducible repeat (first | apply Kd.S_alloc | apply Kd.S_drewN | apply Kd.S_drew)); exact HO199.out) hb); have n1_ := Aside0.mk (Kd.R_below (by (with_reducible repeat (first | apply Kd.R_alloc | apply Kd.R_drewN | apply Kd.R_drew)); exact HO202.out) hb); have n2_ := Aside0.mk (Kd.S_below (by (with_reducible repeat (first | apply Kd.S_alloc | apply Kd.S_drewN | apply Kd.S_drew)); exact HO205.out) hb); have n3_ := Aside0.mk (Kd.R_below (by (with_reducible repeat (first | apply Kd.R_alloc | apply Kd.R_drewN | apply Kd.R_drew)); exact HO208.out) hb); have n4_ := Aside0.mk (Kd.S_below (by (with_reducible repeat (first | apply Kd.S_alloc | apply Kd.S_drewN | apply Kd.S_drew)); exact HO212.out) hb); have n5_ := Aside0.mk (below_step (by repeat (first | (with_reducible first | exact HB.out | apply below_alloc | apply pw_below_drewN | apply below_drew1) | exact HB.out)) hb); clear HO199; clear HO202; clear HO205; clear HO208; clear HO212; clear HB; have HO199 := n0_; have HO202 := n1_; have HO205 := n2_; have HO208 := n3_; have HO212 := n4_; have HB := n5_; clear n0_ n1_ n2_ n3_ n4_ n5_; (try clear hb); (try clear hb2); (try clear hk); (try clear hi)) | ((with_reducible refine gate_callee (f := 37) rfl ?_); refine goesL_ (some 38) rfl rfl Try.func37 (by kernel_rfl) rfl #[.slice Ao35 t203.length co35, .int .i64 1] rfl (by (try simp only [List.map_toArray, List.map_cons, List.map_nil]); first | done | rfl | (simp only [List.length_drop, List.length_take]; rfl)) ?_; refine (laws_markNodeS.calls k _ (.slice Ao35 t203.length co35) t203 1 t214 t215 w _ ?side1 (Kd.S_bound HO205.out) A15.out).mono ?_; (case side1 => repeat (first | (with_reducible first | exact HB.out | apply below_alloc | apply pw_below_drewN | apply below_drew1) | exact HB.out)); rintro e w42 ⟨rfl, hy0, hb, hkp⟩; refine ⟨_, rfl, ?_⟩; have n0_ := Aside0.mk (Kd.S_kept HO199.out hkp (fun k_ h1_ h2_ => by have h3_ := h2_.1; (try dsimp only at h1_ h3_); omega)); have n1_ := Aside0.mk (Kd.R_reok rfl (Kd.R_kept (Kd.R_tight rfl HO202.out) hkp (fun k_ h1_ h2_ => by have h3_ := h2_.1; (try dsimp only at h3_); simp [h1_] at h3_)) (fun k_ e_ => HO202.out.1 k_ e_)); have n2_ := Aside0.mk (Kd.S_mono hy0 (fun k_ h_ => h_.1)); have n3_ := Aside0.mk (Kd.R_reok rfl (Kd.R_kept (Kd.R_tight rfl HO208.out) hkp (fun k_ h1_ h2_ => by have h3_ := h2_.1; (try dsimp only at h3_); simp [h1_] at h3_)) (fun k_ e_ => HO208.out.1 k_ e_)); have n4_ := Aside0.mk (Kd.S_kept HO212.out hkp (fun k_ h1_ h2_ => by have h3_ := h2_.1; (try dsimp only at h1_ h3_); omega)); have n5_ := Aside0.mk (hb); clear HO199; clear HO202; clear HO205; clear HO208; clear HO212; clear HB; have HO199 := n0_; have HO202 := n1_; have HO205 := n2_; have HO208 := n3_; have HO212 := n4_; have HB := n5_; clear n0_ n1_ n2_ n3_ n4_ n5_; (try clear hb); (try clear hkp); (try clear hy0)) | (go_at_call 36; (with_reducible refine (laws_eqIntS.calls k _ _ t206 _ _ t200 true _ ?side1 ?side2 ?side3 ?side4 A17.out).mono ?_); (case side1 => repeat (first | exact (Kd.R_reads' HO208.out).2.2 | (with_reducible refine Kd.C_alloc ?_ _) | (with_reducible refine Kd.C_drewN ?_ _) | (with_reducible refine Kd.C_drew ?_))); (case side2 => exact (Kd.R_reads' HO208.out).2.1); (case side3 => repeat (first | exact (Kd.R_reads' HO202.out).2.2 | (with_reducible refine Kd.C_alloc ?_ _) | (with_reducible refine Kd.C_drewN ?_ _) | (with_reducible refine Kd.C_drew ?_))); (case side4 => exact (Kd.R_reads' HO202.out).2.1); rintro e w' ⟨rfl, ⟨nd, rfl⟩⟩) | ((with_reducible refine gate_callee (f := 38) rfl ?_); refine goesL_ (some 49) rfl rfl Try.func38 (by kernel_rfl) rfl #[.slice Ao37 t206.length co37, .int .i64 1] rfl (by (try simp only [List.map_toArray, List.map_cons, List.map_nil]); first | done | rfl | (simp only [List.length_drop, List.length_take]; rfl)) ?_; (with_reducible refine (laws_markIntS.calls k (fun k_ => some k_ = (.slice Ao37 t206.length co37 : Value).ownBlock) (.slice Ao37 t206.length co37) t206 1 t217 t218 w _ ?side1 ?side2 A19.out).mono ?_); (case side1 => repeat (first | (with_reducible first | exact HB.out | apply below_alloc | apply pw_below_drewN | apply below_drew1) | exact HB.out)); (case side2 => exact Kd.R_tight rfl HO208.out); rintro e w43 ⟨rfl, hy0, hb, hkp⟩; refine ⟨_, rfl, ?_⟩; have n0_ := Aside0.mk (Kd.S_kept HO199.out hkp (fun k_ h1_ h2_ => by (try dsimp only at h1_ h2_); simp [h2_] at h1_)); have n1_ := Aside0.mk (Kd.R_kept HO202.out hkp (fun k_ h1_ h2_ => by (try dsimp only at h1_ h2_); simp [h2_] at h1_)); have n2_ := Aside0.mk (Kd.S_kept HO205.out hkp (fun k_ h1_ h2_ => by (try dsimp only at h1_ h2_); simp [h2_] at h1_)); have n3_ := Aside0.mk (Kd.R_reok rfl hy0 (fun k_ e_ => HO208.out.1 k_ e_)); have n4_ := Aside0.mk (Kd.S_kept HO212.out hkp (fun k_ h1_ h2_ => by (try dsimp only at h1_ h2_); simp [h2_] at h1_)); have n5_ := Aside0.mk (hb); clear HO199; clear HO202; clear HO205; clear HO208; clear HO212; clear HB; have HO199 := n0_; have HO202 := n1_; have HO205 := n2_; have HO208 := n3_; have HO212 := n4_; have HB := n5_; clear n0_ n1_ n2_ n3_ n4_ n5_; (try clear hb); (try clear hkp); (try clear hy0)) | ((with_reducible refine gate_callee (f := 39) rfl ?_); refine goesL_ (some 52) rfl rfl Try.func39 (by kernel_rfl) rfl #[.slice Ao37 t218.length co37, .int .i64 1] rfl (by (try simp only [List.map_toArray, List.map_cons, List.map_nil]); first | done | (rw [show t218.length = t206.length from (Kd.R_reads' HO208.out).1.symm] <;> rfl) | rfl | (simp only [List.length_drop, List.length_take]; rfl)) ?_; (with_reducible refine (laws_heldIntS.calls k _ _ t218 1 t219 _ ?side1 ?side2 A20.out).mono ?_); (case side1 => repeat (first | exact (Kd.R_reads' HO208.out).2.2 | (with_reducible refine Kd.C_alloc ?_ _) | (with_reducible refine Kd.C_drewN ?_ _) | (with_reducible refine Kd.C_drew ?_))); (case side2 => rw [show t218.length = t206.length from (Kd.R_reads' HO208.out).1.symm]; exact (Kd.R_reads' HO208.out).2.1); rintro e w' ⟨rfl, ⟨nd, rfl⟩⟩; refine ⟨_, rfl, ?_⟩) | ((with_reducible refine gate_callee (f := 15) rfl ?_); refine goesL_ (some 59) rfl rfl Try.func15 (by kernel_rfl) rfl #[.slice A0 l0.length c0] rfl (by (try simp only [List.map_toArray, List.map_cons, List.map_nil]); first | done | rfl | (simp only [List.length_drop, List.length_take]; rfl)) ?_; (with_reducible refine (laws_toNodeS.calls k _ _ l0 t220 _ ?side1 ?side2 A23.out).mono ?_); (case side1 => repeat (first | exact (Kd.C_below HR0.out (by repeat (first | (with_reducible first | exact HB.out | apply below_alloc | apply pw_below_drewN | apply below_drew1) | exact HB.out))) | (with_reducible refine Kd.C_alloc ?_ _) | (with_reducible refine Kd.C_drewN ?_ _) | (with_reducible refine Kd.C_drew ?_))); (case side2 => exact HC0.out); rintro e w44 ⟨v221, rfl, ho0, hb⟩; refine ⟨_, rfl, ?_⟩; have n0_ := Aside0.mk (laws_markNodeS.elder (by (with_reducible repeat (first | apply Kd.S_alloc | apply Kd.S_drewN | apply Kd.S_drew)); exact HO199.out) (Kd.S_base ho0) hb); have n1_ := Aside0.mk (Kd.R_below (by (with_reducible repeat (first | apply Kd.R_alloc | apply Kd.R_drewN | apply Kd.R_drew)); exact HO202.out) hb); have n2_ := Aside0.mk (laws_markNodeS.elder (by (with_reducible repeat (first | apply Kd.S_alloc | apply Kd.S_drewN | apply Kd.S_drew)); exact HO205.out) (Kd.S_base ho0) hb); have n3_ := Aside0.mk (Kd.R_below (by (with_reducible repeat (first | apply Kd.R_alloc | apply Kd.R_drewN | apply Kd.R_drew)); exact HO208.out) hb); have n4_ := Aside0.mk (laws_markNodeS.elder (by (with_reducible repeat (first | apply Kd.S_alloc | apply Kd.S_drewN | apply Kd.S_drew)); exact HO212.out) (Kd.S_base ho0) hb); have n5_ := Aside0.mk (Kd.S_lower (Kd.S_new' (Kd.S_new' (Kd.S_new' (Kd.S_new' (Kd.S_new' (laws_markNodeS.fresh ho0) (Kd.S_lt (by (with_reducible repeat (first | apply Kd.S_alloc | apply Kd.S_drewN | apply Kd.S_drew)); exact HO199.out))) (Kd.R_lt (by (with_reducible repeat (first | apply Kd.R_alloc | apply Kd.R_drewN | apply Kd.R_drew)); exact HO202.out))) (Kd.S_lt (by (with_reducible repeat (first | apply Kd.S_alloc | apply Kd.S_drewN | apply Kd.S_drew)); exact HO205.out))) (Kd.R_lt (by (with_reducible repeat (first | apply Kd.R_alloc | apply Kd.R_drewN | apply Kd.R_drew)); exact HO208.out))) (Kd.S_lt (by (with_reducible repeat (first | apply Kd.S_alloc | apply Kd.S_drewN | apply Kd.S_drew)); exact HO212.out))) (below_size (by repeat (first | (with_reducible first | exact HB.out | apply below_alloc | apply pw_below_drewN | apply below_drew1) | exact HB.out)))); have n6_ := Aside0.mk (below_step (by repeat (first | (with_reducible first | exact HB.out | apply below_alloc | apply pw_below_drewN | apply below_drew1) | exact HB.out)) hb); clear HO199; clear HO202; clear HO205; clear HO208; clear HO212; clear HB; have HO199 := n0_; have HO202 := n1_; have HO205 := n2_; have HO208 := n3_; have HO212 := n4_; have HO222 := n5_; have HB := n6_; clear n0_ n1_ n2_ n3_ n4_ n5_ n6_; (try clear hb); (try clear hb2); (try clear hk); (try clear hi); (try clear ho0); obtain ⟨Ao45, co45, eo45⟩ := Kd.S_slice HO222.out; subst eo45) | ((with_reducible refine gate_callee (f := 35) rfl ?_); refine goesL_ (some 61) rfl rfl Try.func35 (by kernel_rfl) rfl #[.slice Ao45 t220.length co45, .int .i64 a1] rfl (by (try simp only [List.map_toArray, List.map_cons, List.map_nil]); first | done | rfl | (simp only [List.length_drop, List.length_take]; rfl)) ?_; (with_reducible refine (impl_KidsOf.calls k _ _ t220 a1 t223 _ ?side1 ?side2 A24.out).mono ?_); (case side1 => repeat (first | exact (Kd.S_reads' HO222.out).2.2 | (with_reducible refine Kd.C_alloc ?_ _) | (with_reducible refine Kd.C_drewN ?_ _) | (with_reducible refine Kd.C_drew ?_))); (case side2 => exact (Kd.S_reads' HO222.out).2.1); rintro e w46 ⟨v224, rfl, ho0, hb⟩; refine ⟨_, rfl, ?_⟩; have n0_ := Aside0.mk (laws_markNodeS.elder (by (with_reducible repeat (first | apply Kd.S_alloc | apply Kd.S_drewN | apply Kd.S_drew)); exact HO199.out) (Kd.R_base ho0) hb); have n1_ := Aside0.mk (Kd.R_elder' (by (with_reducible repeat (first | apply Kd.R_alloc | apply Kd.R_drewN | apply Kd.R_drew)); exact HO202.out) (Kd.R_base ho0) hb); have n2_ := Aside0.mk (laws_markNodeS.elder (by (with_reducible repeat (first | apply Kd.S_alloc | apply Kd.S_drewN | apply Kd.S_drew)); exact HO205.out) (Kd.R_base ho0) hb); have n3_ := Aside0.mk (Kd.R_elder' (by (with_reducible repeat (first | apply Kd.R_alloc | apply Kd.R_drewN | apply Kd.R_drew)); exact HO208.out) (Kd.R_base ho0) hb); have n4_ := Aside0.mk (laws_markNodeS.elder (by (with_reducible repeat (first | apply Kd.S_alloc | apply Kd.S_drewN | apply Kd.S_drew)); exact HO212.out) (Kd.R_base ho0) hb); have n5_ := Aside0.mk (laws_markNodeS.elder (by (with_reducible repeat (first | apply Kd.S_alloc | apply Kd.S_drewN | apply Kd.S_drew)); exact HO222.out) (Kd.R_base ho0) hb); have n6_ := Aside0.mk (Kd.R_lower (Kd.R_new' (Kd.R_new' ho0 (Kd.R_lt (by (with_reducible repeat (first | apply Kd.R_alloc | apply Kd.R_drewN | apply Kd.R_drew)); exact HO202.out))) (Kd.R_lt (by (with_reducible repeat (first | apply Kd.R_alloc | apply Kd.R_drewN | apply Kd.R_drew)); exact HO208.out))) (below_size (by repeat (first | (with_reducible first | exact HB.out | apply below_alloc | apply pw_below_drewN | apply below_drew1) | exact HB.out)))); have n7_ := Aside0.mk (below_step (by repeat (first | (with_reducible first | exact HB.out | apply below_alloc | apply pw_below_drewN | apply below_drew1) | exact HB.out)) hb); clear HO199; clear HO202; clear HO205; clear HO208; clear HO212; clear HO222; clear HB; have HO199 := n0_; have HO202 := n1_; have HO205 := n2_; have HO208 := n3_; have HO212 := n4_; have HO222 := n5_; have HO225 := n6_; have HB := n7_; clear n0_ n1_ n2_ n3_ n4_ n5_ n6_ n7_; (try clear hb); (try clear hb2); (try clear hk); (try clear hi); (try clear ho0); obtain ⟨Ao47, co47, eo47⟩ := Kd.R_slice HO225.out; subst eo47) | ((with_reducible refine gate_callee (f := 36) rfl ?_); refine goesL_ (some 64) rfl rfl Try.func36 (by kernel_rfl) rfl #[.slice Ao47 t223.length co47, .slice Ao38 t200.length co38] rfl (by (try simp only [List.map_toArray, List.map_cons, List.map_nil]); first | done | rfl | (simp only [List.length_drop, List.length_take]; rfl)) ?_; (with_reducible refine (laws_eqIntS.calls k _ _ t223 _ _ t200 true _ ?side1 ?side2 ?side3 ?side4 A25.out).mono ?_); (case side1 => repeat (first | exact (Kd.R_reads' HO225.out).2.2 | (with_reducible refine Kd.C_alloc ?_ _) | (with_reducible refine Kd.C_drewN ?_ _) | (with_reducible refine Kd.C_drew ?_))); (case side2 => exact (Kd.R_reads' HO225.out).2.1); (case side3 => repeat (first | exact (Kd.R_reads' HO202.out).2.2 | (with_reducible refine Kd.C_alloc ?_ _) | (with_reducible refine Kd.C_drewN ?_ _) | (with_reducible refine Kd.C_drew ?_))); (case side4 => exact (Kd.R_reads' HO202.out).2.1); rintro e w' ⟨rfl, ⟨nd, rfl⟩⟩; refine ⟨_, rfl, ?_⟩) | ((with_reducible refine gate_callee (f := 39) rfl ?_); refine goesL_ (some 68) rfl rfl Try.func39 (by kernel_rfl) rfl #[.slice Ao37 t218.length co37, .int .i64 1] rfl (by (try simp only [List.map_toArray, List.map_cons, List.map_nil]); first | done | (rw [show t218.length = t206.length from (Kd.R_reads' HO208.out).1.symm] <;> rfl) | rfl | (simp only [List.length_drop, List.length_take]; rfl)) ?_; (with_reducible refine (laws_heldIntS.calls k _ _ t218 1 t227 _ ?side1 ?side2 A27.out).mono ?_); (case side1 => repeat (first | exact (Kd.R_reads' HO208.out).2.2 | (with_reducible refine Kd.C_alloc ?_ _) | (with_reducible refine Kd.C_drewN ?_ _) | (with_reducible refine Kd.C_drew ?_))); (case side2 => rw [show t218.length = t206.length from (Kd.R_reads' HO208.out).1.symm]; exact (Kd.R_reads' HO208.out).2.1); rintro e w' ⟨rfl, ⟨nd, rfl⟩⟩; refine ⟨_, rfl, ?_⟩))
                      go_ret
                      exact ⟨by first | rfl | (simp [errW_none, errW_some] <;> rfl) | (simp [*, errW_none, errW_some] <;> rfl), by repeat (first | (with_reducible first | exact HB.out | apply below_alloc | apply pw_below_drewN | apply below_drew1) | exact HB.out)⟩
                    · rw [if_neg c29] at H
                      exact absurd H (by simp)
                · replace c26 := Bool.eq_false_iff.mpr c26
                  subst c26
                  have H1 : (none) = some r := by rw [if_neg (show ¬ (false = true) by decide)] at H; exact H
                  clear H
                  have H := H1
                  clear H1
                  exact absurd H (by simp)
              · rw [if_neg c22] at H
                exact absurd H (by simp)
          · replace c18 := Bool.eq_false_iff.mpr c18
            subst c18
            have H1 : (none) = some r := by rw [if_neg (show ¬ (false = true) by decide)] at H; exact H
            clear H
            have H := H1
            clear H1
            exact absurd H (by simp)
      · replace c14 := Bool.eq_false_iff.mpr c14
        subst c14
        have H1 : (none) = some r := by rw [if_neg (show ¬ (false = true) by decide)] at H; exact H
        clear H
        have H := H1
        clear H1
        exact absurd H (by simp)
    · replace c11 := Bool.eq_false_iff.mpr c11
      subst c11
      have H1 : (none) = some r := by rw [if_neg (show ¬ (false = true) by decide)] at H; exact H
      clear H
      have H := H1
      clear H1
      exact absurd H (by simp)

end Go.Proofs.Ytnloeihhimcblaa.QFnExactKidsOf
