/- What the functions that the law FnExactWipeSome reaches compute, as plain functions, and that the code computes just that (by a program of this session's; the library's functions by hand). No condition. -/
import Derived.Test.YtofpmdgndegalaaQFnExactWipeSomex0
import Derived.Test.YtofpmdgndegalaaQFnExactWipeSomex2
import Derived.Test.YtofpmdgndegalaaQFnExactWipeSomex3
import Derived.Test.YtofpmdgndegalaaQFnExactWipeSomex4
namespace Go.Proofs.Ytofpmdgndegalaa.QFnExactWipeSome
open Go.RowKit Go.Proofs.YtofpmdgndegalaaW.PrintWords Go.Proofs.YtofpmdgndegalaaW.PrintLast Go.Proofs.YtofpmdgndegalaaW.PrintMore
attribute [local go_sem] max2_int min2_int max_two min_two max_three min_three max_four min_four   -- for this text's walks alone
set_option linter.unusedVariables false
set_option linter.unusedSimpArgs false

/-! ### spec_Least: function 17 -/
def spec_Least.f (a0 : Int) (a1 : Int) : Option (Int) := if a1 < a0 then (some a1) else (some a0)
set_option maxHeartbeats 8000000 in
set_option maxRecDepth 100000 in
theorem spec_Least.calls (a0 : Int) (a1 : Int) (r : Int) (w : World) (h : spec_Least.f a0 a1 = some r) :
  Calls Try.prog 17 #[.int .i64 a0, .int .i64 a1] w fun e w' => e = .returned (.int .i64 r) ∧ Drawn0 w w' := by
 have H : (if a1 < a0 then (some a1) else (some a0)) = some r := h
 clear h
 by_cases c3 : a1 < a0
 ·rw [if_pos c3] at H
  have c3b0 : decide (a1 < a0) = true := decide_eq_true c3
  clear c3
  obtain rfl := Option.some.inj H
  go_enter Try.func17, Try.ntmps17
  go_wp2
  go_ret
  exact ⟨by first | rfl | (simp; done) | (simp [*]; done), by repeat (first | exact Drawn0.refl _ | apply Drawn0.step)⟩
 ·rw [if_neg c3] at H
  have c3b0 : decide (a1 < a0) = false := decide_eq_false c3
  clear c3
  obtain rfl := Option.some.inj H
  go_enter Try.func17, Try.ntmps17
  go_wp2
  go_ret
  exact ⟨by first | rfl | (simp; done) | (simp [*]; done), by repeat (first | exact Drawn0.refl _ | apply Drawn0.step)⟩

/-! ### spec_Wipe: function 18 -/
mutual
def spec_Wipe.j0 : Nat → List Int → Int → Int → List Int → Bool → Option (List Int)
 | 0, _, _, _, _, _ => none
 | k + 1, x0, x1, x2, x7, x17 => if x17 = true then (some x7) else (spec_Wipe.l0 k x0 x1 x2 x7 x1)
def spec_Wipe.l0 : Nat → List Int → Int → Int → List Int → Int → Option (List Int)
 | 0, _, _, _, _, _ => none
 | k + 1, x0, x1, x2, x7, x8 => if x8 < (x0.length : Int) then (if (wrap64 (x8 - x1)) < x2 then (if 0 ≤ x8 then (if x8 < (x7.length : Int) then (spec_Wipe.l0 k x0 x1 x2 (x7.set (x8 : Int).toNat 0) (wrap64 (x8 + 1))) else (none)) else (none)) else (some x7)) else (some x7)
end
def spec_Wipe.f (k : Nat) (l0 : List Int) (a1 : Int) (a2 : Int) : Option (List Int) := (some (([] : List Int) : List Int)).bind fun y150 => (if y150.length + l0.length < 140737488355328 then ((some (y150 ++ l0 : List Int)).bind fun y153 => (if a1 < 0 then (spec_Wipe.j0 k l0 a1 a2 y153 true) else (spec_Wipe.j0 k l0 a1 a2 y153 (decide (a2 < 0))))) else (none))
theorem spec_Wipe.mono_l : ∀ k, (∀ y0 y1 y2 y3 y4, LeO (spec_Wipe.j0 k y0 y1 y2 y3 y4) (spec_Wipe.j0 (k + 1) y0 y1 y2 y3 y4)) ∧ (∀ y0 y1 y2 y3 y4, LeO (spec_Wipe.l0 k y0 y1 y2 y3 y4) (spec_Wipe.l0 (k + 1) y0 y1 y2 y3 y4))
 | 0 => ⟨fun _ _ _ _ _ r h => by simp [spec_Wipe.j0] at h, fun _ _ _ _ _ r h => by simp [spec_Wipe.l0] at h⟩
 | k + 1 => by
  obtain ⟨ih0, ih1⟩ := spec_Wipe.mono_l k
  refine ⟨?_, ?_⟩
  ·intro y0 y1 y2 y3 y4
   unfold spec_Wipe.j0
   repeat' first
   | (with_reducible exact ih0 _ _ _ _ _)
   | (with_reducible exact ih1 _ _ _ _ _)
   | (with_reducible exact LeO.refl _)
   | (with_reducible exact LeO.none _)
   | (with_reducible refine LeO.ite ?_ ?_)
   | (with_reducible refine LeO.bind ?_ (fun _ => ?_))
   | exact ih0 _ _ _ _ _
   | exact ih1 _ _ _ _ _
   | exact LeO.none _
   | refine LeO.ite ?_ ?_
   | refine LeO.bind ?_ (fun _ => ?_)
  ·intro y0 y1 y2 y3 y4
   unfold spec_Wipe.l0
   repeat' first
   | (with_reducible exact ih0 _ _ _ _ _)
   | (with_reducible exact ih1 _ _ _ _ _)
   | (with_reducible exact LeO.refl _)
   | (with_reducible exact LeO.none _)
   | (with_reducible refine LeO.ite ?_ ?_)
   | (with_reducible refine LeO.bind ?_ (fun _ => ?_))
   | exact ih0 _ _ _ _ _
   | exact ih1 _ _ _ _ _
   | exact LeO.none _
   | refine LeO.ite ?_ ?_
   | refine LeO.bind ?_ (fun _ => ?_)
theorem spec_Wipe.mono : ∀ a0 a1 a2 k, LeO (spec_Wipe.f k a0 a1 a2) (spec_Wipe.f (k + 1) a0 a1 a2) := by
 intro a0 a1 a2 k
 obtain ⟨ih0, ih1⟩ := spec_Wipe.mono_l k
 unfold spec_Wipe.f
 repeat' first
   | (with_reducible exact ih0 _ _ _ _ _)
   | (with_reducible exact ih1 _ _ _ _ _)
   | (with_reducible exact LeO.refl _)
   | (with_reducible exact LeO.none _)
   | (with_reducible refine LeO.ite ?_ ?_)
   | (with_reducible refine LeO.bind ?_ (fun _ => ?_))
   | exact ih0 _ _ _ _ _
   | exact ih1 _ _ _ _ _
   | exact LeO.none _
   | refine LeO.ite ?_ ?_
   | refine LeO.bind ?_ (fun _ => ?_)
set_option maxHeartbeats 8000000 in
set_option maxRecDepth 100000 in
theorem spec_Wipe.calls (k : Nat) (A0 : Option Addr) (c0 : Nat) (l0 : List Int) (a1 : Int) (a2 : Int) (r : List Int) (w : World) (hr0 : Kd.C (Kd.int .u8) w A0 l0.length l0) (hc0 : l0.length ≤ c0) (h : spec_Wipe.f k l0 a1 a2 = some r) :
  Calls Try.prog 18 #[.slice A0 l0.length c0, .int .i64 a1, .int .i64 a2] w fun e w' => ∃ v0_ : Value, e = .returned (v0_) ∧ Kd.R (Kd.int .u8) 5 w' w.heap.size (fun _ => True) v0_ r ∧ Below w.heap.size w w' := by
 have HR0 := Aside0.mk hr0
 have HC0 := Aside0.mk hc0
 clear hr0 hc0
 have HB := Aside0.mk (Below.refl w.heap.size w)
 have H : ((some (([] : List Int) : List Int)).bind fun y150 => (if y150.length + l0.length < 140737488355328 then ((some (y150 ++ l0 : List Int)).bind fun y153 => (if a1 < 0 then (spec_Wipe.j0 k l0 a1 a2 y153 true) else (spec_Wipe.j0 k l0 a1 a2 y153 (decide (a2 < 0))))) else (none))) = some r := h
 clear h
 obtain ⟨y150, hy150⟩ : ∃ y_ : List Int, y_ = (([] : List Int)) := ⟨_, rfl⟩
 replace H : (if y150.length + l0.length < 140737488355328 then ((some (y150 ++ l0 : List Int)).bind fun y153 => (if a1 < 0 then (spec_Wipe.j0 k l0 a1 a2 y153 true) else (spec_Wipe.j0 k l0 a1 a2 y153 (decide (a2 < 0))))) else (none)) = some r := by first | (rw [hy150]; with_reducible exact H) | (have H2_ := (Option.bind_some _ _).symm.trans H; rw [hy150]; with_reducible exact H2_) | (have H2_ := (Option.bind_some _ _).symm.trans H; with_reducible exact H2_) | with_reducible exact H | (rw [hy150]; exact H) | exact H
 have Ny150 := Aside0.mk hy150
 clear hy150
 by_cases c4 : y150.length + l0.length < 140737488355328
 rotate_left
 ·rw [if_neg c4] at H
  exact absurd H q145t
 rw [if_pos c4] at H
 have LMc4 := Aside0.mk c4
 clear c4
 obtain ⟨y153, hy153⟩ : ∃ y_ : List Int, y_ = (y150 ++ l0) := ⟨_, rfl⟩
 replace H : (if a1 < 0 then (spec_Wipe.j0 k l0 a1 a2 y153 true) else (spec_Wipe.j0 k l0 a1 a2 y153 (decide (a2 < 0)))) = some r := by first | (rw [hy153]; with_reducible exact H) | (have H2_ := (Option.bind_some _ _).symm.trans H; rw [hy153]; with_reducible exact H2_) | (have H2_ := (Option.bind_some _ _).symm.trans H; with_reducible exact H2_) | with_reducible exact H | (rw [hy153]; exact H) | exact H
 have Ny153 := Aside0.mk hy153
 clear hy153
 have HC5 := Aside0.mk H
 clear H
 go_enter Try.func18, Try.ntmps18
 go_upto_region 2 with (first | ((with_reducible refine gate_dst (N := 9) rfl ?_); refine Kd.R_lit (Kd.int .u8) _ 5 ?hg (N := 9) ?hd (xs := ([] : List Int)) (inner := []) (ok := fun _ => True) (okp := fun _ => True) ?hr ?hp (fun _ hk => hk) trivial (Below.refl _ _) (Nat.le_refl _) q145t ?_; (case hd => rfl); (case hg => rfl); (case hr => first | (go_simp; done) | (go_simp; rfl)); (case hp => exact (Reps.none _ _)); intro v151 w6 ho7 hb hg_ hnew_; clear hg_ hnew_; (first | rw [← Ny150.out] at ho7 | (simp only [Int.reduceToNat] at ho7; rw [← Ny150.out] at ho7)); have HO152 := Aside0.mk (Kd.R_lower ho7 (below_size q102t)); replace HB := Aside0.mk (below_step q102t hb); clear hb ho7) | ((with_reducible refine gate_builtin (b := .append) (xs := #[.tmp 9, .tmp 10]) rfl ?_); at_builtin; refine Kd.R_append_rows (Kd.int .u8) (w0 := w) w.heap.size rfl (.tmp 9) (.tmp 10) 24 5 (.int .u8 0) 1 rfl Try.underlying24 info5 rfl q144t (by omega) v151 y150 l0 _ _ _ (fun _ => True) (fun _ => False) rfl rfl ?aO ?aR (fun _ _ h => h) (fun _ h => h.elim) ?aF ?aB ?aS ?aL ?_; (case aR => repeat (first | exact (Kd.C_below HR0.out HB.out) | (with_reducible refine Kd.C_alloc ?_ _) | (with_reducible refine Kd.C_drewN ?_ _) | (with_reducible refine Kd.C_drew ?_))); (case aB => exact q102t); (case aF => exact (fun _ _ => trivial)); (case aO => exact (by (with_reducible repeat (first | apply Kd.R_alloc | apply Kd.R_drewN | apply Kd.R_drew)); exact HO152.out)); (case aS => exact (below_size q102t)); (case aL => have := LMc4.out; omega); intro v154 w8 ho hb hg hat; rw [← Ny153.out] at ho; have n0_ := Aside0.mk (hb); have n1_ := Aside0.mk (ho); clear HB; clear HO152; have HB := n0_; have HO155 := n1_; clear n0_ n1_; clear ho hb hg hat))
 (try simp only [Act.put, List.setIfInBounds_toArray, List.set_cons_zero, List.set_cons_succ])
 go_cut [17] (fun v17 wc => ∃ (kq : Nat) (x17_4 : Bool), v17 = .bool x17_4 ∧ Aside0 (spec_Wipe.j0 kq l0 a1 a2 y153 x17_4 = some r) ∧ Aside0 (kq ≤ k) ∧ Aside0 (Kd.R (Kd.int .u8) 5 wc w.heap.size (fun _ => True) v154 y153) ∧ Aside0 (Below w.heap.size w wc))
 case first =>
  have H := HC5.out
  clear HC5
  by_cases c9 : a1 < 0
  ·rw [if_pos c9] at H
   have c9b0 : decide (a1 < 0) = true := decide_eq_true c9
   clear c9
   (first | rw [c9b0] | (simp only [i64_w, i32_w]; rw [c9b0]) | skip)
   have H' := Aside0.mk H
   clear H
   go_wp2
   go_meet
   case rel => exact ⟨_, (true), q142t, H', ⟨by first | omega | exact Nat.le_refl _⟩, ⟨by (with_reducible repeat (first | apply Kd.R_alloc | apply Kd.R_drewN | apply Kd.R_drew)); exact HO155.out⟩, ⟨by repeat (first | (with_reducible first | exact HB.out | apply below_alloc | apply pw_below_drewN | apply below_drew1) | exact HB.out)⟩⟩
  rw [if_neg c9] at H
  have c9b0 : decide (a1 < 0) = false := decide_eq_false c9
  clear c9
  (first | rw [c9b0] | (simp only [i64_w, i32_w]; rw [c9b0]) | skip)
  have H' := Aside0.mk H
  clear H
  go_wp2
  go_meet
  case rel => exact ⟨_, (decide (a2 < 0)), q142t, H', ⟨by first | omega | exact Nat.le_refl _⟩, ⟨by (with_reducible repeat (first | apply Kd.R_alloc | apply Kd.R_drewN | apply Kd.R_drew)); exact HO155.out⟩, ⟨by repeat (first | (with_reducible first | exact HB.out | apply below_alloc | apply pw_below_drewN | apply below_drew1) | exact HB.out)⟩⟩
 case rest =>
  clear HC5
  try clear c1
  try clear p2
  try clear c4
  try clear c9
  try clear c9b0
  obtain ⟨kq, x17_4, rfl, HA, HJ4, HO_7, HB⟩ := hcut
  cases kq with
  | zero => exact absurd HA.out (by simp [spec_Wipe.j0])
  | succ kj4 =>
   have H := HA.out
   clear HA
   simp only [spec_Wipe.j0] at H
   by_cases c10 : x17_4 = true
   ·subst c10
    rw [if_pos rfl] at H
    obtain rfl := Option.some.inj H
    go_wp2
    go_ret
    exact ⟨_, by first | rfl | (simp [errW_none, errW_some] <;> rfl) | (simp [*, errW_none, errW_some] <;> rfl), by (with_reducible repeat (first | apply Kd.R_alloc | apply Kd.R_drewN | apply Kd.R_drew)); exact HO_7.out, by repeat (first | (with_reducible first | exact HB.out | apply below_alloc | apply pw_below_drewN | apply below_drew1) | exact HB.out)⟩
   replace c10 := Bool.eq_false_iff.mpr c10
   subst c10
   rw [if_neg (show ¬ (false = true) by decide)] at H
   have H' := Aside0.mk H
   clear H
   go_wp2
   go_loopg [8] kj4 (fun kq v8 w' => ∃ (x7_2 : List Int) (x8_2 : Int), v8 = .int .i64 x8_2 ∧ Aside0 (spec_Wipe.l0 kq l0 a1 a2 x7_2 x8_2 = some r) ∧ Aside0 (kq ≤ kj4) ∧ Aside0 (Kd.R (Kd.int .u8) 5 w' w.heap.size (fun _ => True) v154 x7_2) ∧ Aside0 (Below w.heap.size w w'))
   case atStart => exact ⟨(y153), (a1), q142t, H', ⟨Nat.le_refl _⟩, ⟨by (with_reducible repeat (first | apply Kd.R_alloc | apply Kd.R_drewN | apply Kd.R_drew)); exact HO_7.out⟩, ⟨by repeat (first | (with_reducible first | exact HB.out | apply below_alloc | apply pw_below_drewN | apply below_drew1) | exact HB.out)⟩⟩
   case round =>
    clear H'
    try clear c1
    try clear p2
    try clear p2
    try clear c4
    try clear c9
    try clear c9b0
    try clear c10
    obtain ⟨x7_2, x8_2, rfl, HA, HK2, HO_7, HB⟩ := hrel
    cases gk with
    | zero => exact absurd HA.out (by simp [spec_Wipe.l0])
    | succ k2 =>
     have H := HA.out
     clear HA
     simp only [spec_Wipe.l0] at H
     by_cases c11 : x8_2 < (l0.length : Int)
     rotate_left
     ·rw [if_neg c11] at H
      have c11b0 : decide (x8_2 < (l0.length : Int)) = false := decide_eq_false c11
      clear c11
      obtain rfl := Option.some.inj H
      go_wp2
      go_ret
      exact ⟨_, by first | rfl | (simp [errW_none, errW_some] <;> rfl) | (simp [*, errW_none, errW_some] <;> rfl), by (with_reducible repeat (first | apply Kd.R_alloc | apply Kd.R_drewN | apply Kd.R_drew)); exact HO_7.out, by repeat (first | (with_reducible first | exact HB.out | apply below_alloc | apply pw_below_drewN | apply below_drew1) | exact HB.out)⟩
     rw [if_pos c11] at H
     have c11b0 : decide (x8_2 < (l0.length : Int)) = true := decide_eq_true c11
     clear c11
     by_cases c12 : (wrap64 (x8_2 - a1)) < a2
     rotate_left
     ·rw [if_neg c12] at H
      have c12b0 : decide ((wrap64 (x8_2 - a1)) < a2) = false := decide_eq_false c12
      clear c12
      obtain rfl := Option.some.inj H
      go_wp2
      go_ret
      exact ⟨_, by first | rfl | (simp [errW_none, errW_some] <;> rfl) | (simp [*, errW_none, errW_some] <;> rfl), by (with_reducible repeat (first | apply Kd.R_alloc | apply Kd.R_drewN | apply Kd.R_drew)); exact HO_7.out, by repeat (first | (with_reducible first | exact HB.out | apply below_alloc | apply pw_below_drewN | apply below_drew1) | exact HB.out)⟩
     rw [if_pos c12] at H
     have c12b0 : decide ((wrap64 (x8_2 - a1)) < a2) = true := decide_eq_true c12
     clear c12
     by_cases c13 : 0 ≤ x8_2
     rotate_left
     ·rw [if_neg c13] at H
      exact absurd H q145t
     rw [if_pos c13] at H
     have c13b0 : decide (0 ≤ x8_2) = true := decide_eq_true c13
     clear c13
     by_cases c14 : x8_2 < (x7_2.length : Int)
     rotate_left
     ·rw [if_neg c14] at H
      exact absurd H q145t
     rw [if_pos c14] at H
     have c14b0 : decide (x8_2 < (x7_2.length : Int)) = true := decide_eq_true c14
     clear c14
     obtain ⟨y156, hy156⟩ : ∃ y_ : List Int, y_ = (x7_2.set (x8_2 : Int).toNat 0) := ⟨_, rfl⟩
     replace H : (spec_Wipe.l0 k2 l0 a1 a2 y156 (wrap64 (x8_2 + 1))) = some r := by first | (rw [hy156]; with_reducible exact H) | (have H2_ := (Option.bind_some _ _).symm.trans H; rw [hy156]; with_reducible exact H2_) | (have H2_ := (Option.bind_some _ _).symm.trans H; with_reducible exact H2_) | with_reducible exact H | (rw [hy156]; exact H) | exact H
     have Ny156 := Aside0.mk hy156
     clear hy156
     have H' := Aside0.mk H
     clear H
     have p15 : 0 ≤ (x8_2 : Int) := of_decide_eq_true q133t
     have q15 : (x8_2 : Int) < ((x7_2.length : Int) : Int) := of_decide_eq_true q133t
     obtain ⟨go15, co15, eo15, gb15, gl15, cl15, HG15⟩ := Kd.R_form HO_7.out (by omega)
     (first | cases eo15 | (injection eo15 with ea_ en_ ec_; (first | subst ea_ | (injection ea_ with ea_; subst ea_)); subst ec_; clear en_))
     have GB15 := Aside0.mk gb15
     have GG15 := Aside0.mk HG15
     clear gb15 gl15 HG15
     obtain ⟨hx15_0, hf15_0⟩ := Kd.R_celln 0 HO_7.out (x8_2 : Int) p15 q15
     replace p15 := eq_true p15
     replace q15 := eq_true q15
     have HP16 := Kd.R_putg HO_7.out (x8_2 : Int) 0
     go_wp2_with (first | ((with_reducible refine gate_store (t := 5) (p := 35) rfl ?_); refine store_event (t := 5) (p := 35) (v := ?vo_w17) (w1 := (wr.setCell ⟨go15, (x8_2 : Int).toNat, none⟩ (.int .u8 0))) ?hg ?ho ?hn ?hr ?_; (case ho => rfl); (case hg => rfl); (case hn => rfl); (case hr => first | (go_simp; done) | (go_simp; rfl)); intro w17 hw; have hg : wr.grownBy w17 (some go15) := (by rw [hw]; exact HP16.2); have hp_ : Kd.R (Kd.int .u8) 5 w17 w.heap.size (fun _ => True) (.slice (some ⟨go15, 0, none⟩) x7_2.length co15) y156 := (by rw [hw, Ny156.out]; exact HP16.1); clear HP16; replace HO_7 := Aside0.mk (hp_); replace HB := Aside0.mk ((by rw [hw]; exact below_set (HB.out) GB15.out : Below w.heap.size w w17)); clear hg hw hp_))
     go_roundg k2
     case measure => have := HJ4.out; have := HK2.out; omega
     case rel => exact ⟨(y156), (wrap64 (x8_2 + 1)), q142t, H', ⟨by have := HJ4.out; have := HK2.out; omega⟩, ⟨by (with_reducible repeat (first | apply Kd.R_alloc | apply Kd.R_drewN | apply Kd.R_drew)); exact HO_7.out⟩, ⟨by repeat (first | (with_reducible first | exact HB.out | apply below_alloc | apply pw_below_drewN | apply below_drew1) | exact HB.out)⟩⟩

/-! ### spec_WipeSome: function 5 -/
def spec_WipeSome.j0 : Nat → Int → Int → Bool → Int → Int → Int → Int → Int → Int → List Int → List Int → List Int → List Int → List Int → List Int → Option (List Int × List Int × List Int × Bool)
 | 0, _, _, _, _, _, _, _, _, _, _, _, _, _, _, _ => none
 | k + 1, x2, x3, x41, x158000, x158001, x158002, x158003, x158004, x158005, x159000, x159001, x159002, x170000, x170001, x170002 => if x41 = true then (some (x170000, x170001, x170002, false)) else ((spec_Least.f (wrap64 (x3 + x158004)) x158001).bind fun t174 => ((spec_Wipe.f k x159000 (wrap64 ((wrap64 (x2 * x158001)) + x3)) (wrap64 (t174 - x3))).bind fun t175 => (if t174 < x158001 then (some (t175, x170001, x170002, false)) else (if 0 ≤ (wrap64 (x2 * x158001)) then (if (wrap64 (x2 * x158001)) ≤ (wrap64 ((wrap64 (x2 + 1)) * x158001)) then (if (wrap64 ((wrap64 (x2 + 1)) * x158001)) ≤ (t175.length : Int) then ((spec_IsZero.f k ((t175.take ((wrap64 ((wrap64 (x2 + 1)) * x158001)) : Int).toNat).drop ((wrap64 (x2 * x158001)) : Int).toNat)).bind fun t182 => (if t182 = true then (if 0 ≤ x2 then (if x2 < (x170001.length : Int) then (some (t175, (x170001.set (x2 : Int).toNat 0), x170002, true)) else (none)) else (none)) else ((spec_l4Copy.f x159000 x159001 x159002).bind fun bt184 => (some (bt184.1, bt184.2.1, bt184.2.2, false))))) else (none)) else (none)) else (none)))))
def spec_WipeSome.f (k : Nat) (a0_0 : Int) (a0_1 : Int) (a0_2 : Int) (a0_3 : Int) (a0_4 : Int) (a0_5 : Int) (l1_0 : List Int) (l1_1 : List Int) (l1_2 : List Int) (a2 : Int) (a3 : Int) : Option (List Int × List Int × List Int × Bool) := (spec_l4Copy.f l1_0 l1_1 l1_2).bind fun bt160 => ((spec_PoolOk.f k a0_0 a0_1 a0_2 a0_3 a0_4 a0_5 l1_0 l1_1 l1_2).bind fun t170 => (if t170 = true then ((spec_l1In.f a2 0 (wrap64 (a0_0 - 1))).bind fun t171 => (if t171 = true then (if 0 ≤ a2 then (if a2 < (l1_1.length : Int) then (if (rd l1_1 a2) = 2 then ((spec_l1In.f a3 0 (wrap64 (a0_1 - 1))).bind fun t173 => (spec_WipeSome.j0 k a2 a3 (!t173) a0_0 a0_1 a0_2 a0_3 a0_4 a0_5 l1_0 l1_1 l1_2 bt160.1 bt160.2.1 bt160.2.2)) else (spec_WipeSome.j0 k a2 a3 true a0_0 a0_1 a0_2 a0_3 a0_4 a0_5 l1_0 l1_1 l1_2 bt160.1 bt160.2.1 bt160.2.2)) else (none)) else (none)) else (spec_WipeSome.j0 k a2 a3 true a0_0 a0_1 a0_2 a0_3 a0_4 a0_5 l1_0 l1_1 l1_2 bt160.1 bt160.2.1 bt160.2.2))) else (spec_WipeSome.j0 k a2 a3 true a0_0 a0_1 a0_2 a0_3 a0_4 a0_5 l1_0 l1_1 l1_2 bt160.1 bt160.2.1 bt160.2.2)))
theorem spec_WipeSome.mono_l : ∀ k, (∀ y0 y1 y2 y3 y4 y5 y6 y7 y8 y9 y10 y11 y12 y13 y14, LeO (spec_WipeSome.j0 k y0 y1 y2 y3 y4 y5 y6 y7 y8 y9 y10 y11 y12 y13 y14) (spec_WipeSome.j0 (k + 1) y0 y1 y2 y3 y4 y5 y6 y7 y8 y9 y10 y11 y12 y13 y14))
 | 0 => fun _ _ _ _ _ _ _ _ _ _ _ _ _ _ _ r h => by simp [spec_WipeSome.j0] at h
 | k + 1 => by
  have ih0 := spec_WipeSome.mono_l k
  ·intro y0 y1 y2 y3 y4 y5 y6 y7 y8 y9 y10 y11 y12 y13 y14
   unfold spec_WipeSome.j0
   repeat' first
   | (with_reducible exact ih0 _ _ _ _ _ _ _ _ _ _ _ _ _ _ _)
   | (with_reducible exact spec_IsZero.mono _ _)
   | (with_reducible exact spec_PoolOk.mono _ _ _ _ _ _ _ _ _ _)
   | (with_reducible exact spec_Wipe.mono _ _ _ _)
   | (with_reducible exact LeO.refl _)
   | (with_reducible exact LeO.none _)
   | (with_reducible refine LeO.ite ?_ ?_)
   | (with_reducible refine LeO.bind ?_ (fun _ => ?_))
   | exact ih0 _ _ _ _ _ _ _ _ _ _ _ _ _ _ _
   | exact spec_IsZero.mono _ _
   | exact spec_PoolOk.mono _ _ _ _ _ _ _ _ _ _
   | exact spec_Wipe.mono _ _ _ _
   | exact LeO.none _
   | refine LeO.ite ?_ ?_
   | refine LeO.bind ?_ (fun _ => ?_)
theorem spec_WipeSome.mono : ∀ a0 a1 a2 a3 a4 a5 a6 a7 a8 a9 a10 k, LeO (spec_WipeSome.f k a0 a1 a2 a3 a4 a5 a6 a7 a8 a9 a10) (spec_WipeSome.f (k + 1) a0 a1 a2 a3 a4 a5 a6 a7 a8 a9 a10) := by
 intro a0 a1 a2 a3 a4 a5 a6 a7 a8 a9 a10 k
 have ih0 := spec_WipeSome.mono_l k
 unfold spec_WipeSome.f
 repeat' first
   | (with_reducible exact ih0 _ _ _ _ _ _ _ _ _ _ _ _ _ _ _)
   | (with_reducible exact spec_IsZero.mono _ _)
   | (with_reducible exact spec_PoolOk.mono _ _ _ _ _ _ _ _ _ _)
   | (with_reducible exact spec_Wipe.mono _ _ _ _)
   | (with_reducible exact LeO.refl _)
   | (with_reducible exact LeO.none _)
   | (with_reducible refine LeO.ite ?_ ?_)
   | (with_reducible refine LeO.bind ?_ (fun _ => ?_))
   | exact ih0 _ _ _ _ _ _ _ _ _ _ _ _ _ _ _
   | exact spec_IsZero.mono _ _
   | exact spec_PoolOk.mono _ _ _ _ _ _ _ _ _ _
   | exact spec_Wipe.mono _ _ _ _
   | exact LeO.none _
   | refine LeO.ite ?_ ?_
   | refine LeO.bind ?_ (fun _ => ?_)
set_option maxHeartbeats 8000000 in
set_option maxRecDepth 100000 in
theorem spec_WipeSome.calls (k : Nat) (a0_0 : Int) (a0_1 : Int) (a0_2 : Int) (a0_3 : Int) (a0_4 : Int) (a0_5 : Int) (A1_0 : Option Addr) (c1_0 : Nat) (l1_0 : List Int) (A1_1 : Option Addr) (c1_1 : Nat) (l1_1 : List Int) (A1_2 : Option Addr) (c1_2 : Nat) (l1_2 : List Int) (a2 : Int) (a3 : Int) (r1 : List Int) (r2 : List Int) (r3 : List Int) (r4 : Bool) (w : World) (hr1_0 : Kd.C (Kd.int .u8) w A1_0 l1_0.length l1_0) (hc1_0 : l1_0.length ≤ c1_0) (hr1_1 : Kd.C (Kd.int .i64) w A1_1 l1_1.length l1_1) (hc1_1 : l1_1.length ≤ c1_1) (hr1_2 : Kd.C (Kd.int .i64) w A1_2 l1_2.length l1_2) (hc1_2 : l1_2.length ≤ c1_2) (h : spec_WipeSome.f k a0_0 a0_1 a0_2 a0_3 a0_4 a0_5 l1_0 l1_1 l1_2 a2 a3 = some (r1, r2, r3, r4)) :
  Calls Try.prog 5 #[.agg #[.int .i64 a0_0, .int .i64 a0_1, .int .i64 a0_2, .int .i64 a0_3, .int .i64 a0_4, .int .i64 a0_5], .agg #[.slice A1_0 l1_0.length c1_0, .slice A1_1 l1_1.length c1_1, .slice A1_2 l1_2.length c1_2], .int .i64 a2, .int .i64 a3] w fun e w' => ∃ v0_ v1_ v2_ : Value, e = .returned (.tuple #[.agg #[v0_, v1_, v2_], .bool r4]) ∧ Kd.R (Kd.int .u8) 5 w' w.heap.size (fun _ => True) v0_ r1 ∧ Kd.R (Kd.int .i64) 3 w' w.heap.size (fun k_ => some k_ ≠ (v2_ : Value).ownBlock) v1_ r2 ∧ Kd.R (Kd.int .i64) 3 w' w.heap.size (fun k_ => some k_ ≠ (v1_ : Value).ownBlock) v2_ r3 ∧ Below w.heap.size w w' := by
 have hu32 := Try.underlying32
 have hu29 := Try.underlying29
 have HR1_0 := Aside0.mk hr1_0
 have HC1_0 := Aside0.mk hc1_0
 clear hr1_0 hc1_0
 have HR1_1 := Aside0.mk hr1_1
 have HC1_1 := Aside0.mk hc1_1
 clear hr1_1 hc1_1
 have HR1_2 := Aside0.mk hr1_2
 have HC1_2 := Aside0.mk hc1_2
 clear hr1_2 hc1_2
 have HB := Aside0.mk (Below.refl w.heap.size w)
 have H : ((spec_l4Copy.f l1_0 l1_1 l1_2).bind fun bt160 => ((spec_PoolOk.f k a0_0 a0_1 a0_2 a0_3 a0_4 a0_5 l1_0 l1_1 l1_2).bind fun t170 => (if t170 = true then ((spec_l1In.f a2 0 (wrap64 (a0_0 - 1))).bind fun t171 => (if t171 = true then (if 0 ≤ a2 then (if a2 < (l1_1.length : Int) then (if (rd l1_1 a2) = 2 then ((spec_l1In.f a3 0 (wrap64 (a0_1 - 1))).bind fun t173 => (spec_WipeSome.j0 k a2 a3 (!t173) a0_0 a0_1 a0_2 a0_3 a0_4 a0_5 l1_0 l1_1 l1_2 bt160.1 bt160.2.1 bt160.2.2)) else (spec_WipeSome.j0 k a2 a3 true a0_0 a0_1 a0_2 a0_3 a0_4 a0_5 l1_0 l1_1 l1_2 bt160.1 bt160.2.1 bt160.2.2)) else (none)) else (none)) else (spec_WipeSome.j0 k a2 a3 true a0_0 a0_1 a0_2 a0_3 a0_4 a0_5 l1_0 l1_1 l1_2 bt160.1 bt160.2.1 bt160.2.2))) else (spec_WipeSome.j0 k a2 a3 true a0_0 a0_1 a0_2 a0_3 a0_4 a0_5 l1_0 l1_1 l1_2 bt160.1 bt160.2.1 bt160.2.2)))) = some (r1, r2, r3, r4) := h
 clear h
 replace H := Option.bind_eq_some_iff.mp H
 obtain ⟨⟨t160, t163, t166⟩, A50, H⟩ := H
 try dsimp only at H
 have A5 := Aside0.mk A50
 clear A50
 have HC6 := Aside0.mk H
 clear H
 go_enter Try.func5, Try.ntmps5
 go_upto_region 2 with (first | ((with_reducible refine gate_dst (N := 4) rfl ?_); refine box_ev 4 #[.int .i64 a0_0, .int .i64 a0_1, .int .i64 a0_2, .int .i64 a0_3, .int .i64 a0_4, .int .i64 a0_5] 32 ?_; intro gb157 hg w7 hbox hb; have BK157 := Aside0.mk (hbox); have GW157 := Aside0.mk ((q76t : w.heap.size ≤ gb157)); have GE157 := Aside0.mk ((q76t : w.heap.size ≤ gb157)); replace HB := Aside0.mk (below_step q102t hb); clear hb hbox hg) | ((with_reducible refine gate_dst (N := 5) rfl ?_); refine box_ev 5 #[.slice A1_0 l1_0.length c1_0, .slice A1_1 l1_1.length c1_1, .slice A1_2 l1_2.length c1_2] 29 ?_; intro gb158 hg w8 hbox hb; have BK158 := Aside0.mk (hbox); have GW158 := Aside0.mk ((by rw [hg]; exact (below_size q80t) : w.heap.size ≤ gb158)); have GE158 := Aside0.mk ((by rw [hg]; exact (below_size q80t) : w.heap.size ≤ gb158)); replace HB := Aside0.mk (below_step q80t hb); have NB157_158 := Aside0.mk ((by rw [hg]; exact Nat.ne_of_lt (blk_lt (qbk BK157)) : gb157 ≠ gb158)); have NB158_157 := Aside0.mk ((by rw [hg]; exact Nat.ne_of_gt (blk_lt (qbk BK157)) : gb158 ≠ gb157)); replace BK157 := blb BK157 hb; clear hb hbox hg) | ((with_reducible refine gate_dst (N := 8) rfl ?_); refine box_ev 8 #[.slice none 0 0, .slice none 0 0, .slice none 0 0] 29 ?_; intro gb159 hg w9 hbox hb; have BK159 := Aside0.mk (hbox); have GW159 := Aside0.mk ((by rw [hg]; exact (below_size q56t) : w.heap.size ≤ gb159)); have GE159 := Aside0.mk ((by rw [hg]; exact (below_size q56t) : w.heap.size ≤ gb159)); replace HB := Aside0.mk (below_step q56t hb); have NB157_159 := Aside0.mk ((by rw [hg]; exact Nat.ne_of_lt (blk_lt (qbk BK157)) : gb157 ≠ gb159)); have NB159_157 := Aside0.mk ((by rw [hg]; exact Nat.ne_of_gt (blk_lt (qbk BK157)) : gb159 ≠ gb157)); replace BK157 := blb BK157 hb; have NB158_159 := Aside0.mk ((by rw [hg]; exact Nat.ne_of_lt (blk_lt (qbk BK158)) : gb158 ≠ gb159)); have NB159_158 := Aside0.mk ((by rw [hg]; exact Nat.ne_of_gt (blk_lt (qbk BK158)) : gb159 ≠ gb158)); replace BK158 := blb BK158 hb; clear hb hbox hg; have hnb10 := NB158_157.out; have hnc10 := NB157_158.out; have hnb11 := NB158_159.out; have hnc11 := NB159_158.out; obtain ⟨hcz12_0, hcz12_1, hcz12_2⟩ := qc3 BK158.out; obtain ⟨hfz12_0, hfz12_1, hfz12_2⟩ := qf3 BK158.out) | ((with_reducible refine gate_callee (f := 14) rfl ?_); refine goesL_ (some 13) rfl rfl Try.func14 (by kernel_rfl) rfl #[.agg #[.slice A1_0 l1_0.length c1_0, .slice A1_1 l1_1.length c1_1, .slice A1_2 l1_2.length c1_2]] rfl q97t ?_; (with_reducible refine (spec_l4Copy.calls _ _ l1_0 _ _ l1_1 _ _ l1_2 t160 t163 t166 _ ?side1 ?side2 ?side3 ?side4 ?side5 ?side6 A5.out).mono ?_); (case side1 => repeat (first | exact (Kd.C_below HR1_0.out HB.out) | (with_reducible refine Kd.C_alloc ?_ _) | (with_reducible refine Kd.C_drewN ?_ _) | (with_reducible refine Kd.C_drew ?_))); (case side2 => exact HC1_0.out); (case side3 => repeat (first | exact (Kd.C_below HR1_1.out HB.out) | (with_reducible refine Kd.C_alloc ?_ _) | (with_reducible refine Kd.C_drewN ?_ _) | (with_reducible refine Kd.C_drew ?_))); (case side4 => exact HC1_1.out); (case side5 => repeat (first | exact (Kd.C_below HR1_2.out HB.out) | (with_reducible refine Kd.C_alloc ?_ _) | (with_reducible refine Kd.C_drewN ?_ _) | (with_reducible refine Kd.C_drew ?_))); (case side6 => exact HC1_2.out); rintro e w13 ⟨v161, v164, v167, rfl, ho0, ho1, ho2, hb⟩; refine ⟨_, rfl, ?_⟩; have HO162 := Aside0.mk (Kd.R_lower ho0 (below_size q32t)); have HO165 := Aside0.mk (Kd.R_lower ho1 (below_size q32t)); have HO168 := Aside0.mk (Kd.R_lower ho2 (below_size q32t)); replace BK157 := blb BK157 hb; replace BK158 := blb BK158 hb; replace BK159 := blb BK159 hb; replace HB := Aside0.mk (below_step q32t hb); (try clear hb); (try clear hb2); (try clear hk); (try clear hi); (try clear ho0); (try clear ho1); (try clear ho2)) | ((with_reducible refine gate_dst (N := 10) rfl ?_); refine box_ev 10 #[.slice none 0 0, .slice none 0 0, .slice none 0 0] 29 ?_; intro gb169 hg w14 hbox hb; replace HO162 := Aside0.mk (Kd.R_below (by (with_reducible repeat (first | apply Kd.R_alloc | apply Kd.R_drewN | apply Kd.R_drew)); exact HO162.out) hb); replace HO165 := Aside0.mk (Kd.R_below (by (with_reducible repeat (first | apply Kd.R_alloc | apply Kd.R_drewN | apply Kd.R_drew)); exact HO165.out) hb); replace HO168 := Aside0.mk (Kd.R_below (by (with_reducible repeat (first | apply Kd.R_alloc | apply Kd.R_drewN | apply Kd.R_drew)); exact HO168.out) hb); have BK169 := Aside0.mk (hbox); have GW169 := Aside0.mk ((by rw [hg]; exact (below_size q32t) : w.heap.size ≤ gb169)); have GE169 := Aside0.mk ((by rw [hg]; exact (below_size q32t) : w.heap.size ≤ gb169)); replace HB := Aside0.mk (below_step q32t hb); have NB157_169 := Aside0.mk ((by rw [hg]; exact Nat.ne_of_lt (blk_lt (qbk BK157)) : gb157 ≠ gb169)); have NB169_157 := Aside0.mk ((by rw [hg]; exact Nat.ne_of_gt (blk_lt (qbk BK157)) : gb169 ≠ gb157)); replace BK157 := blb BK157 hb; have NB158_169 := Aside0.mk ((by rw [hg]; exact Nat.ne_of_lt (blk_lt (qbk BK158)) : gb158 ≠ gb169)); have NB169_158 := Aside0.mk ((by rw [hg]; exact Nat.ne_of_gt (blk_lt (qbk BK158)) : gb169 ≠ gb158)); replace BK158 := blb BK158 hb; have NB159_169 := Aside0.mk ((by rw [hg]; exact Nat.ne_of_lt (blk_lt (qbk BK159)) : gb159 ≠ gb169)); have NB169_159 := Aside0.mk ((by rw [hg]; exact Nat.ne_of_gt (blk_lt (qbk BK159)) : gb169 ≠ gb159)); replace BK159 := blb BK159 hb; clear hb hbox hg; obtain ⟨Ao15, co15, eo15⟩ := Kd.R_slice HO162.out; subst eo15; have hnb16 := NB169_157.out; have hnc16 := NB157_169.out; have hnb17 := NB169_158.out; have hnc17 := NB158_169.out; have hnb18 := NB169_159.out; have hnc18 := NB159_169.out; obtain ⟨hcz19_0, hcz19_1, hcz19_2⟩ := qc3 BK169.out; obtain ⟨hfz19_0, hfz19_1, hfz19_2⟩ := qf3 BK169.out; obtain ⟨Ao20, co20, eo20⟩ := Kd.R_slice HO165.out; subst eo20; obtain ⟨Ao21, co21, eo21⟩ := Kd.R_slice HO168.out; subst eo21))
 (try simp only [Act.put, List.setIfInBounds_toArray, List.set_cons_zero, List.set_cons_succ])
 go_cut [41] (fun v41 wc => ∃ (kq : Nat) (x41_5 : Bool), v41 = .bool x41_5 ∧ Aside0 (spec_WipeSome.j0 kq a2 a3 x41_5 a0_0 a0_1 a0_2 a0_3 a0_4 a0_5 l1_0 l1_1 l1_2 t160 t163 t166 = some (r1, r2, r3, r4)) ∧ Aside0 (kq ≤ k) ∧ Aside0 (Kd.R (Kd.int .u8) 5 wc w.heap.size (fun _ => True) (.slice Ao15 t160.length co15) t160) ∧ Aside0 (Kd.R (Kd.int .i64) 3 wc w.heap.size (fun k_ => some k_ ≠ ((.slice Ao21 t166.length co21) : Value).ownBlock) (.slice Ao20 t163.length co20) t163) ∧ Aside0 (Kd.R (Kd.int .i64) 3 wc w.heap.size (fun k_ => some k_ ≠ ((.slice Ao20 t163.length co20) : Value).ownBlock) (.slice Ao21 t166.length co21) t166) ∧ Aside0 (wc.heap[gb157]? = some (.cells #[.int .i64 a0_0, .int .i64 a0_1, .int .i64 a0_2, .int .i64 a0_3, .int .i64 a0_4, .int .i64 a0_5] 32 (0, 0))) ∧ Aside0 (wc.heap[gb158]? = some (.cells #[(.slice A1_0 l1_0.length c1_0), (.slice A1_1 l1_1.length c1_1), (.slice A1_2 l1_2.length c1_2)] 29 (0, 0))) ∧ Aside0 (wc.heap[gb159]? = some (.cells #[(.slice none 0 0), (.slice none 0 0), (.slice none 0 0)] 29 (0, 0))) ∧ Aside0 (wc.heap[gb169]? = some (.cells #[(.slice Ao15 t160.length co15), (.slice Ao20 t163.length co20), (.slice Ao21 t166.length co21)] 29 (0, 0))) ∧ Aside0 (Below w.heap.size w wc))
 case first =>
  have H := HC6.out
  clear HC6
  replace H := Option.bind_eq_some_iff.mp H
  obtain ⟨t170, A220, H⟩ := H
  try dsimp only at H
  have A22 := Aside0.mk A220
  clear A220
  by_cases c23 : t170 = true
  rotate_left
  ·replace c23 := Bool.eq_false_iff.mpr c23
   subst c23
   rw [if_neg (show ¬ (false = true) by decide)] at H
   have H' := Aside0.mk H
   clear H
   have hnb59 := NB157_158.out
   have hnc59 := NB158_157.out
   have hnb60 := NB157_159.out
   have hnc60 := NB159_157.out
   have hnb61 := NB157_169.out
   have hnc61 := NB169_157.out
   obtain ⟨hcz62_0, hcz62_1, hcz62_2, hcz62_3, hcz62_4, hcz62_5⟩ := qc6 BK157.out
   obtain ⟨hfz62_0, hfz62_1, hfz62_2, hfz62_3, hfz62_4, hfz62_5⟩ := qf6 BK157.out
   have hnb63 := NB158_159.out
   have hnc63 := NB159_158.out
   have hnb64 := NB158_169.out
   have hnc64 := NB169_158.out
   obtain ⟨hcz65_0, hcz65_1, hcz65_2⟩ := qc3 BK158.out
   obtain ⟨hfz65_0, hfz65_1, hfz65_2⟩ := qf3 BK158.out
   go_wp2_with (first | ((with_reducible refine gate_callee (f := 15) rfl ?_); refine goesL_ (some 16) rfl rfl Try.func15 (by kernel_rfl) rfl #[.agg #[.int .i64 a0_0, .int .i64 a0_1, .int .i64 a0_2, .int .i64 a0_3, .int .i64 a0_4, .int .i64 a0_5], .agg #[.slice A1_0 l1_0.length c1_0, .slice A1_1 l1_1.length c1_1, .slice A1_2 l1_2.length c1_2]] rfl q97t ?_; (with_reducible refine (spec_PoolOk.calls k a0_0 a0_1 a0_2 a0_3 a0_4 a0_5 _ _ l1_0 _ _ l1_1 _ _ l1_2 false _ ?side1 ?side2 ?side3 ?side4 ?side5 ?side6 A22.out).mono ?_); (case side1 => exact Kd.C_below HR1_0.out q28t); (case side2 => exact HC1_0.out); (case side3 => exact Kd.C_below HR1_1.out q28t); (case side4 => exact HC1_1.out); (case side5 => exact Kd.C_below HR1_2.out q28t); (case side6 => exact HC1_2.out); rintro e w66 ⟨rfl, hb⟩; refine ⟨_, rfl, ?_⟩; replace HO162 := Aside0.mk (Kd.R_below q65t hb); replace HO165 := Aside0.mk (Kd.R_below q66t hb); replace HO168 := Aside0.mk (Kd.R_below q67t hb); replace BK157 := Aside0.mk (blk_below (g := gb157) (o := .cells #[.int .i64 a0_0, .int .i64 a0_1, .int .i64 a0_2, .int .i64 a0_3, .int .i64 a0_4, .int .i64 a0_5] 32 (0, 0)) q0t hb); replace BK158 := Aside0.mk (blk_below (g := gb158) (o := .cells #[.slice A1_0 l1_0.length c1_0, .slice A1_1 l1_1.length c1_1, .slice A1_2 l1_2.length c1_2] 29 (0, 0)) q1t hb); replace BK159 := Aside0.mk (blk_below (g := gb159) (o := .cells #[.slice none 0 0, .slice none 0 0, .slice none 0 0] 29 (0, 0)) q2t hb); replace BK169 := blp BK169 hb; replace HB := Aside0.mk (below_step q28t hb); (try clear hb); (try clear hb2); (try clear hk); (try clear hi)))
   go_meet
   case rel => exact ⟨_, (true), q142t, H', ⟨by first | omega | exact Nat.le_refl _⟩, ⟨by (with_reducible repeat (first | apply Kd.R_alloc | apply Kd.R_drewN | apply Kd.R_drew)); exact HO162.out⟩, ⟨by (with_reducible repeat (first | apply Kd.R_alloc | apply Kd.R_drewN | apply Kd.R_drew)); exact HO165.out⟩, ⟨by (with_reducible repeat (first | apply Kd.R_alloc | apply Kd.R_drewN | apply Kd.R_drew)); exact HO168.out⟩, ⟨qbk BK157⟩, ⟨qbk BK158⟩, ⟨qbk BK159⟩, ⟨qbk BK169⟩, ⟨by repeat (first | (with_reducible first | exact HB.out | apply below_alloc | apply pw_below_drewN | apply below_drew1 | refine below_set ?_ GE157.out | refine below_set ?_ GE158.out | refine below_set ?_ GE159.out | refine below_set ?_ GE169.out) | exact HB.out)⟩⟩
  subst c23
  rw [if_pos rfl] at H
  replace H := Option.bind_eq_some_iff.mp H
  obtain ⟨t171, A240, H⟩ := H
  try dsimp only at H
  have A24 := Aside0.mk A240
  clear A240
  by_cases c25 : t171 = true
  ·subst c25
   rw [if_pos rfl] at H
   by_cases c26 : 0 ≤ a2
   rotate_left
   ·rw [if_neg c26] at H
    exact absurd H q145t
   rw [if_pos c26] at H
   have c26b0 : decide (0 ≤ a2) = true := decide_eq_true c26
   clear c26
   (first | rw [c26b0] | (simp only [i64_w, i32_w]; rw [c26b0]) | skip)
   by_cases c27 : a2 < (l1_1.length : Int)
   rotate_left
   ·rw [if_neg c27] at H
    exact absurd H q145t
   rw [if_pos c27] at H
   have c27b0 : decide (a2 < (l1_1.length : Int)) = true := decide_eq_true c27
   clear c27
   by_cases c28 : (rd l1_1 a2) = 2
   ·rw [if_pos c28] at H
    have c28b0 : ((rd l1_1 a2) == 2) = true := beq_iff_eq.mpr c28
    have c28b1 : ((rd l1_1 a2) != 2) = false := bne_eq_false_iff_eq.mpr c28
    clear c28
    replace H := Option.bind_eq_some_iff.mp H
    obtain ⟨t173, A290, H⟩ := H
    try dsimp only at H
    have A29 := Aside0.mk A290
    clear A290
    have H' := Aside0.mk H
    clear H
    have hnb30 := NB157_158.out
    have hnc30 := NB158_157.out
    have hnb31 := NB157_159.out
    have hnc31 := NB159_157.out
    have hnb32 := NB157_169.out
    have hnc32 := NB169_157.out
    obtain ⟨hcz33_0, hcz33_1, hcz33_2, hcz33_3, hcz33_4, hcz33_5⟩ := qc6 BK157.out
    obtain ⟨hfz33_0, hfz33_1, hfz33_2, hfz33_3, hfz33_4, hfz33_5⟩ := qf6 BK157.out
    have hnb34 := NB158_159.out
    have hnc34 := NB159_158.out
    have hnb35 := NB158_169.out
    have hnc35 := NB169_158.out
    obtain ⟨hcz36_0, hcz36_1, hcz36_2⟩ := qc3 BK158.out
    obtain ⟨hfz36_0, hfz36_1, hfz36_2⟩ := qf3 BK158.out
    go_wp2_with (first | ((with_reducible refine gate_callee (f := 15) rfl ?_); refine goesL_ (some 16) rfl rfl Try.func15 (by kernel_rfl) rfl #[.agg #[.int .i64 a0_0, .int .i64 a0_1, .int .i64 a0_2, .int .i64 a0_3, .int .i64 a0_4, .int .i64 a0_5], .agg #[.slice A1_0 l1_0.length c1_0, .slice A1_1 l1_1.length c1_1, .slice A1_2 l1_2.length c1_2]] rfl q97t ?_; (with_reducible refine (spec_PoolOk.calls k a0_0 a0_1 a0_2 a0_3 a0_4 a0_5 _ _ l1_0 _ _ l1_1 _ _ l1_2 true _ ?side1 ?side2 ?side3 ?side4 ?side5 ?side6 A22.out).mono ?_); (case side1 => exact Kd.C_below HR1_0.out q28t); (case side2 => exact HC1_0.out); (case side3 => exact Kd.C_below HR1_1.out q28t); (case side4 => exact HC1_1.out); (case side5 => exact Kd.C_below HR1_2.out q28t); (case side6 => exact HC1_2.out); rintro e w37 ⟨rfl, hb⟩; refine ⟨_, rfl, ?_⟩; replace HO162 := Aside0.mk (Kd.R_below q65t hb); replace HO165 := Aside0.mk (Kd.R_below q66t hb); replace HO168 := Aside0.mk (Kd.R_below q67t hb); replace BK157 := Aside0.mk (blk_below (g := gb157) (o := .cells #[.int .i64 a0_0, .int .i64 a0_1, .int .i64 a0_2, .int .i64 a0_3, .int .i64 a0_4, .int .i64 a0_5] 32 (0, 0)) q0t hb); replace BK158 := Aside0.mk (blk_below (g := gb158) (o := .cells #[.slice A1_0 l1_0.length c1_0, .slice A1_1 l1_1.length c1_1, .slice A1_2 l1_2.length c1_2] 29 (0, 0)) q1t hb); replace BK159 := Aside0.mk (blk_below (g := gb159) (o := .cells #[.slice none 0 0, .slice none 0 0, .slice none 0 0] 29 (0, 0)) q2t hb); replace BK169 := blp BK169 hb; replace HB := Aside0.mk (below_step q28t hb); (try clear hb); (try clear hb2); (try clear hk); (try clear hi); obtain ⟨hcz38_0, hcz38_1, hcz38_2, hcz38_3, hcz38_4, hcz38_5⟩ := qc6 BK157.out; obtain ⟨hfz38_0, hfz38_1, hfz38_2, hfz38_3, hfz38_4, hfz38_5⟩ := qf6 BK157.out) | (go_at_call 16; (with_reducible refine (spec_l1In.calls a2 0 (wrap64 (a0_0 - 1)) true _ A24.out).mono ?_); rintro e w' ⟨rfl, ⟨nd, rfl⟩⟩; obtain ⟨hcz39_0, hcz39_1, hcz39_2⟩ := qc3 BK158.out; obtain ⟨hfz39_0, hfz39_1, hfz39_2⟩ := qf3 BK158.out; have p172 : 0 ≤ (a2 : Int) := of_decide_eq_true q133t; have q172 : a2 < (l1_1.length : Int) := of_decide_eq_true q133t; obtain ⟨ad172, e172, hx172_0⟩ := Kd.at_int HR1_1.out a2 p172 q172; cases e172; replace hx172_0 := hbt HB hx172_0; replace p172 := eq_true p172; replace q172 := eq_true q172) | (go_at_call 16; (with_reducible refine (spec_l1In.calls a3 0 (wrap64 (a0_1 - 1)) t173 _ A29.out).mono ?_); rintro e w' ⟨rfl, ⟨nd, rfl⟩⟩))
    go_meet
    case rel => exact ⟨_, (!t173), q142t, H', ⟨by first | omega | exact Nat.le_refl _⟩, ⟨by (with_reducible repeat (first | apply Kd.R_alloc | apply Kd.R_drewN | apply Kd.R_drew)); exact HO162.out⟩, ⟨by (with_reducible repeat (first | apply Kd.R_alloc | apply Kd.R_drewN | apply Kd.R_drew)); exact HO165.out⟩, ⟨by (with_reducible repeat (first | apply Kd.R_alloc | apply Kd.R_drewN | apply Kd.R_drew)); exact HO168.out⟩, ⟨qbk BK157⟩, ⟨qbk BK158⟩, ⟨qbk BK159⟩, ⟨qbk BK169⟩, ⟨by repeat (first | (with_reducible first | exact HB.out | apply below_alloc | apply pw_below_drewN | apply below_drew1 | refine below_set ?_ GE157.out | refine below_set ?_ GE158.out | refine below_set ?_ GE159.out | refine below_set ?_ GE169.out) | exact HB.out)⟩⟩
   rw [if_neg c28] at H
   have c28b0 : ((rd l1_1 a2) == 2) = false := beq_eq_false_iff_ne.mpr c28
   have c28b1 : ((rd l1_1 a2) != 2) = true := bne_iff_ne.mpr c28
   have H' := Aside0.mk H
   clear H
   have hnb40 := NB157_158.out
   have hnc40 := NB158_157.out
   have hnb41 := NB157_159.out
   have hnc41 := NB159_157.out
   have hnb42 := NB157_169.out
   have hnc42 := NB169_157.out
   obtain ⟨hcz43_0, hcz43_1, hcz43_2, hcz43_3, hcz43_4, hcz43_5⟩ := qc6 BK157.out
   obtain ⟨hfz43_0, hfz43_1, hfz43_2, hfz43_3, hfz43_4, hfz43_5⟩ := qf6 BK157.out
   have hnb44 := NB158_159.out
   have hnc44 := NB159_158.out
   have hnb45 := NB158_169.out
   have hnc45 := NB169_158.out
   obtain ⟨hcz46_0, hcz46_1, hcz46_2⟩ := qc3 BK158.out
   obtain ⟨hfz46_0, hfz46_1, hfz46_2⟩ := qf3 BK158.out
   go_wp2_with (first | ((with_reducible refine gate_callee (f := 15) rfl ?_); refine goesL_ (some 16) rfl rfl Try.func15 (by kernel_rfl) rfl #[.agg #[.int .i64 a0_0, .int .i64 a0_1, .int .i64 a0_2, .int .i64 a0_3, .int .i64 a0_4, .int .i64 a0_5], .agg #[.slice A1_0 l1_0.length c1_0, .slice A1_1 l1_1.length c1_1, .slice A1_2 l1_2.length c1_2]] rfl q97t ?_; (with_reducible refine (spec_PoolOk.calls k a0_0 a0_1 a0_2 a0_3 a0_4 a0_5 _ _ l1_0 _ _ l1_1 _ _ l1_2 true _ ?side1 ?side2 ?side3 ?side4 ?side5 ?side6 A22.out).mono ?_); (case side1 => exact Kd.C_below HR1_0.out q28t); (case side2 => exact HC1_0.out); (case side3 => exact Kd.C_below HR1_1.out q28t); (case side4 => exact HC1_1.out); (case side5 => exact Kd.C_below HR1_2.out q28t); (case side6 => exact HC1_2.out); rintro e w47 ⟨rfl, hb⟩; refine ⟨_, rfl, ?_⟩; replace HO162 := Aside0.mk (Kd.R_below q65t hb); replace HO165 := Aside0.mk (Kd.R_below q66t hb); replace HO168 := Aside0.mk (Kd.R_below q67t hb); replace BK157 := Aside0.mk (blk_below (g := gb157) (o := .cells #[.int .i64 a0_0, .int .i64 a0_1, .int .i64 a0_2, .int .i64 a0_3, .int .i64 a0_4, .int .i64 a0_5] 32 (0, 0)) q0t hb); replace BK158 := Aside0.mk (blk_below (g := gb158) (o := .cells #[.slice A1_0 l1_0.length c1_0, .slice A1_1 l1_1.length c1_1, .slice A1_2 l1_2.length c1_2] 29 (0, 0)) q1t hb); replace BK159 := Aside0.mk (blk_below (g := gb159) (o := .cells #[.slice none 0 0, .slice none 0 0, .slice none 0 0] 29 (0, 0)) q2t hb); replace BK169 := blp BK169 hb; replace HB := Aside0.mk (below_step q28t hb); (try clear hb); (try clear hb2); (try clear hk); (try clear hi); obtain ⟨hcz48_0, hcz48_1, hcz48_2, hcz48_3, hcz48_4, hcz48_5⟩ := qc6 BK157.out; obtain ⟨hfz48_0, hfz48_1, hfz48_2, hfz48_3, hfz48_4, hfz48_5⟩ := qf6 BK157.out) | (go_at_call 16; (with_reducible refine (spec_l1In.calls a2 0 (wrap64 (a0_0 - 1)) true _ A24.out).mono ?_); rintro e w' ⟨rfl, ⟨nd, rfl⟩⟩; obtain ⟨hcz49_0, hcz49_1, hcz49_2⟩ := qc3 BK158.out; obtain ⟨hfz49_0, hfz49_1, hfz49_2⟩ := qf3 BK158.out; have p172 : 0 ≤ (a2 : Int) := of_decide_eq_true q133t; have q172 : a2 < (l1_1.length : Int) := of_decide_eq_true q133t; obtain ⟨ad172, e172, hx172_0⟩ := Kd.at_int HR1_1.out a2 p172 q172; cases e172; replace hx172_0 := hbt HB hx172_0; replace p172 := eq_true p172; replace q172 := eq_true q172))
   go_meet
   case rel => exact ⟨_, (true), q142t, H', ⟨by first | omega | exact Nat.le_refl _⟩, ⟨by (with_reducible repeat (first | apply Kd.R_alloc | apply Kd.R_drewN | apply Kd.R_drew)); exact HO162.out⟩, ⟨by (with_reducible repeat (first | apply Kd.R_alloc | apply Kd.R_drewN | apply Kd.R_drew)); exact HO165.out⟩, ⟨by (with_reducible repeat (first | apply Kd.R_alloc | apply Kd.R_drewN | apply Kd.R_drew)); exact HO168.out⟩, ⟨qbk BK157⟩, ⟨qbk BK158⟩, ⟨qbk BK159⟩, ⟨qbk BK169⟩, ⟨by repeat (first | (with_reducible first | exact HB.out | apply below_alloc | apply pw_below_drewN | apply below_drew1 | refine below_set ?_ GE157.out | refine below_set ?_ GE158.out | refine below_set ?_ GE159.out | refine below_set ?_ GE169.out) | exact HB.out)⟩⟩
  replace c25 := Bool.eq_false_iff.mpr c25
  subst c25
  rw [if_neg (show ¬ (false = true) by decide)] at H
  have H' := Aside0.mk H
  clear H
  have hnb50 := NB157_158.out
  have hnc50 := NB158_157.out
  have hnb51 := NB157_159.out
  have hnc51 := NB159_157.out
  have hnb52 := NB157_169.out
  have hnc52 := NB169_157.out
  obtain ⟨hcz53_0, hcz53_1, hcz53_2, hcz53_3, hcz53_4, hcz53_5⟩ := qc6 BK157.out
  obtain ⟨hfz53_0, hfz53_1, hfz53_2, hfz53_3, hfz53_4, hfz53_5⟩ := qf6 BK157.out
  have hnb54 := NB158_159.out
  have hnc54 := NB159_158.out
  have hnb55 := NB158_169.out
  have hnc55 := NB169_158.out
  obtain ⟨hcz56_0, hcz56_1, hcz56_2⟩ := qc3 BK158.out
  obtain ⟨hfz56_0, hfz56_1, hfz56_2⟩ := qf3 BK158.out
  go_wp2_with (first | ((with_reducible refine gate_callee (f := 15) rfl ?_); refine goesL_ (some 16) rfl rfl Try.func15 (by kernel_rfl) rfl #[.agg #[.int .i64 a0_0, .int .i64 a0_1, .int .i64 a0_2, .int .i64 a0_3, .int .i64 a0_4, .int .i64 a0_5], .agg #[.slice A1_0 l1_0.length c1_0, .slice A1_1 l1_1.length c1_1, .slice A1_2 l1_2.length c1_2]] rfl q97t ?_; (with_reducible refine (spec_PoolOk.calls k a0_0 a0_1 a0_2 a0_3 a0_4 a0_5 _ _ l1_0 _ _ l1_1 _ _ l1_2 true _ ?side1 ?side2 ?side3 ?side4 ?side5 ?side6 A22.out).mono ?_); (case side1 => exact Kd.C_below HR1_0.out q28t); (case side2 => exact HC1_0.out); (case side3 => exact Kd.C_below HR1_1.out q28t); (case side4 => exact HC1_1.out); (case side5 => exact Kd.C_below HR1_2.out q28t); (case side6 => exact HC1_2.out); rintro e w57 ⟨rfl, hb⟩; refine ⟨_, rfl, ?_⟩; replace HO162 := Aside0.mk (Kd.R_below q65t hb); replace HO165 := Aside0.mk (Kd.R_below q66t hb); replace HO168 := Aside0.mk (Kd.R_below q67t hb); replace BK157 := Aside0.mk (blk_below (g := gb157) (o := .cells #[.int .i64 a0_0, .int .i64 a0_1, .int .i64 a0_2, .int .i64 a0_3, .int .i64 a0_4, .int .i64 a0_5] 32 (0, 0)) q0t hb); replace BK158 := Aside0.mk (blk_below (g := gb158) (o := .cells #[.slice A1_0 l1_0.length c1_0, .slice A1_1 l1_1.length c1_1, .slice A1_2 l1_2.length c1_2] 29 (0, 0)) q1t hb); replace BK159 := Aside0.mk (blk_below (g := gb159) (o := .cells #[.slice none 0 0, .slice none 0 0, .slice none 0 0] 29 (0, 0)) q2t hb); replace BK169 := blp BK169 hb; replace HB := Aside0.mk (below_step q28t hb); (try clear hb); (try clear hb2); (try clear hk); (try clear hi); obtain ⟨hcz58_0, hcz58_1, hcz58_2, hcz58_3, hcz58_4, hcz58_5⟩ := qc6 BK157.out; obtain ⟨hfz58_0, hfz58_1, hfz58_2, hfz58_3, hfz58_4, hfz58_5⟩ := qf6 BK157.out) | (go_at_call 16; (with_reducible refine (spec_l1In.calls a2 0 (wrap64 (a0_0 - 1)) false _ A24.out).mono ?_); rintro e w' ⟨rfl, ⟨nd, rfl⟩⟩))
  go_meet
  case rel => exact ⟨_, (true), q142t, H', ⟨by first | omega | exact Nat.le_refl _⟩, ⟨by (with_reducible repeat (first | apply Kd.R_alloc | apply Kd.R_drewN | apply Kd.R_drew)); exact HO162.out⟩, ⟨by (with_reducible repeat (first | apply Kd.R_alloc | apply Kd.R_drewN | apply Kd.R_drew)); exact HO165.out⟩, ⟨by (with_reducible repeat (first | apply Kd.R_alloc | apply Kd.R_drewN | apply Kd.R_drew)); exact HO168.out⟩, ⟨qbk BK157⟩, ⟨qbk BK158⟩, ⟨qbk BK159⟩, ⟨qbk BK169⟩, ⟨by repeat (first | (with_reducible first | exact HB.out | apply below_alloc | apply pw_below_drewN | apply below_drew1 | refine below_set ?_ GE157.out | refine below_set ?_ GE158.out | refine below_set ?_ GE159.out | refine below_set ?_ GE169.out) | exact HB.out)⟩⟩
 case rest =>
  clear HC6
  try clear c1
  try clear p1
  try clear q1
  try clear hx1
  try clear c2
  try clear p2
  try clear c3
  try clear c4
  try clear c5
  try clear c6
  try clear p6
  try clear c10
  try clear c11
  try clear c14
  try clear c15
  try clear c16
  try clear c17
  try clear p17
  try clear q17
  try clear hx17
  try clear c18
  try clear c23
  try clear c25
  try clear c26
  try clear c26b0
  try clear c27
  try clear c27b0
  try clear c28
  try clear c28b0
  try clear c28b1
  try clear c30
  try clear c31
  try clear c32
  try clear c34
  try clear c35
  try clear c40
  try clear c41
  try clear c42
  try clear c44
  try clear c45
  try clear c50
  try clear c51
  try clear c52
  try clear c54
  try clear c55
  try clear c59
  try clear c60
  try clear c61
  try clear c63
  try clear c64
  try clear p64
  try clear hcz12_0 hcz12_1 hcz12_2
  try clear hcz19_0 hcz19_1 hcz19_2
  try clear hcz33_0 hcz33_1 hcz33_2 hcz33_3 hcz33_4 hcz33_5
  try clear hcz36_0 hcz36_1 hcz36_2
  try clear hcz38_0 hcz38_1 hcz38_2 hcz38_3 hcz38_4 hcz38_5
  try clear hcz39_0 hcz39_1 hcz39_2
  try clear hcz43_0 hcz43_1 hcz43_2 hcz43_3 hcz43_4 hcz43_5
  try clear hcz46_0 hcz46_1 hcz46_2
  try clear hcz48_0 hcz48_1 hcz48_2 hcz48_3 hcz48_4 hcz48_5
  try clear hcz49_0 hcz49_1 hcz49_2
  try clear hcz53_0 hcz53_1 hcz53_2 hcz53_3 hcz53_4 hcz53_5
  try clear hcz56_0 hcz56_1 hcz56_2
  try clear hcz58_0 hcz58_1 hcz58_2 hcz58_3 hcz58_4 hcz58_5
  try clear hcz62_0 hcz62_1 hcz62_2 hcz62_3 hcz62_4 hcz62_5
  try clear hcz65_0 hcz65_1 hcz65_2
  try clear hfz12_0 hfz12_1 hfz12_2
  try clear hfz19_0 hfz19_1 hfz19_2
  try clear hfz33_0 hfz33_1 hfz33_2 hfz33_3 hfz33_4 hfz33_5
  try clear hfz36_0 hfz36_1 hfz36_2
  try clear hfz38_0 hfz38_1 hfz38_2 hfz38_3 hfz38_4 hfz38_5
  try clear hfz39_0 hfz39_1 hfz39_2
  try clear hfz43_0 hfz43_1 hfz43_2 hfz43_3 hfz43_4 hfz43_5
  try clear hfz46_0 hfz46_1 hfz46_2
  try clear hfz48_0 hfz48_1 hfz48_2 hfz48_3 hfz48_4 hfz48_5
  try clear hfz49_0 hfz49_1 hfz49_2
  try clear hfz53_0 hfz53_1 hfz53_2 hfz53_3 hfz53_4 hfz53_5
  try clear hfz56_0 hfz56_1 hfz56_2
  try clear hfz58_0 hfz58_1 hfz58_2 hfz58_3 hfz58_4 hfz58_5
  try clear hfz62_0 hfz62_1 hfz62_2 hfz62_3 hfz62_4 hfz62_5
  try clear hfz65_0 hfz65_1 hfz65_2
  try clear hx172_0
  try clear p172
  try clear q172
  obtain ⟨kq, x41_5, rfl, HA, HJ5, HO_170000, HO_170001, HO_170002, BK157, BK158, BK159, BK169, HB⟩ := hcut
  cases kq with
  | zero => exact absurd HA.out (by simp [spec_WipeSome.j0])
  | succ kj5 =>
   have H := HA.out
   clear HA
   simp only [spec_WipeSome.j0] at H
   by_cases c67 : x41_5 = true
   ·subst c67
    rw [if_pos rfl] at H
    simp only [Option.some.injEq, Prod.mk.injEq] at H
    obtain ⟨rfl, rfl, rfl, rfl⟩ := H
    have hnb68 := NB169_157.out
    have hnc68 := NB157_169.out
    have hnb69 := NB169_158.out
    have hnc69 := NB158_169.out
    have hnb70 := NB169_159.out
    have hnc70 := NB159_169.out
    obtain ⟨hcz71_0, hcz71_1, hcz71_2⟩ := qc3 BK169.out
    obtain ⟨hfz71_0, hfz71_1, hfz71_2⟩ := qf3 BK169.out
    have hnb72 := NB159_157.out
    have hnc72 := NB157_159.out
    have hnb73 := NB159_158.out
    have hnc73 := NB158_159.out
    obtain ⟨hcz74_0, hcz74_1, hcz74_2⟩ := qc3 BK159.out
    obtain ⟨hfz74_0, hfz74_1, hfz74_2⟩ := qf3 BK159.out
    go_wp2
    refine bodyPost_ret (results_ct rfl _ _ gb159 29 #[.slice Ao15 t160.length co15, .slice Ao20 t163.length co20, .slice Ao21 t166.length co21] (0, 0) _ rfl (qbp BK159) Try.underlying29 rfl (by kernel_rfl)) rfl ?_
    exact ⟨_, _, _, by first | rfl | (simp [errW_none, errW_some] <;> rfl) | (simp [*, errW_none, errW_some] <;> rfl), by (with_reducible repeat (first | apply Kd.R_alloc | apply Kd.R_drewN | apply Kd.R_drew)); exact Kd.R_mono (rkf (rkf (rkf (Kd.R_types HO_170000.out BK159.out q144t)))) (fun _ hk => trivial), by (with_reducible repeat (first | apply Kd.R_alloc | apply Kd.R_drewN | apply Kd.R_drew)); exact Kd.R_mono (rkf (rkf (rkf (Kd.R_types HO_170001.out BK159.out q144t)))) (fun _ hk => hk.1), by (with_reducible repeat (first | apply Kd.R_alloc | apply Kd.R_drewN | apply Kd.R_drew)); exact Kd.R_mono (rkf (rkf (rkf (Kd.R_types HO_170002.out BK159.out q144t)))) (fun _ hk => hk.1), by repeat (first | (with_reducible first | exact HB.out | apply below_alloc | apply pw_below_drewN | apply below_drew1 | refine below_set ?_ GE157.out | refine below_set ?_ GE158.out | refine below_set ?_ GE159.out | refine below_set ?_ GE169.out) | exact HB.out)⟩
   replace c67 := Bool.eq_false_iff.mpr c67
   subst c67
   rw [if_neg (show ¬ (false = true) by decide)] at H
   replace H := Option.bind_eq_some_iff.mp H
   obtain ⟨t174, A750, H⟩ := H
   try dsimp only at H
   have A75 := Aside0.mk A750
   clear A750
   replace H := Option.bind_eq_some_iff.mp H
   obtain ⟨t175, A760, H⟩ := H
   try dsimp only at H
   have A76 := Aside0.mk A760
   clear A760
   by_cases c77 : t174 < a0_1
   ·rw [if_pos c77] at H
    have c77b0 : decide (t174 < a0_1) = true := decide_eq_true c77
    clear c77
    simp only [Option.some.injEq, Prod.mk.injEq] at H
    obtain ⟨rfl, rfl, rfl, rfl⟩ := H
    have hnb78 := NB157_158.out
    have hnc78 := NB158_157.out
    have hnb79 := NB157_159.out
    have hnc79 := NB159_157.out
    have hnb80 := NB157_169.out
    have hnc80 := NB169_157.out
    obtain ⟨hcz81_0, hcz81_1, hcz81_2, hcz81_3, hcz81_4, hcz81_5⟩ := qc6 BK157.out
    obtain ⟨hfz81_0, hfz81_1, hfz81_2, hfz81_3, hfz81_4, hfz81_5⟩ := qf6 BK157.out
    go_wp2_with (first | ((with_reducible refine gate_callee (f := 17) rfl ?_); refine goesL_ (some 49) rfl rfl Try.func17 (by kernel_rfl) rfl #[.int .i64 (wrap64 (a3 + a0_4)), .int .i64 a0_1] rfl q97t ?_; (with_reducible refine (spec_Least.calls (wrap64 (a3 + a0_4)) a0_1 t174 _ A75.out).mono ?_); rintro e w' ⟨rfl, ⟨nd, rfl⟩⟩; refine ⟨_, rfl, ?_⟩; (try (rw [drewN_self wc]; generalize hq_ : World.drewN wc _ = wc; have n0_ : Aside0 (Kd.R (Kd.int .u8) 5 wc w.heap.size (fun _ => True) (.slice Ao15 t160.length co15) t160) := ⟨by rw [← hq_]; exact q104t⟩; have n1_ : Aside0 (Kd.R (Kd.int .i64) 3 wc w.heap.size (fun k_ => some k_ ≠ (.slice Ao21 t166.length co21 : Value).ownBlock) (.slice Ao20 t163.length co20) t163) := ⟨by rw [← hq_]; exact q105t⟩; have n2_ : Aside0 (Kd.R (Kd.int .i64) 3 wc w.heap.size (fun k_ => some k_ ≠ (.slice Ao20 t163.length co20 : Value).ownBlock) (.slice Ao21 t166.length co21) t166) := ⟨by rw [← hq_]; exact q106t⟩; have n3_ : Aside0 (wc.heap[gb157]? = some (.cells #[.int .i64 a0_0, .int .i64 a0_1, .int .i64 a0_2, .int .i64 a0_3, .int .i64 a0_4, .int .i64 a0_5] 32 (0, 0))) := ⟨by rw [← hq_]; exact (qbk BK157)⟩; have n4_ : Aside0 (wc.heap[gb158]? = some (.cells #[.slice A1_0 l1_0.length c1_0, .slice A1_1 l1_1.length c1_1, .slice A1_2 l1_2.length c1_2] 29 (0, 0))) := ⟨by rw [← hq_]; exact (qbk BK158)⟩; have n5_ : Aside0 (wc.heap[gb159]? = some (.cells #[.slice none 0 0, .slice none 0 0, .slice none 0 0] 29 (0, 0))) := ⟨by rw [← hq_]; exact (qbk BK159)⟩; have n6_ : Aside0 (wc.heap[gb169]? = some (.cells #[.slice Ao15 t160.length co15, .slice Ao20 t163.length co20, .slice Ao21 t166.length co21] 29 (0, 0))) := ⟨by rw [← hq_]; exact (qbk BK169)⟩; have n7_ : Aside0 (Below w.heap.size w wc) := ⟨by rw [← hq_]; exact q28t⟩; clear HO_170000 HO_170001 HO_170002 BK157 BK158 BK159 BK169 HB hq_; have HO_170000 := n0_; have HO_170001 := n1_; have HO_170002 := n2_; have BK157 := n3_; have BK158 := n4_; have BK159 := n5_; have BK169 := n6_; have HB := n7_; clear n0_ n1_ n2_ n3_ n4_ n5_ n6_ n7_; have hczr157_0 := blk_cell BK157.out 0; have hczr157_1 := blk_cell BK157.out 1; have hczr157_2 := blk_cell BK157.out 2; have hczr157_3 := blk_cell BK157.out 3; have hczr157_4 := blk_cell BK157.out 4; have hczr157_5 := blk_cell BK157.out 5; have hczr158_0 := blk_cell BK158.out 0; have hczr158_1 := blk_cell BK158.out 1; have hczr158_2 := blk_cell BK158.out 2; have hczr159_0 := blk_cell BK159.out 0; have hczr159_1 := blk_cell BK159.out 1; have hczr159_2 := blk_cell BK159.out 2; have hczr169_0 := blk_cell BK169.out 0; have hczr169_1 := blk_cell BK169.out 1; have hczr169_2 := blk_cell BK169.out 2)); have hnb82 := NB158_159.out; have hnc82 := NB159_158.out; have hnb83 := NB158_169.out; have hnc83 := NB169_158.out; obtain ⟨hcz84_0, hcz84_1, hcz84_2⟩ := qc3 BK158.out; obtain ⟨hfz84_0, hfz84_1, hfz84_2⟩ := qf3 BK158.out) | ((with_reducible refine gate_callee (f := 18) rfl ?_); refine goesL_ (some 61) rfl rfl Try.func18 (by kernel_rfl) rfl #[.slice A1_0 l1_0.length c1_0, .int .i64 (wrap64 ((wrap64 (a2 * a0_1)) + a3)), .int .i64 (wrap64 (t174 - a3))] rfl q97t ?_; (with_reducible refine (spec_Wipe.calls kj5 _ _ l1_0 (wrap64 ((wrap64 (a2 * a0_1)) + a3)) (wrap64 (t174 - a3)) t175 _ ?side1 ?side2 A76.out).mono ?_); (case side1 => repeat (first | exact (Kd.C_below HR1_0.out HB.out) | (with_reducible refine Kd.C_alloc ?_ _) | (with_reducible refine Kd.C_drewN ?_ _) | (with_reducible refine Kd.C_drew ?_))); (case side2 => exact HC1_0.out); rintro e w85 ⟨v176, rfl, ho0, hb⟩; refine ⟨_, rfl, ?_⟩; replace HO_170001 := Aside0.mk (Kd.R_below q105t hb); replace HO_170002 := Aside0.mk (Kd.R_below q106t hb); have HO177 := Aside0.mk (Kd.R_lower (Kd.R_new' ho0 (Kd.R_lt q104t)) (below_size q28t)); replace HO_170000 := Aside0.mk (Kd.R_elder' q104t (Kd.R_base ho0) hb); replace BK157 := blb BK157 hb; replace BK158 := blb BK158 hb; replace BK159 := blb BK159 hb; replace BK169 := blb BK169 hb; replace HB := Aside0.mk (below_step q28t hb); (try clear hb); (try clear hb2); (try clear hk); (try clear hi); (try clear ho0); obtain ⟨Ao86, co86, eo86⟩ := Kd.R_slice HO177.out; subst eo86; have hnb87 := NB169_159.out; have hnc87 := NB159_169.out; obtain ⟨hcz88_0, hcz88_1, hcz88_2⟩ := qc3 BK169.out; obtain ⟨hfz88_0, hfz88_1, hfz88_2⟩ := qf3 BK169.out; obtain ⟨hcz89_0, hcz89_1, hcz89_2, hcz89_3, hcz89_4, hcz89_5⟩ := qc6 BK157.out; obtain ⟨hfz89_0, hfz89_1, hfz89_2, hfz89_3, hfz89_4, hfz89_5⟩ := qf6 BK157.out; obtain ⟨hcz90_0, hcz90_1, hcz90_2⟩ := qc3 BK159.out; obtain ⟨hfz90_0, hfz90_1, hfz90_2⟩ := qf3 BK159.out))
    refine bodyPost_ret (results_ct rfl _ _ gb159 29 #[.slice Ao86 t175.length co86, .slice Ao20 t163.length co20, .slice Ao21 t166.length co21] (0, 0) _ rfl (by (with_reducible repeat (first | refine blk_drewN ?_ _ | refine blk_drew ?_ | refine blk_alloc ?_ _)); refine blk_put (cs := #[.slice Ao86 t175.length co86, .slice Ao20 t163.length co20, .slice none 0 0]) ?_ 2 _ rfl; (with_reducible repeat (first | refine blk_drewN ?_ _ | refine blk_drew ?_ | refine blk_alloc ?_ _)); refine blk_put (cs := #[.slice Ao86 t175.length co86, .slice none 0 0, .slice none 0 0]) ?_ 1 _ rfl; (with_reducible repeat (first | refine blk_drewN ?_ _ | refine blk_drew ?_ | refine blk_alloc ?_ _)); refine blk_put (cs := #[.slice none 0 0, .slice none 0 0, .slice none 0 0]) ?_ 0 _ rfl; (with_reducible repeat (first | refine blk_drewN ?_ _ | refine blk_drew ?_ | refine blk_alloc ?_ _)); refine blk_far ?_ NB159_169.out _; (with_reducible repeat (first | refine blk_drewN ?_ _ | refine blk_drew ?_ | refine blk_alloc ?_ _)); exact BK159.out) Try.underlying29 rfl (by kernel_rfl)) rfl ?_
    exact ⟨_, _, _, by first | rfl | (simp [errW_none, errW_some] <;> rfl) | (simp [*, errW_none, errW_some] <;> rfl), by (with_reducible repeat (first | apply Kd.R_alloc | apply Kd.R_drewN | apply Kd.R_drew)); exact Kd.R_mono (rkf (rkf (rkf (Kd.R_far (Kd.R_types (Kd.R_types HO177.out BK169.out q144t) BK159.out q144t) (fun _ hk => hk.1.2) _)))) (fun _ hk => trivial), by (with_reducible repeat (first | apply Kd.R_alloc | apply Kd.R_drewN | apply Kd.R_drew)); exact Kd.R_mono (rkf (rkf (rkf (Kd.R_far (Kd.R_types (Kd.R_types HO_170001.out BK169.out q144t) BK159.out q144t) (fun _ hk => hk.1.2) _)))) (fun _ hk => hk.1.1), by (with_reducible repeat (first | apply Kd.R_alloc | apply Kd.R_drewN | apply Kd.R_drew)); exact Kd.R_mono (rkf (rkf (rkf (Kd.R_far (Kd.R_types (Kd.R_types HO_170002.out BK169.out q144t) BK159.out q144t) (fun _ hk => hk.1.2) _)))) (fun _ hk => hk.1.1), by repeat (first | (with_reducible first | exact HB.out | apply below_alloc | apply pw_below_drewN | apply below_drew1 | refine below_set ?_ GE157.out | refine below_set ?_ GE158.out | refine below_set ?_ GE159.out | refine below_set ?_ GE169.out) | exact HB.out)⟩
   rw [if_neg c77] at H
   have c77b0 : decide (t174 < a0_1) = false := decide_eq_false c77
   clear c77
   obtain ⟨ji91, hji91⟩ : ∃ j_ : Int, (wrap64 (a2 * a0_1)) = j_ := ⟨_, rfl⟩
   replace H : (if 0 ≤ (ji91) then (if (ji91) ≤ (wrap64 ((wrap64 (a2 + 1)) * a0_1)) then (if (wrap64 ((wrap64 (a2 + 1)) * a0_1)) ≤ (t175.length : Int) then ((spec_IsZero.f kj5 ((t175.take ((wrap64 ((wrap64 (a2 + 1)) * a0_1)) : Int).toNat).drop ((ji91) : Int).toNat)).bind fun t182 => (if t182 = true then (if 0 ≤ a2 then (if a2 < (t163.length : Int) then (some (t175, (t163.set (a2 : Int).toNat 0), t166, true)) else (none)) else (none)) else ((spec_l4Copy.f l1_0 l1_1 l1_2).bind fun bt184 => (some (bt184.1, bt184.2.1, bt184.2.2, false))))) else (none)) else (none)) else (none)) = some (r1, r2, r3, r4) := by first | (rw [hji91] at H; exact H) | (simp only [hji91] at H ⊢; exact H)
   (try rw [hji91] at A75)
   (try rw [hji91] at A76)
   have hji91w : (IntKind.i64.wrap (a2 * a0_1)) = ji91 := (i64_w _).trans hji91
   by_cases c92 : 0 ≤ (ji91)
   rotate_left
   ·rw [if_neg c92] at H
    exact absurd H q145t
   rw [if_pos c92] at H
   have c92b0 := eq_true c92
   have c92b1 : decide (0 ≤ (ji91)) = true := decide_eq_true c92
   clear c92
   by_cases c93 : (ji91) ≤ (wrap64 ((wrap64 (a2 + 1)) * a0_1))
   rotate_left
   ·rw [if_neg c93] at H
    exact absurd H q145t
   rw [if_pos c93] at H
   have c93b0 := eq_true c93
   have c93b1 : decide ((ji91) ≤ (wrap64 ((wrap64 (a2 + 1)) * a0_1))) = true := decide_eq_true c93
   by_cases c94 : (wrap64 ((wrap64 (a2 + 1)) * a0_1)) ≤ (t175.length : Int)
   rotate_left
   ·rw [if_neg c94] at H
    exact absurd H q145t
   rw [if_pos c94] at H
   have c94b0 := eq_true c94
   have c94b1 : decide ((wrap64 ((wrap64 (a2 + 1)) * a0_1)) ≤ (t175.length : Int)) = true := decide_eq_true c94
   obtain ⟨y178, hy178⟩ : ∃ y_ : List Int, y_ = ((t175.take ((wrap64 ((wrap64 (a2 + 1)) * a0_1)) : Int).toNat).drop ((ji91) : Int).toNat) := ⟨_, rfl⟩
   replace H : ((spec_IsZero.f kj5 y178).bind fun t182 => (if t182 = true then (if 0 ≤ a2 then (if a2 < (t163.length : Int) then (some (t175, (t163.set (a2 : Int).toNat 0), t166, true)) else (none)) else (none)) else ((spec_l4Copy.f l1_0 l1_1 l1_2).bind fun bt184 => (some (bt184.1, bt184.2.1, bt184.2.2, false))))) = some (r1, r2, r3, r4) := by first | (rw [hy178]; with_reducible exact H) | (have H2_ := (Option.bind_some _ _).symm.trans H; rw [hy178]; with_reducible exact H2_) | (have H2_ := (Option.bind_some _ _).symm.trans H; with_reducible exact H2_) | with_reducible exact H | (rw [hy178]; exact H) | exact H
   have Ny178 := Aside0.mk hy178
   clear hy178
   replace H := Option.bind_eq_some_iff.mp H
   obtain ⟨t182, A950, H⟩ := H
   try dsimp only at H
   have A95 := Aside0.mk A950
   clear A950
   by_cases c96 : t182 = true
   ·subst c96
    rw [if_pos rfl] at H
    by_cases c97 : 0 ≤ a2
    rotate_left
    ·rw [if_neg c97] at H
     exact absurd H q145t
    rw [if_pos c97] at H
    have c97b0 : decide (0 ≤ a2) = true := decide_eq_true c97
    clear c97
    by_cases c98 : a2 < (t163.length : Int)
    rotate_left
    ·rw [if_neg c98] at H
     exact absurd H q145t
    rw [if_pos c98] at H
    have c98b0 : decide (a2 < (t163.length : Int)) = true := decide_eq_true c98
    clear c98
    obtain ⟨y183, hy183⟩ : ∃ y_ : List Int, y_ = (t163.set (a2 : Int).toNat 0) := ⟨_, rfl⟩
    replace H : (some (t175, y183, t166, true)) = some (r1, r2, r3, r4) := by first | (rw [hy183]; with_reducible exact H) | (have H2_ := (Option.bind_some _ _).symm.trans H; rw [hy183]; with_reducible exact H2_) | (have H2_ := (Option.bind_some _ _).symm.trans H; with_reducible exact H2_) | with_reducible exact H | (rw [hy183]; exact H) | exact H
    have Ny183 := Aside0.mk hy183
    clear hy183
    simp only [Option.some.injEq, Prod.mk.injEq] at H
    obtain ⟨rfl, rfl, rfl, rfl⟩ := H
    have hnb100 := NB157_158.out
    have hnc100 := NB158_157.out
    have hnb101 := NB157_159.out
    have hnc101 := NB159_157.out
    have hnb102 := NB157_169.out
    have hnc102 := NB169_157.out
    obtain ⟨hcz103_0, hcz103_1, hcz103_2, hcz103_3, hcz103_4, hcz103_5⟩ := qc6 BK157.out
    obtain ⟨hfz103_0, hfz103_1, hfz103_2, hfz103_3, hfz103_4, hfz103_5⟩ := qf6 BK157.out
    go_wp2_with (first | ((with_reducible refine gate_callee (f := 17) rfl ?_); refine goesL_ (some 49) rfl rfl Try.func17 (by kernel_rfl) rfl #[.int .i64 (wrap64 (a3 + a0_4)), .int .i64 a0_1] rfl q97t ?_; (with_reducible refine (spec_Least.calls (wrap64 (a3 + a0_4)) a0_1 t174 _ A75.out).mono ?_); rintro e w' ⟨rfl, ⟨nd, rfl⟩⟩; refine ⟨_, rfl, ?_⟩; (try (rw [drewN_self wc]; generalize hq_ : World.drewN wc _ = wc; have n0_ : Aside0 (Kd.R (Kd.int .u8) 5 wc w.heap.size (fun _ => True) (.slice Ao15 t160.length co15) t160) := ⟨by rw [← hq_]; exact q104t⟩; have n1_ : Aside0 (Kd.R (Kd.int .i64) 3 wc w.heap.size (fun k_ => some k_ ≠ (.slice Ao21 t166.length co21 : Value).ownBlock) (.slice Ao20 t163.length co20) t163) := ⟨by rw [← hq_]; exact q105t⟩; have n2_ : Aside0 (Kd.R (Kd.int .i64) 3 wc w.heap.size (fun k_ => some k_ ≠ (.slice Ao20 t163.length co20 : Value).ownBlock) (.slice Ao21 t166.length co21) t166) := ⟨by rw [← hq_]; exact q106t⟩; have n3_ : Aside0 (wc.heap[gb157]? = some (.cells #[.int .i64 a0_0, .int .i64 a0_1, .int .i64 a0_2, .int .i64 a0_3, .int .i64 a0_4, .int .i64 a0_5] 32 (0, 0))) := ⟨by rw [← hq_]; exact (qbk BK157)⟩; have n4_ : Aside0 (wc.heap[gb158]? = some (.cells #[.slice A1_0 l1_0.length c1_0, .slice A1_1 l1_1.length c1_1, .slice A1_2 l1_2.length c1_2] 29 (0, 0))) := ⟨by rw [← hq_]; exact (qbk BK158)⟩; have n5_ : Aside0 (wc.heap[gb159]? = some (.cells #[.slice none 0 0, .slice none 0 0, .slice none 0 0] 29 (0, 0))) := ⟨by rw [← hq_]; exact (qbk BK159)⟩; have n6_ : Aside0 (wc.heap[gb169]? = some (.cells #[.slice Ao15 t160.length co15, .slice Ao20 t163.length co20, .slice Ao21 t166.length co21] 29 (0, 0))) := ⟨by rw [← hq_]; exact (qbk BK169)⟩; have n7_ : Aside0 (Below w.heap.size w wc) := ⟨by rw [← hq_]; exact q28t⟩; clear HO_170000 HO_170001 HO_170002 BK157 BK158 BK159 BK169 HB hq_; have HO_170000 := n0_; have HO_170001 := n1_; have HO_170002 := n2_; have BK157 := n3_; have BK158 := n4_; have BK159 := n5_; have BK169 := n6_; have HB := n7_; clear n0_ n1_ n2_ n3_ n4_ n5_ n6_ n7_; have hczr157_0 := blk_cell BK157.out 0; have hczr157_1 := blk_cell BK157.out 1; have hczr157_2 := blk_cell BK157.out 2; have hczr157_3 := blk_cell BK157.out 3; have hczr157_4 := blk_cell BK157.out 4; have hczr157_5 := blk_cell BK157.out 5; have hczr158_0 := blk_cell BK158.out 0; have hczr158_1 := blk_cell BK158.out 1; have hczr158_2 := blk_cell BK158.out 2; have hczr159_0 := blk_cell BK159.out 0; have hczr159_1 := blk_cell BK159.out 1; have hczr159_2 := blk_cell BK159.out 2; have hczr169_0 := blk_cell BK169.out 0; have hczr169_1 := blk_cell BK169.out 1; have hczr169_2 := blk_cell BK169.out 2)); have hnb104 := NB158_159.out; have hnc104 := NB159_158.out; have hnb105 := NB158_169.out; have hnc105 := NB169_158.out; obtain ⟨hcz106_0, hcz106_1, hcz106_2⟩ := qc3 BK158.out; obtain ⟨hfz106_0, hfz106_1, hfz106_2⟩ := qf3 BK158.out) | ((with_reducible refine gate_callee (f := 18) rfl ?_); refine goesL_ (some 61) rfl rfl Try.func18 (by kernel_rfl) rfl #[.slice A1_0 l1_0.length c1_0, .int .i64 (wrap64 ((ji91) + a3)), .int .i64 (wrap64 (t174 - a3))] rfl (by (try simp only [List.map_toArray, List.map_cons, List.map_nil]); first | done | (simp only [hji91]; rfl) | rfl | (simp only [List.length_drop, List.length_take]; rfl)) ?_; (with_reducible refine (spec_Wipe.calls kj5 _ _ l1_0 (wrap64 ((ji91) + a3)) (wrap64 (t174 - a3)) t175 _ ?side1 ?side2 A76.out).mono ?_); (case side1 => repeat (first | exact (Kd.C_below HR1_0.out HB.out) | (with_reducible refine Kd.C_alloc ?_ _) | (with_reducible refine Kd.C_drewN ?_ _) | (with_reducible refine Kd.C_drew ?_))); (case side2 => exact HC1_0.out); rintro e w107 ⟨v176, rfl, ho0, hb⟩; refine ⟨_, rfl, ?_⟩; replace HO_170001 := Aside0.mk (Kd.R_below q105t hb); replace HO_170002 := Aside0.mk (Kd.R_below q106t hb); have HO177 := Aside0.mk (Kd.R_lower (Kd.R_new' ho0 (Kd.R_lt q104t)) (below_size q28t)); replace HO_170000 := Aside0.mk (Kd.R_elder' q104t (Kd.R_base ho0) hb); replace BK157 := blb BK157 hb; replace BK158 := blb BK158 hb; replace BK159 := blb BK159 hb; replace BK169 := blb BK169 hb; replace HB := Aside0.mk (below_step q28t hb); (try clear hb); (try clear hb2); (try clear hk); (try clear hi); (try clear ho0); obtain ⟨Ao108, co108, eo108⟩ := Kd.R_slice HO177.out; subst eo108; have hnb109 := NB169_159.out; have hnc109 := NB159_169.out; obtain ⟨hcz110_0, hcz110_1, hcz110_2⟩ := qc3 BK169.out; obtain ⟨hfz110_0, hfz110_1, hfz110_2⟩ := qf3 BK169.out) | ((with_reducible refine gate_store (t := 24) (p := 62) rfl ?_); refine store_event (t := 24) (p := 62) (v := ?vo_w111) (w1 := (w107.setCell ⟨gb169, 0, none⟩ (.slice Ao108 t175.length co108))) ?hg ?ho ?hn ?hr ?_; (case ho => rfl); (case hg => rfl); (case hn => rfl); (case hr => first | (go_simp; done) | (go_simp; rfl)); intro w111 hw; have n0_ : Aside0 (Kd.R (Kd.int .u8) 5 w111 w.heap.size (fun k_ => some k_ ≠ (.slice Ao108 t175.length co108 : Value).ownBlock) (.slice Ao15 t160.length co15) t160) := ⟨(by rw [hw]; exact (by (with_reducible repeat (first | apply Kd.R_alloc | apply Kd.R_drewN | apply Kd.R_drew)); exact Kd.R_mono (rkf (Kd.R_types HO_170000.out BK169.out q144t)) (fun _ hk => hk.1.2)))⟩; have n1_ : Aside0 (Kd.R (Kd.int .i64) 3 w111 w.heap.size (fun k_ => some k_ ≠ (.slice Ao21 t166.length co21 : Value).ownBlock) (.slice Ao20 t163.length co20) t163) := ⟨(by rw [hw]; exact (by (with_reducible repeat (first | apply Kd.R_alloc | apply Kd.R_drewN | apply Kd.R_drew)); exact Kd.R_mono (rkf (Kd.R_types HO_170001.out BK169.out q144t)) (fun _ hk => hk.1)))⟩; have n2_ : Aside0 (Kd.R (Kd.int .i64) 3 w111 w.heap.size (fun k_ => some k_ ≠ (.slice Ao20 t163.length co20 : Value).ownBlock) (.slice Ao21 t166.length co21) t166) := ⟨(by rw [hw]; exact (by (with_reducible repeat (first | apply Kd.R_alloc | apply Kd.R_drewN | apply Kd.R_drew)); exact Kd.R_mono (rkf (Kd.R_types HO_170002.out BK169.out q144t)) (fun _ hk => hk.1)))⟩; have n3_ : Aside0 (Kd.R (Kd.int .u8) 5 w111 w.heap.size (fun k_ => some k_ ≠ (.slice Ao15 t160.length co15 : Value).ownBlock) (.slice Ao108 t175.length co108) t175) := ⟨(by rw [hw]; exact (by (with_reducible repeat (first | apply Kd.R_alloc | apply Kd.R_drewN | apply Kd.R_drew)); exact Kd.R_mono (rkf (Kd.R_types HO177.out BK169.out q144t)) (fun _ hk => hk.1.2)))⟩; have n4_ : Aside0 (w111.heap[gb157]? = some (.cells #[.int .i64 a0_0, .int .i64 a0_1, .int .i64 a0_2, .int .i64 a0_3, .int .i64 a0_4, .int .i64 a0_5] 32 (0, 0))) := ⟨(by rw [hw]; exact (by (with_reducible repeat (first | refine blk_drewN ?_ _ | refine blk_drew ?_ | refine blk_alloc ?_ _)); refine blk_far ?_ NB157_169.out _; (with_reducible repeat (first | refine blk_drewN ?_ _ | refine blk_drew ?_ | refine blk_alloc ?_ _)); exact BK157.out))⟩; have n5_ : Aside0 (w111.heap[gb158]? = some (.cells #[.slice A1_0 l1_0.length c1_0, .slice A1_1 l1_1.length c1_1, .slice A1_2 l1_2.length c1_2] 29 (0, 0))) := ⟨(by rw [hw]; exact (by (with_reducible repeat (first | refine blk_drewN ?_ _ | refine blk_drew ?_ | refine blk_alloc ?_ _)); refine blk_far ?_ NB158_169.out _; (with_reducible repeat (first | refine blk_drewN ?_ _ | refine blk_drew ?_ | refine blk_alloc ?_ _)); exact BK158.out))⟩; have n6_ : Aside0 (w111.heap[gb159]? = some (.cells #[.slice none 0 0, .slice none 0 0, .slice none 0 0] 29 (0, 0))) := ⟨(by rw [hw]; exact (by (with_reducible repeat (first | refine blk_drewN ?_ _ | refine blk_drew ?_ | refine blk_alloc ?_ _)); refine blk_far ?_ NB159_169.out _; (with_reducible repeat (first | refine blk_drewN ?_ _ | refine blk_drew ?_ | refine blk_alloc ?_ _)); exact BK159.out))⟩; have n7_ : Aside0 (w111.heap[gb169]? = some (.cells #[.slice Ao108 t175.length co108, .slice Ao20 t163.length co20, .slice Ao21 t166.length co21] 29 (0, 0))) := ⟨(by rw [hw]; exact (qbp BK169))⟩; have n8_ : Aside0 (Below w.heap.size w w111) := ⟨(by rw [hw]; exact q28t)⟩; clear hw; clear HO_170000; clear HO_170001; clear HO_170002; clear HO177; clear BK157; clear BK158; clear BK159; clear BK169; clear HB; have HO_170000 := n0_; have HO_170001 := n1_; have HO_170002 := n2_; have HO177 := n3_; have BK157 := n4_; have BK158 := n5_; have BK159 := n6_; have BK169 := n7_; have HB := n8_; clear n0_ n1_ n2_ n3_ n4_ n5_ n6_ n7_ n8_; obtain ⟨hcz112_0, hcz112_1, hcz112_2, hcz112_3, hcz112_4, hcz112_5⟩ := qc6 BK157.out; obtain ⟨hfz112_0, hfz112_1, hfz112_2, hfz112_3, hfz112_4, hfz112_5⟩ := qf6 BK157.out; obtain ⟨hcz113_0, hcz113_1, hcz113_2⟩ := qc3 BK169.out; obtain ⟨hfz113_0, hfz113_1, hfz113_2⟩ := qf3 BK169.out; have q114 : ((wrap64 ((wrap64 (a2 + 1)) * a0_1)) : Int) ≤ ((t175.length : Int) : Int) := of_decide_eq_true q133t; obtain ⟨i0114, hi0114, _, hsz114, _⟩ := info_parts info5; have hroom114 : t175.length ≤ co108 := (Kd.R_reads' HO177.out).2.1; have hC114 : Kd.C (Kd.int .u8) _ Ao108 t175.length t175 := (Kd.R_reads' HO177.out).2.2; have ql114 : ((ji91) : Int) ≤ ((wrap64 ((wrap64 (a2 + 1)) * a0_1)) : Int) := of_decide_eq_true q133t; have q0114 : (0 : Int) ≤ ((ji91) : Int) := of_decide_eq_true q133t; have hcut114 := cut_mid (P := Try.prog) 24 5 .i64 .i64 Try.underlying24 hi0114 1 hsz114 Ao108 t175.length co108 (ji91) (wrap64 ((wrap64 (a2 + 1)) * a0_1)) q0114 ql114 q114 hroom114; have hr114 := Kd.C_mid (lo := ((ji91) : Int).toNat) (hi := ((wrap64 ((wrap64 (a2 + 1)) * a0_1)) : Int).toNat) (c := co108) hC114 (by omega) (by omega) hroom114; obtain ⟨A114, hA114⟩ : ∃ A1, A1 = (if co108 = ((ji91) : Int).toNat then Ao108 else (Ao108 : Option Addr).map (·.add (((ji91) : Int).toNat * 1))) := ⟨_, rfl⟩; obtain ⟨c114, hc114⟩ : ∃ c1, c1 = co108 - ((ji91) : Int).toNat := ⟨_, rfl⟩; have hy114 : y178.length = ((wrap64 ((wrap64 (a2 + 1)) * a0_1)) : Int).toNat - ((ji91) : Int).toNat := (by rw [Ny178.out, List.length_drop, List.length_take] <;> omega); rw [show ((t175).take ((wrap64 ((wrap64 (a2 + 1)) * a0_1)) : Int).toNat).drop ((ji91) : Int).toNat = y178 from Ny178.out.symm] at hr114; replace hr114 : Kd.C (Kd.int .u8) _ A114 y178.length y178 := (by rw [hA114]; exact hr114); rw [← hy114, ← hA114, ← hc114] at hcut114; have HR181 := Aside0.mk hr114; have HC181 := Aside0.mk (show y178.length ≤ c114 from by rw [hy114, hc114]; exact Nat.sub_le_sub_right (Nat.le_trans (by omega) hroom114) _); clear hr114 hC114 hroom114 hi0114 hsz114 hc114; have KY114 := Aside0.mk hy114; have KA114 := Aside0.mk hA114; clear hy114 hA114; have KL114 := Aside0.mk (show ((wrap64 ((wrap64 (a2 + 1)) * a0_1)) : Int).toNat ≤ t175.length from by omega); have KM114 := Aside0.mk (show ((ji91) : Int).toNat ≤ ((wrap64 ((wrap64 (a2 + 1)) * a0_1)) : Int).toNat from by omega); replace q114 := eq_true q114) | ((with_reducible refine gate_callee (f := 19) rfl ?_); refine goesL_ (some 80) rfl rfl Try.func19 (by kernel_rfl) rfl #[.slice A114 y178.length c114] rfl q97t ?_; (with_reducible refine (spec_IsZero.calls kj5 _ _ y178 true _ ?side1 ?side2 A95.out).mono ?_); (case side1 => repeat (first | exact q64t | (with_reducible refine Kd.C_alloc ?_ _) | (with_reducible refine Kd.C_drewN ?_ _) | (with_reducible refine Kd.C_drew ?_))); (case side2 => exact HC181.out); rintro e w' ⟨rfl, ⟨nd, rfl⟩⟩; refine ⟨_, rfl, ?_⟩; (try (rw [drewN_self w111]; generalize hq_ : World.drewN w111 _ = w111; have n0_ : Aside0 (Kd.R (Kd.int .u8) 5 w111 w.heap.size (fun k_ => some k_ ≠ (.slice Ao15 t160.length co15 : Value).ownBlock) (.slice Ao108 t175.length co108) t175) := ⟨by rw [← hq_]; exact q112t⟩; have n1_ : Aside0 (Kd.R (Kd.int .u8) 5 w111 w.heap.size (fun k_ => some k_ ≠ (.slice Ao108 t175.length co108 : Value).ownBlock) (.slice Ao15 t160.length co15) t160) := ⟨by rw [← hq_]; exact q104t⟩; have n2_ : Aside0 (Kd.R (Kd.int .i64) 3 w111 w.heap.size (fun k_ => some k_ ≠ (.slice Ao21 t166.length co21 : Value).ownBlock) (.slice Ao20 t163.length co20) t163) := ⟨by rw [← hq_]; exact q105t⟩; have n3_ : Aside0 (Kd.R (Kd.int .i64) 3 w111 w.heap.size (fun k_ => some k_ ≠ (.slice Ao20 t163.length co20 : Value).ownBlock) (.slice Ao21 t166.length co21) t166) := ⟨by rw [← hq_]; exact q106t⟩; have n4_ : Aside0 (w111.heap[gb157]? = some (.cells #[.int .i64 a0_0, .int .i64 a0_1, .int .i64 a0_2, .int .i64 a0_3, .int .i64 a0_4, .int .i64 a0_5] 32 (0, 0))) := ⟨by rw [← hq_]; exact (qbk BK157)⟩; have n5_ : Aside0 (w111.heap[gb158]? = some (.cells #[.slice A1_0 l1_0.length c1_0, .slice A1_1 l1_1.length c1_1, .slice A1_2 l1_2.length c1_2] 29 (0, 0))) := ⟨by rw [← hq_]; exact (qbk BK158)⟩; have n6_ : Aside0 (w111.heap[gb159]? = some (.cells #[.slice none 0 0, .slice none 0 0, .slice none 0 0] 29 (0, 0))) := ⟨by rw [← hq_]; exact (qbk BK159)⟩; have n7_ : Aside0 (w111.heap[gb169]? = some (.cells #[.slice Ao108 t175.length co108, .slice Ao20 t163.length co20, .slice Ao21 t166.length co21] 29 (0, 0))) := ⟨by rw [← hq_]; exact (qbk BK169)⟩; have n8_ : Aside0 (Below w.heap.size w w111) := ⟨by rw [← hq_]; exact q28t⟩; have n9_ : Aside0 (Kd.C (Kd.int .u8) w111 A114 y178.length y178) := ⟨by rw [← hq_]; exact q64t⟩; clear HO177 HO_170000 HO_170001 HO_170002 BK157 BK158 BK159 BK169 HB HR181 hq_; have HO177 := n0_; have HO_170000 := n1_; have HO_170001 := n2_; have HO_170002 := n3_; have BK157 := n4_; have BK158 := n5_; have BK159 := n6_; have BK169 := n7_; have HB := n8_; have HR181 := n9_; clear n0_ n1_ n2_ n3_ n4_ n5_ n6_ n7_ n8_ n9_; have hczr157_0 := blk_cell BK157.out 0; have hczr157_1 := blk_cell BK157.out 1; have hczr157_2 := blk_cell BK157.out 2; have hczr157_3 := blk_cell BK157.out 3; have hczr157_4 := blk_cell BK157.out 4; have hczr157_5 := blk_cell BK157.out 5; have hczr158_0 := blk_cell BK158.out 0; have hczr158_1 := blk_cell BK158.out 1; have hczr158_2 := blk_cell BK158.out 2; have hczr159_0 := blk_cell BK159.out 0; have hczr159_1 := blk_cell BK159.out 1; have hczr159_2 := blk_cell BK159.out 2; have hczr169_0 := blk_cell BK169.out 0; have hczr169_1 := blk_cell BK169.out 1; have hczr169_2 := blk_cell BK169.out 2)); have p99 : 0 ≤ (a2 : Int) := of_decide_eq_true q133t; have q99 : (a2 : Int) < ((t163.length : Int) : Int) := of_decide_eq_true q133t; obtain ⟨go99, co99, eo99, gb99, gl99, cl99, HG99⟩ := Kd.R_form HO_170001.out (by omega); (first | cases eo99 | (injection eo99 with ea_ en_ ec_; (first | subst ea_ | (injection ea_ with ea_; subst ea_)); subst ec_; clear en_)); have GB99 := Aside0.mk gb99; have GG99 := Aside0.mk HG99; clear gb99 gl99 HG99; obtain ⟨hx99_0, hf99_0⟩ := Kd.R_celln 0 HO_170001.out (a2 : Int) p99 q99; replace p99 := eq_true p99; replace q99 := eq_true q99; obtain ⟨hy115_, hz115_⟩ := Kd.R_celln 0 HO_170001.out (a2 : Int) (of_decide_eq_true q133t) (of_decide_eq_true q133t); have HP115 := Kd.R_putg HO_170001.out (a2 : Int) 0) | ((with_reducible refine gate_store (t := 3) (p := 87) rfl ?_); refine store_event (t := 3) (p := 87) (v := ?vo_w116) (w1 := (w111.setCell ⟨go99, (a2 : Int).toNat, none⟩ (.int .i64 0))) ?hg ?ho ?hn ?hr ?_; (case ho => rfl); (case hg => rfl); (case hn => rfl); (case hr => first | (go_simp; done) | (go_simp; rfl)); intro w116 hw; have hg : w111.grownBy w116 (some go99) := (by rw [hw]; exact HP115.2); have hp_ : Kd.R (Kd.int .i64) 3 w116 w.heap.size (fun k_ => some k_ ≠ (.slice Ao21 t166.length co21 : Value).ownBlock) (.slice (some ⟨go99, 0, none⟩) t163.length co20) y183 := (by rw [hw, Ny183.out]; exact HP115.1); clear HP115; replace HO_170000 := Aside0.mk (Kd.R_over' (v := (.slice (some ⟨go99, 0, none⟩) t163.length co20)) q104t (Kd.R_typed HO_170001.out) q144t hg); replace HO_170002 := Aside0.mk (Kd.R_after (v := (.slice (some ⟨go99, 0, none⟩) t163.length co20)) (v1 := (.slice (some ⟨go99, 0, none⟩) t163.length co20)) (ok := (fun _ => True)) (by (with_reducible repeat (first | apply Kd.R_alloc | apply Kd.R_drewN | apply Kd.R_drew)); exact Kd.R_mono HO_170002.out (fun _ hk => ⟨trivial, hk⟩)) hg (.inl rfl)); replace BK157 := gbb BK157 hg (Kd.R_ne HO_170001.out BK157.out q144t); replace BK158 := gbb BK158 hg (Kd.R_ne HO_170001.out BK158.out q144t); replace BK159 := gbb BK159 hg (Kd.R_ne HO_170001.out BK159.out q144t); replace BK169 := gbb BK169 hg (Kd.R_ne HO_170001.out BK169.out q144t); replace HB := Aside0.mk ((by rw [hw]; exact below_set (HB.out) GB99.out : Below w.heap.size w w116)); replace HR181 := Aside0.mk ((show Kd.C (Kd.int .u8) w116 A114 y178.length y178 from by rw [Ny178.out, KA114.out]; exact Kd.C_mid (lo := ((ji91) : Int).toNat) (hi := ((wrap64 ((wrap64 (a2 + 1)) * a0_1)) : Int).toNat) (c := co108) ((Kd.R_reads' (Kd.R_over' (v := (.slice (some ⟨go99, 0, none⟩) t163.length co20)) q112t (Kd.R_typed HO_170001.out) q144t hg)).2.2) KM114.out KL114.out ((Kd.R_reads' (Kd.R_over' (v := (.slice (some ⟨go99, 0, none⟩) t163.length co20)) q112t (Kd.R_typed HO_170001.out) q144t hg)).2.1))); replace HO177 := Aside0.mk (Kd.R_over' (v := (.slice (some ⟨go99, 0, none⟩) t163.length co20)) q112t (Kd.R_typed HO_170001.out) q144t hg); replace HO_170001 := Aside0.mk (hp_); clear hg hw hp_; obtain ⟨hcz117_0, hcz117_1, hcz117_2⟩ := qc3 BK169.out; obtain ⟨hfz117_0, hfz117_1, hfz117_2⟩ := qf3 BK169.out; obtain ⟨hcz118_0, hcz118_1, hcz118_2⟩ := qc3 BK159.out; obtain ⟨hfz118_0, hfz118_1, hfz118_2⟩ := qf3 BK159.out))
    refine bodyPost_ret (results_ct rfl _ _ gb159 29 #[.slice Ao108 t175.length co108, .slice (some ⟨go99, 0, none⟩) t163.length co20, .slice Ao21 t166.length co21] (0, 0) _ rfl (qbp BK159) Try.underlying29 rfl (by kernel_rfl)) rfl ?_
    exact ⟨_, _, _, by first | rfl | (simp [errW_none, errW_some] <;> rfl) | (simp only [← hji91]; first | rfl | (simp [errW_none, errW_some] <;> rfl)) | (simp [*, errW_none, errW_some] <;> rfl), by (with_reducible repeat (first | apply Kd.R_alloc | apply Kd.R_drewN | apply Kd.R_drew)); exact Kd.R_mono (rkf (rkf (rkf (Kd.R_types HO177.out BK159.out q144t)))) (fun _ hk => trivial), by (with_reducible repeat (first | apply Kd.R_alloc | apply Kd.R_drewN | apply Kd.R_drew)); exact Kd.R_mono (rkf (rkf (rkf (Kd.R_types HO_170001.out BK159.out q144t)))) (fun _ hk => hk.1), by (with_reducible repeat (first | apply Kd.R_alloc | apply Kd.R_drewN | apply Kd.R_drew)); exact Kd.R_mono (rkf (rkf (rkf (Kd.R_types HO_170002.out BK159.out q144t)))) (fun _ hk => hk.1.2), by repeat (first | (with_reducible first | exact HB.out | apply below_alloc | apply pw_below_drewN | apply below_drew1 | refine below_set ?_ GE157.out | refine below_set ?_ GE158.out | refine below_set ?_ GE159.out | refine below_set ?_ GE169.out) | exact HB.out)⟩
   replace c96 := Bool.eq_false_iff.mpr c96
   subst c96
   rw [if_neg (show ¬ (false = true) by decide)] at H
   replace H := Option.bind_eq_some_iff.mp H
   obtain ⟨⟨t184, t187, t190⟩, A1190, H⟩ := H
   try dsimp only at H
   have A119 := Aside0.mk A1190
   clear A1190
   simp only [Option.some.injEq, Prod.mk.injEq] at H
   obtain ⟨rfl, rfl, rfl, rfl⟩ := H
   have hnb120 := NB157_158.out
   have hnc120 := NB158_157.out
   have hnb121 := NB157_159.out
   have hnc121 := NB159_157.out
   have hnb122 := NB157_169.out
   have hnc122 := NB169_157.out
   obtain ⟨hcz123_0, hcz123_1, hcz123_2, hcz123_3, hcz123_4, hcz123_5⟩ := qc6 BK157.out
   obtain ⟨hfz123_0, hfz123_1, hfz123_2, hfz123_3, hfz123_4, hfz123_5⟩ := qf6 BK157.out
   go_wp2_with (first | ((with_reducible refine gate_callee (f := 17) rfl ?_); refine goesL_ (some 49) rfl rfl Try.func17 (by kernel_rfl) rfl #[.int .i64 (wrap64 (a3 + a0_4)), .int .i64 a0_1] rfl q97t ?_; (with_reducible refine (spec_Least.calls (wrap64 (a3 + a0_4)) a0_1 t174 _ A75.out).mono ?_); rintro e w' ⟨rfl, ⟨nd, rfl⟩⟩; refine ⟨_, rfl, ?_⟩; (try (rw [drewN_self wc]; generalize hq_ : World.drewN wc _ = wc; have n0_ : Aside0 (Kd.R (Kd.int .u8) 5 wc w.heap.size (fun _ => True) (.slice Ao15 t160.length co15) t160) := ⟨by rw [← hq_]; exact q104t⟩; have n1_ : Aside0 (Kd.R (Kd.int .i64) 3 wc w.heap.size (fun k_ => some k_ ≠ (.slice Ao21 t166.length co21 : Value).ownBlock) (.slice Ao20 t163.length co20) t163) := ⟨by rw [← hq_]; exact q105t⟩; have n2_ : Aside0 (Kd.R (Kd.int .i64) 3 wc w.heap.size (fun k_ => some k_ ≠ (.slice Ao20 t163.length co20 : Value).ownBlock) (.slice Ao21 t166.length co21) t166) := ⟨by rw [← hq_]; exact q106t⟩; have n3_ : Aside0 (wc.heap[gb157]? = some (.cells #[.int .i64 a0_0, .int .i64 a0_1, .int .i64 a0_2, .int .i64 a0_3, .int .i64 a0_4, .int .i64 a0_5] 32 (0, 0))) := ⟨by rw [← hq_]; exact (qbk BK157)⟩; have n4_ : Aside0 (wc.heap[gb158]? = some (.cells #[.slice A1_0 l1_0.length c1_0, .slice A1_1 l1_1.length c1_1, .slice A1_2 l1_2.length c1_2] 29 (0, 0))) := ⟨by rw [← hq_]; exact (qbk BK158)⟩; have n5_ : Aside0 (wc.heap[gb159]? = some (.cells #[.slice none 0 0, .slice none 0 0, .slice none 0 0] 29 (0, 0))) := ⟨by rw [← hq_]; exact (qbk BK159)⟩; have n6_ : Aside0 (wc.heap[gb169]? = some (.cells #[.slice Ao15 t160.length co15, .slice Ao20 t163.length co20, .slice Ao21 t166.length co21] 29 (0, 0))) := ⟨by rw [← hq_]; exact (qbk BK169)⟩; have n7_ : Aside0 (Below w.heap.size w wc) := ⟨by rw [← hq_]; exact q28t⟩; clear HO_170000 HO_170001 HO_170002 BK157 BK158 BK159 BK169 HB hq_; have HO_170000 := n0_; have HO_170001 := n1_; have HO_170002 := n2_; have BK157 := n3_; have BK158 := n4_; have BK159 := n5_; have BK169 := n6_; have HB := n7_; clear n0_ n1_ n2_ n3_ n4_ n5_ n6_ n7_; have hczr157_0 := blk_cell BK157.out 0; have hczr157_1 := blk_cell BK157.out 1; have hczr157_2 := blk_cell BK157.out 2; have hczr157_3 := blk_cell BK157.out 3; have hczr157_4 := blk_cell BK157.out 4; have hczr157_5 := blk_cell BK157.out 5; have hczr158_0 := blk_cell BK158.out 0; have hczr158_1 := blk_cell BK158.out 1; have hczr158_2 := blk_cell BK158.out 2; have hczr159_0 := blk_cell BK159.out 0; have hczr159_1 := blk_cell BK159.out 1; have hczr159_2 := blk_cell BK159.out 2; have hczr169_0 := blk_cell BK169.out 0; have hczr169_1 := blk_cell BK169.out 1; have hczr169_2 := blk_cell BK169.out 2)); have hnb124 := NB158_159.out; have hnc124 := NB159_158.out; have hnb125 := NB158_169.out; have hnc125 := NB169_158.out; obtain ⟨hcz126_0, hcz126_1, hcz126_2⟩ := qc3 BK158.out; obtain ⟨hfz126_0, hfz126_1, hfz126_2⟩ := qf3 BK158.out) | ((with_reducible refine gate_callee (f := 18) rfl ?_); refine goesL_ (some 61) rfl rfl Try.func18 (by kernel_rfl) rfl #[.slice A1_0 l1_0.length c1_0, .int .i64 (wrap64 ((ji91) + a3)), .int .i64 (wrap64 (t174 - a3))] rfl (by (try simp only [List.map_toArray, List.map_cons, List.map_nil]); first | done | (simp only [hji91]; rfl) | rfl | (simp only [List.length_drop, List.length_take]; rfl)) ?_; (with_reducible refine (spec_Wipe.calls kj5 _ _ l1_0 (wrap64 ((ji91) + a3)) (wrap64 (t174 - a3)) t175 _ ?side1 ?side2 A76.out).mono ?_); (case side1 => repeat (first | exact (Kd.C_below HR1_0.out HB.out) | (with_reducible refine Kd.C_alloc ?_ _) | (with_reducible refine Kd.C_drewN ?_ _) | (with_reducible refine Kd.C_drew ?_))); (case side2 => exact HC1_0.out); rintro e w127 ⟨v176, rfl, ho0, hb⟩; refine ⟨_, rfl, ?_⟩; replace HO_170001 := Aside0.mk (Kd.R_below q105t hb); replace HO_170002 := Aside0.mk (Kd.R_below q106t hb); have HO177 := Aside0.mk (Kd.R_lower (Kd.R_new' ho0 (Kd.R_lt q104t)) (below_size q28t)); replace HO_170000 := Aside0.mk (Kd.R_elder' q104t (Kd.R_base ho0) hb); replace BK157 := blb BK157 hb; replace BK158 := blb BK158 hb; replace BK159 := blb BK159 hb; replace BK169 := blb BK169 hb; replace HB := Aside0.mk (below_step q28t hb); (try clear hb); (try clear hb2); (try clear hk); (try clear hi); (try clear ho0); obtain ⟨Ao128, co128, eo128⟩ := Kd.R_slice HO177.out; subst eo128; have hnb129 := NB169_159.out; have hnc129 := NB159_169.out; obtain ⟨hcz130_0, hcz130_1, hcz130_2⟩ := qc3 BK169.out; obtain ⟨hfz130_0, hfz130_1, hfz130_2⟩ := qf3 BK169.out) | ((with_reducible refine gate_store (t := 24) (p := 62) rfl ?_); refine store_event (t := 24) (p := 62) (v := ?vo_w131) (w1 := (w127.setCell ⟨gb169, 0, none⟩ (.slice Ao128 t175.length co128))) ?hg ?ho ?hn ?hr ?_; (case ho => rfl); (case hg => rfl); (case hn => rfl); (case hr => first | (go_simp; done) | (go_simp; rfl)); intro w131 hw; have n0_ : Aside0 (Kd.R (Kd.int .u8) 5 w131 w.heap.size (fun k_ => some k_ ≠ (.slice Ao128 t175.length co128 : Value).ownBlock) (.slice Ao15 t160.length co15) t160) := ⟨(by rw [hw]; exact (by (with_reducible repeat (first | apply Kd.R_alloc | apply Kd.R_drewN | apply Kd.R_drew)); exact Kd.R_mono (rkf (Kd.R_types HO_170000.out BK169.out q144t)) (fun _ hk => hk.1.2)))⟩; have n1_ : Aside0 (Kd.R (Kd.int .i64) 3 w131 w.heap.size (fun k_ => some k_ ≠ (.slice Ao21 t166.length co21 : Value).ownBlock) (.slice Ao20 t163.length co20) t163) := ⟨(by rw [hw]; exact (by (with_reducible repeat (first | apply Kd.R_alloc | apply Kd.R_drewN | apply Kd.R_drew)); exact Kd.R_mono (rkf (Kd.R_types HO_170001.out BK169.out q144t)) (fun _ hk => hk.1)))⟩; have n2_ : Aside0 (Kd.R (Kd.int .i64) 3 w131 w.heap.size (fun k_ => some k_ ≠ (.slice Ao20 t163.length co20 : Value).ownBlock) (.slice Ao21 t166.length co21) t166) := ⟨(by rw [hw]; exact (by (with_reducible repeat (first | apply Kd.R_alloc | apply Kd.R_drewN | apply Kd.R_drew)); exact Kd.R_mono (rkf (Kd.R_types HO_170002.out BK169.out q144t)) (fun _ hk => hk.1)))⟩; have n3_ : Aside0 (Kd.R (Kd.int .u8) 5 w131 w.heap.size (fun k_ => some k_ ≠ (.slice Ao15 t160.length co15 : Value).ownBlock) (.slice Ao128 t175.length co128) t175) := ⟨(by rw [hw]; exact (by (with_reducible repeat (first | apply Kd.R_alloc | apply Kd.R_drewN | apply Kd.R_drew)); exact Kd.R_mono (rkf (Kd.R_types HO177.out BK169.out q144t)) (fun _ hk => hk.1.2)))⟩; have n4_ : Aside0 (w131.heap[gb157]? = some (.cells #[.int .i64 a0_0, .int .i64 a0_1, .int .i64 a0_2, .int .i64 a0_3, .int .i64 a0_4, .int .i64 a0_5] 32 (0, 0))) := ⟨(by rw [hw]; exact (by (with_reducible repeat (first | refine blk_drewN ?_ _ | refine blk_drew ?_ | refine blk_alloc ?_ _)); refine blk_far ?_ NB157_169.out _; (with_reducible repeat (first | refine blk_drewN ?_ _ | refine blk_drew ?_ | refine blk_alloc ?_ _)); exact BK157.out))⟩; have n5_ : Aside0 (w131.heap[gb158]? = some (.cells #[.slice A1_0 l1_0.length c1_0, .slice A1_1 l1_1.length c1_1, .slice A1_2 l1_2.length c1_2] 29 (0, 0))) := ⟨(by rw [hw]; exact (by (with_reducible repeat (first | refine blk_drewN ?_ _ | refine blk_drew ?_ | refine blk_alloc ?_ _)); refine blk_far ?_ NB158_169.out _; (with_reducible repeat (first | refine blk_drewN ?_ _ | refine blk_drew ?_ | refine blk_alloc ?_ _)); exact BK158.out))⟩; have n6_ : Aside0 (w131.heap[gb159]? = some (.cells #[.slice none 0 0, .slice none 0 0, .slice none 0 0] 29 (0, 0))) := ⟨(by rw [hw]; exact (by (with_reducible repeat (first | refine blk_drewN ?_ _ | refine blk_drew ?_ | refine blk_alloc ?_ _)); refine blk_far ?_ NB159_169.out _; (with_reducible repeat (first | refine blk_drewN ?_ _ | refine blk_drew ?_ | refine blk_alloc ?_ _)); exact BK159.out))⟩; have n7_ : Aside0 (w131.heap[gb169]? = some (.cells #[.slice Ao128 t175.length co128, .slice Ao20 t163.length co20, .slice Ao21 t166.length co21] 29 (0, 0))) := ⟨(by rw [hw]; exact (qbp BK169))⟩; have n8_ : Aside0 (Below w.heap.size w w131) := ⟨(by rw [hw]; exact q28t)⟩; clear hw; clear HO_170000; clear HO_170001; clear HO_170002; clear HO177; clear BK157; clear BK158; clear BK159; clear BK169; clear HB; have HO_170000 := n0_; have HO_170001 := n1_; have HO_170002 := n2_; have HO177 := n3_; have BK157 := n4_; have BK158 := n5_; have BK159 := n6_; have BK169 := n7_; have HB := n8_; clear n0_ n1_ n2_ n3_ n4_ n5_ n6_ n7_ n8_; obtain ⟨hcz132_0, hcz132_1, hcz132_2, hcz132_3, hcz132_4, hcz132_5⟩ := qc6 BK157.out; obtain ⟨hfz132_0, hfz132_1, hfz132_2, hfz132_3, hfz132_4, hfz132_5⟩ := qf6 BK157.out; obtain ⟨hcz133_0, hcz133_1, hcz133_2⟩ := qc3 BK169.out; obtain ⟨hfz133_0, hfz133_1, hfz133_2⟩ := qf3 BK169.out; have q134 : ((wrap64 ((wrap64 (a2 + 1)) * a0_1)) : Int) ≤ ((t175.length : Int) : Int) := of_decide_eq_true q133t; obtain ⟨i0134, hi0134, _, hsz134, _⟩ := info_parts info5; have hroom134 : t175.length ≤ co128 := (Kd.R_reads' HO177.out).2.1; have hC134 : Kd.C (Kd.int .u8) _ Ao128 t175.length t175 := (Kd.R_reads' HO177.out).2.2; have ql134 : ((ji91) : Int) ≤ ((wrap64 ((wrap64 (a2 + 1)) * a0_1)) : Int) := of_decide_eq_true q133t; have q0134 : (0 : Int) ≤ ((ji91) : Int) := of_decide_eq_true q133t; have hcut134 := cut_mid (P := Try.prog) 24 5 .i64 .i64 Try.underlying24 hi0134 1 hsz134 Ao128 t175.length co128 (ji91) (wrap64 ((wrap64 (a2 + 1)) * a0_1)) q0134 ql134 q134 hroom134; have hr134 := Kd.C_mid (lo := ((ji91) : Int).toNat) (hi := ((wrap64 ((wrap64 (a2 + 1)) * a0_1)) : Int).toNat) (c := co128) hC134 (by omega) (by omega) hroom134; obtain ⟨A134, hA134⟩ : ∃ A1, A1 = (if co128 = ((ji91) : Int).toNat then Ao128 else (Ao128 : Option Addr).map (·.add (((ji91) : Int).toNat * 1))) := ⟨_, rfl⟩; obtain ⟨c134, hc134⟩ : ∃ c1, c1 = co128 - ((ji91) : Int).toNat := ⟨_, rfl⟩; have hy134 : y178.length = ((wrap64 ((wrap64 (a2 + 1)) * a0_1)) : Int).toNat - ((ji91) : Int).toNat := (by rw [Ny178.out, List.length_drop, List.length_take] <;> omega); rw [show ((t175).take ((wrap64 ((wrap64 (a2 + 1)) * a0_1)) : Int).toNat).drop ((ji91) : Int).toNat = y178 from Ny178.out.symm] at hr134; replace hr134 : Kd.C (Kd.int .u8) _ A134 y178.length y178 := (by rw [hA134]; exact hr134); rw [← hy134, ← hA134, ← hc134] at hcut134; have HR181 := Aside0.mk hr134; have HC181 := Aside0.mk (show y178.length ≤ c134 from by rw [hy134, hc134]; exact Nat.sub_le_sub_right (Nat.le_trans (by omega) hroom134) _); clear hr134 hC134 hroom134 hi0134 hsz134 hc134; have KY134 := Aside0.mk hy134; have KA134 := Aside0.mk hA134; clear hy134 hA134; have KL134 := Aside0.mk (show ((wrap64 ((wrap64 (a2 + 1)) * a0_1)) : Int).toNat ≤ t175.length from by omega); have KM134 := Aside0.mk (show ((ji91) : Int).toNat ≤ ((wrap64 ((wrap64 (a2 + 1)) * a0_1)) : Int).toNat from by omega); replace q134 := eq_true q134) | ((with_reducible refine gate_callee (f := 19) rfl ?_); refine goesL_ (some 80) rfl rfl Try.func19 (by kernel_rfl) rfl #[.slice A134 y178.length c134] rfl q97t ?_; (with_reducible refine (spec_IsZero.calls kj5 _ _ y178 false _ ?side1 ?side2 A95.out).mono ?_); (case side1 => repeat (first | exact q64t | (with_reducible refine Kd.C_alloc ?_ _) | (with_reducible refine Kd.C_drewN ?_ _) | (with_reducible refine Kd.C_drew ?_))); (case side2 => exact HC181.out); rintro e w' ⟨rfl, ⟨nd, rfl⟩⟩; refine ⟨_, rfl, ?_⟩; (try (rw [drewN_self w131]; generalize hq_ : World.drewN w131 _ = w131; have n0_ : Aside0 (Kd.R (Kd.int .u8) 5 w131 w.heap.size (fun k_ => some k_ ≠ (.slice Ao15 t160.length co15 : Value).ownBlock) (.slice Ao128 t175.length co128) t175) := ⟨by rw [← hq_]; exact q112t⟩; have n1_ : Aside0 (Kd.R (Kd.int .u8) 5 w131 w.heap.size (fun k_ => some k_ ≠ (.slice Ao128 t175.length co128 : Value).ownBlock) (.slice Ao15 t160.length co15) t160) := ⟨by rw [← hq_]; exact q104t⟩; have n2_ : Aside0 (Kd.R (Kd.int .i64) 3 w131 w.heap.size (fun k_ => some k_ ≠ (.slice Ao21 t166.length co21 : Value).ownBlock) (.slice Ao20 t163.length co20) t163) := ⟨by rw [← hq_]; exact q105t⟩; have n3_ : Aside0 (Kd.R (Kd.int .i64) 3 w131 w.heap.size (fun k_ => some k_ ≠ (.slice Ao20 t163.length co20 : Value).ownBlock) (.slice Ao21 t166.length co21) t166) := ⟨by rw [← hq_]; exact q106t⟩; have n4_ : Aside0 (w131.heap[gb157]? = some (.cells #[.int .i64 a0_0, .int .i64 a0_1, .int .i64 a0_2, .int .i64 a0_3, .int .i64 a0_4, .int .i64 a0_5] 32 (0, 0))) := ⟨by rw [← hq_]; exact (qbk BK157)⟩; have n5_ : Aside0 (w131.heap[gb158]? = some (.cells #[.slice A1_0 l1_0.length c1_0, .slice A1_1 l1_1.length c1_1, .slice A1_2 l1_2.length c1_2] 29 (0, 0))) := ⟨by rw [← hq_]; exact (qbk BK158)⟩; have n6_ : Aside0 (w131.heap[gb159]? = some (.cells #[.slice none 0 0, .slice none 0 0, .slice none 0 0] 29 (0, 0))) := ⟨by rw [← hq_]; exact (qbk BK159)⟩; have n7_ : Aside0 (w131.heap[gb169]? = some (.cells #[.slice Ao128 t175.length co128, .slice Ao20 t163.length co20, .slice Ao21 t166.length co21] 29 (0, 0))) := ⟨by rw [← hq_]; exact (qbk BK169)⟩; have n8_ : Aside0 (Below w.heap.size w w131) := ⟨by rw [← hq_]; exact q28t⟩; have n9_ : Aside0 (Kd.C (Kd.int .u8) w131 A134 y178.length y178) := ⟨by rw [← hq_]; exact q64t⟩; clear HO177 HO_170000 HO_170001 HO_170002 BK157 BK158 BK159 BK169 HB HR181 hq_; have HO177 := n0_; have HO_170000 := n1_; have HO_170001 := n2_; have HO_170002 := n3_; have BK157 := n4_; have BK158 := n5_; have BK159 := n6_; have BK169 := n7_; have HB := n8_; have HR181 := n9_; clear n0_ n1_ n2_ n3_ n4_ n5_ n6_ n7_ n8_ n9_; have hczr157_0 := blk_cell BK157.out 0; have hczr157_1 := blk_cell BK157.out 1; have hczr157_2 := blk_cell BK157.out 2; have hczr157_3 := blk_cell BK157.out 3; have hczr157_4 := blk_cell BK157.out 4; have hczr157_5 := blk_cell BK157.out 5; have hczr158_0 := blk_cell BK158.out 0; have hczr158_1 := blk_cell BK158.out 1; have hczr158_2 := blk_cell BK158.out 2; have hczr159_0 := blk_cell BK159.out 0; have hczr159_1 := blk_cell BK159.out 1; have hczr159_2 := blk_cell BK159.out 2; have hczr169_0 := blk_cell BK169.out 0; have hczr169_1 := blk_cell BK169.out 1; have hczr169_2 := blk_cell BK169.out 2)); obtain ⟨hcz135_0, hcz135_1, hcz135_2⟩ := qc3 BK158.out; obtain ⟨hfz135_0, hfz135_1, hfz135_2⟩ := qf3 BK158.out) | ((with_reducible refine gate_callee (f := 14) rfl ?_); refine goesL_ (some 83) rfl rfl Try.func14 (by kernel_rfl) rfl #[.agg #[.slice A1_0 l1_0.length c1_0, .slice A1_1 l1_1.length c1_1, .slice A1_2 l1_2.length c1_2]] rfl q97t ?_; (with_reducible refine (spec_l4Copy.calls _ _ l1_0 _ _ l1_1 _ _ l1_2 t184 t187 t190 _ ?side1 ?side2 ?side3 ?side4 ?side5 ?side6 A119.out).mono ?_); (case side1 => repeat (first | exact (Kd.C_below HR1_0.out HB.out) | (with_reducible refine Kd.C_alloc ?_ _) | (with_reducible refine Kd.C_drewN ?_ _) | (with_reducible refine Kd.C_drew ?_))); (case side2 => exact HC1_0.out); (case side3 => repeat (first | exact (Kd.C_below HR1_1.out HB.out) | (with_reducible refine Kd.C_alloc ?_ _) | (with_reducible refine Kd.C_drewN ?_ _) | (with_reducible refine Kd.C_drew ?_))); (case side4 => exact HC1_1.out); (case side5 => repeat (first | exact (Kd.C_below HR1_2.out HB.out) | (with_reducible refine Kd.C_alloc ?_ _) | (with_reducible refine Kd.C_drewN ?_ _) | (with_reducible refine Kd.C_drew ?_))); (case side6 => exact HC1_2.out); rintro e w136 ⟨v185, v188, v191, rfl, ho0, ho1, ho2, hb⟩; refine ⟨_, rfl, ?_⟩; have HO186 := Aside0.mk (Kd.R_lower (Kd.R_new' (Kd.R_new' ho0 (Kd.R_lt q104t)) (Kd.R_lt q112t)) (below_size q28t)); replace HO_170000 := Aside0.mk (Kd.R_elder' q104t (Kd.R_base ho0) hb); replace HO177 := Aside0.mk (Kd.R_elder' q112t (Kd.R_base ho0) hb); have HO189 := Aside0.mk (Kd.R_lower (Kd.R_new' (Kd.R_new' ho1 (Kd.R_lt q105t)) (Kd.R_lt q106t)) (below_size q28t)); have HO192 := Aside0.mk (Kd.R_lower (Kd.R_new' (Kd.R_new' ho2 (Kd.R_lt q105t)) (Kd.R_lt q106t)) (below_size q28t)); replace HO_170001 := Aside0.mk (Kd.R_mono (Kd.R_told (Kd.R_told (Kd.R_old q105t hb) (Kd.R_base ho1)) (Kd.R_base ho2)) (fun _ h_ => h_.1)); replace HO_170002 := Aside0.mk (Kd.R_mono (Kd.R_told (Kd.R_told (Kd.R_old q106t hb) (Kd.R_base ho1)) (Kd.R_base ho2)) (fun _ h_ => h_.1)); replace BK157 := blb BK157 hb; replace BK158 := blb BK158 hb; replace BK159 := blb BK159 hb; replace BK169 := blb BK169 hb; replace HR181 := Aside0.mk (Kd.C_below q64t hb); replace HB := Aside0.mk (below_step q28t hb); (try clear hb); (try clear hb2); (try clear hk); (try clear hi); (try clear ho0); (try clear ho1); (try clear ho2); obtain ⟨Ao137, co137, eo137⟩ := Kd.R_slice HO186.out; subst eo137; obtain ⟨hcz138_0, hcz138_1, hcz138_2⟩ := qc3 BK159.out; obtain ⟨hfz138_0, hfz138_1, hfz138_2⟩ := qf3 BK159.out; obtain ⟨Ao139, co139, eo139⟩ := Kd.R_slice HO189.out; subst eo139; obtain ⟨Ao140, co140, eo140⟩ := Kd.R_slice HO192.out; subst eo140))
   refine bodyPost_ret (results_ct rfl _ _ gb159 29 #[.slice Ao137 t184.length co137, .slice Ao139 t187.length co139, .slice Ao140 t190.length co140] (0, 0) _ rfl (qbp BK159) Try.underlying29 rfl (by kernel_rfl)) rfl ?_
   exact ⟨_, _, _, by first | rfl | (simp [errW_none, errW_some] <;> rfl) | (simp only [← hji91]; first | rfl | (simp [errW_none, errW_some] <;> rfl)) | (simp [*, errW_none, errW_some] <;> rfl), by (with_reducible repeat (first | apply Kd.R_alloc | apply Kd.R_drewN | apply Kd.R_drew)); exact Kd.R_mono (rkf (rkf (rkf (Kd.R_types HO186.out BK159.out q144t)))) (fun _ hk => trivial), by (with_reducible repeat (first | apply Kd.R_alloc | apply Kd.R_drewN | apply Kd.R_drew)); exact Kd.R_mono (rkf (rkf (rkf (Kd.R_types HO189.out BK159.out q144t)))) (fun _ hk => hk.1.1.1), by (with_reducible repeat (first | apply Kd.R_alloc | apply Kd.R_drewN | apply Kd.R_drew)); exact Kd.R_mono (rkf (rkf (rkf (Kd.R_types HO192.out BK159.out q144t)))) (fun _ hk => hk.1.1.1), by repeat (first | (with_reducible first | exact HB.out | apply below_alloc | apply pw_below_drewN | apply below_drew1 | refine below_set ?_ GE157.out | refine below_set ?_ GE158.out | refine below_set ?_ GE159.out | refine below_set ?_ GE169.out) | exact HB.out)⟩

end Go.Proofs.Ytofpmdgndegalaa.QFnExactWipeSome
