/- What the functions that the law FnTables reaches compute, as plain functions, and that the code computes just that (by a program of this session's; the library's functions by hand). No condition. -/
import Derived.Test.YtofpmdgndegalabQFnTablesx0
import Derived.Test.YtofpmdgndegalabQFnTablesx3
import Derived.Test.YtofpmdgndegalabQFnTablesx6
import Derived.Test.YtofpmdgndegalabQFnTablesx7
namespace Go.Proofs.Ytofpmdgndegalab.QFnTables
open Go.RowKit Go.Proofs.YtofpmdgndegalabW.PrintWords Go.Proofs.YtofpmdgndegalabW.PrintLast Go.Proofs.YtofpmdgndegalabW.PrintMore
attribute [local go_sem] max2_int min2_int max_two min_two max_three min_three max_four min_four   -- for this text's walks alone
set_option linter.unusedVariables false
set_option linter.unusedSimpArgs false

/-! ### spec_DrawSameTable: function 10 -/
mutual
def spec_DrawSameTable.j0 : Nat → List (S48) → List (S48) → Bool → List Int → Int → Int → Option ((List (S48)) × (List (S48)))
 | 0, _, _, _, _, _, _ => none
 | k + 1, x5, x6, x19, x514000, x514001, x514002 => if x19 = true then (if 0 < (x6.length : Int) then (spec_DrawSameTable.j1 k x5 (x6.set (0 : Int).toNat (⟨(rd_T48 x6 0).f0, wrap64 (((rd_T48 x6 0).f1) + 1), (rd_T48 x6 0).f2, (rd_T48 x6 0).f3, (rd_T48 x6 0).f4, (rd_T48 x6 0).f5, (rd_T48 x6 0).f6, (rd_T48 x6 0).f7, (rd_T48 x6 0).f8, (rd_T48 x6 0).f9, (rd_T48 x6 0).f10, (rd_T48 x6 0).f11, (rd_T48 x6 0).f12⟩ : S48)) x514000 x514001 x514002) else (none)) else (spec_DrawSameTable.j1 k x5 x6 x514000 x514001 x514002)
def spec_DrawSameTable.j1 : Nat → List (S48) → List (S48) → List Int → Int → Int → Option ((List (S48)) × (List (S48)))
 | 0, _, _, _, _, _ => none
 | k + 1, x5, x6, x514000, x514001, x514002 => (spec_l1Once.f x514000 x514001 x514002 4).bind fun bt527 => (if bt527.1 = true then ((spec_l8Draw.f k x514000 bt527.2.1 bt527.2.2).bind fun bt530 => (some (x5, bt530.1))) else (some (x5, x6)))
end
def spec_DrawSameTable.f (k : Nat) (l0 : List Int) : Option ((List (S48)) × (List (S48))) := (spec_l1New.f k l0).bind fun bt510 => ((spec_l8Draw.f k bt510.1 bt510.2.1 bt510.2.2).bind fun bt514 => ((spec_l7All.f k bt514.1).bind fun t519 => (if (t519.length : Int) > 0 then ((spec_l1Once.f bt510.1 bt514.2.1 bt514.2.2 3).bind fun bt522 => (spec_DrawSameTable.j0 k bt514.1 t519 bt522.1 bt510.1 bt522.2.1 bt522.2.2)) else (spec_DrawSameTable.j0 k bt514.1 t519 false bt510.1 bt514.2.1 bt514.2.2))))
theorem spec_DrawSameTable.mono_l : ∀ k, (∀ y0 y1 y2 y3 y4 y5, LeO (spec_DrawSameTable.j0 k y0 y1 y2 y3 y4 y5) (spec_DrawSameTable.j0 (k + 1) y0 y1 y2 y3 y4 y5)) ∧ (∀ y0 y1 y2 y3 y4, LeO (spec_DrawSameTable.j1 k y0 y1 y2 y3 y4) (spec_DrawSameTable.j1 (k + 1) y0 y1 y2 y3 y4))
 | 0 => ⟨fun _ _ _ _ _ _ r h => by simp [spec_DrawSameTable.j0] at h, fun _ _ _ _ _ r h => by simp [spec_DrawSameTable.j1] at h⟩
 | k + 1 => by
  obtain ⟨ih0, ih1⟩ := spec_DrawSameTable.mono_l k
  refine ⟨?_, ?_⟩
  ·intro y0 y1 y2 y3 y4 y5
   unfold spec_DrawSameTable.j0
   repeat' first
   | (with_reducible exact ih0 _ _ _ _ _ _)
   | (with_reducible exact ih1 _ _ _ _ _)
   | (with_reducible exact spec_l1New.mono _ _)
   | (with_reducible exact spec_l7All.mono _ _)
   | (with_reducible exact spec_l8Draw.mono _ _ _ _)
   | (with_reducible exact LeO.refl _)
   | (with_reducible exact LeO.none _)
   | (with_reducible refine LeO.ite ?_ ?_)
   | (with_reducible refine LeO.bind ?_ (fun _ => ?_))
   | exact ih0 _ _ _ _ _ _
   | exact ih1 _ _ _ _ _
   | exact spec_l1New.mono _ _
   | exact spec_l7All.mono _ _
   | exact spec_l8Draw.mono _ _ _ _
   | exact LeO.none _
   | refine LeO.ite ?_ ?_
   | refine LeO.bind ?_ (fun _ => ?_)
  ·intro y0 y1 y2 y3 y4
   unfold spec_DrawSameTable.j1
   repeat' first
   | (with_reducible exact ih0 _ _ _ _ _ _)
   | (with_reducible exact ih1 _ _ _ _ _)
   | (with_reducible exact spec_l1New.mono _ _)
   | (with_reducible exact spec_l7All.mono _ _)
   | (with_reducible exact spec_l8Draw.mono _ _ _ _)
   | (with_reducible exact LeO.refl _)
   | (with_reducible exact LeO.none _)
   | (with_reducible refine LeO.ite ?_ ?_)
   | (with_reducible refine LeO.bind ?_ (fun _ => ?_))
   | exact ih0 _ _ _ _ _ _
   | exact ih1 _ _ _ _ _
   | exact spec_l1New.mono _ _
   | exact spec_l7All.mono _ _
   | exact spec_l8Draw.mono _ _ _ _
   | exact LeO.none _
   | refine LeO.ite ?_ ?_
   | refine LeO.bind ?_ (fun _ => ?_)
theorem spec_DrawSameTable.mono : ∀ a0 k, LeO (spec_DrawSameTable.f k a0) (spec_DrawSameTable.f (k + 1) a0) := by
 intro a0 k
 obtain ⟨ih0, ih1⟩ := spec_DrawSameTable.mono_l k
 unfold spec_DrawSameTable.f
 repeat' first
   | (with_reducible exact ih0 _ _ _ _ _ _)
   | (with_reducible exact ih1 _ _ _ _ _)
   | (with_reducible exact spec_l1New.mono _ _)
   | (with_reducible exact spec_l7All.mono _ _)
   | (with_reducible exact spec_l8Draw.mono _ _ _ _)
   | (with_reducible exact LeO.refl _)
   | (with_reducible exact LeO.none _)
   | (with_reducible refine LeO.ite ?_ ?_)
   | (with_reducible refine LeO.bind ?_ (fun _ => ?_))
   | exact ih0 _ _ _ _ _ _
   | exact ih1 _ _ _ _ _
   | exact spec_l1New.mono _ _
   | exact spec_l7All.mono _ _
   | exact spec_l8Draw.mono _ _ _ _
   | exact LeO.none _
   | refine LeO.ite ?_ ?_
   | refine LeO.bind ?_ (fun _ => ?_)
set_option maxHeartbeats 8000000 in
set_option maxRecDepth 100000 in
theorem spec_DrawSameTable.calls (k : Nat) (A0 : Option Addr) (c0 : Nat) (l0 : List Int) (r1 : List (S48)) (r2 : List (S48)) (w : World) (hr0 : Kd.C (Kd.int .u8) w A0 l0.length l0) (hc0 : l0.length ≤ c0) (h : spec_DrawSameTable.f k l0 = some (r1, r2)) :
  Calls Try.prog 10 #[.slice A0 l0.length c0] w fun e w' => ∃ v0_ v1_ : Value, e = .returned (.tuple #[v0_, v1_]) ∧ Kd.S k48 48 w' w.heap.size (fun k_ => some k_ ≠ (v1_ : Value).ownBlock) v0_ r1 ∧ Kd.S k48 48 w' w.heap.size (fun k_ => some k_ ≠ (v0_ : Value).ownBlock) v1_ r2 ∧ Below w.heap.size w w' := by
 have HR0 := Aside0.mk hr0
 have HC0 := Aside0.mk hc0
 clear hr0 hc0
 have HB := Aside0.mk (Below.refl w.heap.size w)
 have H : ((spec_l1New.f k l0).bind fun bt510 => ((spec_l8Draw.f k bt510.1 bt510.2.1 bt510.2.2).bind fun bt514 => ((spec_l7All.f k bt514.1).bind fun t519 => (if (t519.length : Int) > 0 then ((spec_l1Once.f bt510.1 bt514.2.1 bt514.2.2 3).bind fun bt522 => (spec_DrawSameTable.j0 k bt514.1 t519 bt522.1 bt510.1 bt522.2.1 bt522.2.2)) else (spec_DrawSameTable.j0 k bt514.1 t519 false bt510.1 bt514.2.1 bt514.2.2))))) = some (r1, r2) := h
 clear h
 replace H := Option.bind_eq_some_iff.mp H
 obtain ⟨⟨t510, t511, t512⟩, A20, H⟩ := H
 try dsimp only at H
 have A2 := Aside0.mk A20
 clear A20
 replace H := Option.bind_eq_some_iff.mp H
 obtain ⟨⟨t514, t517, t518⟩, A30, H⟩ := H
 try dsimp only at H
 have A3 := Aside0.mk A30
 clear A30
 replace H := Option.bind_eq_some_iff.mp H
 obtain ⟨t519, A40, H⟩ := H
 try dsimp only at H
 have A4 := Aside0.mk A40
 clear A40
 have HC5 := Aside0.mk H
 clear H
 go_enter Try.func10, Try.ntmps10
 go_upto_region 4 with (first | ((with_reducible refine gate_callee (f := 25) rfl ?_); refine goesL_ (some 8) rfl rfl Try.func25 (by kernel_rfl) rfl #[.slice A0 l0.length c0] rfl q51t ?_; (with_reducible refine (spec_l1New.calls k _ _ l0 t510 t511 t512 w _ ?side1 ?side2 ?side3 A2.out).mono ?_); (case side1 => repeat (first | (with_reducible first | exact HB.out | apply below_alloc | apply pw_below_drewN | apply below_drew1) | exact HB.out)); (case side2 => exact HR0.out); (case side3 => exact HC0.out); rintro e w6 ⟨g513, rfl, hi, hb, hb2⟩; refine ⟨_, rfl, ?_⟩; replace HB := Aside0.mk (hb); have HI513 := Aside0.mk (hi); (try clear hb); (try clear hb2); (try clear hk); (try clear hi)) | ((with_reducible refine gate_callee (f := 26) rfl ?_); refine goesL_ (some 10) rfl rfl Try.func26 (by kernel_rfl) rfl #[.pointer (some ⟨g513, 0, none⟩)] rfl q51t ?_; (with_reducible refine (spec_l8Draw.calls k g513 t510 t511 t512 t514 t517 t518 w _ ?side1 ?side2 A3.out).mono ?_); (case side1 => repeat (first | (with_reducible first | exact HI513.out | apply IsS67.alloc | apply IsS67.drewN | apply IsS67.drew | apply IsS67.set_1 | apply IsS67.set_2) | exact HI513.out)); (case side2 => repeat (first | (with_reducible first | exact HB.out | apply below_alloc | apply pw_below_drewN | apply below_drew1 | refine below_set ?_ (IsS67.ge HI513.out)) | exact HB.out)); rintro e w7 ⟨v515, rfl, ho0, hi, hb, hk⟩; refine ⟨_, rfl, ?_⟩; have HO516 := Aside0.mk (Kd.S_lower ho0 (below_size q43t)); replace HB := Aside0.mk (hb); replace HI513 := Aside0.mk (hi); (try clear hb); (try clear hb2); (try clear hk); (try clear hi); (try clear ho0); obtain ⟨Ao8, co8, eo8⟩ := Kd.S_slice HO516.out; subst eo8) | ((with_reducible refine gate_callee (f := 33) rfl ?_); refine goesL_ (some 12) rfl rfl Try.func33 (by kernel_rfl) rfl #[.slice Ao8 t514.length co8] rfl q51t ?_; (with_reducible refine (spec_l7All.calls k _ _ t514 t519 _ ?side1 ?side2 A4.out).mono ?_); (case side1 => repeat (first | exact (Kd.S_reads' HO516.out).2.2 | (with_reducible refine Kd.C_alloc ?_ _) | (with_reducible refine Kd.C_drewN ?_ _) | (with_reducible refine Kd.C_drew ?_))); (case side2 => exact (Kd.S_reads' HO516.out).2.1); rintro e w9 ⟨v520, rfl, ho0, hb⟩; refine ⟨_, rfl, ?_⟩; have HO521 := Aside0.mk (Kd.S_lower (Kd.S_new' ho0 (Kd.S_lt (by (with_reducible repeat (first | apply Kd.S_alloc | apply Kd.S_drewN | apply Kd.S_drew)); exact HO516.out))) (below_size q43t)); replace HO516 := Aside0.mk (Kd.S_elder' (by (with_reducible repeat (first | apply Kd.S_alloc | apply Kd.S_drewN | apply Kd.S_drew)); exact HO516.out) (Kd.S_base ho0) hb); replace HB := Aside0.mk (below_step q43t hb); replace HI513 := Aside0.mk (IsS67.below q44t hb); (try clear hb); (try clear hb2); (try clear hk); (try clear hi); (try clear ho0)))
 (try simp only [Act.put, List.setIfInBounds_toArray, List.set_cons_zero, List.set_cons_succ])
 go_cut [19] (fun v19 wc => ∃ (kq : Nat) (x19_4 : Bool) (x514001_4 : Int) (x514002_4 : Int), v19 = .bool x19_4 ∧ Aside0 (spec_DrawSameTable.j0 kq t514 t519 x19_4 t510 x514001_4 x514002_4 = some (r1, r2)) ∧ Aside0 (kq ≤ k) ∧ Aside0 (Kd.S k48 48 wc w.heap.size (fun k_ => some k_ ≠ (v520 : Value).ownBlock) (.slice Ao8 t514.length co8) t514) ∧ Aside0 (Kd.S k48 48 wc w.heap.size (fun k_ => some k_ ≠ ((.slice Ao8 t514.length co8) : Value).ownBlock) v520 t519) ∧ Aside0 (IsS67 w wc g513 t510 x514001_4 x514002_4) ∧ Aside0 (Below w.heap.size w wc))
 case first =>
  have H := HC5.out
  clear HC5
  by_cases c10 : (t519.length : Int) > 0
  rotate_left
  ·rw [if_neg c10] at H
   have c10b0 : decide (0 < (t519.length : Int)) = false := decide_eq_false c10
   have c10b1 : decide (0 < t519.length) = false := decide_eq_false q86t
   clear c10
   (first | rw [c10b0] | (simp only [i64_w, i32_w]; rw [c10b0]) | rw [c10b1] | skip)
   have H' := Aside0.mk H
   clear H
   obtain ⟨Ao14, co14, eo14⟩ := Kd.S_slice HO521.out
   subst eo14
   go_wp2
   go_meet
   case rel => exact ⟨_, (false), (t517), (t518), q81t, H', ⟨q82t⟩, ⟨(by (with_reducible repeat (first | apply Kd.S_alloc | apply Kd.S_drewN | apply Kd.S_drew)); exact Kd.S_mono HO516.out (fun _ hk => hk.2))⟩, ⟨(by (with_reducible repeat (first | apply Kd.S_alloc | apply Kd.S_drewN | apply Kd.S_drew)); exact Kd.S_mono HO521.out (fun _ hk => hk.2))⟩, ⟨q44t⟩, ⟨q43t⟩⟩
  rw [if_pos c10] at H
  have c10b0 : decide (0 < (t519.length : Int)) = true := decide_eq_true c10
  have c10b1 : decide (0 < t519.length) = true := decide_eq_true q86t
  clear c10
  (first | rw [c10b0] | (simp only [i64_w, i32_w]; rw [c10b0]) | rw [c10b1] | skip)
  replace H := Option.bind_eq_some_iff.mp H
  obtain ⟨⟨t522, t523, t524⟩, A110, H⟩ := H
  try dsimp only at H
  have A11 := Aside0.mk A110
  clear A110
  have H' := Aside0.mk H
  clear H
  obtain ⟨Ao12, co12, eo12⟩ := Kd.S_slice HO521.out
  subst eo12
  go_wp2_with (first | (go_at_call 30; (with_reducible refine (spec_l1Once.calls g513 t510 t517 t518 3 t522 t523 t524 w _ ?side1 ?side2 A11.out).mono ?_); (case side1 => repeat (first | (with_reducible first | exact HI513.out | apply IsS67.alloc | apply IsS67.drewN | apply IsS67.drew | apply IsS67.set_1 | apply IsS67.set_2) | exact HI513.out)); (case side2 => repeat (first | (with_reducible first | exact HB.out | apply below_alloc | apply pw_below_drewN | apply below_drew1 | refine below_set ?_ (IsS67.ge HI513.out)) | exact HB.out)); rintro e w13 ⟨rfl, hi, hb, hk⟩; replace HO516 := Aside0.mk (Kd.S_mono (Kd.S_keep (IsS67.apartS (show IsS67 w _ g513 t510 t517 t518 from by repeat (first | (with_reducible first | exact HI513.out | apply IsS67.alloc | apply IsS67.drewN | apply IsS67.drew | apply IsS67.set_1 | apply IsS67.set_2) | exact HI513.out)) (by (with_reducible repeat (first | apply Kd.S_alloc | apply Kd.S_drewN | apply Kd.S_drew)); exact HO516.out) q85t) hk (fun _ h => h.2)) (fun _ h => h.1)); replace HO521 := Aside0.mk (Kd.S_mono (Kd.S_keep (IsS67.apartS (show IsS67 w _ g513 t510 t517 t518 from by repeat (first | (with_reducible first | exact HI513.out | apply IsS67.alloc | apply IsS67.drewN | apply IsS67.drew | apply IsS67.set_1 | apply IsS67.set_2) | exact HI513.out)) (by (with_reducible repeat (first | apply Kd.S_alloc | apply Kd.S_drewN | apply Kd.S_drew)); exact HO521.out) q85t) hk (fun _ h => h.2)) (fun _ h => h.1)); replace HB := Aside0.mk (hb); replace HI513 := Aside0.mk (hi); (try clear hb); (try clear hb2); (try clear hk); (try clear hi)))
  go_meet
  case rel => exact ⟨_, (t522), (t523), (t524), q81t, H', ⟨q82t⟩, ⟨(by (with_reducible repeat (first | apply Kd.S_alloc | apply Kd.S_drewN | apply Kd.S_drew)); exact Kd.S_mono HO516.out (fun _ hk => hk.2))⟩, ⟨(by (with_reducible repeat (first | apply Kd.S_alloc | apply Kd.S_drewN | apply Kd.S_drew)); exact Kd.S_mono HO521.out (fun _ hk => hk.2))⟩, ⟨q44t⟩, ⟨q43t⟩⟩
 case rest =>
  clear HC5
  try clear c1
  try clear c2
  try clear p2
  try clear c3
  try clear c10
  try clear c10b0
  try clear c10b1
  obtain ⟨kq, x19_4, x514001_4, x514002_4, rfl, HA, HJ4, HO_5, HO_6, HI513, HB⟩ := hcut
  cases kq with
  | zero => exact absurd HA.out (by simp [spec_DrawSameTable.j0])
  | succ kj4 =>
   have H := HA.out
   clear HA
   simp only [spec_DrawSameTable.j0] at H
   have HC15 := Aside0.mk H
   clear H
   go_upto_if 19 with (fail)
   go_cut [] (fun wc => ∃ (kq : Nat) (x6_14 : List (S48)), Aside0 (spec_DrawSameTable.j1 kq t514 x6_14 t510 x514001_4 x514002_4 = some (r1, r2)) ∧ Aside0 (kq ≤ kj4) ∧ Aside0 (Kd.S k48 48 wc w.heap.size (fun k_ => some k_ ≠ (v520 : Value).ownBlock) (.slice Ao8 t514.length co8) t514) ∧ Aside0 (Kd.S k48 48 wc w.heap.size (fun k_ => some k_ ≠ ((.slice Ao8 t514.length co8) : Value).ownBlock) v520 x6_14) ∧ Aside0 (IsS67 w wc g513 t510 x514001_4 x514002_4) ∧ Aside0 (Below w.heap.size w wc))
   case first =>
    have H := HC15.out
    clear HC15
    by_cases c16 : x19_4 = true
    rotate_left
    ·replace c16 := Bool.eq_false_iff.mpr c16
     subst c16
     rw [if_neg (show ¬ (false = true) by decide)] at H
     have H' := Aside0.mk H
     clear H
     go_wp2
     go_meet
     case rel => exact ⟨_, (t519), H', ⟨(by have := HJ4.out; first | omega | exact Nat.le_refl _)⟩, ⟨q71t⟩, ⟨q72t⟩, ⟨q44t⟩, ⟨q43t⟩⟩
    subst c16
    rw [if_pos rfl] at H
    by_cases c17 : 0 < (t519.length : Int)
    rotate_left
    ·rw [if_neg c17] at H
     exact absurd H q87t
    rw [if_pos c17] at H
    have c17b0 : decide (0 < (t519.length : Int)) = true := decide_eq_true c17
    have c17b1 : decide (0 < t519.length) = true := decide_eq_true q86t
    clear c17
    (first | rw [c17b0] | (simp only [i64_w, i32_w]; rw [c17b0]) | rw [c17b1] | skip)
    obtain ⟨y526, hy526⟩ : ∃ y_ : List (S48), y_ = (t519.set (0 : Int).toNat (⟨(rd_T48 t519 0).f0, wrap64 (((rd_T48 t519 0).f1) + 1), (rd_T48 t519 0).f2, (rd_T48 t519 0).f3, (rd_T48 t519 0).f4, (rd_T48 t519 0).f5, (rd_T48 t519 0).f6, (rd_T48 t519 0).f7, (rd_T48 t519 0).f8, (rd_T48 t519 0).f9, (rd_T48 t519 0).f10, (rd_T48 t519 0).f11, (rd_T48 t519 0).f12⟩ : S48)) := ⟨_, rfl⟩
    replace H : (spec_DrawSameTable.j1 kj4 t514 y526 t510 x514001_4 x514002_4) = some (r1, r2) := by first | (rw [hy526]; with_reducible exact H) | (have H2_ := (Option.bind_some _ _).symm.trans H; rw [hy526]; with_reducible exact H2_) | (have H2_ := (Option.bind_some _ _).symm.trans H; with_reducible exact H2_) | with_reducible exact H | (rw [hy526]; exact H) | exact H
    have Ny526 := Aside0.mk hy526
    clear hy526
    have H' := Aside0.mk H
    clear H
    obtain ⟨Ao19, co19, eo19⟩ := Kd.S_slice HO_6.out
    subst eo19
    have p525 : 0 ≤ (0 : Int) := (by omega)
    have q525 : 0 < (t519.length : Int) := of_decide_eq_true q76t
    obtain ⟨ad525, A525_8, c525_8, A525_11, c525_11, A525_12, c525_12, e525, hx525_0, hx525_1, hx525_2, hx525_3, hx525_4, hx525_5, hx525_6, hx525_7, hx525_8, hx525_9, hx525_10, hx525_11, hx525_12, hl525_8, hi525_8, hl525_11, hi525_11, hl525_12, hi525_12⟩ := at_T48 (Kd.S_reads' HO_6.out).2.2 0 p525 q525
    cases e525
    obtain ⟨ce525, hce525, hMe525, hcc525⟩ := Kd.S_get HO_6.out z48 0 p525 (by first | exact q525 | exact of_decide_eq_true q76t | (have e_ := (Kd.S_reads' HO_6.out).1; omega))
    obtain ⟨ve525_8, ve525_11, ve525_12, rfl, ge525_8, ge525_11, ge525_12⟩ := k48_openM hMe525
    have hv525_8 := hcc525 8 _ rfl
    rw [add_field _ _ 8 q86t] at hv525_8
    replace hv525_8 := Option.some.inj (hv525_8.symm.trans hx525_8)
    rw [hv525_8] at ge525_8
    have HL525_8 := Aside0.mk (show Kd.R (Kd.int .i64) 3 _ _ _ _ ((rd_T48 t519 0).f8) from ge525_8)
    clear hv525_8 ge525_8
    have hv525_11 := hcc525 11 _ rfl
    rw [add_field _ _ 11 q86t] at hv525_11
    replace hv525_11 := Option.some.inj (hv525_11.symm.trans hx525_11)
    rw [hv525_11] at ge525_11
    have HL525_11 := Aside0.mk (show Kd.R k74 74 _ _ _ _ ((rd_T48 t519 0).f11) from ge525_11)
    clear hv525_11 ge525_11
    have hv525_12 := hcc525 12 _ rfl
    rw [add_field _ _ 12 q86t] at hv525_12
    replace hv525_12 := Option.some.inj (hv525_12.symm.trans hx525_12)
    rw [hv525_12] at ge525_12
    have HL525_12 := Aside0.mk (show Kd.R (Kd.int .i64) 3 _ _ _ _ ((rd_T48 t519 0).f12) from ge525_12)
    clear hv525_12 ge525_12
    clear hcc525 hce525
    have qi525 : (0 < t519.length) = True := eq_true q86t
    (try rw [show ((0 : Int)).toNat = 0 from rfl] at hx525_0)
    (try rw [show 0 * 13 = 0 from rfl] at hx525_0)
    (try rw [Addr.add_zero'] at hx525_0)
    (try rw [show ((0 : Int)).toNat = 0 from rfl] at hx525_1)
    (try rw [show 0 * 13 = 0 from rfl] at hx525_1)
    (try rw [Addr.add_zero'] at hx525_1)
    (try rw [show ((0 : Int)).toNat = 0 from rfl] at hx525_2)
    (try rw [show 0 * 13 = 0 from rfl] at hx525_2)
    (try rw [Addr.add_zero'] at hx525_2)
    (try rw [show ((0 : Int)).toNat = 0 from rfl] at hx525_3)
    (try rw [show 0 * 13 = 0 from rfl] at hx525_3)
    (try rw [Addr.add_zero'] at hx525_3)
    (try rw [show ((0 : Int)).toNat = 0 from rfl] at hx525_4)
    (try rw [show 0 * 13 = 0 from rfl] at hx525_4)
    (try rw [Addr.add_zero'] at hx525_4)
    (try rw [show ((0 : Int)).toNat = 0 from rfl] at hx525_5)
    (try rw [show 0 * 13 = 0 from rfl] at hx525_5)
    (try rw [Addr.add_zero'] at hx525_5)
    (try rw [show ((0 : Int)).toNat = 0 from rfl] at hx525_6)
    (try rw [show 0 * 13 = 0 from rfl] at hx525_6)
    (try rw [Addr.add_zero'] at hx525_6)
    (try rw [show ((0 : Int)).toNat = 0 from rfl] at hx525_7)
    (try rw [show 0 * 13 = 0 from rfl] at hx525_7)
    (try rw [Addr.add_zero'] at hx525_7)
    (try rw [show ((0 : Int)).toNat = 0 from rfl] at hx525_8)
    (try rw [show 0 * 13 = 0 from rfl] at hx525_8)
    (try rw [Addr.add_zero'] at hx525_8)
    (try rw [show ((0 : Int)).toNat = 0 from rfl] at hx525_9)
    (try rw [show 0 * 13 = 0 from rfl] at hx525_9)
    (try rw [Addr.add_zero'] at hx525_9)
    (try rw [show ((0 : Int)).toNat = 0 from rfl] at hx525_10)
    (try rw [show 0 * 13 = 0 from rfl] at hx525_10)
    (try rw [Addr.add_zero'] at hx525_10)
    (try rw [show ((0 : Int)).toNat = 0 from rfl] at hx525_11)
    (try rw [show 0 * 13 = 0 from rfl] at hx525_11)
    (try rw [Addr.add_zero'] at hx525_11)
    (try rw [show ((0 : Int)).toNat = 0 from rfl] at hx525_12)
    (try rw [show 0 * 13 = 0 from rfl] at hx525_12)
    (try rw [Addr.add_zero'] at hx525_12)
    have HR525_8 := Aside0.mk hi525_8
    have HC525_8 := Aside0.mk hl525_8
    clear hi525_8 hl525_8
    have HR525_11 := Aside0.mk hi525_11
    have HC525_11 := Aside0.mk hl525_11
    clear hi525_11 hl525_11
    have HR525_12 := Aside0.mk hi525_12
    have HC525_12 := Aside0.mk hl525_12
    clear hi525_12 hl525_12
    replace p525 := eq_true p525
    replace q525 := eq_true q525
    have p18 : 0 ≤ (0 : Int) := (by omega)
    have q18 : (0 : Int) < ((t519.length : Int) : Int) := of_decide_eq_true q76t
    have qi18 : (0 < t519.length) = True := eq_true q86t
    obtain ⟨go18, co18, eo18, gb18, gl18, cl18, HG18⟩ := Kd.S_form HO_6.out q86t
    (first | cases eo18 | (injection eo18 with ea_ en_ ec_; (first | subst ea_ | (injection ea_ with ea_; subst ea_)); subst ec_; clear en_))
    have GB18 := Aside0.mk gb18
    have GG18 := Aside0.mk HG18
    clear gb18 gl18 HG18
    (first | simp only [add_plain] at hx525_0 | skip)
    (first | simp only [add_plain] at hx525_1 | skip)
    (first | simp only [add_plain] at hx525_2 | skip)
    (first | simp only [add_plain] at hx525_3 | skip)
    (first | simp only [add_plain] at hx525_4 | skip)
    (first | simp only [add_plain] at hx525_5 | skip)
    (first | simp only [add_plain] at hx525_6 | skip)
    (first | simp only [add_plain] at hx525_7 | skip)
    (first | simp only [add_plain] at hx525_8 | skip)
    (first | simp only [add_plain] at hx525_9 | skip)
    (first | simp only [add_plain] at hx525_10 | skip)
    (first | simp only [add_plain] at hx525_11 | skip)
    (first | simp only [add_plain] at hx525_12 | skip)
    obtain ⟨_, ce18, hcl18, hM18, hcc18, hfr18, _, _⟩ := Kd.S_elem HO_6.out z48 (0 : Int) p18 q18
    obtain ⟨ve18_8, ve18_11, ve18_12, rfl, ge18_8, ge18_11, ge18_12⟩ := k48_openM hM18
    have hx18_0 : wc.cell? ⟨go18, (0 : Int).toNat * 13, none⟩ = some (.int .i64 ((rd_T48 t519 0).f0)) := hcc18 0 _ rfl
    have hx18_1 : wc.cell? ⟨go18, (0 : Int).toNat * 13 + 1, none⟩ = some (.int .i64 ((rd_T48 t519 0).f1)) := hcc18 1 _ rfl
    have hx18_2 : wc.cell? ⟨go18, (0 : Int).toNat * 13 + 2, none⟩ = some (.int .i64 ((rd_T48 t519 0).f2)) := hcc18 2 _ rfl
    have hx18_3 : wc.cell? ⟨go18, (0 : Int).toNat * 13 + 3, none⟩ = some (.int .i64 ((rd_T48 t519 0).f3)) := hcc18 3 _ rfl
    have hx18_4 : wc.cell? ⟨go18, (0 : Int).toNat * 13 + 4, none⟩ = some (.int .i64 ((rd_T48 t519 0).f4)) := hcc18 4 _ rfl
    have hx18_5 : wc.cell? ⟨go18, (0 : Int).toNat * 13 + 5, none⟩ = some (.int .i64 ((rd_T48 t519 0).f5)) := hcc18 5 _ rfl
    have hx18_6 : wc.cell? ⟨go18, (0 : Int).toNat * 13 + 6, none⟩ = some (.int .i64 ((rd_T48 t519 0).f6)) := hcc18 6 _ rfl
    have hx18_7 : wc.cell? ⟨go18, (0 : Int).toNat * 13 + 7, none⟩ = some (.int .i64 ((rd_T48 t519 0).f7)) := hcc18 7 _ rfl
    have hx18_8 : wc.cell? ⟨go18, (0 : Int).toNat * 13 + 8, none⟩ = some (ve18_8) := hcc18 8 _ rfl
    have hx18_9 : wc.cell? ⟨go18, (0 : Int).toNat * 13 + 9, none⟩ = some (.int .i64 ((rd_T48 t519 0).f9)) := hcc18 9 _ rfl
    have hx18_10 : wc.cell? ⟨go18, (0 : Int).toNat * 13 + 10, none⟩ = some (.int .i64 ((rd_T48 t519 0).f10)) := hcc18 10 _ rfl
    have hx18_11 : wc.cell? ⟨go18, (0 : Int).toNat * 13 + 11, none⟩ = some (ve18_11) := hcc18 11 _ rfl
    have hx18_12 : wc.cell? ⟨go18, (0 : Int).toNat * 13 + 12, none⟩ = some (ve18_12) := hcc18 12 _ rfl
    have hf18_0 : wc.frozen? ⟨go18, (0 : Int).toNat * 13, none⟩ = false := hfr18 0
    have hf18_1 : wc.frozen? ⟨go18, (0 : Int).toNat * 13 + 1, none⟩ = false := hfr18 1
    have hf18_2 : wc.frozen? ⟨go18, (0 : Int).toNat * 13 + 2, none⟩ = false := hfr18 2
    have hf18_3 : wc.frozen? ⟨go18, (0 : Int).toNat * 13 + 3, none⟩ = false := hfr18 3
    have hf18_4 : wc.frozen? ⟨go18, (0 : Int).toNat * 13 + 4, none⟩ = false := hfr18 4
    have hf18_5 : wc.frozen? ⟨go18, (0 : Int).toNat * 13 + 5, none⟩ = false := hfr18 5
    have hf18_6 : wc.frozen? ⟨go18, (0 : Int).toNat * 13 + 6, none⟩ = false := hfr18 6
    have hf18_7 : wc.frozen? ⟨go18, (0 : Int).toNat * 13 + 7, none⟩ = false := hfr18 7
    have hf18_8 : wc.frozen? ⟨go18, (0 : Int).toNat * 13 + 8, none⟩ = false := hfr18 8
    have hf18_9 : wc.frozen? ⟨go18, (0 : Int).toNat * 13 + 9, none⟩ = false := hfr18 9
    have hf18_10 : wc.frozen? ⟨go18, (0 : Int).toNat * 13 + 10, none⟩ = false := hfr18 10
    have hf18_11 : wc.frozen? ⟨go18, (0 : Int).toNat * 13 + 11, none⟩ = false := hfr18 11
    have hf18_12 : wc.frozen? ⟨go18, (0 : Int).toNat * 13 + 12, none⟩ = false := hfr18 12
    clear hcl18 hcc18 hfr18 hM18
    (try rw [show ((0 : Int)).toNat = 0 from rfl] at hx18_0)
    (try simp only [Nat.reduceMul, Nat.zero_mul, Nat.zero_add, Nat.reduceAdd] at hx18_0)
    (try rw [show ((0 : Int)).toNat = 0 from rfl] at hf18_0)
    (try simp only [Nat.reduceMul, Nat.zero_mul, Nat.zero_add, Nat.reduceAdd] at hf18_0)
    (try rw [show ((0 : Int)).toNat = 0 from rfl] at hx18_1)
    (try simp only [Nat.reduceMul, Nat.zero_mul, Nat.zero_add, Nat.reduceAdd] at hx18_1)
    (try rw [show ((0 : Int)).toNat = 0 from rfl] at hf18_1)
    (try simp only [Nat.reduceMul, Nat.zero_mul, Nat.zero_add, Nat.reduceAdd] at hf18_1)
    (try rw [show ((0 : Int)).toNat = 0 from rfl] at hx18_2)
    (try simp only [Nat.reduceMul, Nat.zero_mul, Nat.zero_add, Nat.reduceAdd] at hx18_2)
    (try rw [show ((0 : Int)).toNat = 0 from rfl] at hf18_2)
    (try simp only [Nat.reduceMul, Nat.zero_mul, Nat.zero_add, Nat.reduceAdd] at hf18_2)
    (try rw [show ((0 : Int)).toNat = 0 from rfl] at hx18_3)
    (try simp only [Nat.reduceMul, Nat.zero_mul, Nat.zero_add, Nat.reduceAdd] at hx18_3)
    (try rw [show ((0 : Int)).toNat = 0 from rfl] at hf18_3)
    (try simp only [Nat.reduceMul, Nat.zero_mul, Nat.zero_add, Nat.reduceAdd] at hf18_3)
    (try rw [show ((0 : Int)).toNat = 0 from rfl] at hx18_4)
    (try simp only [Nat.reduceMul, Nat.zero_mul, Nat.zero_add, Nat.reduceAdd] at hx18_4)
    (try rw [show ((0 : Int)).toNat = 0 from rfl] at hf18_4)
    (try simp only [Nat.reduceMul, Nat.zero_mul, Nat.zero_add, Nat.reduceAdd] at hf18_4)
    (try rw [show ((0 : Int)).toNat = 0 from rfl] at hx18_5)
    (try simp only [Nat.reduceMul, Nat.zero_mul, Nat.zero_add, Nat.reduceAdd] at hx18_5)
    (try rw [show ((0 : Int)).toNat = 0 from rfl] at hf18_5)
    (try simp only [Nat.reduceMul, Nat.zero_mul, Nat.zero_add, Nat.reduceAdd] at hf18_5)
    (try rw [show ((0 : Int)).toNat = 0 from rfl] at hx18_6)
    (try simp only [Nat.reduceMul, Nat.zero_mul, Nat.zero_add, Nat.reduceAdd] at hx18_6)
    (try rw [show ((0 : Int)).toNat = 0 from rfl] at hf18_6)
    (try simp only [Nat.reduceMul, Nat.zero_mul, Nat.zero_add, Nat.reduceAdd] at hf18_6)
    (try rw [show ((0 : Int)).toNat = 0 from rfl] at hx18_7)
    (try simp only [Nat.reduceMul, Nat.zero_mul, Nat.zero_add, Nat.reduceAdd] at hx18_7)
    (try rw [show ((0 : Int)).toNat = 0 from rfl] at hf18_7)
    (try simp only [Nat.reduceMul, Nat.zero_mul, Nat.zero_add, Nat.reduceAdd] at hf18_7)
    (try rw [show ((0 : Int)).toNat = 0 from rfl] at hx18_8)
    (try simp only [Nat.reduceMul, Nat.zero_mul, Nat.zero_add, Nat.reduceAdd] at hx18_8)
    (try rw [show ((0 : Int)).toNat = 0 from rfl] at hf18_8)
    (try simp only [Nat.reduceMul, Nat.zero_mul, Nat.zero_add, Nat.reduceAdd] at hf18_8)
    (try rw [show ((0 : Int)).toNat = 0 from rfl] at hx18_9)
    (try simp only [Nat.reduceMul, Nat.zero_mul, Nat.zero_add, Nat.reduceAdd] at hx18_9)
    (try rw [show ((0 : Int)).toNat = 0 from rfl] at hf18_9)
    (try simp only [Nat.reduceMul, Nat.zero_mul, Nat.zero_add, Nat.reduceAdd] at hf18_9)
    (try rw [show ((0 : Int)).toNat = 0 from rfl] at hx18_10)
    (try simp only [Nat.reduceMul, Nat.zero_mul, Nat.zero_add, Nat.reduceAdd] at hx18_10)
    (try rw [show ((0 : Int)).toNat = 0 from rfl] at hf18_10)
    (try simp only [Nat.reduceMul, Nat.zero_mul, Nat.zero_add, Nat.reduceAdd] at hf18_10)
    (try rw [show ((0 : Int)).toNat = 0 from rfl] at hx18_11)
    (try simp only [Nat.reduceMul, Nat.zero_mul, Nat.zero_add, Nat.reduceAdd] at hx18_11)
    (try rw [show ((0 : Int)).toNat = 0 from rfl] at hf18_11)
    (try simp only [Nat.reduceMul, Nat.zero_mul, Nat.zero_add, Nat.reduceAdd] at hf18_11)
    (try rw [show ((0 : Int)).toNat = 0 from rfl] at hx18_12)
    (try simp only [Nat.reduceMul, Nat.zero_mul, Nat.zero_add, Nat.reduceAdd] at hx18_12)
    (try rw [show ((0 : Int)).toNat = 0 from rfl] at hf18_12)
    (try simp only [Nat.reduceMul, Nat.zero_mul, Nat.zero_add, Nat.reduceAdd] at hf18_12)
    replace p18 := eq_true p18
    replace q18 := eq_true q18
    have HX20 := Aside0.mk (show Kd.S k48 48 wc w.heap.size (fun k_ => ((fun k_ => some k_ ≠ (.slice Ao8 t514.length co8 : Value).ownBlock)) k_ ∧ ¬ ((fun _ => False)) k_) (.slice (some ⟨go18, 0, none⟩) t519.length co19) t519 from (by (with_reducible repeat (first | apply Kd.S_alloc | apply Kd.S_drewN | apply Kd.S_drew)); exact Kd.S_mono HO_6.out (fun k_ hk => ⟨hk, fun e_ => e_⟩)))
    obtain ⟨oki20, ce20, hcl20, hM20, hcc20, hfr20, hoki20, hH20⟩ := Kd.S_elem HX20.out z48 (0 : Int) q86t (by have h_ : (0 : Int) < ((t519.length : Int) : Int) := of_decide_eq_true q76t; first | exact h_ | (have e_ := (Kd.S_reads' HO_6.out).1; omega) | simpa using h_)
    obtain ⟨ve20_8, ve20_11, ve20_12, rfl, ge20_8, ge20_11, ge20_12⟩ := k48_openM hM20
    have HP20 := Kd.S_seg hH20 q86t (by have h_ : (0 : Int) < ((t519.length : Int) : Int) := of_decide_eq_true q76t; first | exact h_ | (have e_ := (Kd.S_reads' HO_6.out).1; omega) | simpa using h_) (seg := [.int .i64 (wrap64 (((rd_T48 t519 0).f1) + 1))]) (j := 1) (show 2 ≤ 13 from by decide) (x' := (⟨(rd_T48 t519 0).f0, wrap64 (((rd_T48 t519 0).f1) + 1), (rd_T48 t519 0).f2, (rd_T48 t519 0).f3, (rd_T48 t519 0).f4, (rd_T48 t519 0).f5, (rd_T48 t519 0).f6, (rd_T48 t519 0).f7, (rd_T48 t519 0).f8, (rd_T48 t519 0).f9, (rd_T48 t519 0).f10, (rd_T48 t519 0).f11, (rd_T48 t519 0).f12⟩ : S48)) (k48_mkM _ _ _ (⟨(rd_T48 t519 0).f0, wrap64 (((rd_T48 t519 0).f1) + 1), (rd_T48 t519 0).f2, (rd_T48 t519 0).f3, (rd_T48 t519 0).f4, (rd_T48 t519 0).f5, (rd_T48 t519 0).f6, (rd_T48 t519 0).f7, (rd_T48 t519 0).f8, (rd_T48 t519 0).f9, (rd_T48 t519 0).f10, (rd_T48 t519 0).f11, (rd_T48 t519 0).f12⟩ : S48) (Kd.R_mono ge20_8 (fun _ h_ => Or.inl h_)) (Kd.R_mono ge20_11 (fun _ h_ => Or.inl h_)) (Kd.R_mono ge20_12 (fun _ h_ => Or.inl h_))) (fun _ hk => hk) (fun k_ hk_ => hk_.elim)
    have hx20_1 := hcc20 1 _ rfl
    (try simp only [show (k48).sz = 13 from rfl, Nat.mul_one, Nat.add_zero] at hx20_1)
    (try rw [show ((0 : Int)).toNat = 0 from rfl] at hx20_1)
    (try simp only [Nat.reduceMul, Nat.zero_mul, Nat.zero_add, Nat.reduceAdd] at hx20_1)
    have hf20_1 := hfr20 1
    (try simp only [show (k48).sz = 13 from rfl, Nat.mul_one, Nat.add_zero] at hf20_1)
    (try rw [show ((0 : Int)).toNat = 0 from rfl] at hf20_1)
    (try simp only [Nat.reduceMul, Nat.zero_mul, Nat.zero_add, Nat.reduceAdd] at hf20_1)
    clear hcl20 hcc20 hfr20 hM20 hoki20 hH20
    go_wp2_with (first | ((with_reducible refine gate_store (t := 3) (p := 27) rfl ?_); refine store_event (t := 3) (p := 27) (v := ?vo_w21) (w1 := (wc.setCell ⟨go18, 1, none⟩ (.int .i64 (wrap64 (((rd_T48 t519 0).f1) + 1))))) ?hg ?ho ?hn ?hr ?_; (case ho => rfl); (case hg => rfl); (case hn => rfl); (case hr => first | (go_simp; done) | (go_simp; rfl)); intro w21 hw; have hg : wc.grownBy w21 (some go18) := (by rw [hw]; exact HP20.2); have hp_ : Kd.S k48 48 w21 w.heap.size (fun k_ => some k_ ≠ (.slice Ao8 t514.length co8 : Value).ownBlock) (.slice (some ⟨go18, 0, none⟩) t519.length co19) y526 := (by rw [hw, Ny526.out]; exact HP20.1); clear HP20; replace HO_5 := Aside0.mk (Kd.S_after (v := (.slice (some ⟨go18, 0, none⟩) t519.length co19)) (v1 := (.slice (some ⟨go18, 0, none⟩) t519.length co19)) (ok := (fun _ => True)) (by (with_reducible repeat (first | apply Kd.S_alloc | apply Kd.S_drewN | apply Kd.S_drew)); exact Kd.S_mono HO_5.out (fun _ hk => ⟨trivial, hk⟩)) hg (.inl rfl)); replace HI513 := Aside0.mk (IsS67.grown q44t hg (IsS67.own_neS HI513.out HO_6.out q85t)); replace HO_6 := Aside0.mk (hp_); replace HL525_8 := Aside0.mk (Kd.R_after (v := (.slice (some ⟨go18, 0, none⟩) t519.length co19)) (v1 := (.slice (some ⟨go18, 0, none⟩) t519.length co19)) (ok := (fun k_ => some k_ ≠ (.slice Ao8 t514.length co8 : Value).ownBlock)) (by (with_reducible repeat (first | apply Kd.R_alloc | apply Kd.R_drewN | apply Kd.R_drew)); exact HL525_8.out) hg (.inl rfl)); replace HL525_11 := Aside0.mk (Kd.R_after (v := (.slice (some ⟨go18, 0, none⟩) t519.length co19)) (v1 := (.slice (some ⟨go18, 0, none⟩) t519.length co19)) (ok := (fun k_ => some k_ ≠ (.slice Ao8 t514.length co8 : Value).ownBlock)) (by (with_reducible repeat (first | apply Kd.R_alloc | apply Kd.R_drewN | apply Kd.R_drew)); exact HL525_11.out) hg (.inl rfl)); replace HL525_12 := Aside0.mk (Kd.R_after (v := (.slice (some ⟨go18, 0, none⟩) t519.length co19)) (v1 := (.slice (some ⟨go18, 0, none⟩) t519.length co19)) (ok := (fun k_ => some k_ ≠ (.slice Ao8 t514.length co8 : Value).ownBlock)) (by (with_reducible repeat (first | apply Kd.R_alloc | apply Kd.R_drewN | apply Kd.R_drew)); exact HL525_12.out) hg (.inl rfl)); replace HB := Aside0.mk ((by rw [hw]; exact below_set (HB.out) GB18.out : Below w.heap.size w w21)); clear hg hw hp_))
    go_meet
    case rel => exact ⟨_, (y526), H', ⟨(by have := HJ4.out; first | omega | exact Nat.le_refl _)⟩, ⟨(by (with_reducible repeat (first | apply Kd.S_alloc | apply Kd.S_drewN | apply Kd.S_drew)); exact Kd.S_mono HO_5.out (fun _ hk => hk.2))⟩, ⟨q72t⟩, ⟨q44t⟩, ⟨q43t⟩⟩
   case rest =>
    clear HC15
    try clear c1
    try clear p1
    try clear q1
    try clear hx1
    try clear qi1
    try clear hf1
    try clear c2
    try clear p2
    try clear p2
    try clear hx2
    try clear hf2
    try clear c3
    try clear c5
    try clear p5
    try clear q5
    try clear hx5
    try clear qi5
    try clear p6
    try clear c10
    try clear c10b0
    try clear c10b1
    try clear c16
    try clear c17
    try clear c17b0
    try clear c17b1
    try clear c18
    try clear p18
    try clear p18
    try clear q18
    try clear q18
    try clear hx18
    try clear hx18_0
    try clear hx18_1
    try clear hx18_10
    try clear hx18_11
    try clear hx18_12
    try clear hx18_2
    try clear hx18_3
    try clear hx18_4
    try clear hx18_5
    try clear hx18_6
    try clear hx18_7
    try clear hx18_8
    try clear hx18_9
    try clear qi18
    try clear hf18
    try clear c20
    try clear hx20
    try clear hx20_1
    try clear hf20
    try clear hx525_0
    try clear hx525_1
    try clear hx525_10
    try clear hx525_11
    try clear hx525_12
    try clear hx525_2
    try clear hx525_3
    try clear hx525_4
    try clear hx525_5
    try clear hx525_6
    try clear hx525_7
    try clear hx525_8
    try clear hx525_9
    try clear p525
    try clear q525
    obtain ⟨kq, x6_14, HA, HJ14, HO_5, HO_6, HI513, HB⟩ := hcut
    cases kq with
    | zero => exact absurd HA.out (by simp [spec_DrawSameTable.j1])
    | succ kj14 =>
     have H := HA.out
     clear HA
     simp only [spec_DrawSameTable.j1] at H
     replace H := Option.bind_eq_some_iff.mp H
     obtain ⟨⟨t527, t528, t529⟩, A220, H⟩ := H
     try dsimp only at H
     have A22 := Aside0.mk A220
     clear A220
     by_cases c23 : t527 = true
     ·subst c23
      rw [if_pos rfl] at H
      replace H := Option.bind_eq_some_iff.mp H
      obtain ⟨⟨t530, t533, t534⟩, A240, H⟩ := H
      try dsimp only at H
      have A24 := Aside0.mk A240
      clear A240
      simp only [Option.some.injEq, Prod.mk.injEq] at H
      obtain ⟨rfl, rfl⟩ := H
      go_wp2_with (first | ((with_reducible refine gate_callee (f := 30) rfl ?_); refine goesL_ (some 29) rfl rfl Try.func30 (by kernel_rfl) rfl #[.pointer (some ⟨g513, 0, none⟩), .int .i64 4] rfl q51t ?_; (with_reducible refine (spec_l1Once.calls g513 t510 x514001_4 x514002_4 4 true t528 t529 w _ ?side1 ?side2 A22.out).mono ?_); (case side1 => repeat (first | (with_reducible first | exact HI513.out | apply IsS67.alloc | apply IsS67.drewN | apply IsS67.drew | apply IsS67.set_1 | apply IsS67.set_2) | exact HI513.out)); (case side2 => repeat (first | (with_reducible first | exact HB.out | apply below_alloc | apply pw_below_drewN | apply below_drew1 | refine below_set ?_ (IsS67.ge HI513.out)) | exact HB.out)); rintro e w25 ⟨rfl, hi, hb, hk⟩; refine ⟨_, rfl, ?_⟩; replace HO_5 := Aside0.mk (Kd.S_mono (Kd.S_keep (IsS67.apartS (show IsS67 w _ g513 t510 x514001_4 x514002_4 from by repeat (first | (with_reducible first | exact HI513.out | apply IsS67.alloc | apply IsS67.drewN | apply IsS67.drew | apply IsS67.set_1 | apply IsS67.set_2) | exact HI513.out)) q71t q85t) hk (fun _ h => h.2)) (fun _ h => h.1)); replace HO_6 := Aside0.mk (Kd.S_mono (Kd.S_keep (IsS67.apartS (show IsS67 w _ g513 t510 x514001_4 x514002_4 from by repeat (first | (with_reducible first | exact HI513.out | apply IsS67.alloc | apply IsS67.drewN | apply IsS67.drew | apply IsS67.set_1 | apply IsS67.set_2) | exact HI513.out)) q72t q85t) hk (fun _ h => h.2)) (fun _ h => h.1)); replace HB := Aside0.mk (hb); replace HI513 := Aside0.mk (hi); (try clear hb); (try clear hb2); (try clear hk); (try clear hi)) | ((with_reducible refine gate_callee (f := 26) rfl ?_); refine goesL_ (some 31) rfl rfl Try.func26 (by kernel_rfl) rfl #[.pointer (some ⟨g513, 0, none⟩)] rfl q51t ?_; (with_reducible refine (spec_l8Draw.calls kj14 g513 t510 t528 t529 t530 t533 t534 w _ ?side1 ?side2 A24.out).mono ?_); (case side1 => repeat (first | (with_reducible first | exact HI513.out | apply IsS67.alloc | apply IsS67.drewN | apply IsS67.drew | apply IsS67.set_1 | apply IsS67.set_2) | exact HI513.out)); (case side2 => repeat (first | (with_reducible first | exact HB.out | apply below_alloc | apply pw_below_drewN | apply below_drew1 | refine below_set ?_ (IsS67.ge HI513.out)) | exact HB.out)); rintro e w26 ⟨v531, rfl, ho0, hi, hb, hk⟩; refine ⟨_, rfl, ?_⟩; have HO532 := Aside0.mk (Kd.S_lower (Kd.S_new' (Kd.S_new' ho0 (Kd.S_lt q71t)) (Kd.S_lt q72t)) (below_size q43t)); replace HO_5 := Aside0.mk (Kd.S_mono (Kd.S_told (Kd.S_oldK (IsS67.apartS (show IsS67 w _ g513 t510 t528 t529 from by repeat (first | (with_reducible first | exact HI513.out | apply IsS67.alloc | apply IsS67.drewN | apply IsS67.drew | apply IsS67.set_1 | apply IsS67.set_2) | exact HI513.out)) q71t q85t) hk) (Kd.S_base ho0)) (fun _ h_ => h_.1)); replace HO_6 := Aside0.mk (Kd.S_mono (Kd.S_told (Kd.S_oldK (IsS67.apartS (show IsS67 w _ g513 t510 t528 t529 from by repeat (first | (with_reducible first | exact HI513.out | apply IsS67.alloc | apply IsS67.drewN | apply IsS67.drew | apply IsS67.set_1 | apply IsS67.set_2) | exact HI513.out)) q72t q85t) hk) (Kd.S_base ho0)) (fun _ h_ => h_.1)); replace HB := Aside0.mk (hb); replace HI513 := Aside0.mk (hi); (try clear hb); (try clear hb2); (try clear hk); (try clear hi); (try clear ho0)))
      go_ret2
      exact ⟨_, _, q73t, (by (with_reducible repeat (first | apply Kd.S_alloc | apply Kd.S_drewN | apply Kd.S_drew)); exact Kd.S_mono HO_5.out (fun _ hk => hk.2)), (by (with_reducible repeat (first | apply Kd.S_alloc | apply Kd.S_drewN | apply Kd.S_drew)); exact Kd.S_mono HO532.out (fun _ hk => hk.1.2)), q43t⟩
     replace c23 := Bool.eq_false_iff.mpr c23
     subst c23
     rw [if_neg (show ¬ (false = true) by decide)] at H
     simp only [Option.some.injEq, Prod.mk.injEq] at H
     obtain ⟨rfl, rfl⟩ := H
     go_wp2_with (first | ((with_reducible refine gate_callee (f := 30) rfl ?_); refine goesL_ (some 29) rfl rfl Try.func30 (by kernel_rfl) rfl #[.pointer (some ⟨g513, 0, none⟩), .int .i64 4] rfl q51t ?_; (with_reducible refine (spec_l1Once.calls g513 t510 x514001_4 x514002_4 4 false t528 t529 w _ ?side1 ?side2 A22.out).mono ?_); (case side1 => repeat (first | (with_reducible first | exact HI513.out | apply IsS67.alloc | apply IsS67.drewN | apply IsS67.drew | apply IsS67.set_1 | apply IsS67.set_2) | exact HI513.out)); (case side2 => repeat (first | (with_reducible first | exact HB.out | apply below_alloc | apply pw_below_drewN | apply below_drew1 | refine below_set ?_ (IsS67.ge HI513.out)) | exact HB.out)); rintro e w27 ⟨rfl, hi, hb, hk⟩; refine ⟨_, rfl, ?_⟩; replace HO_5 := Aside0.mk (Kd.S_mono (Kd.S_keep (IsS67.apartS (show IsS67 w _ g513 t510 x514001_4 x514002_4 from by repeat (first | (with_reducible first | exact HI513.out | apply IsS67.alloc | apply IsS67.drewN | apply IsS67.drew | apply IsS67.set_1 | apply IsS67.set_2) | exact HI513.out)) q71t q85t) hk (fun _ h => h.2)) (fun _ h => h.1)); replace HO_6 := Aside0.mk (Kd.S_mono (Kd.S_keep (IsS67.apartS (show IsS67 w _ g513 t510 x514001_4 x514002_4 from by repeat (first | (with_reducible first | exact HI513.out | apply IsS67.alloc | apply IsS67.drewN | apply IsS67.drew | apply IsS67.set_1 | apply IsS67.set_2) | exact HI513.out)) q72t q85t) hk (fun _ h => h.2)) (fun _ h => h.1)); replace HB := Aside0.mk (hb); replace HI513 := Aside0.mk (hi); (try clear hb); (try clear hb2); (try clear hk); (try clear hi)))
     go_ret2
     exact ⟨_, _, q73t, q71t, q72t, q43t⟩

/-! ### spec_DrawHandleAt: function 11 -/
def spec_DrawHandleAt.f (k : Nat) (l0 : List Int) : Option ((List (S48)) × Int) := (spec_l1New.f k l0).bind fun bt535 => ((spec_l8Draw.f k bt535.1 bt535.2.1 bt535.2.2).bind fun bt539 => ((spec_l1Below.f bt535.1 bt539.2.1 bt539.2.2 6).bind fun bt544 => (some (bt539.1, wrap64 (bt544.1 - 1)))))
theorem spec_DrawHandleAt.mono : ∀ a0 k, LeO (spec_DrawHandleAt.f k a0) (spec_DrawHandleAt.f (k + 1) a0) := by
 intro a0 k
 unfold spec_DrawHandleAt.f
 repeat' first
   | (with_reducible exact spec_l1New.mono _ _)
   | (with_reducible exact spec_l8Draw.mono _ _ _ _)
   | (with_reducible exact LeO.refl _)
   | (with_reducible exact LeO.none _)
   | (with_reducible refine LeO.ite ?_ ?_)
   | (with_reducible refine LeO.bind ?_ (fun _ => ?_))
   | exact spec_l1New.mono _ _
   | exact spec_l8Draw.mono _ _ _ _
   | exact LeO.none _
   | refine LeO.ite ?_ ?_
   | refine LeO.bind ?_ (fun _ => ?_)
set_option maxHeartbeats 8000000 in
set_option maxRecDepth 100000 in
theorem spec_DrawHandleAt.calls (k : Nat) (A0 : Option Addr) (c0 : Nat) (l0 : List Int) (r1 : List (S48)) (r2 : Int) (w : World) (hr0 : Kd.C (Kd.int .u8) w A0 l0.length l0) (hc0 : l0.length ≤ c0) (h : spec_DrawHandleAt.f k l0 = some (r1, r2)) :
  Calls Try.prog 11 #[.slice A0 l0.length c0] w fun e w' => ∃ v0_ : Value, e = .returned (.tuple #[v0_, .int .i64 r2]) ∧ Kd.S k48 48 w' w.heap.size (fun _ => True) v0_ r1 ∧ Below w.heap.size w w' := by
 have HR0 := Aside0.mk hr0
 have HC0 := Aside0.mk hc0
 clear hr0 hc0
 have HB := Aside0.mk (Below.refl w.heap.size w)
 have H : ((spec_l1New.f k l0).bind fun bt535 => ((spec_l8Draw.f k bt535.1 bt535.2.1 bt535.2.2).bind fun bt539 => ((spec_l1Below.f bt535.1 bt539.2.1 bt539.2.2 6).bind fun bt544 => (some (bt539.1, wrap64 (bt544.1 - 1)))))) = some (r1, r2) := h
 clear h
 replace H := Option.bind_eq_some_iff.mp H
 obtain ⟨⟨t535, t536, t537⟩, A20, H⟩ := H
 try dsimp only at H
 have A2 := Aside0.mk A20
 clear A20
 replace H := Option.bind_eq_some_iff.mp H
 obtain ⟨⟨t539, t542, t543⟩, A30, H⟩ := H
 try dsimp only at H
 have A3 := Aside0.mk A30
 clear A30
 replace H := Option.bind_eq_some_iff.mp H
 obtain ⟨⟨t544, t545, t546⟩, A40, H⟩ := H
 try dsimp only at H
 have A4 := Aside0.mk A40
 clear A40
 simp only [Option.some.injEq, Prod.mk.injEq] at H
 obtain ⟨rfl, rfl⟩ := H
 go_enter Try.func11, Try.ntmps11
 go_wp2_with (first | ((with_reducible refine gate_callee (f := 25) rfl ?_); refine goesL_ (some 7) rfl rfl Try.func25 (by kernel_rfl) rfl #[.slice A0 l0.length c0] rfl q51t ?_; (with_reducible refine (spec_l1New.calls k _ _ l0 t535 t536 t537 w _ ?side1 ?side2 ?side3 A2.out).mono ?_); (case side1 => repeat (first | (with_reducible first | exact HB.out | apply below_alloc | apply pw_below_drewN | apply below_drew1) | exact HB.out)); (case side2 => exact HR0.out); (case side3 => exact HC0.out); rintro e w5 ⟨g538, rfl, hi, hb, hb2⟩; refine ⟨_, rfl, ?_⟩; replace HB := Aside0.mk (hb); have HI538 := Aside0.mk (hi); (try clear hb); (try clear hb2); (try clear hk); (try clear hi)) | ((with_reducible refine gate_callee (f := 26) rfl ?_); refine goesL_ (some 9) rfl rfl Try.func26 (by kernel_rfl) rfl #[.pointer (some ⟨g538, 0, none⟩)] rfl q51t ?_; (with_reducible refine (spec_l8Draw.calls k g538 t535 t536 t537 t539 t542 t543 w _ ?side1 ?side2 A3.out).mono ?_); (case side1 => repeat (first | (with_reducible first | exact HI538.out | apply IsS67.alloc | apply IsS67.drewN | apply IsS67.drew | apply IsS67.set_1 | apply IsS67.set_2) | exact HI538.out)); (case side2 => repeat (first | (with_reducible first | exact HB.out | apply below_alloc | apply pw_below_drewN | apply below_drew1 | refine below_set ?_ (IsS67.ge HI538.out)) | exact HB.out)); rintro e w6 ⟨v540, rfl, ho0, hi, hb, hk⟩; refine ⟨_, rfl, ?_⟩; have HO541 := Aside0.mk (Kd.S_lower ho0 (below_size (by repeat (first | (with_reducible first | exact HB.out | apply below_alloc | apply pw_below_drewN | apply below_drew1 | refine below_set ?_ (IsS67.ge HI538.out)) | exact HB.out)))); replace HB := Aside0.mk (hb); replace HI538 := Aside0.mk (hi); (try clear hb); (try clear hb2); (try clear hk); (try clear hi); (try clear ho0)) | ((with_reducible refine gate_callee (f := 27) rfl ?_); refine goesL_ (some 12) rfl rfl Try.func27 (by kernel_rfl) rfl #[.pointer (some ⟨g538, 0, none⟩), .int .i64 6] rfl q51t ?_; (with_reducible refine (spec_l1Below.calls g538 t535 t542 t543 6 t544 t545 t546 w _ ?side1 ?side2 A4.out).mono ?_); (case side1 => repeat (first | (with_reducible first | exact HI538.out | apply IsS67.alloc | apply IsS67.drewN | apply IsS67.drew | apply IsS67.set_1 | apply IsS67.set_2) | exact HI538.out)); (case side2 => repeat (first | (with_reducible first | exact HB.out | apply below_alloc | apply pw_below_drewN | apply below_drew1 | refine below_set ?_ (IsS67.ge HI538.out)) | exact HB.out)); rintro e w7 ⟨rfl, hi, hb, hk⟩; refine ⟨_, rfl, ?_⟩; replace HO541 := Aside0.mk (Kd.S_mono (Kd.S_keep (IsS67.apartS (show IsS67 w _ g538 t535 t542 t543 from by repeat (first | (with_reducible first | exact HI538.out | apply IsS67.alloc | apply IsS67.drewN | apply IsS67.drew | apply IsS67.set_1 | apply IsS67.set_2) | exact HI538.out)) (by (with_reducible repeat (first | apply Kd.S_alloc | apply Kd.S_drewN | apply Kd.S_drew)); exact HO541.out) q85t) hk (fun _ h => h.2)) (fun _ h => h.1)); replace HB := Aside0.mk (hb); replace HI538 := Aside0.mk (hi); (try clear hb); (try clear hb2); (try clear hk); (try clear hi)))
 go_ret2
 exact ⟨_, q73t, (by (with_reducible repeat (first | apply Kd.S_alloc | apply Kd.S_drewN | apply Kd.S_drew)); exact HO541.out), (by repeat (first | (with_reducible first | exact HB.out | apply below_alloc | apply pw_below_drewN | apply below_drew1 | refine below_set ?_ (IsS67.ge HI538.out)) | exact HB.out))⟩

/-! ### laws_sameInts: function 53 -/
def laws_sameInts.l0 : Nat → List Int → List Int → Int → Option (Bool)
 | 0, _, _, _ => none
 | k + 1, x0, x1, x5 => if x5 < (x0.length : Int) then (if 0 ≤ x5 then (if x5 < (x1.length : Int) then (if (rd x0 x5) = (rd x1 x5) then (laws_sameInts.l0 k x0 x1 (wrap64 (x5 + 1))) else (some false)) else (none)) else (none)) else (some true)
def laws_sameInts.f (k : Nat) (l0 : List Int) (l1 : List Int) : Option (Bool) := if (l0.length : Int) = (l1.length : Int) then (laws_sameInts.l0 k l0 l1 0) else (some false)
theorem laws_sameInts.mono_l : ∀ k, (∀ y0 y1 y2, LeO (laws_sameInts.l0 k y0 y1 y2) (laws_sameInts.l0 (k + 1) y0 y1 y2))
 | 0 => fun _ _ _ r h => by simp [laws_sameInts.l0] at h
 | k + 1 => by
  have ih0 := laws_sameInts.mono_l k
  ·intro y0 y1 y2
   unfold laws_sameInts.l0
   repeat' first
   | (with_reducible exact ih0 _ _ _)
   | (with_reducible exact LeO.refl _)
   | (with_reducible exact LeO.none _)
   | (with_reducible refine LeO.ite ?_ ?_)
   | (with_reducible refine LeO.bind ?_ (fun _ => ?_))
   | exact ih0 _ _ _
   | exact LeO.none _
   | refine LeO.ite ?_ ?_
   | refine LeO.bind ?_ (fun _ => ?_)
theorem laws_sameInts.mono : ∀ a0 a1 k, LeO (laws_sameInts.f k a0 a1) (laws_sameInts.f (k + 1) a0 a1) := by
 intro a0 a1 k
 have ih0 := laws_sameInts.mono_l k
 unfold laws_sameInts.f
 repeat' first
   | (with_reducible exact ih0 _ _ _)
   | (with_reducible exact LeO.refl _)
   | (with_reducible exact LeO.none _)
   | (with_reducible refine LeO.ite ?_ ?_)
   | (with_reducible refine LeO.bind ?_ (fun _ => ?_))
   | exact ih0 _ _ _
   | exact LeO.none _
   | refine LeO.ite ?_ ?_
   | refine LeO.bind ?_ (fun _ => ?_)
set_option maxHeartbeats 8000000 in
set_option maxRecDepth 100000 in
theorem laws_sameInts.calls (k : Nat) (A0 : Option Addr) (c0 : Nat) (l0 : List Int) (A1 : Option Addr) (c1 : Nat) (l1 : List Int) (r : Bool) (w : World) (hr0 : Kd.C (Kd.int .i64) w A0 l0.length l0) (hc0 : l0.length ≤ c0) (hr1 : Kd.C (Kd.int .i64) w A1 l1.length l1) (hc1 : l1.length ≤ c1) (h : laws_sameInts.f k l0 l1 = some r) :
  Calls Try.prog 53 #[.slice A0 l0.length c0, .slice A1 l1.length c1] w fun e w' => e = .returned (.bool r) ∧ Drawn0 w w' := by
 have HR0 := Aside0.mk hr0
 have HC0 := Aside0.mk hc0
 clear hr0 hc0
 have HR1 := Aside0.mk hr1
 have HC1 := Aside0.mk hc1
 clear hr1 hc1
 have H : (if (l0.length : Int) = (l1.length : Int) then (laws_sameInts.l0 k l0 l1 0) else (some false)) = some r := h
 clear h
 by_cases c3 : (l0.length : Int) = (l1.length : Int)
 rotate_left
 ·rw [if_neg c3] at H
  have c3b0 : ((l0.length : Int) == (l1.length : Int)) = false := beq_eq_false_iff_ne.mpr c3
  have c3b1 : ((l0.length : Int) != (l1.length : Int)) = true := bne_iff_ne.mpr c3
  have c3b2 : (l0.length == l1.length) = false := by first | simpa using c3 | (simp at c3 ⊢; omega)
  obtain rfl := Option.some.inj H
  go_enter Try.func53, Try.ntmps53
  go_wp2
  repeat (go_quiet (fail); try go_wp2)
  go_ret
  exact ⟨q81t, q75t⟩
 rw [if_pos c3] at H
 have c3b0 : ((l0.length : Int) == (l1.length : Int)) = true := beq_iff_eq.mpr c3
 have c3b1 : ((l0.length : Int) != (l1.length : Int)) = false := bne_eq_false_iff_eq.mpr c3
 have c3b2 : (l0.length == l1.length) = true := by first | simpa using c3 | (simp at c3 ⊢; omega)
 clear c3
 have H' := Aside0.mk H
 clear H
 go_enter Try.func53, Try.ntmps53
 go_wp2
 repeat (go_quiet (fail); try go_wp2)
 go_loopg [5] k (fun kq v5 w' => ∃ (x5_1 : Int), v5 = .int .i64 x5_1 ∧ Aside0 (laws_sameInts.l0 kq l0 l1 x5_1 = some r) ∧ Aside0 (kq ≤ k) ∧ Drawn0 w w')
 case atStart => exact ⟨(0), q81t, H', ⟨Nat.le_refl _⟩, q75t⟩
 case round =>
  clear H'
  try clear c1
  try clear p2
  try clear c3
  try clear c3b0
  try clear c3b1
  try clear c3b2
  obtain ⟨x5_1, rfl, HA, HK1, ⟨m1, rfl⟩⟩ := hrel
  cases gk with
  | zero => exact absurd HA.out (by simp [laws_sameInts.l0])
  | succ k1 =>
   have H := HA.out
   clear HA
   simp only [laws_sameInts.l0] at H
   by_cases c4 : x5_1 < (l0.length : Int)
   rotate_left
   ·rw [if_neg c4] at H
    have c4b0 : decide (x5_1 < (l0.length : Int)) = false := decide_eq_false c4
    clear c4
    obtain rfl := Option.some.inj H
    go_wp2
    repeat (go_quiet (fail); try go_wp2)
    go_ret
    exact ⟨q81t, q75t⟩
   rw [if_pos c4] at H
   have c4b0 : decide (x5_1 < (l0.length : Int)) = true := decide_eq_true c4
   clear c4
   by_cases c5 : 0 ≤ x5_1
   rotate_left
   ·rw [if_neg c5] at H
    exact absurd H q87t
   rw [if_pos c5] at H
   have c5b0 : decide (0 ≤ x5_1) = true := decide_eq_true c5
   clear c5
   by_cases c6 : x5_1 < (l1.length : Int)
   rotate_left
   ·rw [if_neg c6] at H
    exact absurd H q87t
   rw [if_pos c6] at H
   have c6b0 : decide (x5_1 < (l1.length : Int)) = true := decide_eq_true c6
   clear c6
   by_cases c7 : (rd l0 x5_1) = (rd l1 x5_1)
   ·rw [if_pos c7] at H
    have c7b0 : ((rd l0 x5_1) == (rd l1 x5_1)) = true := beq_iff_eq.mpr c7
    have c7b1 : ((rd l0 x5_1) != (rd l1 x5_1)) = false := bne_eq_false_iff_eq.mpr c7
    clear c7
    have H' := Aside0.mk H
    clear H
    have p547 : 0 ≤ (x5_1 : Int) := of_decide_eq_true q76t
    have q547 : x5_1 < (l0.length : Int) := of_decide_eq_true q76t
    obtain ⟨ad547, e547, hx547_0⟩ := Kd.at_int HR0.out x5_1 p547 q547
    cases e547
    replace p547 := eq_true p547
    replace q547 := eq_true q547
    have p548 : 0 ≤ (x5_1 : Int) := of_decide_eq_true q76t
    have q548 : x5_1 < (l1.length : Int) := of_decide_eq_true q76t
    obtain ⟨ad548, e548, hx548_0⟩ := Kd.at_int HR1.out x5_1 p548 q548
    cases e548
    replace p548 := eq_true p548
    replace q548 := eq_true q548
    go_wp2
    repeat (go_quiet (fail); try go_wp2)
    go_roundg k1
    case measure => have := HK1.out; omega
    case rel => exact ⟨(wrap64 (x5_1 + 1)), q81t, H', ⟨q84t⟩, q75t⟩
   rw [if_neg c7] at H
   have c7b0 : ((rd l0 x5_1) == (rd l1 x5_1)) = false := beq_eq_false_iff_ne.mpr c7
   have c7b1 : ((rd l0 x5_1) != (rd l1 x5_1)) = true := bne_iff_ne.mpr c7
   obtain rfl := Option.some.inj H
   have p547 : 0 ≤ (x5_1 : Int) := of_decide_eq_true q76t
   have q547 : x5_1 < (l0.length : Int) := of_decide_eq_true q76t
   obtain ⟨ad547, e547, hx547_0⟩ := Kd.at_int HR0.out x5_1 p547 q547
   cases e547
   replace p547 := eq_true p547
   replace q547 := eq_true q547
   have p548 : 0 ≤ (x5_1 : Int) := of_decide_eq_true q76t
   have q548 : x5_1 < (l1.length : Int) := of_decide_eq_true q76t
   obtain ⟨ad548, e548, hx548_0⟩ := Kd.at_int HR1.out x5_1 p548 q548
   cases e548
   replace p548 := eq_true p548
   replace q548 := eq_true q548
   go_wp2
   repeat (go_quiet (fail); try go_wp2)
   go_ret
   exact ⟨q81t, q75t⟩

end Go.Proofs.Ytofpmdgndegalab.QFnTables
