/- What the functions that the law FnTables reaches compute, as plain functions, and that the code computes just that (by a program of this session's; the library's functions by hand). No condition. -/
import Derived.Test.YtofpmdgndegalabQFnTablesx0
import Derived.Test.YtofpmdgndegalabQFnTablesx3
import Derived.Test.YtofpmdgndegalabQFnTablesx5
namespace Go.Proofs.Ytofpmdgndegalab.QFnTables
open Go.RowKit Go.Proofs.YtofpmdgndegalabW.PrintWords Go.Proofs.YtofpmdgndegalabW.PrintLast Go.Proofs.YtofpmdgndegalabW.PrintMore
attribute [local go_sem] max2_int min2_int max_two min_two max_three min_three max_four min_four   -- for this text's walks alone
set_option linter.unusedVariables false
set_option linter.unusedSimpArgs false

/-! ### spec_l8Draw: function 26 -/
def spec_l8Draw.l0 : Nat → List (S48) → Int → List Int → Int → Int → Int → Int → Int → Int → Int → Int → Option ((List (S48)) × Int × Int)
 | 0, _, _, _, _, _, _, _, _, _, _, _ => none
 | k + 1, x4, x5, x1000, x1001, x1002, x241000, x241001, x241002, x241003, x241004, x241005 => if x5 > 0 then ((spec_l7Draw.f k x1000 x1001 x1002 x241000 x241001 x241002 x241003 x241004 x241005).bind fun bt247 => (if x4.length < 925904528653 then (spec_l8Draw.l0 k (x4 ++ [(⟨bt247.1, bt247.2.1, bt247.2.2.1, bt247.2.2.2.1, bt247.2.2.2.2.1, bt247.2.2.2.2.2.1, bt247.2.2.2.2.2.2.1, bt247.2.2.2.2.2.2.2.1, bt247.2.2.2.2.2.2.2.2.1, bt247.2.2.2.2.2.2.2.2.2.1, bt247.2.2.2.2.2.2.2.2.2.2.1, bt247.2.2.2.2.2.2.2.2.2.2.2.1, bt247.2.2.2.2.2.2.2.2.2.2.2.2.1⟩ : S48)]) (wrap64 (x5 - 1)) x1000 bt247.2.2.2.2.2.2.2.2.2.2.2.2.2.1 bt247.2.2.2.2.2.2.2.2.2.2.2.2.2.2 x241000 x241001 x241002 x241003 x241004 x241005) else (none))) else (some (x4, x1001, x1002))
def spec_l8Draw.f (k : Nat) (s0_0 : List Int) (s0_1 : Int) (s0_2 : Int) : Option ((List (S48)) × Int × Int) := (spec_l3Conf.f s0_0 s0_1 s0_2).bind fun bt232 => ((spec_l1Below.f s0_0 bt232.2.2.2.2.2.2.1 bt232.2.2.2.2.2.2.2 5).bind fun bt244 => (spec_l8Draw.l0 k (([] : List (S48))) bt244.1 s0_0 bt244.2.1 bt244.2.2 bt232.1 bt232.2.1 bt232.2.2.1 bt232.2.2.2.1 bt232.2.2.2.2.1 bt232.2.2.2.2.2.1))
theorem spec_l8Draw.mono_l : ∀ k, (∀ y0 y1 y2 y3 y4 y5 y6 y7 y8 y9 y10, LeO (spec_l8Draw.l0 k y0 y1 y2 y3 y4 y5 y6 y7 y8 y9 y10) (spec_l8Draw.l0 (k + 1) y0 y1 y2 y3 y4 y5 y6 y7 y8 y9 y10))
 | 0 => fun _ _ _ _ _ _ _ _ _ _ _ r h => by simp [spec_l8Draw.l0] at h
 | k + 1 => by
  have ih0 := spec_l8Draw.mono_l k
  ·intro y0 y1 y2 y3 y4 y5 y6 y7 y8 y9 y10
   unfold spec_l8Draw.l0
   repeat' first
   | (with_reducible exact ih0 _ _ _ _ _ _ _ _ _ _ _)
   | (with_reducible exact spec_l7Draw.mono _ _ _ _ _ _ _ _ _ _)
   | (with_reducible exact LeO.refl _)
   | (with_reducible exact LeO.none _)
   | (with_reducible refine LeO.ite ?_ ?_)
   | (with_reducible refine LeO.bind ?_ (fun _ => ?_))
   | exact ih0 _ _ _ _ _ _ _ _ _ _ _
   | exact spec_l7Draw.mono _ _ _ _ _ _ _ _ _ _
   | exact LeO.none _
   | refine LeO.ite ?_ ?_
   | refine LeO.bind ?_ (fun _ => ?_)
theorem spec_l8Draw.mono : ∀ a0 a1 a2 k, LeO (spec_l8Draw.f k a0 a1 a2) (spec_l8Draw.f (k + 1) a0 a1 a2) := by
 intro a0 a1 a2 k
 have ih0 := spec_l8Draw.mono_l k
 unfold spec_l8Draw.f
 repeat' first
   | (with_reducible exact ih0 _ _ _ _ _ _ _ _ _ _ _)
   | (with_reducible exact spec_l7Draw.mono _ _ _ _ _ _ _ _ _ _)
   | (with_reducible exact LeO.refl _)
   | (with_reducible exact LeO.none _)
   | (with_reducible refine LeO.ite ?_ ?_)
   | (with_reducible refine LeO.bind ?_ (fun _ => ?_))
   | exact ih0 _ _ _ _ _ _ _ _ _ _ _
   | exact spec_l7Draw.mono _ _ _ _ _ _ _ _ _ _
   | exact LeO.none _
   | refine LeO.ite ?_ ?_
   | refine LeO.bind ?_ (fun _ => ?_)
set_option maxHeartbeats 8000000 in
set_option maxRecDepth 100000 in
theorem spec_l8Draw.calls (k : Nat) (g : Nat) (s0_0 : List Int) (s0_1 : Int) (s0_2 : Int) (r1 : List (S48)) (r2 : Int) (r3 : Int) (w0 w : World) (hI : IsS67 w0 w g s0_0 s0_1 s0_2) (hB : Below w0.heap.size w0 w) (h : spec_l8Draw.f k s0_0 s0_1 s0_2 = some (r1, r2, r3)) :
  Calls Try.prog 26 #[.pointer (some ⟨g, 0, none⟩)] w fun e w' => ∃ v0_ : Value, e = .returned (v0_) ∧ Kd.S k48 48 w' w.heap.size (fun _ => True) v0_ r1 ∧ IsS67 w0 w' g s0_0 r2 r3 ∧ Below w0.heap.size w0 w' ∧ KeepBut w w' g none := by
 have hu33 := Try.underlying33
 have hu48 := Try.underlying48
 have HI0 := Aside0.mk hI
 have HK := Aside0.mk (KeepBut.refl w g none)
 have HL := Aside0.mk hB.size
 clear hI
 have HW0 := Aside0.mk hB.size
 have HB := Aside0.mk hB
 clear hB
 have H : ((spec_l3Conf.f s0_0 s0_1 s0_2).bind fun bt232 => ((spec_l1Below.f s0_0 bt232.2.2.2.2.2.2.1 bt232.2.2.2.2.2.2.2 5).bind fun bt244 => (spec_l8Draw.l0 k (([] : List (S48))) bt244.1 s0_0 bt244.2.1 bt244.2.2 bt232.1 bt232.2.1 bt232.2.2.1 bt232.2.2.2.1 bt232.2.2.2.2.1 bt232.2.2.2.2.2.1))) = some (r1, r2, r3) := h
 clear h
 replace H := Option.bind_eq_some_iff.mp H
 obtain ⟨⟨t232, t233, t234, t235, t236, t237, t238, t239⟩, A20, H⟩ := H
 try dsimp only at H
 have A2 := Aside0.mk A20
 clear A20
 obtain ⟨y241, hy241⟩ : ∃ y_ : List (S48), y_ = (([] : List (S48))) := ⟨_, rfl⟩
 replace H : ((spec_l1Below.f s0_0 t238 t239 5).bind fun bt244 => (spec_l8Draw.l0 k y241 bt244.1 s0_0 bt244.2.1 bt244.2.2 t232 t233 t234 t235 t236 t237)) = some (r1, r2, r3) := by first | (rw [hy241]; with_reducible exact H) | (have H2_ := (Option.bind_some _ _).symm.trans H; rw [hy241]; with_reducible exact H2_) | (have H2_ := (Option.bind_some _ _).symm.trans H; with_reducible exact H2_) | with_reducible exact H | (rw [hy241]; exact H) | exact H
 have Ny241 := Aside0.mk hy241
 clear hy241
 replace H := Option.bind_eq_some_iff.mp H
 obtain ⟨⟨t244, t245, t246⟩, A30, H⟩ := H
 try dsimp only at H
 have A3 := Aside0.mk A30
 clear A30
 have H' := Aside0.mk H
 clear H
 go_enter Try.func26, Try.ntmps26
 go_wp2_with (first | ((with_reducible refine gate_callee (f := 45) rfl ?_); refine goesL_ (some 8) rfl rfl Try.func45 (by kernel_rfl) rfl #[.pointer (some ⟨g, 0, none⟩)] rfl q51t ?_; (with_reducible refine (spec_l3Conf.calls g s0_0 s0_1 s0_2 t232 t233 t234 t235 t236 t237 t238 t239 w0 _ ?side1 ?side2 A2.out).mono ?_); (case side1 => repeat (first | (with_reducible first | exact HI0.out | apply IsS67.alloc | apply IsS67.drewN | apply IsS67.drew | apply IsS67.set_1 | apply IsS67.set_2) | exact HI0.out)); (case side2 => repeat (first | (with_reducible first | exact HB.out | apply below_alloc | apply pw_below_drewN | apply below_drew1 | refine below_set ?_ (IsS67.ge HI0.out)) | exact HB.out)); rintro e w4 ⟨rfl, hi, hb, hk⟩; refine ⟨_, rfl, ?_⟩; replace HK := Aside0.mk (KeepBut.trans q49t hk (.inl rfl)); replace HB := Aside0.mk (hb); replace HI0 := Aside0.mk (hi); (try clear hb); (try clear hb2); (try clear hk); (try clear hi)) | ((with_reducible refine gate_dst (N := 3) rfl ?_); refine box_ev 3 #[.int .i64 0, .int .i64 0, .int .i64 0, .int .i64 0, .int .i64 0, .int .i64 0] 33 ?_; intro gb240 hg w5 hbox hb; replace HB := Aside0.mk (below_step q45t hb); have BK240 := Aside0.mk (hbox); have GW240 := Aside0.mk ((q32t : w.heap.size ≤ gb240)); have GE240 := Aside0.mk ((Nat.le_trans HW0.out (q32t : w.heap.size ≤ gb240) : w0.heap.size ≤ gb240)); replace HK := Aside0.mk (KeepBut.trans q49t (KeepBut.of_below hb g none) (.inl rfl)); have NB0_240 := Aside0.mk ((by rw [hg]; exact Nat.ne_of_lt (IsS67.lt (show IsS67 w0 _ g s0_0 t238 t239 from by repeat (first | (with_reducible first | exact HI0.out | apply IsS67.alloc | apply IsS67.drewN | apply IsS67.drew | apply IsS67.set_1 | apply IsS67.set_2) | exact HI0.out))) : g ≠ gb240)); have NB240_0 := Aside0.mk ((by rw [hg]; exact Nat.ne_of_gt (IsS67.lt (show IsS67 w0 _ g s0_0 t238 t239 from by repeat (first | (with_reducible first | exact HI0.out | apply IsS67.alloc | apply IsS67.drewN | apply IsS67.drew | apply IsS67.set_1 | apply IsS67.set_2) | exact HI0.out))) : gb240 ≠ g)); replace HI0 := Aside0.mk (IsS67.below q46t hb); clear hb hbox hg; have hnb6 := NB240_0.out; have hnc6 := NB0_240.out; obtain ⟨hcz7_0, hcz7_1, hcz7_2, hcz7_3, hcz7_4, hcz7_5⟩ := qc6 BK240.out; obtain ⟨hfz7_0, hfz7_1, hfz7_2, hfz7_3, hfz7_4, hfz7_5⟩ := qf6 BK240.out) | ((with_reducible refine gate_dst (N := 9) rfl ?_); refine Kd.S_lit k48 _ 48 ?hg (N := 9) ?hd (xs := ([] : List (S48))) (inner := []) (ok := fun _ => True) (okp := fun _ => True) ?hr ?hp (fun _ hk => hk) trivial (Below.refl _ _) (Nat.le_refl _) q87t ?_; (case hd => rfl); (case hg => rfl); (case hr => first | (go_simp; done) | (go_simp; rfl)); (case hp => exact (Reps.none _ _)); intro v242 w8 ho9 hb hg_ hnew_; clear hg_ hnew_; (first | rw [← Ny241.out] at ho9 | (simp only [Int.reduceToNat] at ho9; rw [← Ny241.out] at ho9)); have HO243 := Aside0.mk (Kd.S_lower ho9 (keep_size (w := w) (g := g) (row := none) q38t)); replace BK240 := blp BK240 hb; replace HK := Aside0.mk (KeepBut.trans q38t (KeepBut.of_below hb g none) (.inl rfl)); replace HB := Aside0.mk (below_step q22t hb); replace HI0 := Aside0.mk (IsS67.below (show IsS67 w0 ((((((w5.setCell ⟨gb240, 0, none⟩ (.int .i64 t232)).setCell ⟨gb240, 1, none⟩ (.int .i64 t233)).setCell ⟨gb240, 2, none⟩ (.int .i64 t234)).setCell ⟨gb240, 3, none⟩ (.int .i64 t235)).setCell ⟨gb240, 4, none⟩ (.int .i64 t236)).setCell ⟨gb240, 5, none⟩ (.int .i64 t237)) g s0_0 t238 t239 from by repeat (first | (with_reducible first | exact HI0.out | apply IsS67.alloc | apply IsS67.drewN | apply IsS67.drew | apply IsS67.set_1 | apply IsS67.set_2 | refine IsS67.far ?_ (Aside0.out q83t) _) | exact HI0.out)) hb); clear hb ho9) | ((with_reducible refine gate_callee (f := 27) rfl ?_); refine goesL_ (some 11) rfl rfl Try.func27 (by kernel_rfl) rfl #[.pointer (some ⟨g, 0, none⟩), .int .i64 5] rfl q51t ?_; (with_reducible refine (spec_l1Below.calls g s0_0 t238 t239 5 t244 t245 t246 w0 _ ?side1 ?side2 A3.out).mono ?_); (case side1 => repeat (first | (with_reducible first | exact HI0.out | apply IsS67.alloc | apply IsS67.drewN | apply IsS67.drew | apply IsS67.set_1 | apply IsS67.set_2 | refine IsS67.far ?_ (Aside0.out q83t) _) | exact HI0.out)); (case side2 => repeat (first | (with_reducible first | exact HB.out | apply below_alloc | apply pw_below_drewN | apply below_drew1 | refine below_set ?_ (IsS67.ge HI0.out) | refine below_set ?_ (Aside0.out q83t)) | exact HB.out)); rintro e w10 ⟨rfl, hi, hb, hk⟩; refine ⟨_, rfl, ?_⟩; replace BK240 := kbb BK240 hk NB240_0.out q87t; replace HO243 := Aside0.mk (Kd.S_mono (Kd.S_keep (IsS67.apartS (show IsS67 w0 _ g s0_0 t238 t239 from by repeat (first | (with_reducible first | exact HI0.out | apply IsS67.alloc | apply IsS67.drewN | apply IsS67.drew | apply IsS67.set_1 | apply IsS67.set_2 | refine IsS67.far ?_ (Aside0.out q83t) _) | exact HI0.out)) (by (with_reducible repeat (first | apply Kd.S_alloc | apply Kd.S_drewN | apply Kd.S_drew)); exact HO243.out) q85t) hk (fun _ h => h.2)) (fun _ h => h.1)); replace HK := Aside0.mk (KeepBut.trans q38t hk (.inl rfl)); replace HB := Aside0.mk (hb); replace HI0 := Aside0.mk (hi); (try clear hb); (try clear hb2); (try clear hk); (try clear hi)))
 go_loopg [4, 5] k (fun kq v4 v5 w' => ∃ (x4_1 : List (S48)) (x5_1 : Int) (x1001_1 : Int) (x1002_1 : Int), v5 = .int .i64 x5_1 ∧ Aside0 (spec_l8Draw.l0 kq x4_1 x5_1 s0_0 x1001_1 x1002_1 t232 t233 t234 t235 t236 t237 = some (r1, r2, r3)) ∧ Aside0 (kq ≤ k) ∧ Aside0 (Kd.S k48 48 w' w.heap.size (fun _ => True) v4 x4_1) ∧ Aside0 (w'.heap[gb240]? = some (.cells #[.int .i64 t232, .int .i64 t233, .int .i64 t234, .int .i64 t235, .int .i64 t236, .int .i64 t237] 33 (0, 0))) ∧ Aside0 (IsS67 w0 w' g s0_0 x1001_1 x1002_1) ∧ Aside0 (KeepBut w w' g none) ∧ Aside0 (Below w0.heap.size w0 w'))
 case atStart => exact ⟨(y241), (t244), (t245), (t246), q81t, H', ⟨Nat.le_refl _⟩, ⟨(by (with_reducible repeat (first | apply Kd.S_alloc | apply Kd.S_drewN | apply Kd.S_drew)); exact HO243.out)⟩, ⟨qbk BK240⟩, ⟨q23t⟩, ⟨q38t⟩, ⟨q22t⟩⟩
 case round =>
  clear H'
  try clear c2
  try clear p2
  try clear c4
  try clear c6
  try clear hcz7_0 hcz7_1 hcz7_2 hcz7_3 hcz7_4 hcz7_5
  try clear hfz7_0 hfz7_1 hfz7_2 hfz7_3 hfz7_4 hfz7_5
  obtain ⟨x4_1, x5_1, x1001_1, x1002_1, rfl, HA, HK1, HO_4, BK240, HI0, HK, HB⟩ := hrel
  cases gk with
  | zero => exact absurd HA.out (by simp [spec_l8Draw.l0])
  | succ k1 =>
   have H := HA.out
   clear HA
   simp only [spec_l8Draw.l0] at H
   by_cases c11 : x5_1 > 0
   rotate_left
   ·rw [if_neg c11] at H
    have c11b0 : decide (0 < x5_1) = false := decide_eq_false c11
    clear c11
    simp only [Option.some.injEq, Prod.mk.injEq] at H
    obtain ⟨rfl, rfl, rfl⟩ := H
    go_wp2
    go_ret
    exact ⟨_, q73t, (by (with_reducible repeat (first | apply Kd.S_alloc | apply Kd.S_drewN | apply Kd.S_drew)); exact HO_4.out), q23t, q22t, q38t⟩
   rw [if_pos c11] at H
   have c11b0 : decide (0 < x5_1) = true := decide_eq_true c11
   clear c11
   replace H := Option.bind_eq_some_iff.mp H
   obtain ⟨⟨t247, t248, t249, t250, t251, t252, t253, t254, t255, t258, t259, t260, t263, t266, t267⟩, A120, H⟩ := H
   try dsimp only at H
   have A12 := Aside0.mk A120
   clear A120
   by_cases c13 : x4_1.length < 925904528653
   rotate_left
   ·rw [if_neg c13] at H
    exact absurd H q87t
   rw [if_pos c13] at H
   have LMc13 := Aside0.mk c13
   clear c13
   obtain ⟨y269, hy269⟩ : ∃ y_ : List (S48), y_ = (x4_1 ++ [(⟨t247, t248, t249, t250, t251, t252, t253, t254, t255, t258, t259, t260, t263⟩ : S48)]) := ⟨_, rfl⟩
   replace H : (spec_l8Draw.l0 k1 y269 (wrap64 (x5_1 - 1)) s0_0 t266 t267 t232 t233 t234 t235 t236 t237) = some (r1, r2, r3) := by first | (rw [hy269]; with_reducible exact H) | (have H2_ := (Option.bind_some _ _).symm.trans H; rw [hy269]; with_reducible exact H2_) | (have H2_ := (Option.bind_some _ _).symm.trans H; with_reducible exact H2_) | with_reducible exact H | (rw [hy269]; exact H) | exact H
   have Ny269 := Aside0.mk hy269
   clear hy269
   have H' := Aside0.mk H
   clear H
   have hnb14 := NB240_0.out
   have hnc14 := NB0_240.out
   obtain ⟨hcz15_0, hcz15_1, hcz15_2, hcz15_3, hcz15_4, hcz15_5⟩ := qc6 BK240.out
   obtain ⟨hfz15_0, hfz15_1, hfz15_2, hfz15_3, hfz15_4, hfz15_5⟩ := qf6 BK240.out
   go_wp2_with (first | ((with_reducible refine gate_callee (f := 46) rfl ?_); refine goesL_ (some 18) rfl rfl Try.func46 (by kernel_rfl) rfl #[.pointer (some ⟨g, 0, none⟩), .agg #[.int .i64 t232, .int .i64 t233, .int .i64 t234, .int .i64 t235, .int .i64 t236, .int .i64 t237]] rfl q51t ?_; (with_reducible refine (spec_l7Draw.calls k1 g s0_0 x1001_1 x1002_1 t232 t233 t234 t235 t236 t237 t247 t248 t249 t250 t251 t252 t253 t254 t255 t258 t259 t260 t263 t266 t267 w0 _ ?side1 ?side2 A12.out).mono ?_); (case side1 => repeat (first | (with_reducible first | exact HI0.out | apply IsS67.alloc | apply IsS67.drewN | apply IsS67.drew | apply IsS67.set_1 | apply IsS67.set_2 | refine IsS67.far ?_ (Aside0.out q83t) _) | exact HI0.out)); (case side2 => repeat (first | (with_reducible first | exact HB.out | apply below_alloc | apply pw_below_drewN | apply below_drew1 | refine below_set ?_ (IsS67.ge HI0.out) | refine below_set ?_ (Aside0.out q83t)) | exact HB.out)); rintro e w16 ⟨v256, v261, v264, rfl, ho0, ho1, ho2, hi, hb, hk⟩; refine ⟨_, rfl, ?_⟩; replace HO_4 := Aside0.mk (Kd.S_mono (Kd.S_told (Kd.S_told (Kd.S_told (Kd.S_oldK (IsS67.apartS (show IsS67 w0 _ g s0_0 x1001_1 x1002_1 from by repeat (first | (with_reducible first | exact HI0.out | apply IsS67.alloc | apply IsS67.drewN | apply IsS67.drew | apply IsS67.set_1 | apply IsS67.set_2 | refine IsS67.far ?_ (Aside0.out q83t) _) | exact HI0.out)) (by (with_reducible repeat (first | apply Kd.S_alloc | apply Kd.S_drewN | apply Kd.S_drew)); exact HO_4.out) q85t) hk) (Kd.R_base ho0)) (Kd.R_base ho1)) (Kd.R_base ho2)) (fun _ h_ => h_.1)); replace BK240 := kbb BK240 hk NB240_0.out q87t; have HO257 := Aside0.mk (Kd.R_lower ho0 (keep_size (w := w) (g := g) (row := none) q38t)); have HO262 := Aside0.mk (Kd.R_lower ho1 (keep_size (w := w) (g := g) (row := none) q38t)); have HO265 := Aside0.mk (Kd.R_lower ho2 (keep_size (w := w) (g := g) (row := none) q38t)); replace HK := Aside0.mk (KeepBut.trans q38t hk (.inl rfl)); replace HB := Aside0.mk (hb); replace HI0 := Aside0.mk (hi); (try clear hb); (try clear hb2); (try clear hk); (try clear hi); (try clear ho0); (try clear ho1); (try clear ho2)) | ((with_reducible refine gate_dst (N := 6) rfl ?_); refine box_ev 6 #[.int .i64 0, .int .i64 0, .int .i64 0, .int .i64 0, .int .i64 0, .int .i64 0, .int .i64 0, .int .i64 0, .slice none 0 0, .int .i64 0, .int .i64 0, .slice none 0 0, .slice none 0 0] 48 ?_; intro gb268 hg w17 hbox hb; replace HO_4 := Aside0.mk (Kd.S_below (Kd.S_elderB (by (with_reducible repeat (first | apply Kd.S_alloc | apply Kd.S_drewN | apply Kd.S_drew)); exact HO_4.out) gb268 (Nat.le_of_eq hg.symm)) hb); replace HO257 := Aside0.mk (Kd.R_below (by (with_reducible repeat (first | apply Kd.R_alloc | apply Kd.R_drewN | apply Kd.R_drew)); exact HO257.out) hb); replace HO262 := Aside0.mk (Kd.R_below (by (with_reducible repeat (first | apply Kd.R_alloc | apply Kd.R_drewN | apply Kd.R_drew)); exact HO262.out) hb); replace HO265 := Aside0.mk (Kd.R_below (by (with_reducible repeat (first | apply Kd.R_alloc | apply Kd.R_drewN | apply Kd.R_drew)); exact HO265.out) hb); replace HB := Aside0.mk (below_step q22t hb); have BK268 := Aside0.mk (hbox); have GW268 := Aside0.mk ((by rw [hg]; exact (keep_size (w := w) (g := g) (row := none) q38t) : w.heap.size ≤ gb268)); have GE268 := Aside0.mk ((Nat.le_trans HW0.out (by rw [hg]; exact (keep_size (w := w) (g := g) (row := none) q38t) : w.heap.size ≤ gb268) : w0.heap.size ≤ gb268)); replace HK := Aside0.mk (KeepBut.trans q38t (KeepBut.of_below hb g none) (.inl rfl)); have NB240_268 := Aside0.mk ((by rw [hg]; exact Nat.ne_of_lt (blk_lt (qbk BK240)) : gb240 ≠ gb268)); have NB268_240 := Aside0.mk ((by rw [hg]; exact Nat.ne_of_gt (blk_lt (qbk BK240)) : gb268 ≠ gb240)); replace BK240 := blb BK240 hb; have NB0_268 := Aside0.mk ((by rw [hg]; exact Nat.ne_of_lt (IsS67.lt (show IsS67 w0 _ g s0_0 t266 t267 from by repeat (first | (with_reducible first | exact HI0.out | apply IsS67.alloc | apply IsS67.drewN | apply IsS67.drew | apply IsS67.set_1 | apply IsS67.set_2 | refine IsS67.far ?_ (Aside0.out q83t) _) | exact HI0.out))) : g ≠ gb268)); have NB268_0 := Aside0.mk ((by rw [hg]; exact Nat.ne_of_gt (IsS67.lt (show IsS67 w0 _ g s0_0 t266 t267 from by repeat (first | (with_reducible first | exact HI0.out | apply IsS67.alloc | apply IsS67.drewN | apply IsS67.drew | apply IsS67.set_1 | apply IsS67.set_2 | refine IsS67.far ?_ (Aside0.out q83t) _) | exact HI0.out))) : gb268 ≠ g)); replace HI0 := Aside0.mk (IsS67.below q23t hb); clear hb hbox hg; have hnb18 := NB268_240.out; have hnc18 := NB240_268.out; have hnb19 := NB268_0.out; have hnc19 := NB0_268.out; obtain ⟨hcz20_0, hcz20_1, hcz20_2, hcz20_3, hcz20_4, hcz20_5, hcz20_6, hcz20_7, hcz20_8, hcz20_9, hcz20_10, hcz20_11, hcz20_12⟩ := qc13 BK268.out; obtain ⟨hfz20_0, hfz20_1, hfz20_2, hfz20_3, hfz20_4, hfz20_5, hfz20_6, hfz20_7, hfz20_8, hfz20_9, hfz20_10, hfz20_11, hfz20_12⟩ := qf13 BK268.out; obtain ⟨Ao21, co21, eo21⟩ := Kd.R_slice HO257.out; subst eo21; obtain ⟨Ao22, co22, eo22⟩ := Kd.R_slice HO262.out; subst eo22; obtain ⟨Ao23, co23, eo23⟩ := Kd.R_slice HO265.out; subst eo23) | ((with_reducible refine gate_store (t := 48) (p := 6) rfl ?_); refine store_event (t := 48) (p := 6) (v := ?vo_w24) (w1 := (((((((((((((w17.setCell ⟨gb268, 0, none⟩ (.int .i64 t247)).setCell ⟨gb268, 1, none⟩ (.int .i64 t248)).setCell ⟨gb268, 2, none⟩ (.int .i64 t249)).setCell ⟨gb268, 3, none⟩ (.int .i64 t250)).setCell ⟨gb268, 4, none⟩ (.int .i64 t251)).setCell ⟨gb268, 5, none⟩ (.int .i64 t252)).setCell ⟨gb268, 6, none⟩ (.int .i64 t253)).setCell ⟨gb268, 7, none⟩ (.int .i64 t254)).setCell ⟨gb268, 8, none⟩ (.slice Ao21 t255.length co21)).setCell ⟨gb268, 9, none⟩ (.int .i64 t258)).setCell ⟨gb268, 10, none⟩ (.int .i64 t259)).setCell ⟨gb268, 11, none⟩ (.slice Ao22 t260.length co22)).setCell ⟨gb268, 12, none⟩ (.slice Ao23 t263.length co23))) ?hg ?ho ?hn ?hr ?_; (case ho => rfl); (case hg => rfl); (case hn => rfl); (case hr => first | (go_simp; done) | (go_simp; rfl)); intro w24 hw; have n0_ : Aside0 (Kd.S k48 48 w24 w.heap.size (fun k_ => some k_ ≠ (.slice Ao21 t255.length co21 : Value).ownBlock ∧ some k_ ≠ (.slice Ao22 t260.length co22 : Value).ownBlock ∧ some k_ ≠ (.slice Ao23 t263.length co23 : Value).ownBlock ∧ k_ ≠ gb268) u4 x4_1) := ⟨(by rw [hw]; exact (by (with_reducible repeat (first | apply Kd.S_alloc | apply Kd.S_drewN | apply Kd.S_drew)); exact Kd.S_mono (skf (skf (skf (skf (skf (skf (skf (skf (skf (skf (skf (skf (skf (Kd.S_mono HO_4.out (fun k_ hk => (⟨hk, hk.2⟩ : _ ∧ k_ ≠ gb268)))))))))))))))) (fun _ hk => ⟨hk.1.1.1.1.2, ⟨hk.1.1.1.2, ⟨hk.1.1.2, hk.1.2⟩⟩⟩)))⟩; have n1_ : Aside0 (Kd.R (Kd.int .i64) 3 w24 w.heap.size (fun k_ => some k_ ≠ (.slice Ao23 t263.length co23 : Value).ownBlock) (.slice Ao21 t255.length co21) t255) := ⟨(by rw [hw]; exact (by (with_reducible repeat (first | apply Kd.R_alloc | apply Kd.R_drewN | apply Kd.R_drew)); exact Kd.R_mono (rkf (rkf (rkf (rkf (rkf (rkf (rkf (rkf (rkf (rkf (rkf (rkf (rkf (Kd.R_types HO257.out BK268.out q85t)))))))))))))) (fun _ hk => hk.1)))⟩; have n2_ : Aside0 (Kd.R k74 74 w24 w.heap.size (fun _ => True) (.slice Ao22 t260.length co22) t260) := ⟨(by rw [hw]; exact (by (with_reducible repeat (first | apply Kd.R_alloc | apply Kd.R_drewN | apply Kd.R_drew)); exact Kd.R_mono (rkf (rkf (rkf (rkf (rkf (rkf (rkf (rkf (rkf (rkf (rkf (rkf (rkf (Kd.R_types HO262.out BK268.out q85t)))))))))))))) (fun _ hk => trivial)))⟩; have n3_ : Aside0 (Kd.R (Kd.int .i64) 3 w24 w.heap.size (fun k_ => some k_ ≠ (.slice Ao21 t255.length co21 : Value).ownBlock) (.slice Ao23 t263.length co23) t263) := ⟨(by rw [hw]; exact (by (with_reducible repeat (first | apply Kd.R_alloc | apply Kd.R_drewN | apply Kd.R_drew)); exact Kd.R_mono (rkf (rkf (rkf (rkf (rkf (rkf (rkf (rkf (rkf (rkf (rkf (rkf (rkf (Kd.R_types HO265.out BK268.out q85t)))))))))))))) (fun _ hk => hk.1)))⟩; have n4_ : Aside0 (w24.heap[gb240]? = some (.cells #[.int .i64 t232, .int .i64 t233, .int .i64 t234, .int .i64 t235, .int .i64 t236, .int .i64 t237] 33 (0, 0))) := ⟨(by rw [hw]; exact (by (with_reducible repeat (first | refine blk_drewN ?_ _ | refine blk_drew ?_ | refine blk_alloc ?_ _)); refine blk_far ?_ NB240_268.out _; (with_reducible repeat (first | refine blk_drewN ?_ _ | refine blk_drew ?_ | refine blk_alloc ?_ _)); refine blk_far ?_ NB240_268.out _; (with_reducible repeat (first | refine blk_drewN ?_ _ | refine blk_drew ?_ | refine blk_alloc ?_ _)); refine blk_far ?_ NB240_268.out _; (with_reducible repeat (first | refine blk_drewN ?_ _ | refine blk_drew ?_ | refine blk_alloc ?_ _)); refine blk_far ?_ NB240_268.out _; (with_reducible repeat (first | refine blk_drewN ?_ _ | refine blk_drew ?_ | refine blk_alloc ?_ _)); refine blk_far ?_ NB240_268.out _; (with_reducible repeat (first | refine blk_drewN ?_ _ | refine blk_drew ?_ | refine blk_alloc ?_ _)); refine blk_far ?_ NB240_268.out _; (with_reducible repeat (first | refine blk_drewN ?_ _ | refine blk_drew ?_ | refine blk_alloc ?_ _)); refine blk_far ?_ NB240_268.out _; (with_reducible repeat (first | refine blk_drewN ?_ _ | refine blk_drew ?_ | refine blk_alloc ?_ _)); refine blk_far ?_ NB240_268.out _; (with_reducible repeat (first | refine blk_drewN ?_ _ | refine blk_drew ?_ | refine blk_alloc ?_ _)); refine blk_far ?_ NB240_268.out _; (with_reducible repeat (first | refine blk_drewN ?_ _ | refine blk_drew ?_ | refine blk_alloc ?_ _)); refine blk_far ?_ NB240_268.out _; (with_reducible repeat (first | refine blk_drewN ?_ _ | refine blk_drew ?_ | refine blk_alloc ?_ _)); refine blk_far ?_ NB240_268.out _; (with_reducible repeat (first | refine blk_drewN ?_ _ | refine blk_drew ?_ | refine blk_alloc ?_ _)); refine blk_far ?_ NB240_268.out _; (with_reducible repeat (first | refine blk_drewN ?_ _ | refine blk_drew ?_ | refine blk_alloc ?_ _)); refine blk_far ?_ NB240_268.out _; (with_reducible repeat (first | refine blk_drewN ?_ _ | refine blk_drew ?_ | refine blk_alloc ?_ _)); exact BK240.out))⟩; have n5_ : Aside0 (w24.heap[gb268]? = some (.cells #[.int .i64 t247, .int .i64 t248, .int .i64 t249, .int .i64 t250, .int .i64 t251, .int .i64 t252, .int .i64 t253, .int .i64 t254, .slice Ao21 t255.length co21, .int .i64 t258, .int .i64 t259, .slice Ao22 t260.length co22, .slice Ao23 t263.length co23] 48 (0, 0))) := ⟨(by rw [hw]; exact (qbp BK268))⟩; have n6_ : Aside0 (IsS67 w0 w24 g s0_0 t266 t267) := ⟨(by rw [hw]; exact q23t)⟩; have n7_ : Aside0 (KeepBut w w24 g none) := ⟨(by rw [hw]; exact q29t)⟩; have n8_ : Aside0 (Below w0.heap.size w0 w24) := ⟨(by rw [hw]; exact q22t)⟩; clear hw; clear HO_4; clear HO257; clear HO262; clear HO265; clear BK240; clear BK268; clear HI0; clear HK; clear HB; have HO_4 := n0_; have HO257 := n1_; have HO262 := n2_; have HO265 := n3_; have BK240 := n4_; have BK268 := n5_; have HI0 := n6_; have HK := n7_; have HB := n8_; clear n0_ n1_ n2_ n3_ n4_ n5_ n6_ n7_ n8_; obtain ⟨hcz25_0, hcz25_1, hcz25_2, hcz25_3, hcz25_4, hcz25_5, hcz25_6, hcz25_7, hcz25_8, hcz25_9, hcz25_10, hcz25_11, hcz25_12⟩ := qc13 BK268.out; obtain ⟨hfz25_0, hfz25_1, hfz25_2, hfz25_3, hfz25_4, hfz25_5, hfz25_6, hfz25_7, hfz25_8, hfz25_9, hfz25_10, hfz25_11, hfz25_12⟩ := qf13 BK268.out) | ((with_reducible refine gate_builtin (b := .append) (xs := #[.tmp 19, .tmp 21]) rfl ?_); at_builtin; refine Kd.S_append k48 w.heap.size rfl (.tmp 19) (.tmp 21) 24 48 (.agg #[(.int .i64 0), (.int .i64 0), (.int .i64 0), (.int .i64 0), (.int .i64 0), (.int .i64 0), (.int .i64 0), (.int .i64 0), (.slice none 0 0), (.int .i64 0), (.int .i64 0), (.slice none 0 0), (.slice none 0 0)]) 152 rfl Try.underlying24 info48 rfl q85t q86t u4 x4_1 (⟨t247, t248, t249, t250, t251, t252, t253, t254, t255, t258, t259, t260, t263⟩ : S48) [.int .i64 t247, .int .i64 t248, .int .i64 t249, .int .i64 t250, .int .i64 t251, .int .i64 t252, .int .i64 t253, .int .i64 t254, .slice Ao21 t255.length co21, .int .i64 t258, .int .i64 t259, .slice Ao22 t260.length co22, .slice Ao23 t263.length co23] (fun k_ => k_ ≠ gb268) (fun k_ => some k_ = (.slice Ao21 t255.length co21 : Value).ownBlock ∨ some k_ = (.slice Ao22 t260.length co22 : Value).ownBlock ∨ some k_ = (.slice Ao23 t263.length co23 : Value).ownBlock) rfl rfl ?aP (fun k_ hk_ => hk_.elim (fun h_ => ((Kd.R_mono (ok' := fun k_ => ((fun k_ => k_ ≠ gb268)) k_ ∧ some k_ ≠ (u4 : Value).ownBlock) (Kd.R_types (Kd.R_apart' (HO257.out) (Kd.S_typed HO_4.out) q85t) BK268.out q85t) (fun k_ hk => ⟨hk.2, hk.1.2⟩))).1 k_ h_.symm) (fun h_ => h_.elim (fun h_ => ((Kd.R_mono (ok' := fun k_ => ((fun k_ => k_ ≠ gb268)) k_ ∧ some k_ ≠ (u4 : Value).ownBlock) (Kd.R_types (Kd.R_apart' (HO262.out) (Kd.S_typed HO_4.out) q85t) BK268.out q85t) (fun k_ hk => ⟨hk.2, hk.1.2⟩))).1 k_ h_.symm) (fun h_ => ((Kd.R_mono (ok' := fun k_ => ((fun k_ => k_ ≠ gb268)) k_ ∧ some k_ ≠ (u4 : Value).ownBlock) (Kd.R_types (Kd.R_apart' (HO265.out) (Kd.S_typed HO_4.out) q85t) BK268.out q85t) (fun k_ hk => ⟨hk.2, hk.1.2⟩))).1 k_ h_.symm))) ?aF ?aO (Below.refl _ _) ?aS ?aL ?_; (case aP => exact k48_mkM _ _ _ (⟨t247, t248, t249, t250, t251, t252, t253, t254, t255, t258, t259, t260, t263⟩ : S48) (Kd.R_mono (Kd.R_tight rfl (Kd.R_mono (ok' := fun k_ => ((fun k_ => k_ ≠ gb268)) k_ ∧ some k_ ≠ (u4 : Value).ownBlock) (Kd.R_types (Kd.R_apart' (HO257.out) (Kd.S_typed HO_4.out) q85t) BK268.out q85t) (fun k_ hk => ⟨hk.2, hk.1.2⟩))) (fun _ h_ => Or.inl h_)) (Kd.R_mono (Kd.R_tight rfl (Kd.R_mono (ok' := fun k_ => ((fun k_ => k_ ≠ gb268)) k_ ∧ some k_ ≠ (u4 : Value).ownBlock) (Kd.R_types (Kd.R_apart' (HO262.out) (Kd.S_typed HO_4.out) q85t) BK268.out q85t) (fun k_ hk => ⟨hk.2, hk.1.2⟩))) (fun _ h_ => Or.inr (Or.inl h_))) (Kd.R_mono (Kd.R_tight rfl (Kd.R_mono (ok' := fun k_ => ((fun k_ => k_ ≠ gb268)) k_ ∧ some k_ ≠ (u4 : Value).ownBlock) (Kd.R_types (Kd.R_apart' (HO265.out) (Kd.S_typed HO_4.out) q85t) BK268.out q85t) (fun k_ hk => ⟨hk.2, hk.1.2⟩))) (fun _ h_ => Or.inr (Or.inr (h_))))); (case aF => exact (fun k_ hk => Kd.freshB (qbk BK268) k_ hk)); (case aO => exact (by (with_reducible repeat (first | apply Kd.S_alloc | apply Kd.S_drewN | apply Kd.S_drew)); exact Kd.S_mono HO_4.out (fun k_ hk => ⟨hk.2.2.2, fun e_ => e_.elim (fun h_ => hk.1 h_) (fun h_ => h_.elim (fun h_ => hk.2.1 h_) (fun h_ => hk.2.2.1 h_))⟩))); (case aS => exact (keep_size (w := w) (g := g) (row := none) q29t)); (case aL => have := LMc13.out; omega); intro v270 w26 ho hb hg hat; rw [← Ny269.out] at ho; replace BK240 := gbb BK240 hg (Kd.S_ne HO_4.out BK240.out q85t); replace BK268 := gbb BK268 hg (Kd.S_away HO_4.out (fun _ hk => hk.2.2.2)); replace HB := Aside0.mk (below_weaken q22t HL.out hb); replace HI0 := Aside0.mk (IsS67.grown q23t hg (IsS67.own_neS HI0.out HO_4.out q85t)); replace HK := Aside0.mk (KeepBut.trans q29t (KeepBut.of_grown hg g) (Kd.S_base2 HO_4.out)); have HO271 := Aside0.mk (ho); clear HO_4 HO257 HO262 HO265; clear ho hb hg hat))
   go_roundg k1
   case measure => have := HK1.out; omega
   case rel => exact ⟨(y269), (wrap64 (x5_1 - 1)), (t266), (t267), q81t, H', ⟨q84t⟩, ⟨(by (with_reducible repeat (first | apply Kd.S_alloc | apply Kd.S_drewN | apply Kd.S_drew)); exact Kd.S_mono HO271.out (fun _ hk => trivial))⟩, ⟨qbk BK240⟩, ⟨q23t⟩, ⟨q29t⟩, ⟨q22t⟩⟩

/-! ### spec_DrawClear: function 5 -/
def spec_DrawClear.f (k : Nat) (l0 : List Int) : Option ((List (S48)) × Int × Int) := (spec_l1New.f k l0).bind fun bt272 => ((spec_l8Draw.f k bt272.1 bt272.2.1 bt272.2.2).bind fun bt276 => ((spec_l1Below.f bt272.1 bt276.2.1 bt276.2.2 6).bind fun bt281 => ((spec_l1Below.f bt272.1 bt281.2.1 bt281.2.2 4).bind fun bt284 => (some (bt276.1, wrap64 (bt281.1 - 1), wrap64 (1 + bt284.1))))))
theorem spec_DrawClear.mono : ∀ a0 k, LeO (spec_DrawClear.f k a0) (spec_DrawClear.f (k + 1) a0) := by
 intro a0 k
 unfold spec_DrawClear.f
 repeat' first
   | (with_reducible exact spec_l1New.mono _ _)
   | (with_reducible exact spec_l8Draw.mono _ _ _ _)
   | (with_reducible exact LeO.refl _)
   | (with_reducible exact LeO.none _)
   | (with_reducible refine LeO.ite ?_ ?_)
   | (with_reducible refine LeO.bind ?_ (fun _ => ?_))
   | exact spec_l1New.mono _ _
   | exact spec_l8Draw.mono _ _ _ _
   | exact LeO.none _
   | refine LeO.ite ?_ ?_
   | refine LeO.bind ?_ (fun _ => ?_)
set_option maxHeartbeats 8000000 in
set_option maxRecDepth 100000 in
theorem spec_DrawClear.calls (k : Nat) (A0 : Option Addr) (c0 : Nat) (l0 : List Int) (r1 : List (S48)) (r2 : Int) (r3 : Int) (w : World) (hr0 : Kd.C (Kd.int .u8) w A0 l0.length l0) (hc0 : l0.length ≤ c0) (h : spec_DrawClear.f k l0 = some (r1, r2, r3)) :
  Calls Try.prog 5 #[.slice A0 l0.length c0] w fun e w' => ∃ v0_ : Value, e = .returned (.tuple #[v0_, .int .i64 r2, .int .i64 r3]) ∧ Kd.S k48 48 w' w.heap.size (fun _ => True) v0_ r1 ∧ Below w.heap.size w w' := by
 have HR0 := Aside0.mk hr0
 have HC0 := Aside0.mk hc0
 clear hr0 hc0
 have HB := Aside0.mk (Below.refl w.heap.size w)
 have H : ((spec_l1New.f k l0).bind fun bt272 => ((spec_l8Draw.f k bt272.1 bt272.2.1 bt272.2.2).bind fun bt276 => ((spec_l1Below.f bt272.1 bt276.2.1 bt276.2.2 6).bind fun bt281 => ((spec_l1Below.f bt272.1 bt281.2.1 bt281.2.2 4).bind fun bt284 => (some (bt276.1, wrap64 (bt281.1 - 1), wrap64 (1 + bt284.1))))))) = some (r1, r2, r3) := h
 clear h
 replace H := Option.bind_eq_some_iff.mp H
 obtain ⟨⟨t272, t273, t274⟩, A20, H⟩ := H
 try dsimp only at H
 have A2 := Aside0.mk A20
 clear A20
 replace H := Option.bind_eq_some_iff.mp H
 obtain ⟨⟨t276, t279, t280⟩, A30, H⟩ := H
 try dsimp only at H
 have A3 := Aside0.mk A30
 clear A30
 replace H := Option.bind_eq_some_iff.mp H
 obtain ⟨⟨t281, t282, t283⟩, A40, H⟩ := H
 try dsimp only at H
 have A4 := Aside0.mk A40
 clear A40
 replace H := Option.bind_eq_some_iff.mp H
 obtain ⟨⟨t284, t285, t286⟩, A50, H⟩ := H
 try dsimp only at H
 have A5 := Aside0.mk A50
 clear A50
 simp only [Option.some.injEq, Prod.mk.injEq] at H
 obtain ⟨rfl, rfl, rfl⟩ := H
 go_enter Try.func5, Try.ntmps5
 go_wp2_with (first | ((with_reducible refine gate_callee (f := 25) rfl ?_); refine goesL_ (some 8) rfl rfl Try.func25 (by kernel_rfl) rfl #[.slice A0 l0.length c0] rfl q51t ?_; (with_reducible refine (spec_l1New.calls k _ _ l0 t272 t273 t274 w _ ?side1 ?side2 ?side3 A2.out).mono ?_); (case side1 => repeat (first | (with_reducible first | exact HB.out | apply below_alloc | apply pw_below_drewN | apply below_drew1) | exact HB.out)); (case side2 => exact HR0.out); (case side3 => exact HC0.out); rintro e w6 ⟨g275, rfl, hi, hb, hb2⟩; refine ⟨_, rfl, ?_⟩; replace HB := Aside0.mk (hb); have HI275 := Aside0.mk (hi); (try clear hb); (try clear hb2); (try clear hk); (try clear hi)) | ((with_reducible refine gate_callee (f := 26) rfl ?_); refine goesL_ (some 10) rfl rfl Try.func26 (by kernel_rfl) rfl #[.pointer (some ⟨g275, 0, none⟩)] rfl q51t ?_; (with_reducible refine (spec_l8Draw.calls k g275 t272 t273 t274 t276 t279 t280 w _ ?side1 ?side2 A3.out).mono ?_); (case side1 => repeat (first | (with_reducible first | exact HI275.out | apply IsS67.alloc | apply IsS67.drewN | apply IsS67.drew | apply IsS67.set_1 | apply IsS67.set_2) | exact HI275.out)); (case side2 => repeat (first | (with_reducible first | exact HB.out | apply below_alloc | apply pw_below_drewN | apply below_drew1 | refine below_set ?_ (IsS67.ge HI275.out)) | exact HB.out)); rintro e w7 ⟨v277, rfl, ho0, hi, hb, hk⟩; refine ⟨_, rfl, ?_⟩; have HO278 := Aside0.mk (Kd.S_lower ho0 (below_size (by repeat (first | (with_reducible first | exact HB.out | apply below_alloc | apply pw_below_drewN | apply below_drew1 | refine below_set ?_ (IsS67.ge HI275.out)) | exact HB.out)))); replace HB := Aside0.mk (hb); replace HI275 := Aside0.mk (hi); (try clear hb); (try clear hb2); (try clear hk); (try clear hi); (try clear ho0)) | ((with_reducible refine gate_callee (f := 27) rfl ?_); refine goesL_ (some 13) rfl rfl Try.func27 (by kernel_rfl) rfl #[.pointer (some ⟨g275, 0, none⟩), .int .i64 6] rfl q51t ?_; (with_reducible refine (spec_l1Below.calls g275 t272 t279 t280 6 t281 t282 t283 w _ ?side1 ?side2 A4.out).mono ?_); (case side1 => repeat (first | (with_reducible first | exact HI275.out | apply IsS67.alloc | apply IsS67.drewN | apply IsS67.drew | apply IsS67.set_1 | apply IsS67.set_2) | exact HI275.out)); (case side2 => repeat (first | (with_reducible first | exact HB.out | apply below_alloc | apply pw_below_drewN | apply below_drew1 | refine below_set ?_ (IsS67.ge HI275.out)) | exact HB.out)); rintro e w8 ⟨rfl, hi, hb, hk⟩; refine ⟨_, rfl, ?_⟩; replace HO278 := Aside0.mk (Kd.S_mono (Kd.S_keep (IsS67.apartS (show IsS67 w _ g275 t272 t279 t280 from by repeat (first | (with_reducible first | exact HI275.out | apply IsS67.alloc | apply IsS67.drewN | apply IsS67.drew | apply IsS67.set_1 | apply IsS67.set_2) | exact HI275.out)) (by (with_reducible repeat (first | apply Kd.S_alloc | apply Kd.S_drewN | apply Kd.S_drew)); exact HO278.out) q85t) hk (fun _ h => h.2)) (fun _ h => h.1)); replace HB := Aside0.mk (hb); replace HI275 := Aside0.mk (hi); (try clear hb); (try clear hb2); (try clear hk); (try clear hi)) | ((with_reducible refine gate_callee (f := 27) rfl ?_); refine goesL_ (some 16) rfl rfl Try.func27 (by kernel_rfl) rfl #[.pointer (some ⟨g275, 0, none⟩), .int .i64 4] rfl q51t ?_; (with_reducible refine (spec_l1Below.calls g275 t272 t282 t283 4 t284 t285 t286 w _ ?side1 ?side2 A5.out).mono ?_); (case side1 => repeat (first | (with_reducible first | exact HI275.out | apply IsS67.alloc | apply IsS67.drewN | apply IsS67.drew | apply IsS67.set_1 | apply IsS67.set_2) | exact HI275.out)); (case side2 => repeat (first | (with_reducible first | exact HB.out | apply below_alloc | apply pw_below_drewN | apply below_drew1 | refine below_set ?_ (IsS67.ge HI275.out)) | exact HB.out)); rintro e w9 ⟨rfl, hi, hb, hk⟩; refine ⟨_, rfl, ?_⟩; replace HO278 := Aside0.mk (Kd.S_mono (Kd.S_keep (IsS67.apartS (show IsS67 w _ g275 t272 t282 t283 from by repeat (first | (with_reducible first | exact HI275.out | apply IsS67.alloc | apply IsS67.drewN | apply IsS67.drew | apply IsS67.set_1 | apply IsS67.set_2) | exact HI275.out)) (by (with_reducible repeat (first | apply Kd.S_alloc | apply Kd.S_drewN | apply Kd.S_drew)); exact HO278.out) q85t) hk (fun _ h => h.2)) (fun _ h => h.1)); replace HB := Aside0.mk (hb); replace HI275 := Aside0.mk (hi); (try clear hb); (try clear hb2); (try clear hk); (try clear hi)))
 go_ret3
 exact ⟨_, q73t, (by (with_reducible repeat (first | apply Kd.S_alloc | apply Kd.S_drewN | apply Kd.S_drew)); exact HO278.out), (by repeat (first | (with_reducible first | exact HB.out | apply below_alloc | apply pw_below_drewN | apply below_drew1 | refine below_set ?_ (IsS67.ge HI275.out)) | exact HB.out))⟩

/-! ### slices_Clone_int_int: function 58 (by hand) -/
def slices_Clone_int_int.f (l0 : List (Int)) : Option (List (Int)) := if l0.length < 17592186044416 then some l0 else none
theorem slices_Clone_int_int.calls (A0 : Option Addr) (c0 : Nat) (l0 : List (Int)) (r : List (Int)) (w : World) (hr0 : Kd.C (Kd.int .i64) w A0 l0.length l0) (hc0 : l0.length ≤ c0) (h : slices_Clone_int_int.f l0 = some r) :
  Calls Try.prog 58 #[.slice A0 l0.length c0] w fun e w' => ∃ v0_ : Value, e = .returned (v0_) ∧ Kd.R (Kd.int .i64) 3 w' w.heap.size (fun _ => True) v0_ r ∧ Below w.heap.size w w' := by
 unfold slices_Clone_int_int.f at h
 by_cases hl : l0.length < 17592186044416
 ·rw [if_pos hl] at h
  obtain rfl := Option.some.inj h
  have heq := fun (w : World) (n c : Nat) => Lib.run_eql_slice_nil (P := Try.prog) w 45 3 A0 n c 0 0 Try.underlying45
  cases A0 with
  | none =>
   obtain rfl : l0 = [] := by
    cases l0 with
    | nil => rfl
    | cons x xs =>
     obtain ⟨cs, hcs⟩ := hr0.2.2 q87t
     cases hcs.1
   go_enter Try.func58, Try.ntmps58
   go_wp2
   go_ret
   exact ⟨_, rfl, Kd.R_nil _ _ _ _ _, Below.refl _ _⟩
  | some ad =>
   have HR := Aside0.mk hr0
   have HL := Aside0.mk hl
   clear hr0 hl
   go_enter Try.func58, Try.ntmps58
   go_wp2_with (first | ((with_reducible refine gate_dst (N := 5) rfl ?_); refine Kd.R_lit (Kd.int .i64) _ 3 ?hg (N := 5) ?hd (xs := ([] : List (Int))) (inner := []) (ok := fun _ => True) (okp := fun _ => True) ?hr ?hp (fun _ hk => hk) trivial (Below.refl _ _) (Nat.le_refl _) q87t ?_; (case hd => rfl); (case hg => rfl); (case hr => first | (go_simp; done) | (go_simp; rfl)); (case hp => exact (Reps.none _ _)); intro v1 w1 ho1 hb1 hg_ hnew_; clear hg_ hnew_; have HO1 := Aside0.mk ho1; have HB1 := Aside0.mk hb1; clear ho1 hb1) | ((with_reducible refine gate_builtin (b := .append) (xs := #[.tmp 5, .tmp 6]) rfl ?_); at_builtin; refine Kd.R_append_rows (Kd.int .i64) (w0 := w) w.heap.size rfl (.tmp 5) (.tmp 6) 45 3 (.int .i64 0) 8 rfl Try.underlying45 info3 rfl q85t q86t v1 [] l0 _ _ _ (fun _ => True) (fun _ => False) rfl rfl ?aO ?aR (fun _ _ h => h) (fun _ h => h.elim) ?aF ?aB ?aS ?aL ?_; (case aR => exact Kd.C_below HR.out HB1.out); (case aB => exact HB1.out); (case aF => exact (fun _ _ => trivial)); (case aO => exact HO1.out); (case aS => exact HB1.out.size); (case aL => have := HL.out; simp only [List.length_nil]; omega); intro v2 w2 ho2 hb2 hg2_ hat_; clear hg2_ hat_; have HO2 := Aside0.mk ho2; have HB2 := Aside0.mk hb2; clear ho2 hb2))
   go_ret
   exact ⟨_, rfl, HO2.out, HB2.out⟩
 ·rw [if_neg hl] at h
  cases h

/-! ### impl_Thing_59: function 59 (by hand) -/
def impl_Thing_59.f (l0 : List (S74)) : Option (List (S74)) := if l0.length < 5864062014805 then some l0 else none
theorem impl_Thing_59.calls (A0 : Option Addr) (c0 : Nat) (l0 : List (S74)) (r : List (S74)) (w : World) (hr0 : Kd.C k74 w A0 l0.length l0) (hc0 : l0.length ≤ c0) (h : impl_Thing_59.f l0 = some r) :
  Calls Try.prog 59 #[.slice A0 l0.length c0] w fun e w' => ∃ v0_ : Value, e = .returned (v0_) ∧ Kd.R k74 74 w' w.heap.size (fun _ => True) v0_ r ∧ Below w.heap.size w w' := by
 unfold impl_Thing_59.f at h
 by_cases hl : l0.length < 5864062014805
 ·rw [if_pos hl] at h
  obtain rfl := Option.some.inj h
  have heq := fun (w : World) (n c : Nat) => Lib.run_eql_slice_nil (P := Try.prog) w 46 74 A0 n c 0 0 Try.underlying46
  cases A0 with
  | none =>
   obtain rfl : l0 = [] := by
    cases l0 with
    | nil => rfl
    | cons x xs =>
     obtain ⟨cs, hcs⟩ := hr0.2.2 q87t
     cases hcs.1
   go_enter Try.func59, Try.ntmps59
   go_wp2
   go_ret
   exact ⟨_, rfl, Kd.R_nil _ _ _ _ _, Below.refl _ _⟩
  | some ad =>
   have HR := Aside0.mk hr0
   have HL := Aside0.mk hl
   clear hr0 hl
   go_enter Try.func59, Try.ntmps59
   go_wp2_with (first | ((with_reducible refine gate_dst (N := 5) rfl ?_); refine Kd.R_lit k74 _ 74 ?hg (N := 5) ?hd (xs := ([] : List (S74))) (inner := []) (ok := fun _ => True) (okp := fun _ => True) ?hr ?hp (fun _ hk => hk) trivial (Below.refl _ _) (Nat.le_refl _) q87t ?_; (case hd => rfl); (case hg => rfl); (case hr => first | (go_simp; done) | (go_simp; rfl)); (case hp => exact (Reps.none _ _)); intro v1 w1 ho1 hb1 hg_ hnew_; clear hg_ hnew_; have HO1 := Aside0.mk ho1; have HB1 := Aside0.mk hb1; clear ho1 hb1) | ((with_reducible refine gate_builtin (b := .append) (xs := #[.tmp 5, .tmp 6]) rfl ?_); at_builtin; refine Kd.R_append_rows k74 (w0 := w) w.heap.size rfl (.tmp 5) (.tmp 6) 46 74 (.agg #[(.int .i64 0), (.int .i64 0), (.int .i64 0)]) 24 rfl Try.underlying46 info74 rfl q85t q86t v1 [] l0 _ _ _ (fun _ => True) (fun _ => False) rfl rfl ?aO ?aR (fun _ _ h => h) (fun _ h => h.elim) ?aF ?aB ?aS ?aL ?_; (case aR => exact Kd.C_below HR.out HB1.out); (case aB => exact HB1.out); (case aF => exact (fun _ _ => trivial)); (case aO => exact HO1.out); (case aS => exact HB1.out.size); (case aL => have := HL.out; simp only [List.length_nil]; omega); intro v2 w2 ho2 hb2 hg2_ hat_; clear hg2_ hat_; have HO2 := Aside0.mk ho2; have HB2 := Aside0.mk hb2; clear ho2 hb2))
   go_ret
   exact ⟨_, rfl, HO2.out, HB2.out⟩
 ·rw [if_neg hl] at h
  cases h

/-! ### impl_copyNode: function 48 -/
def impl_copyNode.f (a0_0 : Int) (a0_1 : Int) (a0_2 : Int) (a0_3 : Int) (a0_4 : Int) (a0_5 : Int) (a0_6 : Int) (a0_7 : Int) (l0_8 : List Int) (a0_9 : Int) (a0_10 : Int) (l0_11 : List (S74)) (l0_12 : List Int) : Option (Int × Int × Int × Int × Int × Int × Int × Int × List Int × Int × Int × (List (S74)) × List Int) := (slices_Clone_int_int.f l0_8).bind fun t289 => ((impl_Thing_59.f l0_11).bind fun t292 => ((slices_Clone_int_int.f l0_12).bind fun t295 => (some (a0_0, a0_1, a0_2, a0_3, a0_4, a0_5, a0_6, a0_7, t289, a0_9, a0_10, t292, t295))))
def impl_copyNode.T1 : Bool × List (List Nat × List Nat) := (true, [([], []), ([0], [0]), ([1], [1]), ([], []), ([3], [3]), ([4, 2], [4]), ([], []), ([6], [6]), ([7, 5], [7]), ([0, 1, 2, 3, 4, 6, 7], []), ([9, 2, 8, 0, 1, 2, 3, 4, 6, 7], [2, 9]), ([0, 1, 2, 3, 4, 5, 6, 7, 9, 10], []), ([11, 5, 10, 0, 1, 2, 3, 4, 5, 6, 7, 9, 10], [5, 11]), ([0, 1, 2, 3, 4, 5, 6, 7, 8, 9, 10, 11, 12], []), ([13, 8, 12, 0, 1, 2, 3, 4, 5, 6, 7, 8, 9, 10, 11, 12], [8, 13])])
def impl_copyNode.B1 : List Nat := [0, 1, 3, 0, 8, 31, 0, 64, 255, 223, 1023, 2047, 4095, 8191, 16383]
theorem impl_copyNode.tab1 : rtab .any (opsOf Try.f48 1) = impl_copyNode.T1 := by kernel_rfl
theorem impl_copyNode.bits1 : waitsOk impl_copyNode.T1.2 impl_copyNode.B1 = true := by kernel_rfl
set_option maxHeartbeats 8000000 in
set_option maxRecDepth 100000 in
theorem impl_copyNode.calls (a0_0 : Int) (a0_1 : Int) (a0_2 : Int) (a0_3 : Int) (a0_4 : Int) (a0_5 : Int) (a0_6 : Int) (a0_7 : Int) (A0_8 : Option Addr) (c0_8 : Nat) (l0_8 : List Int) (a0_9 : Int) (a0_10 : Int) (A0_11 : Option Addr) (c0_11 : Nat) (l0_11 : List (S74)) (A0_12 : Option Addr) (c0_12 : Nat) (l0_12 : List Int) (r1 : Int) (r2 : Int) (r3 : Int) (r4 : Int) (r5 : Int) (r6 : Int) (r7 : Int) (r8 : Int) (r9 : List Int) (r10 : Int) (r11 : Int) (r12 : List (S74)) (r13 : List Int) (w : World) (hr0_8 : Kd.C (Kd.int .i64) w A0_8 l0_8.length l0_8) (hc0_8 : l0_8.length ≤ c0_8) (hr0_11 : Kd.C k74 w A0_11 l0_11.length l0_11) (hc0_11 : l0_11.length ≤ c0_11) (hr0_12 : Kd.C (Kd.int .i64) w A0_12 l0_12.length l0_12) (hc0_12 : l0_12.length ≤ c0_12) (h : impl_copyNode.f a0_0 a0_1 a0_2 a0_3 a0_4 a0_5 a0_6 a0_7 l0_8 a0_9 a0_10 l0_11 l0_12 = some (r1, r2, r3, r4, r5, r6, r7, r8, r9, r10, r11, r12, r13)) :
  Calls Try.prog 48 #[.agg #[.int .i64 a0_0, .int .i64 a0_1, .int .i64 a0_2, .int .i64 a0_3, .int .i64 a0_4, .int .i64 a0_5, .int .i64 a0_6, .int .i64 a0_7, .slice A0_8 l0_8.length c0_8, .int .i64 a0_9, .int .i64 a0_10, .slice A0_11 l0_11.length c0_11, .slice A0_12 l0_12.length c0_12]] w fun e w' => ∃ v8_ v11_ v12_ : Value, e = .returned (.agg #[.int .i64 r1, .int .i64 r2, .int .i64 r3, .int .i64 r4, .int .i64 r5, .int .i64 r6, .int .i64 r7, .int .i64 r8, v8_, .int .i64 r10, .int .i64 r11, v11_, v12_]) ∧ Kd.R (Kd.int .i64) 3 w' w.heap.size (fun k_ => some k_ ≠ (v12_ : Value).ownBlock) v8_ r9 ∧ Kd.R k74 74 w' w.heap.size (fun _ => True) v11_ r12 ∧ Kd.R (Kd.int .i64) 3 w' w.heap.size (fun k_ => some k_ ≠ (v8_ : Value).ownBlock) v12_ r13 ∧ Below w.heap.size w w' := by
 have hu48 := Try.underlying48
 have HR0_8 := Aside0.mk hr0_8
 have HC0_8 := Aside0.mk hc0_8
 clear hr0_8 hc0_8
 have HR0_11 := Aside0.mk hr0_11
 have HC0_11 := Aside0.mk hc0_11
 clear hr0_11 hc0_11
 have HR0_12 := Aside0.mk hr0_12
 have HC0_12 := Aside0.mk hc0_12
 clear hr0_12 hc0_12
 have HB := Aside0.mk (Below.refl w.heap.size w)
 have H : ((slices_Clone_int_int.f l0_8).bind fun t289 => ((impl_Thing_59.f l0_11).bind fun t292 => ((slices_Clone_int_int.f l0_12).bind fun t295 => (some (a0_0, a0_1, a0_2, a0_3, a0_4, a0_5, a0_6, a0_7, t289, a0_9, a0_10, t292, t295))))) = some (r1, r2, r3, r4, r5, r6, r7, r8, r9, r10, r11, r12, r13) := h
 clear h
 replace H := Option.bind_eq_some_iff.mp H
 obtain ⟨t289, A20, H⟩ := H
 try dsimp only at H
 have A2 := Aside0.mk A20
 clear A20
 replace H := Option.bind_eq_some_iff.mp H
 obtain ⟨t292, A30, H⟩ := H
 try dsimp only at H
 have A3 := Aside0.mk A30
 clear A30
 replace H := Option.bind_eq_some_iff.mp H
 obtain ⟨t295, A40, H⟩ := H
 try dsimp only at H
 have A4 := Aside0.mk A40
 clear A40
 simp only [Option.some.injEq, Prod.mk.injEq] at H
 obtain ⟨rfl, rfl, rfl, rfl, rfl, rfl, rfl, rfl, rfl, rfl, rfl, rfl, rfl⟩ := H
 go_enter Try.func48, Try.ntmps48
 try go_wp2_with (first | ((with_reducible refine gate_dst (N := 1) rfl ?_); refine box_ev 1 #[.int .i64 a0_0, .int .i64 a0_1, .int .i64 a0_2, .int .i64 a0_3, .int .i64 a0_4, .int .i64 a0_5, .int .i64 a0_6, .int .i64 a0_7, .slice A0_8 l0_8.length c0_8, .int .i64 a0_9, .int .i64 a0_10, .slice A0_11 l0_11.length c0_11, .slice A0_12 l0_12.length c0_12] 48 ?_; intro gb287 hg w5 hbox hb; have BK287 := Aside0.mk (hbox); have GW287 := Aside0.mk ((q48t : w.heap.size ≤ gb287)); have GE287 := Aside0.mk ((q48t : w.heap.size ≤ gb287)); replace HB := Aside0.mk (below_step q53t hb); clear hb hbox hg) | ((with_reducible refine gate_dst (N := 2) rfl ?_); refine box_ev 2 #[.int .i64 0, .int .i64 0, .int .i64 0, .int .i64 0, .int .i64 0, .int .i64 0, .int .i64 0, .int .i64 0, .slice none 0 0, .int .i64 0, .int .i64 0, .slice none 0 0, .slice none 0 0] 48 ?_; intro gb288 hg w6 hbox hb; have BK288 := Aside0.mk (hbox); have GW288 := Aside0.mk ((q26t : w.heap.size ≤ gb288)); have GE288 := Aside0.mk ((q26t : w.heap.size ≤ gb288)); replace HB := Aside0.mk (below_step q33t hb); have NB287_288 := Aside0.mk ((by rw [hg]; exact Nat.ne_of_lt (blk_lt (qbk BK287)) : gb287 ≠ gb288)); have NB288_287 := Aside0.mk ((by rw [hg]; exact Nat.ne_of_gt (blk_lt (qbk BK287)) : gb288 ≠ gb287)); replace BK287 := blb BK287 hb; clear hb hbox hg))
 (try (rw [drewN_self w6]; generalize hq_ : World.drewN w6 _ = w6; have hh_ := congrArg World.heap hq_; dsimp only [World.drewN] at hh_; have zb_ : Below w.heap.size w w6 := (by rw [← hq_]; exact pw_below_drewN HB.out _); have z_ := BK287.out; rw [hh_] at z_; clear BK287; have BK287 := Aside0.mk z_; clear z_; have z_ := BK288.out; rw [hh_] at z_; clear BK288; have BK288 := Aside0.mk z_; clear z_; clear HB; have HB := Aside0.mk zb_; clear zb_ hh_ hq_))
 replace BK287 := Aside0.mk (blk_drew BK287.out)
 replace BK288 := Aside0.mk (blk_drew BK288.out)
 replace HB := Aside0.mk (below_drew1 HB.out)
 refine start_ (n := 15) (S := fun w' => w'.cell? ⟨gb287, 0, none⟩ = some (.int .i64 a0_0) ∧ w'.cell? ⟨gb287, 1, none⟩ = some (.int .i64 a0_1) ∧ w'.cell? ⟨gb287, 2, none⟩ = some (.int .i64 a0_2) ∧ w'.cell? ⟨gb287, 3, none⟩ = some (.int .i64 a0_3) ∧ w'.cell? ⟨gb287, 4, none⟩ = some (.int .i64 a0_4) ∧ w'.cell? ⟨gb287, 5, none⟩ = some (.int .i64 a0_5) ∧ w'.cell? ⟨gb287, 6, none⟩ = some (.int .i64 a0_6) ∧ w'.cell? ⟨gb287, 7, none⟩ = some (.int .i64 a0_7) ∧ w'.cell? ⟨gb287, 8, none⟩ = some (.slice A0_8 l0_8.length c0_8) ∧ w'.cell? ⟨gb287, 9, none⟩ = some (.int .i64 a0_9) ∧ w'.cell? ⟨gb287, 10, none⟩ = some (.int .i64 a0_10) ∧ w'.cell? ⟨gb287, 11, none⟩ = some (.slice A0_11 l0_11.length c0_11) ∧ w'.cell? ⟨gb287, 12, none⟩ = some (.slice A0_12 l0_12.length c0_12)) (ds := [10, 12, 14]) (bm 15 0) (by kernel_rfl) rfl (by kernel_rfl) ⟨(blk_cell BK287.out 0).trans rfl, (blk_cell BK287.out 1).trans rfl, (blk_cell BK287.out 2).trans rfl, (blk_cell BK287.out 3).trans rfl, (blk_cell BK287.out 4).trans rfl, (blk_cell BK287.out 5).trans rfl, (blk_cell BK287.out 6).trans rfl, (blk_cell BK287.out 7).trans rfl, (blk_cell BK287.out 8).trans rfl, (blk_cell BK287.out 9).trans rfl, (blk_cell BK287.out 10).trans rfl, (blk_cell BK287.out 11).trans rfl, (blk_cell BK287.out 12).trans rfl⟩ (fun hHeld => ?_); refine with_tabW impl_copyNode.tab1 impl_copyNode.bits1 (fun HT_ HW_ => ?_)
 generalize w6.drew = w7 at BK287 BK288 HB hHeld ⊢
 refine pu_ 0 (some 3) (bm 15 1) (any_of HT_.out (by kernel_rfl)) ?_
 refine pu_ 3 (some 6) (bm 15 9) (any_of HT_.out (by kernel_rfl)) ?_
 refine pu_ 6 (some 9) (bm 15 73) (any_of HT_.out (by kernel_rfl)) ?_
 refine tk_ 1 (some 4) (bm 15 75) (take_ofW HT_.out HW_.out (by kernel_rfl)) hHeld ?_
 refine tk_ 4 (some 7) (bm 15 91) (take_ofW HT_.out HW_.out (by kernel_rfl)) hHeld ?_
 refine tk_ 7 (some 10) (bm 15 219) (take_ofW HT_.out HW_.out (by kernel_rfl)) hHeld ?_
 refine one_ (i := 2) (N := some 5) (bm 15 223) rfl rfl (one_of HT_.out (by kernel_rfl)) q85t (fun K hK => ?_)
 refine goes_ Try.func58 (by kernel_rfl) rfl #[.slice A0_8 l0_8.length c0_8] (by rfl) rfl rfl q51t ?_
 with_reducible refine (slices_Clone_int_int.calls _ _ l0_8 t289 _ ?side1 ?side2 A2.out).mono ?_
 (case side1 => exact sC (Kd.C_below HR0_8.out HB.out))
 (case side2 => exact HC0_8.out)
 rintro e w8 ⟨v290, rfl, ho0, hb⟩
 refine ⟨_, rfl, ?_⟩
 have HO291 := Aside0.mk (Kd.R_lower ho0 (below_size q33t))
 replace BK287 := blb BK287 hb
 replace BK288 := blb BK288 hb
 replace HB := Aside0.mk (below_step q33t hb)
 (try clear hb)
 (try clear hb2)
 (try clear hk)
 (try clear hi)
 (try clear ho0)
 refine hK.out _ _ q1t (fun hHeld => ?_)
 clear hK K
 refine norm_ (a' := ?_) ?_ ?_
 rotate_left
 ·show Act.put _ (some 5) _ = _
  simp only [Act.put, List.setIfInBounds_toArray, List.set_cons_zero, List.set_cons_succ, i64_w, i32_w]
  rfl
 refine pu_ 9 (some 12) (bm 15 735) (any_of HT_.out (by kernel_rfl)) ?_
 refine one_ (i := 5) (N := some 8) (bm 15 767) rfl rfl (one_of HT_.out (by kernel_rfl)) q85t (fun K hK => ?_)
 refine goes_ Try.func59 (by kernel_rfl) rfl #[.slice A0_11 l0_11.length c0_11] (by rfl) rfl rfl q51t ?_
 with_reducible refine (impl_Thing_59.calls _ _ l0_11 t292 _ ?side1 ?side2 A3.out).mono ?_
 (case side1 => exact sC (Kd.C_below HR0_11.out HB.out))
 (case side2 => exact HC0_11.out)
 rintro e w9 ⟨v293, rfl, ho0, hb⟩
 refine ⟨_, rfl, ?_⟩
 replace HO291 := Aside0.mk (Kd.R_below (by (with_reducible repeat (first | apply Kd.R_alloc | apply Kd.R_drewN | apply Kd.R_drew)); exact HO291.out) hb)
 have HO294 := Aside0.mk (Kd.R_lower ho0 (below_size q33t))
 replace BK287 := blb BK287 hb
 replace BK288 := blb BK288 hb
 replace HB := Aside0.mk (below_step q33t hb)
 (try clear hb)
 (try clear hb2)
 (try clear hk)
 (try clear hi)
 (try clear ho0)
 refine hK.out _ _ q1t (fun hHeld => ?_)
 clear hK K
 refine norm_ (a' := ?_) ?_ ?_
 rotate_left
 ·show Act.put _ (some 8) _ = _
  simp only [Act.put, List.setIfInBounds_toArray, List.set_cons_zero, List.set_cons_succ, i64_w, i32_w]
  rfl
 refine one_ (i := 8) (N := some 11) (bm 15 1023) rfl rfl (one_of HT_.out (by kernel_rfl)) q85t (fun K hK => ?_)
 refine goes_ Try.func58 (by kernel_rfl) rfl #[.slice A0_12 l0_12.length c0_12] (by rfl) rfl rfl q51t ?_
 with_reducible refine (slices_Clone_int_int.calls _ _ l0_12 t295 _ ?side1 ?side2 A4.out).mono ?_
 (case side1 => exact sC (Kd.C_below HR0_12.out HB.out))
 (case side2 => exact HC0_12.out)
 rintro e w10 ⟨v296, rfl, ho0, hb⟩
 refine ⟨_, rfl, ?_⟩
 replace HO294 := Aside0.mk (Kd.R_below (by (with_reducible repeat (first | apply Kd.R_alloc | apply Kd.R_drewN | apply Kd.R_drew)); exact HO294.out) hb)
 have HO297 := Aside0.mk (Kd.R_lower (Kd.R_new' ho0 (Kd.R_lt (by (with_reducible repeat (first | apply Kd.R_alloc | apply Kd.R_drewN | apply Kd.R_drew)); exact HO291.out))) (below_size q33t))
 replace HO291 := Aside0.mk (Kd.R_elder' (by (with_reducible repeat (first | apply Kd.R_alloc | apply Kd.R_drewN | apply Kd.R_drew)); exact HO291.out) (Kd.R_base ho0) hb)
 replace BK287 := blb BK287 hb
 replace BK288 := blb BK288 hb
 replace HB := Aside0.mk (below_step q33t hb)
 (try clear hb)
 (try clear hb2)
 (try clear hk)
 (try clear hi)
 (try clear ho0)
 obtain ⟨Ao11, co11, eo11⟩ := Kd.R_slice HO291.out
 (first | subst eo11 | (injection eo11 with f1_ f2_ f3_; have f4_ := f1_.symm; have f5_ := f3_.symm; clear f1_ f2_ f3_; subst f4_; subst f5_))
 obtain ⟨Ao13, co13, eo13⟩ := Kd.R_slice HO294.out
 (first | subst eo13 | (injection eo13 with f1_ f2_ f3_; have f4_ := f1_.symm; have f5_ := f3_.symm; clear f1_ f2_ f3_; subst f4_; subst f5_))
 obtain ⟨Ao15, co15, eo15⟩ := Kd.R_slice HO297.out
 (first | subst eo15 | (injection eo15 with f1_ f2_ f3_; have f4_ := f1_.symm; have f5_ := f3_.symm; clear f1_ f2_ f3_; subst f4_; subst f5_))
 refine hK.out _ _ q1t (fun hHeld => ?_)
 clear hK K
 refine norm_ (a' := ?_) ?_ ?_
 rotate_left
 ·show Act.put _ (some 11) _ = _
  simp only [Act.put, List.setIfInBounds_toArray, List.set_cons_zero, List.set_cons_succ, i64_w, i32_w]
  rfl
 refine last_ (i := 10) (N := none) #[true, true, true, true, true, true, true, true, true, true, true, false, false, false, false] rfl rfl (one_of HT_.out (by kernel_rfl)) q85t (fun K hK => ?_)
 have hs12 : w10.cell? ⟨gb287, 8, none⟩ = some (.slice A0_8 l0_8.length c0_8) := (blk_cell BK287.out 8).trans rfl
 have hfs12 := blk_frozen BK287.out 8
 have hns12_1 := NB288_287.out
 have hms12_1 := NB287_288.out
 refine skip_ (w1 := ?_) (by rfl) rfl ?_ ?_
 rotate_left
 ·go_simp
  rfl
 refine hK.out _ _ ?_
 clear hK K
 refine pu_ 11 (some 13) (bm 15 4095) (any_of HT_.out (by kernel_rfl)) ?_
 refine last_ (i := 12) (N := none) #[true, true, true, true, true, true, true, true, true, true, true, true, true, false, false] rfl rfl (one_of HT_.out (by kernel_rfl)) q85t (fun K hK => ?_)
 have hs14 : w10.cell? ⟨gb287, 11, none⟩ = some (.slice A0_11 l0_11.length c0_11) := (blk_cell BK287.out 11).trans rfl
 have hfs14 := blk_frozen BK287.out 11
 have hns14_1 := NB288_287.out
 have hms14_1 := NB287_288.out
 refine skip_ (w1 := ?_) (by rfl) rfl ?_ ?_
 rotate_left
 ·go_simp
  rfl
 refine hK.out _ _ ?_
 clear hK K
 refine pu_ 13 (some 14) (bm 15 16383) (any_of HT_.out (by kernel_rfl)) ?_
 refine last_ (i := 14) (N := none) #[true, true, true, true, true, true, true, true, true, true, true, true, true, true, true] rfl rfl (one_of HT_.out (by kernel_rfl)) q85t (fun K hK => ?_)
 have hs16 : w10.cell? ⟨gb287, 12, none⟩ = some (.slice A0_12 l0_12.length c0_12) := (blk_cell BK287.out 12).trans rfl
 have hfs16 := blk_frozen BK287.out 12
 have hns16_1 := NB288_287.out
 have hms16_1 := NB287_288.out
 refine skip_ (w1 := ?_) (by rfl) rfl ?_ ?_
 rotate_left
 ·go_simp
  rfl
 refine hK.out _ _ ?_
 clear hK K
 refine done_ (done_of HT_.out (by kernel_rfl)) ?_
 have hnb17 := NB287_288.out
 have hnc17 := NB288_287.out
 obtain ⟨hcz18_0, hcz18_1, hcz18_2, hcz18_3, hcz18_4, hcz18_5, hcz18_6, hcz18_7, hcz18_8, hcz18_9, hcz18_10, hcz18_11, hcz18_12⟩ := qc13 BK287.out
 obtain ⟨hfz18_0, hfz18_1, hfz18_2, hfz18_3, hfz18_4, hfz18_5, hfz18_6, hfz18_7, hfz18_8, hfz18_9, hfz18_10, hfz18_11, hfz18_12⟩ := qf13 BK287.out
 obtain ⟨hcz19_0, hcz19_1, hcz19_2, hcz19_3, hcz19_4, hcz19_5, hcz19_6, hcz19_7, hcz19_8, hcz19_9, hcz19_10, hcz19_11, hcz19_12⟩ := qc13 BK288.out
 obtain ⟨hfz19_0, hfz19_1, hfz19_2, hfz19_3, hfz19_4, hfz19_5, hfz19_6, hfz19_7, hfz19_8, hfz19_9, hfz19_10, hfz19_11, hfz19_12⟩ := qf13 BK288.out
 try go_wp2
 refine bodyPost_ret (results_cell_row rfl _ _ gb288 48 #[.int .i64 a0_0, .int .i64 a0_1, .int .i64 a0_2, .int .i64 a0_3, .int .i64 a0_4, .int .i64 a0_5, .int .i64 a0_6, .int .i64 a0_7, .slice Ao11 t289.length co11, .int .i64 a0_9, .int .i64 a0_10, .slice Ao13 t292.length co13, .slice Ao15 t295.length co15] (0, 0) _ rfl (by (with_reducible repeat (first | refine blk_drewN ?_ _ | refine blk_drew ?_ | refine blk_alloc ?_ _)); refine blk_put (cs := #[.int .i64 a0_0, .int .i64 a0_1, .int .i64 a0_2, .int .i64 a0_3, .int .i64 a0_4, .int .i64 a0_5, .int .i64 a0_6, .int .i64 a0_7, .slice Ao11 t289.length co11, .int .i64 a0_9, .int .i64 a0_10, .slice Ao13 t292.length co13, .slice none 0 0]) ?_ 12 _ rfl; (with_reducible repeat (first | refine blk_drewN ?_ _ | refine blk_drew ?_ | refine blk_alloc ?_ _)); refine blk_put (cs := #[.int .i64 a0_0, .int .i64 a0_1, .int .i64 a0_2, .int .i64 a0_3, .int .i64 a0_4, .int .i64 a0_5, .int .i64 a0_6, .int .i64 a0_7, .slice Ao11 t289.length co11, .int .i64 a0_9, .int .i64 a0_10, .slice none 0 0, .slice none 0 0]) ?_ 11 _ rfl; (with_reducible repeat (first | refine blk_drewN ?_ _ | refine blk_drew ?_ | refine blk_alloc ?_ _)); refine blk_put (cs := #[.int .i64 a0_0, .int .i64 a0_1, .int .i64 a0_2, .int .i64 a0_3, .int .i64 a0_4, .int .i64 a0_5, .int .i64 a0_6, .int .i64 a0_7, .slice Ao11 t289.length co11, .int .i64 a0_9, .int .i64 0, .slice none 0 0, .slice none 0 0]) ?_ 10 _ rfl; (with_reducible repeat (first | refine blk_drewN ?_ _ | refine blk_drew ?_ | refine blk_alloc ?_ _)); refine blk_put (cs := #[.int .i64 a0_0, .int .i64 a0_1, .int .i64 a0_2, .int .i64 a0_3, .int .i64 a0_4, .int .i64 a0_5, .int .i64 a0_6, .int .i64 a0_7, .slice Ao11 t289.length co11, .int .i64 0, .int .i64 0, .slice none 0 0, .slice none 0 0]) ?_ 9 _ rfl; (with_reducible repeat (first | refine blk_drewN ?_ _ | refine blk_drew ?_ | refine blk_alloc ?_ _)); refine blk_put (cs := #[.int .i64 a0_0, .int .i64 a0_1, .int .i64 a0_2, .int .i64 a0_3, .int .i64 a0_4, .int .i64 a0_5, .int .i64 a0_6, .int .i64 a0_7, .slice none 0 0, .int .i64 0, .int .i64 0, .slice none 0 0, .slice none 0 0]) ?_ 8 _ rfl; (with_reducible repeat (first | refine blk_drewN ?_ _ | refine blk_drew ?_ | refine blk_alloc ?_ _)); refine blk_put (cs := #[.int .i64 a0_0, .int .i64 a0_1, .int .i64 a0_2, .int .i64 a0_3, .int .i64 a0_4, .int .i64 a0_5, .int .i64 a0_6, .int .i64 0, .slice none 0 0, .int .i64 0, .int .i64 0, .slice none 0 0, .slice none 0 0]) ?_ 7 _ rfl; (with_reducible repeat (first | refine blk_drewN ?_ _ | refine blk_drew ?_ | refine blk_alloc ?_ _)); refine blk_put (cs := #[.int .i64 a0_0, .int .i64 a0_1, .int .i64 a0_2, .int .i64 a0_3, .int .i64 a0_4, .int .i64 a0_5, .int .i64 0, .int .i64 0, .slice none 0 0, .int .i64 0, .int .i64 0, .slice none 0 0, .slice none 0 0]) ?_ 6 _ rfl; (with_reducible repeat (first | refine blk_drewN ?_ _ | refine blk_drew ?_ | refine blk_alloc ?_ _)); refine blk_put (cs := #[.int .i64 a0_0, .int .i64 a0_1, .int .i64 a0_2, .int .i64 a0_3, .int .i64 a0_4, .int .i64 0, .int .i64 0, .int .i64 0, .slice none 0 0, .int .i64 0, .int .i64 0, .slice none 0 0, .slice none 0 0]) ?_ 5 _ rfl; (with_reducible repeat (first | refine blk_drewN ?_ _ | refine blk_drew ?_ | refine blk_alloc ?_ _)); refine blk_put (cs := #[.int .i64 a0_0, .int .i64 a0_1, .int .i64 a0_2, .int .i64 a0_3, .int .i64 0, .int .i64 0, .int .i64 0, .int .i64 0, .slice none 0 0, .int .i64 0, .int .i64 0, .slice none 0 0, .slice none 0 0]) ?_ 4 _ rfl; (with_reducible repeat (first | refine blk_drewN ?_ _ | refine blk_drew ?_ | refine blk_alloc ?_ _)); refine blk_put (cs := #[.int .i64 a0_0, .int .i64 a0_1, .int .i64 a0_2, .int .i64 0, .int .i64 0, .int .i64 0, .int .i64 0, .int .i64 0, .slice none 0 0, .int .i64 0, .int .i64 0, .slice none 0 0, .slice none 0 0]) ?_ 3 _ rfl; (with_reducible repeat (first | refine blk_drewN ?_ _ | refine blk_drew ?_ | refine blk_alloc ?_ _)); refine blk_put (cs := #[.int .i64 a0_0, .int .i64 a0_1, .int .i64 0, .int .i64 0, .int .i64 0, .int .i64 0, .int .i64 0, .int .i64 0, .slice none 0 0, .int .i64 0, .int .i64 0, .slice none 0 0, .slice none 0 0]) ?_ 2 _ rfl; (with_reducible repeat (first | refine blk_drewN ?_ _ | refine blk_drew ?_ | refine blk_alloc ?_ _)); refine blk_put (cs := #[.int .i64 a0_0, .int .i64 0, .int .i64 0, .int .i64 0, .int .i64 0, .int .i64 0, .int .i64 0, .int .i64 0, .slice none 0 0, .int .i64 0, .int .i64 0, .slice none 0 0, .slice none 0 0]) ?_ 1 _ rfl; (with_reducible repeat (first | refine blk_drewN ?_ _ | refine blk_drew ?_ | refine blk_alloc ?_ _)); refine blk_put (cs := #[.int .i64 0, .int .i64 0, .int .i64 0, .int .i64 0, .int .i64 0, .int .i64 0, .int .i64 0, .int .i64 0, .slice none 0 0, .int .i64 0, .int .i64 0, .slice none 0 0, .slice none 0 0]) ?_ 0 _ rfl; (with_reducible repeat (first | refine blk_drewN ?_ _ | refine blk_drew ?_ | refine blk_alloc ?_ _)); refine blk_far ?_ NB288_287.out _; (with_reducible repeat (first | refine blk_drewN ?_ _ | refine blk_drew ?_ | refine blk_alloc ?_ _)); refine blk_far ?_ NB288_287.out _; (with_reducible repeat (first | refine blk_drewN ?_ _ | refine blk_drew ?_ | refine blk_alloc ?_ _)); refine blk_far ?_ NB288_287.out _; (with_reducible repeat (first | refine blk_drewN ?_ _ | refine blk_drew ?_ | refine blk_alloc ?_ _)); exact BK288.out) Try.underlying48 rfl (by kernel_rfl)) rfl ?_
 exact ⟨_, _, _, q73t, (by (with_reducible repeat (first | apply Kd.R_alloc | apply Kd.R_drewN | apply Kd.R_drew)); exact Kd.R_mono (rkf (rkf (rkf (rkf (rkf (rkf (rkf (rkf (rkf (rkf (rkf (rkf (rkf (Kd.R_far (Kd.R_far (Kd.R_far (Kd.R_types (Kd.R_types HO291.out BK287.out q85t) BK288.out q85t) (fun _ hk => hk.1.2) _) (fun _ hk => hk.1.2) _) (fun _ hk => hk.1.2) _)))))))))))))) (fun _ hk => hk.1.1.2)), (by (with_reducible repeat (first | apply Kd.R_alloc | apply Kd.R_drewN | apply Kd.R_drew)); exact Kd.R_mono (rkf (rkf (rkf (rkf (rkf (rkf (rkf (rkf (rkf (rkf (rkf (rkf (rkf (Kd.R_far (Kd.R_far (Kd.R_far (Kd.R_types (Kd.R_types HO294.out BK287.out q85t) BK288.out q85t) (fun _ hk => hk.1.2) _) (fun _ hk => hk.1.2) _) (fun _ hk => hk.1.2) _)))))))))))))) (fun _ hk => trivial)), (by (with_reducible repeat (first | apply Kd.R_alloc | apply Kd.R_drewN | apply Kd.R_drew)); exact Kd.R_mono (rkf (rkf (rkf (rkf (rkf (rkf (rkf (rkf (rkf (rkf (rkf (rkf (rkf (Kd.R_far (Kd.R_far (Kd.R_far (Kd.R_types (Kd.R_types HO297.out BK287.out q85t) BK288.out q85t) (fun _ hk => hk.1.2) _) (fun _ hk => hk.1.2) _) (fun _ hk => hk.1.2) _)))))))))))))) (fun _ hk => hk.1.1.2)), q33t⟩

/-! ### impl_copyTable: function 28 -/
def impl_copyTable.l0 : Nat → List (S48) → List (S48) → Int → Int → Option ((List (S48)))
 | 0, _, _, _, _ => none
 | k + 1, x3, x7, x8, x9 => if x9 < x8 then (if 0 ≤ x9 then (if x9 < (x7.length : Int) then ((impl_copyNode.f ((rd_T48 x7 x9).f0) ((rd_T48 x7 x9).f1) ((rd_T48 x7 x9).f2) ((rd_T48 x7 x9).f3) ((rd_T48 x7 x9).f4) ((rd_T48 x7 x9).f5) ((rd_T48 x7 x9).f6) ((rd_T48 x7 x9).f7) ((rd_T48 x7 x9).f8) ((rd_T48 x7 x9).f9) ((rd_T48 x7 x9).f10) ((rd_T48 x7 x9).f11) ((rd_T48 x7 x9).f12)).bind fun bt303 => (if x3.length < 925904528653 then (impl_copyTable.l0 k (x3 ++ [(⟨bt303.1, bt303.2.1, bt303.2.2.1, bt303.2.2.2.1, bt303.2.2.2.2.1, bt303.2.2.2.2.2.1, bt303.2.2.2.2.2.2.1, bt303.2.2.2.2.2.2.2.1, bt303.2.2.2.2.2.2.2.2.1, bt303.2.2.2.2.2.2.2.2.2.1, bt303.2.2.2.2.2.2.2.2.2.2.1, bt303.2.2.2.2.2.2.2.2.2.2.2.1, bt303.2.2.2.2.2.2.2.2.2.2.2.2⟩ : S48)]) x7 x8 (wrap64 (x9 + 1))) else (none))) else (none)) else (none)) else (some x3)
def impl_copyTable.f (k : Nat) (l0 : List (S48)) : Option ((List (S48))) := impl_copyTable.l0 k (([] : List (S48))) l0 (l0.length : Int) 0
theorem impl_copyTable.mono_l : ∀ k, (∀ y0 y1 y2 y3, LeO (impl_copyTable.l0 k y0 y1 y2 y3) (impl_copyTable.l0 (k + 1) y0 y1 y2 y3))
 | 0 => fun _ _ _ _ r h => by simp [impl_copyTable.l0] at h
 | k + 1 => by
  have ih0 := impl_copyTable.mono_l k
  ·intro y0 y1 y2 y3
   unfold impl_copyTable.l0
   repeat' first
   | (with_reducible exact ih0 _ _ _ _)
   | (with_reducible exact LeO.refl _)
   | (with_reducible exact LeO.none _)
   | (with_reducible refine LeO.ite ?_ ?_)
   | (with_reducible refine LeO.bind ?_ (fun _ => ?_))
   | exact ih0 _ _ _ _
   | exact LeO.none _
   | refine LeO.ite ?_ ?_
   | refine LeO.bind ?_ (fun _ => ?_)
theorem impl_copyTable.mono : ∀ a0 k, LeO (impl_copyTable.f k a0) (impl_copyTable.f (k + 1) a0) := by
 intro a0 k
 have ih0 := impl_copyTable.mono_l k
 unfold impl_copyTable.f
 repeat' first
   | (with_reducible exact ih0 _ _ _ _)
   | (with_reducible exact LeO.refl _)
   | (with_reducible exact LeO.none _)
   | (with_reducible refine LeO.ite ?_ ?_)
   | (with_reducible refine LeO.bind ?_ (fun _ => ?_))
   | exact ih0 _ _ _ _
   | exact LeO.none _
   | refine LeO.ite ?_ ?_
   | refine LeO.bind ?_ (fun _ => ?_)
set_option maxHeartbeats 8000000 in
set_option maxRecDepth 100000 in
theorem impl_copyTable.calls (k : Nat) (A0 : Option Addr) (c0 : Nat) (l0 : List (S48)) (r : List (S48)) (w : World) (hr0 : Kd.C k48 w A0 l0.length l0) (hc0 : l0.length ≤ c0) (h : impl_copyTable.f k l0 = some r) :
  Calls Try.prog 28 #[.slice A0 l0.length c0] w fun e w' => ∃ v0_ : Value, e = .returned (v0_) ∧ Kd.S k48 48 w' w.heap.size (fun _ => True) v0_ r ∧ Below w.heap.size w w' := by
 have hu48 := Try.underlying48
 have HR0 := Aside0.mk hr0
 have HC0 := Aside0.mk hc0
 clear hr0 hc0
 have HB := Aside0.mk (Below.refl w.heap.size w)
 have H : (impl_copyTable.l0 k (([] : List (S48))) l0 (l0.length : Int) 0) = some r := h
 clear h
 obtain ⟨y298, hy298⟩ : ∃ y_ : List (S48), y_ = (([] : List (S48))) := ⟨_, rfl⟩
 replace H : (impl_copyTable.l0 k y298 l0 (l0.length : Int) 0) = some r := by first | (rw [hy298]; with_reducible exact H) | (have H2_ := (Option.bind_some _ _).symm.trans H; rw [hy298]; with_reducible exact H2_) | (have H2_ := (Option.bind_some _ _).symm.trans H; with_reducible exact H2_) | with_reducible exact H | (rw [hy298]; exact H) | exact H
 have Ny298 := Aside0.mk hy298
 clear hy298
 have H' := Aside0.mk H
 clear H
 go_enter Try.func28, Try.ntmps28
 go_wp2_with (first | ((with_reducible refine gate_dst (N := 6) rfl ?_); refine Kd.S_lit k48 _ 48 ?hg (N := 6) ?hd (xs := ([] : List (S48))) (inner := []) (ok := fun _ => True) (okp := fun _ => True) ?hr ?hp (fun _ hk => hk) trivial (Below.refl _ _) (Nat.le_refl _) q87t ?_; (case hd => rfl); (case hg => rfl); (case hr => first | (go_simp; done) | (go_simp; rfl)); (case hp => exact (Reps.none _ _)); intro v299 w2 ho3 hb hg_ hnew_; clear hg_ hnew_; (first | rw [← Ny298.out] at ho3 | (simp only [Int.reduceToNat] at ho3; rw [← Ny298.out] at ho3)); have HO300 := Aside0.mk (Kd.S_lower ho3 (below_size q53t)); replace HB := Aside0.mk (below_step q53t hb); clear hb ho3))
 go_loopg [3, 9] k (fun kq v3 v9 w' => ∃ (x3_1 : List (S48)) (x9_1 : Int), v9 = .int .i64 x9_1 ∧ Aside0 (impl_copyTable.l0 kq x3_1 l0 (l0.length : Int) x9_1 = some r) ∧ Aside0 (kq ≤ k) ∧ Aside0 (Kd.S k48 48 w' w.heap.size (fun _ => True) v3 x3_1) ∧ Aside0 (Below w.heap.size w w'))
 case atStart => exact ⟨(y298), (0), q81t, H', ⟨Nat.le_refl _⟩, ⟨(by (with_reducible repeat (first | apply Kd.S_alloc | apply Kd.S_drewN | apply Kd.S_drew)); exact HO300.out)⟩, ⟨q53t⟩⟩
 case round =>
  clear H'
  try clear c2
  try clear p2
  obtain ⟨x3_1, x9_1, rfl, HA, HK1, HO_3, HB⟩ := hrel
  cases gk with
  | zero => exact absurd HA.out (by simp [impl_copyTable.l0])
  | succ k1 =>
   have H := HA.out
   clear HA
   simp only [impl_copyTable.l0] at H
   by_cases c4 : x9_1 < (l0.length : Int)
   rotate_left
   ·rw [if_neg c4] at H
    have c4b0 : decide (x9_1 < (l0.length : Int)) = false := decide_eq_false c4
    clear c4
    obtain rfl := Option.some.inj H
    go_wp2
    go_ret
    exact ⟨_, q73t, q70t, q53t⟩
   rw [if_pos c4] at H
   have c4b0 : decide (x9_1 < (l0.length : Int)) = true := decide_eq_true c4
   clear c4
   by_cases c5 : 0 ≤ x9_1
   rotate_left
   ·rw [if_neg c5] at H
    exact absurd H q87t
   rw [if_pos c5] at H
   have c5b0 : decide (0 ≤ x9_1) = true := decide_eq_true c5
   clear c5
   by_cases c6 : x9_1 < (l0.length : Int)
   rotate_left
   ·rw [if_neg c6] at H
    exact absurd H q87t
   rw [if_pos c6] at H
   have c6b0 : decide (x9_1 < (l0.length : Int)) = true := decide_eq_true c6
   clear c6
   replace H := Option.bind_eq_some_iff.mp H
   obtain ⟨⟨t303, t304, t305, t306, t307, t308, t309, t310, t311, t314, t315, t316, t319⟩, A70, H⟩ := H
   try dsimp only at H
   have A7 := Aside0.mk A70
   clear A70
   by_cases c8 : x3_1.length < 925904528653
   rotate_left
   ·rw [if_neg c8] at H
    exact absurd H q87t
   rw [if_pos c8] at H
   have LMc8 := Aside0.mk c8
   clear c8
   obtain ⟨y322, hy322⟩ : ∃ y_ : List (S48), y_ = (x3_1 ++ [(⟨t303, t304, t305, t306, t307, t308, t309, t310, t311, t314, t315, t316, t319⟩ : S48)]) := ⟨_, rfl⟩
   replace H : (impl_copyTable.l0 k1 y322 l0 (l0.length : Int) (wrap64 (x9_1 + 1))) = some r := by first | (rw [hy322]; with_reducible exact H) | (have H2_ := (Option.bind_some _ _).symm.trans H; rw [hy322]; with_reducible exact H2_) | (have H2_ := (Option.bind_some _ _).symm.trans H; with_reducible exact H2_) | with_reducible exact H | (rw [hy322]; exact H) | exact H
   have Ny322 := Aside0.mk hy322
   clear hy322
   have H' := Aside0.mk H
   clear H
   have p301 : 0 ≤ (x9_1 : Int) := of_decide_eq_true q76t
   have q301 : x9_1 < (l0.length : Int) := of_decide_eq_true q76t
   obtain ⟨ad301, A301_8, c301_8, A301_11, c301_11, A301_12, c301_12, e301, hx301_0, hx301_1, hx301_2, hx301_3, hx301_4, hx301_5, hx301_6, hx301_7, hx301_8, hx301_9, hx301_10, hx301_11, hx301_12, hl301_8, hi301_8, hl301_11, hi301_11, hl301_12, hi301_12⟩ := at_T48 HR0.out x9_1 p301 q301
   cases e301
   replace hx301_0 := hbt HB hx301_0
   replace hx301_1 := hbt HB hx301_1
   replace hx301_2 := hbt HB hx301_2
   replace hx301_3 := hbt HB hx301_3
   replace hx301_4 := hbt HB hx301_4
   replace hx301_5 := hbt HB hx301_5
   replace hx301_6 := hbt HB hx301_6
   replace hx301_7 := hbt HB hx301_7
   replace hx301_8 := hbt HB hx301_8
   replace hx301_9 := hbt HB hx301_9
   replace hx301_10 := hbt HB hx301_10
   replace hx301_11 := hbt HB hx301_11
   replace hx301_12 := hbt HB hx301_12
   have HR301_8 := Aside0.mk hi301_8
   have HC301_8 := Aside0.mk hl301_8
   clear hi301_8 hl301_8
   have HR301_11 := Aside0.mk hi301_11
   have HC301_11 := Aside0.mk hl301_11
   clear hi301_11 hl301_11
   have HR301_12 := Aside0.mk hi301_12
   have HC301_12 := Aside0.mk hl301_12
   clear hi301_12 hl301_12
   replace p301 := eq_true p301
   replace q301 := eq_true q301
   go_wp2_with (first | ((with_reducible refine gate_dst (N := 5) rfl ?_); refine box_ev 5 #[.int .i64 0, .int .i64 0, .int .i64 0, .int .i64 0, .int .i64 0, .int .i64 0, .int .i64 0, .int .i64 0, .slice none 0 0, .int .i64 0, .int .i64 0, .slice none 0 0, .slice none 0 0] 48 ?_; intro gb302 hg w9 hbox hb; replace HO_3 := Aside0.mk (Kd.S_below (Kd.S_elderB q70t gb302 (Nat.le_of_eq hg.symm)) hb); have BK302 := Aside0.mk (hbox); have GW302 := Aside0.mk ((q48t : w.heap.size ≤ gb302)); have GE302 := Aside0.mk ((q48t : w.heap.size ≤ gb302)); replace HB := Aside0.mk (below_step q53t hb); clear hb hbox hg; obtain ⟨hcz10_0, hcz10_1, hcz10_2, hcz10_3, hcz10_4, hcz10_5, hcz10_6, hcz10_7, hcz10_8, hcz10_9, hcz10_10, hcz10_11, hcz10_12⟩ := qc13 BK302.out; obtain ⟨hfz10_0, hfz10_1, hfz10_2, hfz10_3, hfz10_4, hfz10_5, hfz10_6, hfz10_7, hfz10_8, hfz10_9, hfz10_10, hfz10_11, hfz10_12⟩ := qf13 BK302.out) | ((with_reducible refine gate_callee (f := 48) rfl ?_); refine goesL_ (some 15) rfl rfl Try.func48 (by kernel_rfl) rfl #[.agg #[.int .i64 ((rd_T48 l0 x9_1).f0), .int .i64 ((rd_T48 l0 x9_1).f1), .int .i64 ((rd_T48 l0 x9_1).f2), .int .i64 ((rd_T48 l0 x9_1).f3), .int .i64 ((rd_T48 l0 x9_1).f4), .int .i64 ((rd_T48 l0 x9_1).f5), .int .i64 ((rd_T48 l0 x9_1).f6), .int .i64 ((rd_T48 l0 x9_1).f7), .slice A301_8 ((rd_T48 l0 x9_1).f8).length c301_8, .int .i64 ((rd_T48 l0 x9_1).f9), .int .i64 ((rd_T48 l0 x9_1).f10), .slice A301_11 ((rd_T48 l0 x9_1).f11).length c301_11, .slice A301_12 ((rd_T48 l0 x9_1).f12).length c301_12]] rfl q51t ?_; (with_reducible refine (impl_copyNode.calls ((rd_T48 l0 x9_1).f0) ((rd_T48 l0 x9_1).f1) ((rd_T48 l0 x9_1).f2) ((rd_T48 l0 x9_1).f3) ((rd_T48 l0 x9_1).f4) ((rd_T48 l0 x9_1).f5) ((rd_T48 l0 x9_1).f6) ((rd_T48 l0 x9_1).f7) _ _ ((rd_T48 l0 x9_1).f8) ((rd_T48 l0 x9_1).f9) ((rd_T48 l0 x9_1).f10) _ _ ((rd_T48 l0 x9_1).f11) _ _ ((rd_T48 l0 x9_1).f12) t303 t304 t305 t306 t307 t308 t309 t310 t311 t314 t315 t316 t319 _ ?side1 ?side2 ?side3 ?side4 ?side5 ?side6 A7.out).mono ?_); (case side1 => exact Kd.C_below HR301_8.out q33t); (case side2 => exact HC301_8.out); (case side3 => exact Kd.C_below HR301_11.out q33t); (case side4 => exact HC301_11.out); (case side5 => exact Kd.C_below HR301_12.out q33t); (case side6 => exact HC301_12.out); rintro e w11 ⟨v312, v317, v320, rfl, ho0, ho1, ho2, hb⟩; refine ⟨_, rfl, ?_⟩; replace HO_3 := Aside0.mk (Kd.S_mono (Kd.S_told (Kd.S_told (Kd.S_told (Kd.S_old (by (with_reducible repeat (first | apply Kd.S_alloc | apply Kd.S_drewN | apply Kd.S_drew)); exact (Kd.S_mono (skf (skf (skf (skf (skf (skf (skf (skf (skf (skf (skf (skf (skf (Kd.S_mono HO_3.out (fun k_ hk => (⟨hk, hk.2⟩ : _ ∧ k_ ≠ gb302)))))))))))))))) (fun _ h_ => h_.1))) hb) (Kd.R_base ho0)) (Kd.R_base ho1)) (Kd.R_base ho2)) (fun _ h_ => h_.1)); have HO313 := Aside0.mk (Kd.R_lower ho0 (below_size q33t)); have HO318 := Aside0.mk (Kd.R_lower ho1 (below_size q33t)); have HO321 := Aside0.mk (Kd.R_lower ho2 (below_size q33t)); replace BK302 := blp BK302 hb; replace HB := Aside0.mk (below_step q33t hb); (try clear hb); (try clear hb2); (try clear hk); (try clear hi); (try clear ho0); (try clear ho1); (try clear ho2); obtain ⟨Ao13, co13, eo13⟩ := Kd.R_slice HO313.out; subst eo13; obtain ⟨Ao14, co14, eo14⟩ := Kd.R_slice HO318.out; subst eo14; obtain ⟨Ao15, co15, eo15⟩ := Kd.R_slice HO321.out; subst eo15) | ((with_reducible refine gate_builtin (b := .append) (xs := #[.tmp 13, .tmp 16]) rfl ?_); at_builtin; refine Kd.S_append k48 (w0 := w) w.heap.size rfl (.tmp 13) (.tmp 16) 24 48 (.agg #[(.int .i64 0), (.int .i64 0), (.int .i64 0), (.int .i64 0), (.int .i64 0), (.int .i64 0), (.int .i64 0), (.int .i64 0), (.slice none 0 0), (.int .i64 0), (.int .i64 0), (.slice none 0 0), (.slice none 0 0)]) 152 rfl Try.underlying24 info48 rfl q85t q86t u3 x3_1 (⟨t303, t304, t305, t306, t307, t308, t309, t310, t311, t314, t315, t316, t319⟩ : S48) [.int .i64 t303, .int .i64 t304, .int .i64 t305, .int .i64 t306, .int .i64 t307, .int .i64 t308, .int .i64 t309, .int .i64 t310, .slice Ao13 t311.length co13, .int .i64 t314, .int .i64 t315, .slice Ao14 t316.length co14, .slice Ao15 t319.length co15] (fun k_ => k_ ≠ gb302) (fun k_ => some k_ = (.slice Ao13 t311.length co13 : Value).ownBlock ∨ some k_ = (.slice Ao14 t316.length co14 : Value).ownBlock ∨ some k_ = (.slice Ao15 t319.length co15 : Value).ownBlock) rfl rfl ?aP (fun k_ hk_ => hk_.elim (fun h_ => ((Kd.R_mono (ok' := fun k_ => ((fun k_ => k_ ≠ gb302)) k_ ∧ some k_ ≠ (u3 : Value).ownBlock) (Kd.R_types (Kd.R_apart' (HO313.out) (Kd.S_typed HO_3.out) q85t) BK302.out q85t) (fun k_ hk => ⟨hk.2, hk.1.2⟩))).1 k_ h_.symm) (fun h_ => h_.elim (fun h_ => ((Kd.R_mono (ok' := fun k_ => ((fun k_ => k_ ≠ gb302)) k_ ∧ some k_ ≠ (u3 : Value).ownBlock) (Kd.R_types (Kd.R_apart' (HO318.out) (Kd.S_typed HO_3.out) q85t) BK302.out q85t) (fun k_ hk => ⟨hk.2, hk.1.2⟩))).1 k_ h_.symm) (fun h_ => ((Kd.R_mono (ok' := fun k_ => ((fun k_ => k_ ≠ gb302)) k_ ∧ some k_ ≠ (u3 : Value).ownBlock) (Kd.R_types (Kd.R_apart' (HO321.out) (Kd.S_typed HO_3.out) q85t) BK302.out q85t) (fun k_ hk => ⟨hk.2, hk.1.2⟩))).1 k_ h_.symm))) ?aF ?aO ?aB ?aS ?aL ?_; (case aP => exact k48_mkM _ _ _ (⟨t303, t304, t305, t306, t307, t308, t309, t310, t311, t314, t315, t316, t319⟩ : S48) (Kd.R_mono (Kd.R_tight rfl (Kd.R_mono (ok' := fun k_ => ((fun k_ => k_ ≠ gb302)) k_ ∧ some k_ ≠ (u3 : Value).ownBlock) (Kd.R_types (Kd.R_apart' (HO313.out) (Kd.S_typed HO_3.out) q85t) BK302.out q85t) (fun k_ hk => ⟨hk.2, hk.1.2⟩))) (fun _ h_ => Or.inl h_)) (Kd.R_mono (Kd.R_tight rfl (Kd.R_mono (ok' := fun k_ => ((fun k_ => k_ ≠ gb302)) k_ ∧ some k_ ≠ (u3 : Value).ownBlock) (Kd.R_types (Kd.R_apart' (HO318.out) (Kd.S_typed HO_3.out) q85t) BK302.out q85t) (fun k_ hk => ⟨hk.2, hk.1.2⟩))) (fun _ h_ => Or.inr (Or.inl h_))) (Kd.R_mono (Kd.R_tight rfl (Kd.R_mono (ok' := fun k_ => ((fun k_ => k_ ≠ gb302)) k_ ∧ some k_ ≠ (u3 : Value).ownBlock) (Kd.R_types (Kd.R_apart' (HO321.out) (Kd.S_typed HO_3.out) q85t) BK302.out q85t) (fun k_ hk => ⟨hk.2, hk.1.2⟩))) (fun _ h_ => Or.inr (Or.inr (h_))))); (case aB => exact q33t); (case aF => exact (fun k_ hk => Kd.freshB (qbk BK302) k_ hk)); (case aO => exact (by (with_reducible repeat (first | apply Kd.S_alloc | apply Kd.S_drewN | apply Kd.S_drew)); exact Kd.S_mono HO_3.out (fun k_ hk => ⟨hk.1.1.1.2, fun e_ => e_.elim (fun h_ => hk.1.1.2 h_) (fun h_ => h_.elim (fun h_ => hk.1.2 h_) (fun h_ => hk.2 h_))⟩))); (case aS => exact (below_size q33t)); (case aL => have := LMc8.out; omega); intro v323 w12 ho hb hg hat; rw [← Ny322.out] at ho; replace BK302 := gbb BK302 hg (Kd.S_away HO_3.out (fun _ hk => hk.1.1.1.2)); replace HB := Aside0.mk (hb); have HO324 := Aside0.mk (ho); clear HO_3 HO313 HO318 HO321; clear ho hb hg hat))
   go_roundg k1
   case measure => have := HK1.out; omega
   case rel => exact ⟨(y322), (wrap64 (x9_1 + 1)), q81t, H', ⟨q84t⟩, ⟨(by (with_reducible repeat (first | apply Kd.S_alloc | apply Kd.S_drewN | apply Kd.S_drew)); exact Kd.S_mono HO324.out (fun _ hk => trivial))⟩, ⟨q33t⟩⟩

/-! ### impl_within: function 49 -/
def impl_within.f (a0 : Int) (a1 : Int) (a2 : Int) : Option (Bool) := if a0 ≥ a1 then (some (decide (a0 ≤ a2))) else (some false)
set_option maxHeartbeats 8000000 in
set_option maxRecDepth 100000 in
theorem impl_within.calls (a0 : Int) (a1 : Int) (a2 : Int) (r : Bool) (w : World) (h : impl_within.f a0 a1 a2 = some r) :
  Calls Try.prog 49 #[.int .i64 a0, .int .i64 a1, .int .i64 a2] w fun e w' => e = .returned (.bool r) ∧ Drawn0 w w' := by
 have H : (if a0 ≥ a1 then (some (decide (a0 ≤ a2))) else (some false)) = some r := h
 clear h
 by_cases c4 : a0 ≥ a1
 ·rw [if_pos c4] at H
  have c4b0 : decide (a1 ≤ a0) = true := decide_eq_true c4
  clear c4
  obtain rfl := Option.some.inj H
  go_enter Try.func49, Try.ntmps49
  go_wp2
  go_ret
  exact ⟨q81t, q75t⟩
 ·rw [if_neg c4] at H
  have c4b0 : decide (a1 ≤ a0) = false := decide_eq_false c4
  clear c4
  obtain rfl := Option.some.inj H
  go_enter Try.func49, Try.ntmps49
  go_wp2
  go_ret
  exact ⟨q81t, q75t⟩

/-! ### impl_isSlot: function 29 -/
def impl_isSlot.f (l0 : List (S48)) (a1 : Int) : Option (Bool) := (impl_within.f a1 0 (wrap64 ((l0.length : Int) - 1))).bind fun t325 => (some t325)
set_option maxHeartbeats 8000000 in
set_option maxRecDepth 100000 in
theorem impl_isSlot.calls (A0 : Option Addr) (c0 : Nat) (l0 : List (S48)) (a1 : Int) (r : Bool) (w : World) (hr0 : Kd.C k48 w A0 l0.length l0) (hc0 : l0.length ≤ c0) (h : impl_isSlot.f l0 a1 = some r) :
  Calls Try.prog 29 #[.slice A0 l0.length c0, .int .i64 a1] w fun e w' => e = .returned (.bool r) ∧ Drawn0 w w' := by
 have HR0 := Aside0.mk hr0
 have HC0 := Aside0.mk hc0
 clear hr0 hc0
 have H : ((impl_within.f a1 0 (wrap64 ((l0.length : Int) - 1))).bind fun t325 => (some t325)) = some r := h
 clear h
 replace H := Option.bind_eq_some_iff.mp H
 obtain ⟨t325, A30, H⟩ := H
 try dsimp only at H
 have A3 := Aside0.mk A30
 clear A30
 obtain rfl := Option.some.inj H
 go_enter Try.func29, Try.ntmps29
 go_wp2_with (first | ((with_reducible refine gate_callee (f := 49) rfl ?_); refine goesL_ (some 9) rfl rfl Try.func49 (by kernel_rfl) rfl #[.int .i64 a1, .int .i64 0, .int .i64 (wrap64 ((l0.length : Int) - 1))] rfl q51t ?_; (with_reducible refine (impl_within.calls a1 0 (wrap64 ((l0.length : Int) - 1)) t325 _ A3.out).mono ?_); rintro e w' ⟨rfl, ⟨nd, rfl⟩⟩; refine ⟨_, rfl, ?_⟩))
 go_ret
 exact ⟨q81t, q75t⟩

/-! ### impl_Clear: function 6 -/
def impl_Clear.f (k : Nat) (l0 : List (S48)) (a1 : Int) (a2 : Int) : Option ((List (S48))) := (impl_copyTable.f k l0).bind fun t326 => ((impl_isSlot.f l0 a1).bind fun t329 => (if t329 = true then (if 0 ≤ a1 then (if a1 < (l0.length : Int) then (if ((rd_T48 l0 a1).f1) ≥ a2 then (if a1 < (t326.length : Int) then (some (t326.set (a1 : Int).toNat (⟨3, (rd_T48 l0 a1).f1, 0, 0, 0, 0, 0, 0, ([] : List Int), 0, 0, ([] : List (S74)), ([] : List Int)⟩ : S48))) else (none)) else (if a1 < (t326.length : Int) then (some (t326.set (a1 : Int).toNat (⟨0, wrap64 (((rd_T48 l0 a1).f1) + 1), 0, 0, 0, 0, 0, 0, ([] : List Int), 0, 0, ([] : List (S74)), ([] : List Int)⟩ : S48))) else (none))) else (none)) else (none)) else (some t326)))
theorem impl_Clear.mono : ∀ a0 a1 a2 k, LeO (impl_Clear.f k a0 a1 a2) (impl_Clear.f (k + 1) a0 a1 a2) := by
 intro a0 a1 a2 k
 unfold impl_Clear.f
 repeat' first
   | (with_reducible exact impl_copyTable.mono _ _)
   | (with_reducible exact LeO.refl _)
   | (with_reducible exact LeO.none _)
   | (with_reducible refine LeO.ite ?_ ?_)
   | (with_reducible refine LeO.bind ?_ (fun _ => ?_))
   | exact impl_copyTable.mono _ _
   | exact LeO.none _
   | refine LeO.ite ?_ ?_
   | refine LeO.bind ?_ (fun _ => ?_)
set_option maxHeartbeats 8000000 in
set_option maxRecDepth 100000 in
theorem impl_Clear.calls (k : Nat) (A0 : Option Addr) (c0 : Nat) (l0 : List (S48)) (a1 : Int) (a2 : Int) (r : List (S48)) (w : World) (hr0 : Kd.C k48 w A0 l0.length l0) (hc0 : l0.length ≤ c0) (h : impl_Clear.f k l0 a1 a2 = some r) :
  Calls Try.prog 6 #[.slice A0 l0.length c0, .int .i64 a1, .int .i64 a2] w fun e w' => ∃ v0_ : Value, e = .returned (v0_) ∧ Kd.S k48 48 w' w.heap.size (fun _ => True) v0_ r ∧ Below w.heap.size w w' := by
 have hu48 := Try.underlying48
 have HR0 := Aside0.mk hr0
 have HC0 := Aside0.mk hc0
 clear hr0 hc0
 have HB := Aside0.mk (Below.refl w.heap.size w)
 have H : ((impl_copyTable.f k l0).bind fun t326 => ((impl_isSlot.f l0 a1).bind fun t329 => (if t329 = true then (if 0 ≤ a1 then (if a1 < (l0.length : Int) then (if ((rd_T48 l0 a1).f1) ≥ a2 then (if a1 < (t326.length : Int) then (some (t326.set (a1 : Int).toNat (⟨3, (rd_T48 l0 a1).f1, 0, 0, 0, 0, 0, 0, ([] : List Int), 0, 0, ([] : List (S74)), ([] : List Int)⟩ : S48))) else (none)) else (if a1 < (t326.length : Int) then (some (t326.set (a1 : Int).toNat (⟨0, wrap64 (((rd_T48 l0 a1).f1) + 1), 0, 0, 0, 0, 0, 0, ([] : List Int), 0, 0, ([] : List (S74)), ([] : List Int)⟩ : S48))) else (none))) else (none)) else (none)) else (some t326)))) = some r := h
 clear h
 replace H := Option.bind_eq_some_iff.mp H
 obtain ⟨t326, A40, H⟩ := H
 try dsimp only at H
 have A4 := Aside0.mk A40
 clear A40
 replace H := Option.bind_eq_some_iff.mp H
 obtain ⟨t329, A50, H⟩ := H
 try dsimp only at H
 have A5 := Aside0.mk A50
 clear A50
 by_cases c6 : t329 = true
 rotate_left
 ·replace c6 := Bool.eq_false_iff.mpr c6
  subst c6
  rw [if_neg (show ¬ (false = true) by decide)] at H
  obtain rfl := Option.some.inj H
  go_enter Try.func6, Try.ntmps6
  go_wp2_with (first | ((with_reducible refine gate_callee (f := 28) rfl ?_); refine goesL_ (some 9) rfl rfl Try.func28 (by kernel_rfl) rfl #[.slice A0 l0.length c0] rfl q51t ?_; (with_reducible refine (impl_copyTable.calls k _ _ l0 t326 _ ?side1 ?side2 A4.out).mono ?_); (case side1 => repeat (first | exact HR0.out | (with_reducible refine Kd.C_alloc ?_ _) | (with_reducible refine Kd.C_drewN ?_ _) | (with_reducible refine Kd.C_drew ?_))); (case side2 => exact HC0.out); rintro e w20 ⟨v327, rfl, ho0, hb⟩; refine ⟨_, rfl, ?_⟩; have HO328 := Aside0.mk (Kd.S_lower ho0 (below_size q53t)); replace HB := Aside0.mk (below_step q53t hb); (try clear hb); (try clear hb2); (try clear hk); (try clear hi); (try clear ho0)) | ((with_reducible refine gate_callee (f := 29) rfl ?_); refine goesL_ (some 23) rfl rfl Try.func29 (by kernel_rfl) rfl #[.slice A0 l0.length c0, .int .i64 a1] rfl q51t ?_; (with_reducible refine (impl_isSlot.calls _ _ l0 a1 false _ ?side1 ?side2 A5.out).mono ?_); (case side1 => exact sC (Kd.C_below HR0.out HB.out)); (case side2 => exact HC0.out); rintro e w' ⟨rfl, ⟨nd, rfl⟩⟩; refine ⟨_, rfl, ?_⟩))
  go_ret
  exact ⟨_, q73t, q58t, q53t⟩
 subst c6
 rw [if_pos rfl] at H
 by_cases c7 : 0 ≤ a1
 rotate_left
 ·rw [if_neg c7] at H
  exact absurd H q87t
 rw [if_pos c7] at H
 have c7b0 : decide (0 ≤ a1) = true := decide_eq_true c7
 clear c7
 by_cases c8 : a1 < (l0.length : Int)
 rotate_left
 ·rw [if_neg c8] at H
  exact absurd H q87t
 rw [if_pos c8] at H
 have c8b0 : decide (a1 < (l0.length : Int)) = true := decide_eq_true c8
 clear c8
 by_cases c9 : ((rd_T48 l0 a1).f1) ≥ a2
 ·rw [if_pos c9] at H
  have c9b0 : decide (a2 ≤ ((rd_T48 l0 a1).f1)) = true := decide_eq_true c9
  clear c9
  by_cases c10 : a1 < (t326.length : Int)
  rotate_left
  ·rw [if_neg c10] at H
   exact absurd H q87t
  rw [if_pos c10] at H
  have c10b0 : decide (a1 < (t326.length : Int)) = true := decide_eq_true c10
  clear c10
  obtain ⟨y332, hy332⟩ : ∃ y_ : List (S48), y_ = (t326.set (a1 : Int).toNat (⟨3, (rd_T48 l0 a1).f1, 0, 0, 0, 0, 0, 0, ([] : List Int), 0, 0, ([] : List (S74)), ([] : List Int)⟩ : S48)) := ⟨_, rfl⟩
  replace H : (some y332) = some r := by first | (rw [hy332]; with_reducible exact H) | (have H2_ := (Option.bind_some _ _).symm.trans H; rw [hy332]; with_reducible exact H2_) | (have H2_ := (Option.bind_some _ _).symm.trans H; with_reducible exact H2_) | with_reducible exact H | (rw [hy332]; exact H) | exact H
  have Ny332 := Aside0.mk hy332
  clear hy332
  obtain rfl := Option.some.inj H
  go_enter Try.func6, Try.ntmps6
  go_wp2_with (first | ((with_reducible refine gate_callee (f := 28) rfl ?_); refine goesL_ (some 9) rfl rfl Try.func28 (by kernel_rfl) rfl #[.slice A0 l0.length c0] rfl q51t ?_; (with_reducible refine (impl_copyTable.calls k _ _ l0 t326 _ ?side1 ?side2 A4.out).mono ?_); (case side1 => repeat (first | exact HR0.out | (with_reducible refine Kd.C_alloc ?_ _) | (with_reducible refine Kd.C_drewN ?_ _) | (with_reducible refine Kd.C_drew ?_))); (case side2 => exact HC0.out); rintro e w12 ⟨v327, rfl, ho0, hb⟩; refine ⟨_, rfl, ?_⟩; have HO328 := Aside0.mk (Kd.S_lower ho0 (below_size q53t)); replace HB := Aside0.mk (below_step q53t hb); (try clear hb); (try clear hb2); (try clear hk); (try clear hi); (try clear ho0)) | ((with_reducible refine gate_callee (f := 29) rfl ?_); refine goesL_ (some 23) rfl rfl Try.func29 (by kernel_rfl) rfl #[.slice A0 l0.length c0, .int .i64 a1] rfl q51t ?_; (with_reducible refine (impl_isSlot.calls _ _ l0 a1 true _ ?side1 ?side2 A5.out).mono ?_); (case side1 => exact sC (Kd.C_below HR0.out HB.out)); (case side2 => exact HC0.out); rintro e w' ⟨rfl, ⟨nd, rfl⟩⟩; refine ⟨_, rfl, ?_⟩; (try (rw [drewN_self w12]; generalize hq_ : World.drewN w12 _ = w12; replace HO328 : Aside0 (Kd.S k48 48 w12 w.heap.size (fun _ => True) v327 t326) := ⟨by rw [← hq_]; exact q58t⟩; replace HB : Aside0 (Below w.heap.size w w12) := ⟨by rw [← hq_]; exact q53t⟩; clear hq_)); have p330 : 0 ≤ (a1 : Int) := of_decide_eq_true q76t; have q330 : a1 < (l0.length : Int) := of_decide_eq_true q76t; obtain ⟨ad330, A330_8, c330_8, A330_11, c330_11, A330_12, c330_12, e330, hx330_0, hx330_1, hx330_2, hx330_3, hx330_4, hx330_5, hx330_6, hx330_7, hx330_8, hx330_9, hx330_10, hx330_11, hx330_12, hl330_8, hi330_8, hl330_11, hi330_11, hl330_12, hi330_12⟩ := at_T48 HR0.out a1 p330 q330; cases e330; replace hx330_0 := hbt HB hx330_0; replace hx330_1 := hbt HB hx330_1; replace hx330_2 := hbt HB hx330_2; replace hx330_3 := hbt HB hx330_3; replace hx330_4 := hbt HB hx330_4; replace hx330_5 := hbt HB hx330_5; replace hx330_6 := hbt HB hx330_6; replace hx330_7 := hbt HB hx330_7; replace hx330_8 := hbt HB hx330_8; replace hx330_9 := hbt HB hx330_9; replace hx330_10 := hbt HB hx330_10; replace hx330_11 := hbt HB hx330_11; replace hx330_12 := hbt HB hx330_12; have HR330_8 := Aside0.mk hi330_8; have HC330_8 := Aside0.mk hl330_8; clear hi330_8 hl330_8; have HR330_11 := Aside0.mk hi330_11; have HC330_11 := Aside0.mk hl330_11; clear hi330_11 hl330_11; have HR330_12 := Aside0.mk hi330_12; have HC330_12 := Aside0.mk hl330_12; clear hi330_12 hl330_12; replace p330 := eq_true p330; replace q330 := eq_true q330; have p331 : 0 ≤ (a1 : Int) := of_decide_eq_true q76t; have q331 : a1 < (l0.length : Int) := of_decide_eq_true q76t; obtain ⟨ad331, A331_8, c331_8, A331_11, c331_11, A331_12, c331_12, e331, hx331_0, hx331_1, hx331_2, hx331_3, hx331_4, hx331_5, hx331_6, hx331_7, hx331_8, hx331_9, hx331_10, hx331_11, hx331_12, hl331_8, hi331_8, hl331_11, hi331_11, hl331_12, hi331_12⟩ := at_T48 HR0.out a1 p331 q331; obtain rfl : ad330 = ad331 := (by injection e331); replace hx331_0 := hbt HB hx331_0; replace hx331_1 := hbt HB hx331_1; replace hx331_2 := hbt HB hx331_2; replace hx331_3 := hbt HB hx331_3; replace hx331_4 := hbt HB hx331_4; replace hx331_5 := hbt HB hx331_5; replace hx331_6 := hbt HB hx331_6; replace hx331_7 := hbt HB hx331_7; replace hx331_8 := hbt HB hx331_8; replace hx331_9 := hbt HB hx331_9; replace hx331_10 := hbt HB hx331_10; replace hx331_11 := hbt HB hx331_11; replace hx331_12 := hbt HB hx331_12; have HR331_8 := Aside0.mk hi331_8; have HC331_8 := Aside0.mk hl331_8; clear hi331_8 hl331_8; have HR331_11 := Aside0.mk hi331_11; have HC331_11 := Aside0.mk hl331_11; clear hi331_11 hl331_11; have HR331_12 := Aside0.mk hi331_12; have HC331_12 := Aside0.mk hl331_12; clear hi331_12 hl331_12; replace p331 := eq_true p331; replace q331 := eq_true q331; have ea_ := Option.some.inj (hx330_8.symm.trans hx331_8); injection ea_ with ea_ en_ ec_; subst ea_; subst ec_; clear en_; have ea_ := Option.some.inj (hx330_11.symm.trans hx331_11); injection ea_ with ea_ en_ ec_; subst ea_; subst ec_; clear en_; have ea_ := Option.some.inj (hx330_12.symm.trans hx331_12); injection ea_ with ea_ en_ ec_; subst ea_; subst ec_; clear en_; have p11 : 0 ≤ (a1 : Int) := of_decide_eq_true q76t; have q11 : (a1 : Int) < ((t326.length : Int) : Int) := of_decide_eq_true q76t; obtain ⟨go11, co11, eo11, gb11, gl11, cl11, HG11⟩ := Kd.S_form HO328.out q86t; (first | cases eo11 | (injection eo11 with ea_ en_ ec_; (first | subst ea_ | (injection ea_ with ea_; subst ea_)); subst ec_; clear en_)); have GB11 := Aside0.mk gb11; have GG11 := Aside0.mk HG11; clear gb11 gl11 HG11; obtain ⟨_, ce11, hcl11, hM11, hcc11, hfr11, _, _⟩ := Kd.S_elem HO328.out z48 (a1 : Int) p11 q11; obtain ⟨ve11_8, ve11_11, ve11_12, rfl, ge11_8, ge11_11, ge11_12⟩ := k48_openM hM11; have hx11_0 : w12.cell? ⟨go11, (a1 : Int).toNat * 13, none⟩ = some (.int .i64 ((rd_T48 t326 a1).f0)) := hcc11 0 _ rfl; have hx11_1 : w12.cell? ⟨go11, (a1 : Int).toNat * 13 + 1, none⟩ = some (.int .i64 ((rd_T48 t326 a1).f1)) := hcc11 1 _ rfl; have hx11_2 : w12.cell? ⟨go11, (a1 : Int).toNat * 13 + 2, none⟩ = some (.int .i64 ((rd_T48 t326 a1).f2)) := hcc11 2 _ rfl; have hx11_3 : w12.cell? ⟨go11, (a1 : Int).toNat * 13 + 3, none⟩ = some (.int .i64 ((rd_T48 t326 a1).f3)) := hcc11 3 _ rfl; have hx11_4 : w12.cell? ⟨go11, (a1 : Int).toNat * 13 + 4, none⟩ = some (.int .i64 ((rd_T48 t326 a1).f4)) := hcc11 4 _ rfl; have hx11_5 : w12.cell? ⟨go11, (a1 : Int).toNat * 13 + 5, none⟩ = some (.int .i64 ((rd_T48 t326 a1).f5)) := hcc11 5 _ rfl; have hx11_6 : w12.cell? ⟨go11, (a1 : Int).toNat * 13 + 6, none⟩ = some (.int .i64 ((rd_T48 t326 a1).f6)) := hcc11 6 _ rfl; have hx11_7 : w12.cell? ⟨go11, (a1 : Int).toNat * 13 + 7, none⟩ = some (.int .i64 ((rd_T48 t326 a1).f7)) := hcc11 7 _ rfl; have hx11_8 : w12.cell? ⟨go11, (a1 : Int).toNat * 13 + 8, none⟩ = some (ve11_8) := hcc11 8 _ rfl; have hx11_9 : w12.cell? ⟨go11, (a1 : Int).toNat * 13 + 9, none⟩ = some (.int .i64 ((rd_T48 t326 a1).f9)) := hcc11 9 _ rfl; have hx11_10 : w12.cell? ⟨go11, (a1 : Int).toNat * 13 + 10, none⟩ = some (.int .i64 ((rd_T48 t326 a1).f10)) := hcc11 10 _ rfl; have hx11_11 : w12.cell? ⟨go11, (a1 : Int).toNat * 13 + 11, none⟩ = some (ve11_11) := hcc11 11 _ rfl; have hx11_12 : w12.cell? ⟨go11, (a1 : Int).toNat * 13 + 12, none⟩ = some (ve11_12) := hcc11 12 _ rfl; have hf11_0 : w12.frozen? ⟨go11, (a1 : Int).toNat * 13, none⟩ = false := hfr11 0; have hf11_1 : w12.frozen? ⟨go11, (a1 : Int).toNat * 13 + 1, none⟩ = false := hfr11 1; have hf11_2 : w12.frozen? ⟨go11, (a1 : Int).toNat * 13 + 2, none⟩ = false := hfr11 2; have hf11_3 : w12.frozen? ⟨go11, (a1 : Int).toNat * 13 + 3, none⟩ = false := hfr11 3; have hf11_4 : w12.frozen? ⟨go11, (a1 : Int).toNat * 13 + 4, none⟩ = false := hfr11 4; have hf11_5 : w12.frozen? ⟨go11, (a1 : Int).toNat * 13 + 5, none⟩ = false := hfr11 5; have hf11_6 : w12.frozen? ⟨go11, (a1 : Int).toNat * 13 + 6, none⟩ = false := hfr11 6; have hf11_7 : w12.frozen? ⟨go11, (a1 : Int).toNat * 13 + 7, none⟩ = false := hfr11 7; have hf11_8 : w12.frozen? ⟨go11, (a1 : Int).toNat * 13 + 8, none⟩ = false := hfr11 8; have hf11_9 : w12.frozen? ⟨go11, (a1 : Int).toNat * 13 + 9, none⟩ = false := hfr11 9; have hf11_10 : w12.frozen? ⟨go11, (a1 : Int).toNat * 13 + 10, none⟩ = false := hfr11 10; have hf11_11 : w12.frozen? ⟨go11, (a1 : Int).toNat * 13 + 11, none⟩ = false := hfr11 11; have hf11_12 : w12.frozen? ⟨go11, (a1 : Int).toNat * 13 + 12, none⟩ = false := hfr11 12; clear hcl11 hcc11 hfr11 hM11; replace p11 := eq_true p11; replace q11 := eq_true q11; have HX13 := Aside0.mk (show Kd.S k48 48 w12 w.heap.size (fun k_ => ((fun _ => True)) k_ ∧ ¬ ((fun _ => False)) k_) (.slice (some ⟨go11, 0, none⟩) t326.length co11) t326 from (by (with_reducible repeat (first | apply Kd.S_alloc | apply Kd.S_drewN | apply Kd.S_drew)); exact Kd.S_mono HO328.out (fun k_ hk => ⟨trivial, fun e_ => e_⟩))); obtain ⟨oki13, ce13, hcl13, hM13, hcc13, hfr13, hoki13, hH13⟩ := Kd.S_elem HX13.out z48 (a1 : Int) (of_decide_eq_true q76t) (by have h_ : (a1 : Int) < ((t326.length : Int) : Int) := of_decide_eq_true q76t; first | exact h_ | (have e_ := (Kd.S_reads' HO328.out).1; omega) | simpa using h_); obtain ⟨ve13_8, ve13_11, ve13_12, rfl, ge13_8, ge13_11, ge13_12⟩ := k48_openM hM13; have HP13 := Kd.S_seg hH13 (of_decide_eq_true q76t) (by have h_ : (a1 : Int) < ((t326.length : Int) : Int) := of_decide_eq_true q76t; first | exact h_ | (have e_ := (Kd.S_reads' HO328.out).1; omega) | simpa using h_) (seg := [.int .i64 3, .int .i64 ((rd_T48 l0 a1).f1), .int .i64 0, .int .i64 0, .int .i64 0, .int .i64 0, .int .i64 0, .int .i64 0, .slice none 0 0, .int .i64 0, .int .i64 0, .slice none 0 0, .slice none 0 0]) (j := 0) (show 13 ≤ 13 from by decide) (x' := (⟨3, (rd_T48 l0 a1).f1, 0, 0, 0, 0, 0, 0, ([] : List Int), 0, 0, ([] : List (S74)), ([] : List Int)⟩ : S48)) (k48_mkM _ _ _ (⟨3, (rd_T48 l0 a1).f1, 0, 0, 0, 0, 0, 0, ([] : List Int), 0, 0, ([] : List (S74)), ([] : List Int)⟩ : S48) (Kd.R_nil _ _ _ _ _) (Kd.R_nil _ _ _ _ _) (Kd.R_nil _ _ _ _ _)) (fun _ hk => hk) (fun k_ hk_ => hk_.elim); have hx13_0 := hcc13 0 _ rfl; (try simp only [show (k48).sz = 13 from rfl, Nat.mul_one, Nat.add_zero] at hx13_0); have hf13_0 := hfr13 0; (try simp only [show (k48).sz = 13 from rfl, Nat.mul_one, Nat.add_zero] at hf13_0); have hx13_1 := hcc13 1 _ rfl; (try simp only [show (k48).sz = 13 from rfl, Nat.mul_one, Nat.add_zero] at hx13_1); have hf13_1 := hfr13 1; (try simp only [show (k48).sz = 13 from rfl, Nat.mul_one, Nat.add_zero] at hf13_1); have hx13_2 := hcc13 2 _ rfl; (try simp only [show (k48).sz = 13 from rfl, Nat.mul_one, Nat.add_zero] at hx13_2); have hf13_2 := hfr13 2; (try simp only [show (k48).sz = 13 from rfl, Nat.mul_one, Nat.add_zero] at hf13_2); have hx13_3 := hcc13 3 _ rfl; (try simp only [show (k48).sz = 13 from rfl, Nat.mul_one, Nat.add_zero] at hx13_3); have hf13_3 := hfr13 3; (try simp only [show (k48).sz = 13 from rfl, Nat.mul_one, Nat.add_zero] at hf13_3); have hx13_4 := hcc13 4 _ rfl; (try simp only [show (k48).sz = 13 from rfl, Nat.mul_one, Nat.add_zero] at hx13_4); have hf13_4 := hfr13 4; (try simp only [show (k48).sz = 13 from rfl, Nat.mul_one, Nat.add_zero] at hf13_4); have hx13_5 := hcc13 5 _ rfl; (try simp only [show (k48).sz = 13 from rfl, Nat.mul_one, Nat.add_zero] at hx13_5); have hf13_5 := hfr13 5; (try simp only [show (k48).sz = 13 from rfl, Nat.mul_one, Nat.add_zero] at hf13_5); have hx13_6 := hcc13 6 _ rfl; (try simp only [show (k48).sz = 13 from rfl, Nat.mul_one, Nat.add_zero] at hx13_6); have hf13_6 := hfr13 6; (try simp only [show (k48).sz = 13 from rfl, Nat.mul_one, Nat.add_zero] at hf13_6); have hx13_7 := hcc13 7 _ rfl; (try simp only [show (k48).sz = 13 from rfl, Nat.mul_one, Nat.add_zero] at hx13_7); have hf13_7 := hfr13 7; (try simp only [show (k48).sz = 13 from rfl, Nat.mul_one, Nat.add_zero] at hf13_7); have hx13_8 := hcc13 8 _ rfl; (try simp only [show (k48).sz = 13 from rfl, Nat.mul_one, Nat.add_zero] at hx13_8); have hf13_8 := hfr13 8; (try simp only [show (k48).sz = 13 from rfl, Nat.mul_one, Nat.add_zero] at hf13_8); have hx13_9 := hcc13 9 _ rfl; (try simp only [show (k48).sz = 13 from rfl, Nat.mul_one, Nat.add_zero] at hx13_9); have hf13_9 := hfr13 9; (try simp only [show (k48).sz = 13 from rfl, Nat.mul_one, Nat.add_zero] at hf13_9); have hx13_10 := hcc13 10 _ rfl; (try simp only [show (k48).sz = 13 from rfl, Nat.mul_one, Nat.add_zero] at hx13_10); have hf13_10 := hfr13 10; (try simp only [show (k48).sz = 13 from rfl, Nat.mul_one, Nat.add_zero] at hf13_10); have hx13_11 := hcc13 11 _ rfl; (try simp only [show (k48).sz = 13 from rfl, Nat.mul_one, Nat.add_zero] at hx13_11); have hf13_11 := hfr13 11; (try simp only [show (k48).sz = 13 from rfl, Nat.mul_one, Nat.add_zero] at hf13_11); have hx13_12 := hcc13 12 _ rfl; (try simp only [show (k48).sz = 13 from rfl, Nat.mul_one, Nat.add_zero] at hx13_12); have hf13_12 := hfr13 12; (try simp only [show (k48).sz = 13 from rfl, Nat.mul_one, Nat.add_zero] at hf13_12); clear hcl13 hcc13 hfr13 hM13 hoki13 hH13) | ((with_reducible refine gate_store (t := 48) (p := 41) rfl ?_); refine store_event (t := 48) (p := 41) (v := ?vo_w14) (w1 := (((((((((((((w12.setCell ⟨go11, (a1 : Int).toNat * 13, none⟩ (.int .i64 3)).setCell ⟨go11, (a1 : Int).toNat * 13 + 1, none⟩ (.int .i64 ((rd_T48 l0 a1).f1))).setCell ⟨go11, (a1 : Int).toNat * 13 + 2, none⟩ (.int .i64 0)).setCell ⟨go11, (a1 : Int).toNat * 13 + 3, none⟩ (.int .i64 0)).setCell ⟨go11, (a1 : Int).toNat * 13 + 4, none⟩ (.int .i64 0)).setCell ⟨go11, (a1 : Int).toNat * 13 + 5, none⟩ (.int .i64 0)).setCell ⟨go11, (a1 : Int).toNat * 13 + 6, none⟩ (.int .i64 0)).setCell ⟨go11, (a1 : Int).toNat * 13 + 7, none⟩ (.int .i64 0)).setCell ⟨go11, (a1 : Int).toNat * 13 + 8, none⟩ (.slice none 0 0)).setCell ⟨go11, (a1 : Int).toNat * 13 + 9, none⟩ (.int .i64 0)).setCell ⟨go11, (a1 : Int).toNat * 13 + 10, none⟩ (.int .i64 0)).setCell ⟨go11, (a1 : Int).toNat * 13 + 11, none⟩ (.slice none 0 0)).setCell ⟨go11, (a1 : Int).toNat * 13 + 12, none⟩ (.slice none 0 0))) ?hg ?ho ?hn ?hr ?_; (case ho => rfl); (case hg => rfl); (case hn => rfl); (case hr => first | (go_simp; done) | (go_simp; rfl)); intro w14 hw; have hg : w12.grownBy w14 (some go11) := (by rw [hw]; exact HP13.2); have hp_ : Kd.S k48 48 w14 w.heap.size (fun _ => True) (.slice (some ⟨go11, 0, none⟩) t326.length co11) y332 := (by rw [hw, Ny332.out]; exact HP13.1); clear HP13; replace HO328 := Aside0.mk (hp_); replace HB := Aside0.mk ((by rw [hw]; exact below_set (below_set (below_set (below_set (below_set (below_set (below_set (below_set (below_set (below_set (below_set (below_set (below_set (HB.out) GB11.out) GB11.out) GB11.out) GB11.out) GB11.out) GB11.out) GB11.out) GB11.out) GB11.out) GB11.out) GB11.out) GB11.out) GB11.out : Below w.heap.size w w14)); clear hg hw hp_))
  go_ret
  exact ⟨_, q73t, q58t, q53t⟩
 rw [if_neg c9] at H
 have c9b0 : decide (a2 ≤ ((rd_T48 l0 a1).f1)) = false := decide_eq_false c9
 clear c9
 by_cases c15 : a1 < (t326.length : Int)
 rotate_left
 ·rw [if_neg c15] at H
  exact absurd H q87t
 rw [if_pos c15] at H
 have c15b0 : decide (a1 < (t326.length : Int)) = true := decide_eq_true c15
 clear c15
 obtain ⟨y334, hy334⟩ : ∃ y_ : List (S48), y_ = (t326.set (a1 : Int).toNat (⟨0, wrap64 (((rd_T48 l0 a1).f1) + 1), 0, 0, 0, 0, 0, 0, ([] : List Int), 0, 0, ([] : List (S74)), ([] : List Int)⟩ : S48)) := ⟨_, rfl⟩
 replace H : (some y334) = some r := by first | (rw [hy334]; with_reducible exact H) | (have H2_ := (Option.bind_some _ _).symm.trans H; rw [hy334]; with_reducible exact H2_) | (have H2_ := (Option.bind_some _ _).symm.trans H; with_reducible exact H2_) | with_reducible exact H | (rw [hy334]; exact H) | exact H
 have Ny334 := Aside0.mk hy334
 clear hy334
 obtain rfl := Option.some.inj H
 go_enter Try.func6, Try.ntmps6
 go_wp2_with (first | ((with_reducible refine gate_callee (f := 28) rfl ?_); refine goesL_ (some 9) rfl rfl Try.func28 (by kernel_rfl) rfl #[.slice A0 l0.length c0] rfl q51t ?_; (with_reducible refine (impl_copyTable.calls k _ _ l0 t326 _ ?side1 ?side2 A4.out).mono ?_); (case side1 => repeat (first | exact HR0.out | (with_reducible refine Kd.C_alloc ?_ _) | (with_reducible refine Kd.C_drewN ?_ _) | (with_reducible refine Kd.C_drew ?_))); (case side2 => exact HC0.out); rintro e w17 ⟨v327, rfl, ho0, hb⟩; refine ⟨_, rfl, ?_⟩; have HO328 := Aside0.mk (Kd.S_lower ho0 (below_size q53t)); replace HB := Aside0.mk (below_step q53t hb); (try clear hb); (try clear hb2); (try clear hk); (try clear hi); (try clear ho0)) | ((with_reducible refine gate_callee (f := 29) rfl ?_); refine goesL_ (some 23) rfl rfl Try.func29 (by kernel_rfl) rfl #[.slice A0 l0.length c0, .int .i64 a1] rfl q51t ?_; (with_reducible refine (impl_isSlot.calls _ _ l0 a1 true _ ?side1 ?side2 A5.out).mono ?_); (case side1 => exact sC (Kd.C_below HR0.out HB.out)); (case side2 => exact HC0.out); rintro e w' ⟨rfl, ⟨nd, rfl⟩⟩; refine ⟨_, rfl, ?_⟩; (try (rw [drewN_self w17]; generalize hq_ : World.drewN w17 _ = w17; replace HO328 : Aside0 (Kd.S k48 48 w17 w.heap.size (fun _ => True) v327 t326) := ⟨by rw [← hq_]; exact q58t⟩; replace HB : Aside0 (Below w.heap.size w w17) := ⟨by rw [← hq_]; exact q53t⟩; clear hq_)); have p330 : 0 ≤ (a1 : Int) := of_decide_eq_true q76t; have q330 : a1 < (l0.length : Int) := of_decide_eq_true q76t; obtain ⟨ad330, A330_8, c330_8, A330_11, c330_11, A330_12, c330_12, e330, hx330_0, hx330_1, hx330_2, hx330_3, hx330_4, hx330_5, hx330_6, hx330_7, hx330_8, hx330_9, hx330_10, hx330_11, hx330_12, hl330_8, hi330_8, hl330_11, hi330_11, hl330_12, hi330_12⟩ := at_T48 HR0.out a1 p330 q330; cases e330; replace hx330_0 := hbt HB hx330_0; replace hx330_1 := hbt HB hx330_1; replace hx330_2 := hbt HB hx330_2; replace hx330_3 := hbt HB hx330_3; replace hx330_4 := hbt HB hx330_4; replace hx330_5 := hbt HB hx330_5; replace hx330_6 := hbt HB hx330_6; replace hx330_7 := hbt HB hx330_7; replace hx330_8 := hbt HB hx330_8; replace hx330_9 := hbt HB hx330_9; replace hx330_10 := hbt HB hx330_10; replace hx330_11 := hbt HB hx330_11; replace hx330_12 := hbt HB hx330_12; have HR330_8 := Aside0.mk hi330_8; have HC330_8 := Aside0.mk hl330_8; clear hi330_8 hl330_8; have HR330_11 := Aside0.mk hi330_11; have HC330_11 := Aside0.mk hl330_11; clear hi330_11 hl330_11; have HR330_12 := Aside0.mk hi330_12; have HC330_12 := Aside0.mk hl330_12; clear hi330_12 hl330_12; replace p330 := eq_true p330; replace q330 := eq_true q330; have p333 : 0 ≤ (a1 : Int) := of_decide_eq_true q76t; have q333 : a1 < (l0.length : Int) := of_decide_eq_true q76t; obtain ⟨ad333, A333_8, c333_8, A333_11, c333_11, A333_12, c333_12, e333, hx333_0, hx333_1, hx333_2, hx333_3, hx333_4, hx333_5, hx333_6, hx333_7, hx333_8, hx333_9, hx333_10, hx333_11, hx333_12, hl333_8, hi333_8, hl333_11, hi333_11, hl333_12, hi333_12⟩ := at_T48 HR0.out a1 p333 q333; obtain rfl : ad330 = ad333 := (by injection e333); replace hx333_0 := hbt HB hx333_0; replace hx333_1 := hbt HB hx333_1; replace hx333_2 := hbt HB hx333_2; replace hx333_3 := hbt HB hx333_3; replace hx333_4 := hbt HB hx333_4; replace hx333_5 := hbt HB hx333_5; replace hx333_6 := hbt HB hx333_6; replace hx333_7 := hbt HB hx333_7; replace hx333_8 := hbt HB hx333_8; replace hx333_9 := hbt HB hx333_9; replace hx333_10 := hbt HB hx333_10; replace hx333_11 := hbt HB hx333_11; replace hx333_12 := hbt HB hx333_12; have HR333_8 := Aside0.mk hi333_8; have HC333_8 := Aside0.mk hl333_8; clear hi333_8 hl333_8; have HR333_11 := Aside0.mk hi333_11; have HC333_11 := Aside0.mk hl333_11; clear hi333_11 hl333_11; have HR333_12 := Aside0.mk hi333_12; have HC333_12 := Aside0.mk hl333_12; clear hi333_12 hl333_12; replace p333 := eq_true p333; replace q333 := eq_true q333; have ea_ := Option.some.inj (hx330_8.symm.trans hx333_8); injection ea_ with ea_ en_ ec_; subst ea_; subst ec_; clear en_; have ea_ := Option.some.inj (hx330_11.symm.trans hx333_11); injection ea_ with ea_ en_ ec_; subst ea_; subst ec_; clear en_; have ea_ := Option.some.inj (hx330_12.symm.trans hx333_12); injection ea_ with ea_ en_ ec_; subst ea_; subst ec_; clear en_; have p16 : 0 ≤ (a1 : Int) := of_decide_eq_true q76t; have q16 : (a1 : Int) < ((t326.length : Int) : Int) := of_decide_eq_true q76t; obtain ⟨go16, co16, eo16, gb16, gl16, cl16, HG16⟩ := Kd.S_form HO328.out q86t; (first | cases eo16 | (injection eo16 with ea_ en_ ec_; (first | subst ea_ | (injection ea_ with ea_; subst ea_)); subst ec_; clear en_)); have GB16 := Aside0.mk gb16; have GG16 := Aside0.mk HG16; clear gb16 gl16 HG16; obtain ⟨_, ce16, hcl16, hM16, hcc16, hfr16, _, _⟩ := Kd.S_elem HO328.out z48 (a1 : Int) p16 q16; obtain ⟨ve16_8, ve16_11, ve16_12, rfl, ge16_8, ge16_11, ge16_12⟩ := k48_openM hM16; have hx16_0 : w17.cell? ⟨go16, (a1 : Int).toNat * 13, none⟩ = some (.int .i64 ((rd_T48 t326 a1).f0)) := hcc16 0 _ rfl; have hx16_1 : w17.cell? ⟨go16, (a1 : Int).toNat * 13 + 1, none⟩ = some (.int .i64 ((rd_T48 t326 a1).f1)) := hcc16 1 _ rfl; have hx16_2 : w17.cell? ⟨go16, (a1 : Int).toNat * 13 + 2, none⟩ = some (.int .i64 ((rd_T48 t326 a1).f2)) := hcc16 2 _ rfl; have hx16_3 : w17.cell? ⟨go16, (a1 : Int).toNat * 13 + 3, none⟩ = some (.int .i64 ((rd_T48 t326 a1).f3)) := hcc16 3 _ rfl; have hx16_4 : w17.cell? ⟨go16, (a1 : Int).toNat * 13 + 4, none⟩ = some (.int .i64 ((rd_T48 t326 a1).f4)) := hcc16 4 _ rfl; have hx16_5 : w17.cell? ⟨go16, (a1 : Int).toNat * 13 + 5, none⟩ = some (.int .i64 ((rd_T48 t326 a1).f5)) := hcc16 5 _ rfl; have hx16_6 : w17.cell? ⟨go16, (a1 : Int).toNat * 13 + 6, none⟩ = some (.int .i64 ((rd_T48 t326 a1).f6)) := hcc16 6 _ rfl; have hx16_7 : w17.cell? ⟨go16, (a1 : Int).toNat * 13 + 7, none⟩ = some (.int .i64 ((rd_T48 t326 a1).f7)) := hcc16 7 _ rfl; have hx16_8 : w17.cell? ⟨go16, (a1 : Int).toNat * 13 + 8, none⟩ = some (ve16_8) := hcc16 8 _ rfl; have hx16_9 : w17.cell? ⟨go16, (a1 : Int).toNat * 13 + 9, none⟩ = some (.int .i64 ((rd_T48 t326 a1).f9)) := hcc16 9 _ rfl; have hx16_10 : w17.cell? ⟨go16, (a1 : Int).toNat * 13 + 10, none⟩ = some (.int .i64 ((rd_T48 t326 a1).f10)) := hcc16 10 _ rfl; have hx16_11 : w17.cell? ⟨go16, (a1 : Int).toNat * 13 + 11, none⟩ = some (ve16_11) := hcc16 11 _ rfl; have hx16_12 : w17.cell? ⟨go16, (a1 : Int).toNat * 13 + 12, none⟩ = some (ve16_12) := hcc16 12 _ rfl; have hf16_0 : w17.frozen? ⟨go16, (a1 : Int).toNat * 13, none⟩ = false := hfr16 0; have hf16_1 : w17.frozen? ⟨go16, (a1 : Int).toNat * 13 + 1, none⟩ = false := hfr16 1; have hf16_2 : w17.frozen? ⟨go16, (a1 : Int).toNat * 13 + 2, none⟩ = false := hfr16 2; have hf16_3 : w17.frozen? ⟨go16, (a1 : Int).toNat * 13 + 3, none⟩ = false := hfr16 3; have hf16_4 : w17.frozen? ⟨go16, (a1 : Int).toNat * 13 + 4, none⟩ = false := hfr16 4; have hf16_5 : w17.frozen? ⟨go16, (a1 : Int).toNat * 13 + 5, none⟩ = false := hfr16 5; have hf16_6 : w17.frozen? ⟨go16, (a1 : Int).toNat * 13 + 6, none⟩ = false := hfr16 6; have hf16_7 : w17.frozen? ⟨go16, (a1 : Int).toNat * 13 + 7, none⟩ = false := hfr16 7; have hf16_8 : w17.frozen? ⟨go16, (a1 : Int).toNat * 13 + 8, none⟩ = false := hfr16 8; have hf16_9 : w17.frozen? ⟨go16, (a1 : Int).toNat * 13 + 9, none⟩ = false := hfr16 9; have hf16_10 : w17.frozen? ⟨go16, (a1 : Int).toNat * 13 + 10, none⟩ = false := hfr16 10; have hf16_11 : w17.frozen? ⟨go16, (a1 : Int).toNat * 13 + 11, none⟩ = false := hfr16 11; have hf16_12 : w17.frozen? ⟨go16, (a1 : Int).toNat * 13 + 12, none⟩ = false := hfr16 12; clear hcl16 hcc16 hfr16 hM16; replace p16 := eq_true p16; replace q16 := eq_true q16; have HX18 := Aside0.mk (show Kd.S k48 48 w17 w.heap.size (fun k_ => ((fun _ => True)) k_ ∧ ¬ ((fun _ => False)) k_) (.slice (some ⟨go16, 0, none⟩) t326.length co16) t326 from (by (with_reducible repeat (first | apply Kd.S_alloc | apply Kd.S_drewN | apply Kd.S_drew)); exact Kd.S_mono HO328.out (fun k_ hk => ⟨trivial, fun e_ => e_⟩))); obtain ⟨oki18, ce18, hcl18, hM18, hcc18, hfr18, hoki18, hH18⟩ := Kd.S_elem HX18.out z48 (a1 : Int) (of_decide_eq_true q76t) (by have h_ : (a1 : Int) < ((t326.length : Int) : Int) := of_decide_eq_true q76t; first | exact h_ | (have e_ := (Kd.S_reads' HO328.out).1; omega) | simpa using h_); obtain ⟨ve18_8, ve18_11, ve18_12, rfl, ge18_8, ge18_11, ge18_12⟩ := k48_openM hM18; have HP18 := Kd.S_seg hH18 (of_decide_eq_true q76t) (by have h_ : (a1 : Int) < ((t326.length : Int) : Int) := of_decide_eq_true q76t; first | exact h_ | (have e_ := (Kd.S_reads' HO328.out).1; omega) | simpa using h_) (seg := [.int .i64 0, .int .i64 (wrap64 (((rd_T48 l0 a1).f1) + 1)), .int .i64 0, .int .i64 0, .int .i64 0, .int .i64 0, .int .i64 0, .int .i64 0, .slice none 0 0, .int .i64 0, .int .i64 0, .slice none 0 0, .slice none 0 0]) (j := 0) (show 13 ≤ 13 from by decide) (x' := (⟨0, wrap64 (((rd_T48 l0 a1).f1) + 1), 0, 0, 0, 0, 0, 0, ([] : List Int), 0, 0, ([] : List (S74)), ([] : List Int)⟩ : S48)) (k48_mkM _ _ _ (⟨0, wrap64 (((rd_T48 l0 a1).f1) + 1), 0, 0, 0, 0, 0, 0, ([] : List Int), 0, 0, ([] : List (S74)), ([] : List Int)⟩ : S48) (Kd.R_nil _ _ _ _ _) (Kd.R_nil _ _ _ _ _) (Kd.R_nil _ _ _ _ _)) (fun _ hk => hk) (fun k_ hk_ => hk_.elim); have hx18_0 := hcc18 0 _ rfl; (try simp only [show (k48).sz = 13 from rfl, Nat.mul_one, Nat.add_zero] at hx18_0); have hf18_0 := hfr18 0; (try simp only [show (k48).sz = 13 from rfl, Nat.mul_one, Nat.add_zero] at hf18_0); have hx18_1 := hcc18 1 _ rfl; (try simp only [show (k48).sz = 13 from rfl, Nat.mul_one, Nat.add_zero] at hx18_1); have hf18_1 := hfr18 1; (try simp only [show (k48).sz = 13 from rfl, Nat.mul_one, Nat.add_zero] at hf18_1); have hx18_2 := hcc18 2 _ rfl; (try simp only [show (k48).sz = 13 from rfl, Nat.mul_one, Nat.add_zero] at hx18_2); have hf18_2 := hfr18 2; (try simp only [show (k48).sz = 13 from rfl, Nat.mul_one, Nat.add_zero] at hf18_2); have hx18_3 := hcc18 3 _ rfl; (try simp only [show (k48).sz = 13 from rfl, Nat.mul_one, Nat.add_zero] at hx18_3); have hf18_3 := hfr18 3; (try simp only [show (k48).sz = 13 from rfl, Nat.mul_one, Nat.add_zero] at hf18_3); have hx18_4 := hcc18 4 _ rfl; (try simp only [show (k48).sz = 13 from rfl, Nat.mul_one, Nat.add_zero] at hx18_4); have hf18_4 := hfr18 4; (try simp only [show (k48).sz = 13 from rfl, Nat.mul_one, Nat.add_zero] at hf18_4); have hx18_5 := hcc18 5 _ rfl; (try simp only [show (k48).sz = 13 from rfl, Nat.mul_one, Nat.add_zero] at hx18_5); have hf18_5 := hfr18 5; (try simp only [show (k48).sz = 13 from rfl, Nat.mul_one, Nat.add_zero] at hf18_5); have hx18_6 := hcc18 6 _ rfl; (try simp only [show (k48).sz = 13 from rfl, Nat.mul_one, Nat.add_zero] at hx18_6); have hf18_6 := hfr18 6; (try simp only [show (k48).sz = 13 from rfl, Nat.mul_one, Nat.add_zero] at hf18_6); have hx18_7 := hcc18 7 _ rfl; (try simp only [show (k48).sz = 13 from rfl, Nat.mul_one, Nat.add_zero] at hx18_7); have hf18_7 := hfr18 7; (try simp only [show (k48).sz = 13 from rfl, Nat.mul_one, Nat.add_zero] at hf18_7); have hx18_8 := hcc18 8 _ rfl; (try simp only [show (k48).sz = 13 from rfl, Nat.mul_one, Nat.add_zero] at hx18_8); have hf18_8 := hfr18 8; (try simp only [show (k48).sz = 13 from rfl, Nat.mul_one, Nat.add_zero] at hf18_8); have hx18_9 := hcc18 9 _ rfl; (try simp only [show (k48).sz = 13 from rfl, Nat.mul_one, Nat.add_zero] at hx18_9); have hf18_9 := hfr18 9; (try simp only [show (k48).sz = 13 from rfl, Nat.mul_one, Nat.add_zero] at hf18_9); have hx18_10 := hcc18 10 _ rfl; (try simp only [show (k48).sz = 13 from rfl, Nat.mul_one, Nat.add_zero] at hx18_10); have hf18_10 := hfr18 10; (try simp only [show (k48).sz = 13 from rfl, Nat.mul_one, Nat.add_zero] at hf18_10); have hx18_11 := hcc18 11 _ rfl; (try simp only [show (k48).sz = 13 from rfl, Nat.mul_one, Nat.add_zero] at hx18_11); have hf18_11 := hfr18 11; (try simp only [show (k48).sz = 13 from rfl, Nat.mul_one, Nat.add_zero] at hf18_11); have hx18_12 := hcc18 12 _ rfl; (try simp only [show (k48).sz = 13 from rfl, Nat.mul_one, Nat.add_zero] at hx18_12); have hf18_12 := hfr18 12; (try simp only [show (k48).sz = 13 from rfl, Nat.mul_one, Nat.add_zero] at hf18_12); clear hcl18 hcc18 hfr18 hM18 hoki18 hH18) | ((with_reducible refine gate_store (t := 48) (p := 19) rfl ?_); refine store_event (t := 48) (p := 19) (v := ?vo_w19) (w1 := (((((((((((((w17.setCell ⟨go16, (a1 : Int).toNat * 13, none⟩ (.int .i64 0)).setCell ⟨go16, (a1 : Int).toNat * 13 + 1, none⟩ (.int .i64 (wrap64 (((rd_T48 l0 a1).f1) + 1)))).setCell ⟨go16, (a1 : Int).toNat * 13 + 2, none⟩ (.int .i64 0)).setCell ⟨go16, (a1 : Int).toNat * 13 + 3, none⟩ (.int .i64 0)).setCell ⟨go16, (a1 : Int).toNat * 13 + 4, none⟩ (.int .i64 0)).setCell ⟨go16, (a1 : Int).toNat * 13 + 5, none⟩ (.int .i64 0)).setCell ⟨go16, (a1 : Int).toNat * 13 + 6, none⟩ (.int .i64 0)).setCell ⟨go16, (a1 : Int).toNat * 13 + 7, none⟩ (.int .i64 0)).setCell ⟨go16, (a1 : Int).toNat * 13 + 8, none⟩ (.slice none 0 0)).setCell ⟨go16, (a1 : Int).toNat * 13 + 9, none⟩ (.int .i64 0)).setCell ⟨go16, (a1 : Int).toNat * 13 + 10, none⟩ (.int .i64 0)).setCell ⟨go16, (a1 : Int).toNat * 13 + 11, none⟩ (.slice none 0 0)).setCell ⟨go16, (a1 : Int).toNat * 13 + 12, none⟩ (.slice none 0 0))) ?hg ?ho ?hn ?hr ?_; (case ho => rfl); (case hg => rfl); (case hn => rfl); (case hr => first | (go_simp; done) | (go_simp; rfl)); intro w19 hw; have hg : w17.grownBy w19 (some go16) := (by rw [hw]; exact HP18.2); have hp_ : Kd.S k48 48 w19 w.heap.size (fun _ => True) (.slice (some ⟨go16, 0, none⟩) t326.length co16) y334 := (by rw [hw, Ny334.out]; exact HP18.1); clear HP18; replace HO328 := Aside0.mk (hp_); replace HB := Aside0.mk ((by rw [hw]; exact below_set (below_set (below_set (below_set (below_set (below_set (below_set (below_set (below_set (below_set (below_set (below_set (below_set (HB.out) GB16.out) GB16.out) GB16.out) GB16.out) GB16.out) GB16.out) GB16.out) GB16.out) GB16.out) GB16.out) GB16.out) GB16.out) GB16.out : Below w.heap.size w w19)); clear hg hw hp_))
 go_ret
 exact ⟨_, q73t, q58t, q53t⟩

/-! ### spec_l1In: function 35 -/
def spec_l1In.f (a0 : Int) (a1 : Int) (a2 : Int) : Option (Bool) := if a0 ≥ a1 then (some (decide (a0 ≤ a2))) else (some false)
set_option maxHeartbeats 8000000 in
set_option maxRecDepth 100000 in
theorem spec_l1In.calls (a0 : Int) (a1 : Int) (a2 : Int) (r : Bool) (w : World) (h : spec_l1In.f a0 a1 a2 = some r) :
  Calls Try.prog 35 #[.int .i64 a0, .int .i64 a1, .int .i64 a2] w fun e w' => e = .returned (.bool r) ∧ Drawn0 w w' := by
 have H : (if a0 ≥ a1 then (some (decide (a0 ≤ a2))) else (some false)) = some r := h
 clear h
 by_cases c4 : a0 ≥ a1
 ·rw [if_pos c4] at H
  have c4b0 : decide (a1 ≤ a0) = true := decide_eq_true c4
  clear c4
  obtain rfl := Option.some.inj H
  go_enter Try.func35, Try.ntmps35
  go_wp2
  go_ret
  exact ⟨q81t, q75t⟩
 ·rw [if_neg c4] at H
  have c4b0 : decide (a1 ≤ a0) = false := decide_eq_false c4
  clear c4
  obtain rfl := Option.some.inj H
  go_enter Try.func35, Try.ntmps35
  go_wp2
  go_ret
  exact ⟨q81t, q75t⟩

end Go.Proofs.Ytofpmdgndegalab.QFnTables
