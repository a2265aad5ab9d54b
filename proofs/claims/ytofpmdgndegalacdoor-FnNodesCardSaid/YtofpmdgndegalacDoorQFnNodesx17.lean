/- What the functions that the law FnNodes reaches compute, as plain functions, and that the code computes just that (by a program of this session's; the library's functions by hand). No condition. -/
import Derived.Test.YtofpmdgndegalacDoorQFnNodesx0
import Derived.Test.YtofpmdgndegalacDoorQFnNodesx6
import Derived.Test.YtofpmdgndegalacDoorQFnNodesx16
namespace Go.Proofs.YtofpmdgndegalacDoor.QFnNodes
open Go.RowKit Go.Proofs.YtofpmdgndegalacDoorW.PrintWords Go.Proofs.YtofpmdgndegalacDoorW.PrintLast Go.Proofs.YtofpmdgndegalacDoorW.PrintMore
attribute [local go_sem] max2_int min2_int max_two min_two max_three min_three max_four min_four   -- for this text's walks alone
set_option linter.unusedVariables false
set_option linter.unusedSimpArgs false

/-! ### spec_l7Chunks: function 39 -/
def spec_l7Chunks.l0 : Nat → Int → Int → Int → Int → Int → Int → Int → Int → Int → Int → Int → Int → Int → Int → Int → List Int → Int → Int → List (S33) → List Int → Option (Bool)
 | 0, _, _, _, _, _, _, _, _, _, _, _, _, _, _, _, _, _, _, _, _ => none
 | k + 1, x5, Ff, Fg, LG, LH, LI, LJ, LK, LL, LM, LN, LO, LP, LQ, LR, pp, zd, ze, LS, LT => if x5 < (pp.length : Int) then (if 0 ≤ x5 then ((spec_l1In.f (rd pp x5) 0 (wrap64 (Ff - 1))).bind fun zf => (if zf = true then (if x5 ≤ (pp.length : Int) then ((spec_l7Has.f k (pp.take (x5 : Int).toNat) (rd pp x5)).bind fun zg => (if zg = true then (some false) else (spec_l7Chunks.l0 k (wrap64 (x5 + 1)) Ff Fg LG LH LI LJ LK LL LM LN LO LP LQ LR pp zd ze LS LT))) else (none)) else (some false))) else (none)) else (if zd = 0 then (some (ze == 0)) else ((spec_l7Has.f k pp (wrap64 (zd - 1))).bind fun zh => (if zh = true then ((spec_l1In.f ze 0 Fg).bind fun zi => (some zi)) else (some false))))
def spec_l7Chunks.f (k : Nat) (aa : Int) (ab : Int) (ac : Int) (af : Int) (ag : Int) (ae : Int) (aj : Int) (ai : Int) (ak : Int) (ap : Int) (aq : Int) (ao : Int) (aQ : Int) (aT : Int) (an : List Int) (aH : Int) (aU : Int) (ar : List (S33)) (aC : List Int) : Option (Bool) := spec_l7Chunks.l0 k 0 aa ab ac af ag ae aj ai ak ap aq ao aQ aT an aH aU ar aC
def spec_l7Chunks.T4 : Bool × List (List Nat × List Nat) := (true, [([], []), ([0], [0]), ([], []), ([1, 2], [1, 2]), ([3], [3]), ([], []), ([5], [5]), ([6], [6]), ([4, 7], [4, 7]), ([8], [8]), ([9, 8], [9]), ([10], [10]), ([11, 10], [10, 11]), ([10], [10]), ([12, 13, 10], [10, 12, 13]), ([10], [10]), ([15, 10], [10, 15]), ([10], [10]), ([16, 17, 10], [10, 16, 17]), ([18, 10], [10, 18]), ([14, 19, 10, 10], [10, 14, 19]), ([10, 20], [10, 20])])
def spec_l7Chunks.B4 : List Nat := [0, 1, 0, 7, 15, 0, 32, 96, 255, 511, 1023, 2047, 4095, 2047, 16383, 2047, 34815, 2047, 231423, 493567, 1048575, 2097151]
theorem spec_l7Chunks.tab4 : rtab .any (opsOf Tryd.f39 4) = spec_l7Chunks.T4 := by kernel_rfl
theorem spec_l7Chunks.bits4 : waitsOk spec_l7Chunks.T4.2 spec_l7Chunks.B4 = true := by kernel_rfl
set_option maxHeartbeats 8000000 in
set_option maxRecDepth 100000 in
theorem spec_l7Chunks.calls (k : Nat) (aa : Int) (ab : Int) (ac : Int) (af : Int) (ag : Int) (ae : Int) (aj : Int) (ai : Int) (ak : Int) (ap : Int) (aq : Int) (ao : Int) (aQ : Int) (aT : Int) (A1_8 : Option Addr) (c1_8 : Nat) (an : List Int) (aH : Int) (aU : Int) (A1_11 : Option Addr) (c1_11 : Nat) (ar : List (S33)) (A1_12 : Option Addr) (c1_12 : Nat) (aC : List Int) (r : Bool) (w : World) (hr1_8 : Kd.C (Kd.int .i64) w A1_8 an.length an) (hc1_8 : an.length ≤ c1_8) (hr1_11 : Kd.C k33 w A1_11 ar.length ar) (hc1_11 : ar.length ≤ c1_11) (hr1_12 : Kd.C (Kd.int .i64) w A1_12 aC.length aC) (hc1_12 : aC.length ≤ c1_12) (h : spec_l7Chunks.f k aa ab ac af ag ae aj ai ak ap aq ao aQ aT an aH aU ar aC = some r) :
  Calls Tryd.prog 39 #[.agg #[aa, ab, ac, af, ag, ae], .agg #[aj, ai, ak, ap, aq, ao, aQ, aT, .slice A1_8 an.length c1_8, aH, aU, .slice A1_11 ar.length c1_11, .slice A1_12 aC.length c1_12]] w fun e w' => e = .returned (.bool r) ∧ Below w.heap.size w w' := by
 have hu25 := Tryd.underlying25
 have hu29 := Tryd.underlying29
 have b6 := Aside0.mk hr1_8
 have ck := Aside0.mk hc1_8
 clear hr1_8 hc1_8
 have gv := Aside0.mk hr1_11
 have jE := Aside0.mk hc1_11
 clear hr1_11 hc1_11
 have ga := Aside0.mk hr1_12
 have hD := Aside0.mk hc1_12
 clear hr1_12 hc1_12
 have HB := am (Below.refl w.heap.size w)
 have H : (spec_l7Chunks.l0 k 0 aa ab ac af ag ae aj ai ak ap aq ao aQ aT an aH aU ar aC) = some r := h
 clear h
 have H' := Aside0.mk H
 clear H
 go_enter Tryd.func39, Tryd.ntmps39
 go_wp2_with (first | ((with_reducible refine gate_dst (N := 2) rfl ?_); refine box_ev 2 #[aa, ab, ac, af, ag, ae] 25 ?_; intro eO hg w3 hbox hb; have cB := am (hbox); have WL := am ((q63t : w.heap.size ≤ eO)); have WM := am ((q63t : w.heap.size ≤ eO)); replace HB := am (below_step q68t hb); clear hb hbox hg) | ((with_reducible refine gate_dst (N := 3) rfl ?_); refine box_ev 3 #[aj, ai, ak, ap, aq, ao, aQ, aT, .slice A1_8 an.length c1_8, aH, aU, .slice A1_11 ar.length c1_11, .slice A1_12 aC.length c1_12] 29 ?_; intro ca hg w4 hbox hb; have bt := am (hbox); have WN := am ((q41t : w.heap.size ≤ ca)); have WO := am ((q41t : w.heap.size ≤ ca)); replace HB := am (below_step q47t hb); have qv := am ((by rw [hg]; exact Nat.ne_of_lt (blk_lt (qbk cB)) : eO ≠ ca)); have qw := am ((by rw [hg]; exact Nat.ne_of_gt (blk_lt (qbk cB)) : ca ≠ eO)); replace cB := blb cB hb; clear hb hbox hg))
 go_loopg [5] k (fun kq v5 w' => ∃ (aY : Int), v5 = .int .i64 aY ∧ Aside0 (spec_l7Chunks.l0 kq aY aa ab ac af ag ae aj ai ak ap aq ao aQ aT an aH aU ar aC = some r) ∧ Aside0 (kq ≤ k) ∧ Aside0 (w'.heap[eO]? = some (.cells #[aa, ab, ac, af, ag, ae] 25 (0, 0))) ∧ Aside0 (w'.heap[ca]? = some (.cells #[aj, ai, ak, ap, aq, ao, aQ, aT, (.slice A1_8 an.length c1_8), aH, aU, (.slice A1_11 ar.length c1_11), (.slice A1_12 aC.length c1_12)] 29 (0, 0))) ∧ Aside0 (Below w.heap.size w w'))
 case atStart => exact ⟨(0), q121t, H', ⟨Nat.le_refl _⟩, ⟨qbk cB⟩, ⟨qbk bt⟩, ⟨q47t⟩⟩
 case round =>
  clear H'
  try clear c1
  try clear p2
  try clear c3
  obtain ⟨aY, rfl, HA, HK1, cB, bt, HB⟩ := hrel
  cases gk with
  | zero => exact absurd HA.out (by simp [spec_l7Chunks.l0])
  | succ k1 =>
   have H := HA.out
   clear HA
   simp only [spec_l7Chunks.l0] at H
   by_cases c5 : aY < (an.length : Int)
   rotate_left
   ·rw [if_neg c5] at H
    have gE : decide (aY < (an.length : Int)) = false := decide_eq_false c5
    clear c5
    by_cases c24 : aH = 0
    ·rw [if_pos c24] at H
     have iQ : (aH == 0) = true := beq_iff_eq.mpr c24
     have kx : (aH != 0) = false := bne_eq_false_iff_eq.mpr c24
     clear c24
     obtain rfl := Option.some.inj H
     have pz := qw.out
     have pA := qv.out
     have sG := qc13 bt.out
     have sH := qf13 bt.out
     go_wp2
     go_ret
     exact ⟨q114t, q47t⟩
    rw [if_neg c24] at H
    have iQ : (aH == 0) = false := beq_eq_false_iff_ne.mpr c24
    have kx : (aH != 0) = true := bne_iff_ne.mpr c24
    obtain ⟨zh, Fh, H⟩ := bnd H
    try dsimp only at H
    by_cases c28 : zh = true
    ·subst c28
     rw [if_pos rfl] at H
     obtain ⟨zi, xb, H⟩ := bnd H
     try dsimp only at H
     obtain rfl := Option.some.inj H
     have uM := qw.out
     have uN := qv.out
     have qi := qc13 bt.out
     have qj := qf13 bt.out
     go_wp2_with (first | ((with_reducible refine gate_callee (f := 57) rfl ?_); refine goesL_ (some 46) rfl rfl Tryd.func57 (by kernel_rfl) rfl #[.slice A1_8 an.length c1_8, (wrap64 (aH - 1))] rfl q66t ?_; (with_reducible refine (spec_l7Has.calls k1 _ _ an (wrap64 (aH - 1)) true _ ?side1 ?side2 Fh.out).mono ?_); (case side1 => exact sC (Kd.C_below b6.out HB.out)); (case side2 => exact ck.out); rintro e w' ⟨rfl, ⟨nd, rfl⟩⟩; refine ⟨_, rfl, ?_⟩; have KS := qc6 cB.out; have KT := qf6 cB.out) | (go_at_call 38; (with_reducible refine (spec_l1In.calls aU 0 ab zi _ xb.out).mono ?_); rintro e w' ⟨rfl, ⟨nd, rfl⟩⟩))
     go_ret
     exact ⟨q114t, q47t⟩
    replace c28 := Bool.eq_false_iff.mpr c28
    subst c28
    rw [if_neg (show ¬ (false = true) by decide)] at H
    obtain rfl := Option.some.inj H
    have wv := qw.out
    have ww := qv.out
    have kI := qc13 bt.out
    have kJ := qf13 bt.out
    go_wp2_with (first | ((with_reducible refine gate_callee (f := 57) rfl ?_); refine goesL_ (some 46) rfl rfl Tryd.func57 (by kernel_rfl) rfl #[.slice A1_8 an.length c1_8, (wrap64 (aH - 1))] rfl q66t ?_; (with_reducible refine (spec_l7Has.calls k1 _ _ an (wrap64 (aH - 1)) false _ ?side1 ?side2 Fh.out).mono ?_); (case side1 => exact sC (Kd.C_below b6.out HB.out)); (case side2 => exact ck.out); rintro e w' ⟨rfl, ⟨nd, rfl⟩⟩; refine ⟨_, rfl, ?_⟩))
    go_ret
    exact ⟨q114t, q47t⟩
   rw [if_pos c5] at H
   have gE : decide (aY < (an.length : Int)) = true := decide_eq_true c5
   clear c5
   by_cases c6 : 0 ≤ aY
   rotate_left
   ·rw [if_neg c6] at H
    exact absurd H q126t
   rw [if_pos c6] at H
   have d9 : decide (0 ≤ aY) = true := decide_eq_true c6
   clear c6
   obtain ⟨zf, A7, H⟩ := bnd H
   try dsimp only at H
   by_cases c8 : zf = true
   ·subst c8
    rw [if_pos rfl] at H
    have mD := eq_true (of_decide_eq_true q118t : 0 ≤ aY)
    by_cases c10 : aY ≤ (an.length : Int)
    rotate_left
    ·rw [if_neg c10] at H
     exact absurd H q126t
    rw [if_pos c10] at H
    have eN := eq_true c10
    have jK : decide (aY ≤ (an.length : Int)) = true := decide_eq_true c10
    clear c10
    obtain ⟨zg, ku, H⟩ := bnd H
    try dsimp only at H
    by_cases c12 : zg = true
    ·subst c12
     rw [if_pos rfl] at H
     obtain rfl := Option.some.inj H
     have wU := qw.out
     have wV := qv.out
     have nH := qc13 bt.out
     have jz := qf13 bt.out
     try go_wp2
     (try (rw [drewN_self wr]; generalize hq_ : World.drewN wr _ = wr; have hh_ := congrArg World.heap hq_; dsimp only [World.drewN] at hh_; have zb_ : Below w.heap.size w wr := (by rw [← hq_]; exact pw_below_drewN HB.out _); have z_ := cB.out; rw [hh_] at z_; clear cB; have cB := Aside0.mk z_; clear z_; have z_ := bt.out; rw [hh_] at z_; clear bt; have bt := Aside0.mk z_; clear z_; clear HB; have HB := Aside0.mk zb_; clear zb_ hh_ hq_))
     replace cB := am (blk_drew cB.out)
     replace bt := am (blk_drew bt.out)
     replace HB := am (below_drew1 HB.out)
     have p650 : 0 ≤ (aY : Int) := of_decide_eq_true q118t
     have q650 : aY < (an.length : Int) := of_decide_eq_true q118t
     obtain ⟨gy, e650, iE⟩ := Kd.at_int b6.out aY p650 q650
     have hw650_0 := iE
     cases e650
     replace iE := hbt HB iE
     replace p650 := eq_true p650
     replace q650 := eq_true q650
     have p653 : 0 ≤ (aY : Int) := of_decide_eq_true q118t
     have q653 : aY < (an.length : Int) := of_decide_eq_true q118t
     obtain ⟨zj, e653, mI⟩ := Kd.at_int b6.out aY p653 q653
     have hw653_0 := mI
     obtain rfl : gy = zj := (by injection e653)
     replace mI := hbt HB mI
     replace p653 := eq_true p653
     replace q653 := eq_true q653
     refine start_ (n := 22) (S := fun w' => w'.cell? ⟨ca, 0, none⟩ = some (.int .i64 aj) ∧ w'.cell? ⟨ca, 1, none⟩ = some (.int .i64 ai) ∧ w'.cell? ⟨ca, 2, none⟩ = some (.int .i64 ak) ∧ w'.cell? ⟨ca, 3, none⟩ = some (.int .i64 ap) ∧ w'.cell? ⟨ca, 4, none⟩ = some (.int .i64 aq) ∧ w'.cell? ⟨ca, 5, none⟩ = some (.int .i64 ao) ∧ w'.cell? ⟨ca, 6, none⟩ = some (.int .i64 aQ) ∧ w'.cell? ⟨ca, 7, none⟩ = some (.int .i64 aT) ∧ w'.cell? ⟨ca, 8, none⟩ = some (.slice (some gy) an.length c1_8) ∧ w'.cell? ⟨ca, 9, none⟩ = some (.int .i64 aH) ∧ w'.cell? ⟨ca, 10, none⟩ = some (.int .i64 aU) ∧ w'.cell? ⟨ca, 11, none⟩ = some (.slice A1_11 ar.length c1_11) ∧ w'.cell? ⟨ca, 12, none⟩ = some (.slice A1_12 aC.length c1_12) ∧ w'.cell? ⟨eO, 0, none⟩ = some (.int .i64 aa) ∧ w'.cell? ⟨eO, 1, none⟩ = some (.int .i64 ab) ∧ w'.cell? ⟨eO, 2, none⟩ = some (.int .i64 ac) ∧ w'.cell? ⟨eO, 3, none⟩ = some (.int .i64 af) ∧ w'.cell? ⟨eO, 4, none⟩ = some (.int .i64 ag) ∧ w'.cell? ⟨eO, 5, none⟩ = some (.int .i64 ae) ∧ w'.cell? (gy.add (aY).toNat) = some (.int .i64 (rd an aY)) ∧ w'.cell? (gy.add (aY).toNat) = some (.int .i64 (rd an aY))) (ds := []) (bm 22 0) (by kernel_rfl) rfl (by kernel_rfl) qst (fun hHeld => ?_); refine with_tabW spec_l7Chunks.tab4 spec_l7Chunks.bits4 (fun HT_ HW_ => ?_)
     generalize wr.drew = w15 at cB bt HB iE mI hHeld ⊢
     refine pv_ 0 13 (bm 22 1) ?_
     refine pv_ 2 15 (bm 22 5) ?_
     refine pv_ 5 18 (bm 22 37) ?_
     refine tv_ 1 14 (bm 22 39) ?_
     refine pv_ 3 16 (bm 22 47) ?_
     refine tv_ 4 17 (bm 22 63) ?_
     refine tv_ 6 19 (bm 22 127) ?_
     refine pv_ 7 20 (bm 22 255) ?_
     refine one_ (i := 8) (N := some 21) (bm 22 511) rfl rfl (one_of HT_.out (by kernel_rfl)) q125t (fun K hK => ?_)
     refine goes_ Tryd.func38 (by kernel_rfl) rfl #[.int .i64 (rd an aY), .int .i64 0, (wrap64 (aa - 1))] q127t rfl rfl q66t ?_
     with_reducible refine (spec_l1In.calls (rd an aY) 0 (wrap64 (aa - 1)) true _ A7.out).mono ?_
     rintro e w' ⟨rfl, ⟨nd, rfl⟩⟩
     refine ⟨_, rfl, ?_⟩
     obtain ⟨i016, hi016, _, hsz16, _⟩ := info_parts info3
     obtain ⟨hcut16, hA16, hC16⟩ := print_take_of (P := Tryd.prog) (Value.int .i64) 0 26 3 .i64 Tryd.underlying26 hi016 hsz16 (some gy) c1_8 an aY (of_decide_eq_true q118t) (of_decide_eq_true q118t) ck.out
     have zk := am (Kd.C_of_reads (h1 := fun _ => rfl) (hA16 _ (Kd.reads_of_C b6.out)))
     have zl := Aside0.mk hC16
     clear hA16 hC16 hi016 hsz16
     refine hK.out _ _ q1t (fun hHeld => ?_)
     clear hK K
     refine norm_ (a' := ?_) ?_ ?_
     rotate_left
     ·show Act.put _ (some 21) _ = _
      simp only [Act.put, List.setIfInBounds_toArray, List.set_cons_zero, List.set_cons_succ, i64_w, i32_w]
      rfl
     refine pv_ 9 22 (bm 22 1023) ?_
     refine pv_ 10 23 (bm 22 2047) ?_
     refine pv_ 11 24 (bm 22 4095) ?_
     refine pv_ 13 26 (bm 22 12287) ?_
     refine pv_ 15 28 (bm 22 45055) ?_
     refine pv_ 17 30 (bm 22 176127) ?_
     refine tv_ 12 25 (bm 22 180223) ?_
     refine pv_ 14 27 (bm 22 196607) ?_
     refine tv_ 16 29 (bm 22 262143) ?_
     refine pv_ 18 31 (bm 22 524287) ?_
     refine tv_ 19 32 (bm 22 1048575) ?_
     refine one_ (i := 20) (N := some 33) (bm 22 2097151) rfl rfl (one_of HT_.out (by kernel_rfl)) q125t (fun K hK => ?_)
     refine goes_ Tryd.func57 (by kernel_rfl) rfl #[.slice (some gy) (an.take (aY : Int).toNat).length c1_8, .int .i64 (rd an aY)] q127t rfl rfl (by (try simp only [List.map_toArray, List.map_cons, List.map_nil]); first | done | (rw [show (an.take (aY : Int).toNat).length = aY.toNat from (by rw [List.length_take]; have h_ : (aY : Int) ≤ (an.length : Int) := of_decide_eq_true q118t; omega)] <;> rfl) | rfl | (simp only [List.length_drop, List.length_take]; rfl)) ?_
     with_reducible refine (spec_l7Has.calls k1 _ _ (an.take (aY : Int).toNat) (rd an aY) true _ ?side1 ?side2 ku.out).mono ?_
     (case side1 => repeat (first | exact (Kd.C_below zk.out q47t) | (with_reducible refine Kd.C_alloc ?_ _) | (with_reducible refine Kd.C_drewN ?_ _) | (with_reducible refine Kd.C_drew ?_)))
     (case side2 => exact zl.out)
     rintro e w' ⟨rfl, ⟨nd, rfl⟩⟩
     refine ⟨_, rfl, ?_⟩
     refine hK.out _ _ q1t (fun hHeld => ?_)
     clear hK K
     refine norm_ (a' := ?_) ?_ ?_
     rotate_left
     ·show Act.put _ (some 33) _ = _
      simp only [Act.put, List.setIfInBounds_toArray, List.set_cons_zero, List.set_cons_succ, i64_w, i32_w]
      rfl
     refine pv_ 21 34 (bm 22 4194303) ?_
     refine done_ (done_of HT_.out (by kernel_rfl)) ?_
     try go_wp2
     go_ret
     exact ⟨q114t, q47t⟩
    replace c12 := Bool.eq_false_iff.mpr c12
    subst c12
    rw [if_neg (show ¬ (false = true) by decide)] at H
    have H' := Aside0.mk H
    clear H
    have Bp := qw.out
    have Bq := qv.out
    have rI := qc13 bt.out
    have rJ := qf13 bt.out
    try go_wp2
    (try (rw [drewN_self wr]; generalize hq_ : World.drewN wr _ = wr; have hh_ := congrArg World.heap hq_; dsimp only [World.drewN] at hh_; have zb_ : Below w.heap.size w wr := (by rw [← hq_]; exact pw_below_drewN HB.out _); have z_ := cB.out; rw [hh_] at z_; clear cB; have cB := Aside0.mk z_; clear z_; have z_ := bt.out; rw [hh_] at z_; clear bt; have bt := Aside0.mk z_; clear z_; clear HB; have HB := Aside0.mk zb_; clear zb_ hh_ hq_))
    replace cB := am (blk_drew cB.out)
    replace bt := am (blk_drew bt.out)
    replace HB := am (below_drew1 HB.out)
    have p650 : 0 ≤ (aY : Int) := of_decide_eq_true q118t
    have q650 : aY < (an.length : Int) := of_decide_eq_true q118t
    obtain ⟨gy, e650, iE⟩ := Kd.at_int b6.out aY p650 q650
    have hw650_0 := iE
    cases e650
    replace iE := hbt HB iE
    replace p650 := eq_true p650
    replace q650 := eq_true q650
    have p653 : 0 ≤ (aY : Int) := of_decide_eq_true q118t
    have q653 : aY < (an.length : Int) := of_decide_eq_true q118t
    obtain ⟨zj, e653, mI⟩ := Kd.at_int b6.out aY p653 q653
    have hw653_0 := mI
    obtain rfl : gy = zj := (by injection e653)
    replace mI := hbt HB mI
    replace p653 := eq_true p653
    replace q653 := eq_true q653
    refine start_ (n := 22) (S := fun w' => w'.cell? ⟨ca, 0, none⟩ = some (.int .i64 aj) ∧ w'.cell? ⟨ca, 1, none⟩ = some (.int .i64 ai) ∧ w'.cell? ⟨ca, 2, none⟩ = some (.int .i64 ak) ∧ w'.cell? ⟨ca, 3, none⟩ = some (.int .i64 ap) ∧ w'.cell? ⟨ca, 4, none⟩ = some (.int .i64 aq) ∧ w'.cell? ⟨ca, 5, none⟩ = some (.int .i64 ao) ∧ w'.cell? ⟨ca, 6, none⟩ = some (.int .i64 aQ) ∧ w'.cell? ⟨ca, 7, none⟩ = some (.int .i64 aT) ∧ w'.cell? ⟨ca, 8, none⟩ = some (.slice (some gy) an.length c1_8) ∧ w'.cell? ⟨ca, 9, none⟩ = some (.int .i64 aH) ∧ w'.cell? ⟨ca, 10, none⟩ = some (.int .i64 aU) ∧ w'.cell? ⟨ca, 11, none⟩ = some (.slice A1_11 ar.length c1_11) ∧ w'.cell? ⟨ca, 12, none⟩ = some (.slice A1_12 aC.length c1_12) ∧ w'.cell? ⟨eO, 0, none⟩ = some (.int .i64 aa) ∧ w'.cell? ⟨eO, 1, none⟩ = some (.int .i64 ab) ∧ w'.cell? ⟨eO, 2, none⟩ = some (.int .i64 ac) ∧ w'.cell? ⟨eO, 3, none⟩ = some (.int .i64 af) ∧ w'.cell? ⟨eO, 4, none⟩ = some (.int .i64 ag) ∧ w'.cell? ⟨eO, 5, none⟩ = some (.int .i64 ae) ∧ w'.cell? (gy.add (aY).toNat) = some (.int .i64 (rd an aY)) ∧ w'.cell? (gy.add (aY).toNat) = some (.int .i64 (rd an aY))) (ds := []) (bm 22 0) (by kernel_rfl) rfl (by kernel_rfl) qst (fun hHeld => ?_); refine with_tabW spec_l7Chunks.tab4 spec_l7Chunks.bits4 (fun HT_ HW_ => ?_)
    generalize wr.drew = w19 at cB bt HB iE mI hHeld ⊢
    refine pv_ 0 13 (bm 22 1) ?_
    refine pv_ 2 15 (bm 22 5) ?_
    refine pv_ 5 18 (bm 22 37) ?_
    refine tv_ 1 14 (bm 22 39) ?_
    refine pv_ 3 16 (bm 22 47) ?_
    refine tv_ 4 17 (bm 22 63) ?_
    refine tv_ 6 19 (bm 22 127) ?_
    refine pv_ 7 20 (bm 22 255) ?_
    refine one_ (i := 8) (N := some 21) (bm 22 511) rfl rfl (one_of HT_.out (by kernel_rfl)) q125t (fun K hK => ?_)
    refine goes_ Tryd.func38 (by kernel_rfl) rfl #[.int .i64 (rd an aY), .int .i64 0, (wrap64 (aa - 1))] q127t rfl rfl q66t ?_
    with_reducible refine (spec_l1In.calls (rd an aY) 0 (wrap64 (aa - 1)) true _ A7.out).mono ?_
    rintro e w' ⟨rfl, ⟨nd, rfl⟩⟩
    refine ⟨_, rfl, ?_⟩
    obtain ⟨i020, hi020, _, hsz20, _⟩ := info_parts info3
    obtain ⟨hcut20, hA20, hC20⟩ := print_take_of (P := Tryd.prog) (Value.int .i64) 0 26 3 .i64 Tryd.underlying26 hi020 hsz20 (some gy) c1_8 an aY (of_decide_eq_true q118t) (of_decide_eq_true q118t) ck.out
    have zk := am (Kd.C_of_reads (h1 := fun _ => rfl) (hA20 _ (Kd.reads_of_C b6.out)))
    have zl := Aside0.mk hC20
    clear hA20 hC20 hi020 hsz20
    refine hK.out _ _ q1t (fun hHeld => ?_)
    clear hK K
    refine norm_ (a' := ?_) ?_ ?_
    rotate_left
    ·show Act.put _ (some 21) _ = _
     simp only [Act.put, List.setIfInBounds_toArray, List.set_cons_zero, List.set_cons_succ, i64_w, i32_w]
     rfl
    refine pv_ 9 22 (bm 22 1023) ?_
    refine pv_ 10 23 (bm 22 2047) ?_
    refine pv_ 11 24 (bm 22 4095) ?_
    refine pv_ 13 26 (bm 22 12287) ?_
    refine pv_ 15 28 (bm 22 45055) ?_
    refine pv_ 17 30 (bm 22 176127) ?_
    refine tv_ 12 25 (bm 22 180223) ?_
    refine pv_ 14 27 (bm 22 196607) ?_
    refine tv_ 16 29 (bm 22 262143) ?_
    refine pv_ 18 31 (bm 22 524287) ?_
    refine tv_ 19 32 (bm 22 1048575) ?_
    refine one_ (i := 20) (N := some 33) (bm 22 2097151) rfl rfl (one_of HT_.out (by kernel_rfl)) q125t (fun K hK => ?_)
    refine goes_ Tryd.func57 (by kernel_rfl) rfl #[.slice (some gy) (an.take (aY : Int).toNat).length c1_8, .int .i64 (rd an aY)] q127t rfl rfl (by (try simp only [List.map_toArray, List.map_cons, List.map_nil]); first | done | (rw [show (an.take (aY : Int).toNat).length = aY.toNat from (by rw [List.length_take]; have h_ : (aY : Int) ≤ (an.length : Int) := of_decide_eq_true q118t; omega)] <;> rfl) | rfl | (simp only [List.length_drop, List.length_take]; rfl)) ?_
    with_reducible refine (spec_l7Has.calls k1 _ _ (an.take (aY : Int).toNat) (rd an aY) false _ ?side1 ?side2 ku.out).mono ?_
    (case side1 => repeat (first | exact (Kd.C_below zk.out q47t) | (with_reducible refine Kd.C_alloc ?_ _) | (with_reducible refine Kd.C_drewN ?_ _) | (with_reducible refine Kd.C_drew ?_)))
    (case side2 => exact zl.out)
    rintro e w' ⟨rfl, ⟨nd, rfl⟩⟩
    refine ⟨_, rfl, ?_⟩
    refine hK.out _ _ q1t (fun hHeld => ?_)
    clear hK K
    refine norm_ (a' := ?_) ?_ ?_
    rotate_left
    ·show Act.put _ (some 33) _ = _
     simp only [Act.put, List.setIfInBounds_toArray, List.set_cons_zero, List.set_cons_succ, i64_w, i32_w]
     rfl
    refine pv_ 21 34 (bm 22 4194303) ?_
    refine done_ (done_of HT_.out (by kernel_rfl)) ?_
    try go_wp2
    go_roundg k1
    case measure => have := HK1.out; omega
    case rel => exact ⟨(wrap64 (aY + 1)), q121t, H', ⟨q124t⟩, ⟨qbk cB⟩, ⟨qbk bt⟩, ⟨q47t⟩⟩
   replace c8 := Bool.eq_false_iff.mpr c8
   subst c8
   rw [if_neg (show ¬ (false = true) by decide)] at H
   obtain rfl := Option.some.inj H
   have tJ := qw.out
   have tK := qv.out
   have qI := qc13 bt.out
   have qJ := qf13 bt.out
   try go_wp2
   (try (rw [drewN_self wr]; generalize hq_ : World.drewN wr _ = wr; have hh_ := congrArg World.heap hq_; dsimp only [World.drewN] at hh_; have zb_ : Below w.heap.size w wr := (by rw [← hq_]; exact pw_below_drewN HB.out _); have z_ := cB.out; rw [hh_] at z_; clear cB; have cB := Aside0.mk z_; clear z_; have z_ := bt.out; rw [hh_] at z_; clear bt; have bt := Aside0.mk z_; clear z_; clear HB; have HB := Aside0.mk zb_; clear zb_ hh_ hq_))
   replace cB := am (blk_drew cB.out)
   replace bt := am (blk_drew bt.out)
   replace HB := am (below_drew1 HB.out)
   have p650 : 0 ≤ (aY : Int) := of_decide_eq_true q118t
   have q650 : aY < (an.length : Int) := of_decide_eq_true q118t
   obtain ⟨gy, e650, iE⟩ := Kd.at_int b6.out aY p650 q650
   have hw650_0 := iE
   cases e650
   replace iE := hbt HB iE
   replace p650 := eq_true p650
   replace q650 := eq_true q650
   refine start_ (n := 22) (S := fun w' => w'.cell? ⟨ca, 0, none⟩ = some (.int .i64 aj) ∧ w'.cell? ⟨ca, 1, none⟩ = some (.int .i64 ai) ∧ w'.cell? ⟨ca, 2, none⟩ = some (.int .i64 ak) ∧ w'.cell? ⟨ca, 3, none⟩ = some (.int .i64 ap) ∧ w'.cell? ⟨ca, 4, none⟩ = some (.int .i64 aq) ∧ w'.cell? ⟨ca, 5, none⟩ = some (.int .i64 ao) ∧ w'.cell? ⟨ca, 6, none⟩ = some (.int .i64 aQ) ∧ w'.cell? ⟨ca, 7, none⟩ = some (.int .i64 aT) ∧ w'.cell? ⟨ca, 8, none⟩ = some (.slice (some gy) an.length c1_8) ∧ w'.cell? ⟨ca, 9, none⟩ = some (.int .i64 aH) ∧ w'.cell? ⟨ca, 10, none⟩ = some (.int .i64 aU) ∧ w'.cell? ⟨ca, 11, none⟩ = some (.slice A1_11 ar.length c1_11) ∧ w'.cell? ⟨ca, 12, none⟩ = some (.slice A1_12 aC.length c1_12) ∧ w'.cell? ⟨eO, 0, none⟩ = some (.int .i64 aa) ∧ w'.cell? ⟨eO, 1, none⟩ = some (.int .i64 ab) ∧ w'.cell? ⟨eO, 2, none⟩ = some (.int .i64 ac) ∧ w'.cell? ⟨eO, 3, none⟩ = some (.int .i64 af) ∧ w'.cell? ⟨eO, 4, none⟩ = some (.int .i64 ag) ∧ w'.cell? ⟨eO, 5, none⟩ = some (.int .i64 ae) ∧ w'.cell? (gy.add (aY).toNat) = some (.int .i64 (rd an aY))) (ds := []) (bm 22 0) (by kernel_rfl) rfl (by kernel_rfl) qst (fun hHeld => ?_); refine with_tabW spec_l7Chunks.tab4 spec_l7Chunks.bits4 (fun HT_ HW_ => ?_)
   generalize wr.drew = w23 at cB bt HB iE hHeld ⊢
   refine pv_ 0 13 (bm 22 1) ?_
   refine pv_ 2 15 (bm 22 5) ?_
   refine pv_ 5 18 (bm 22 37) ?_
   refine tv_ 1 14 (bm 22 39) ?_
   refine pv_ 3 16 (bm 22 47) ?_
   refine tv_ 4 17 (bm 22 63) ?_
   refine tv_ 6 19 (bm 22 127) ?_
   refine pv_ 7 20 (bm 22 255) ?_
   refine one_ (i := 8) (N := some 21) (bm 22 511) rfl rfl (one_of HT_.out (by kernel_rfl)) q125t (fun K hK => ?_)
   refine goes_ Tryd.func38 (by kernel_rfl) rfl #[.int .i64 (rd an aY), .int .i64 0, (wrap64 (aa - 1))] q127t rfl rfl q66t ?_
   with_reducible refine (spec_l1In.calls (rd an aY) 0 (wrap64 (aa - 1)) false _ A7.out).mono ?_
   rintro e w' ⟨rfl, ⟨nd, rfl⟩⟩
   refine ⟨_, rfl, ?_⟩
   refine hK.out _ _ (by first | exact ⟨(blk_cell bt.out 0).trans rfl, (blk_cell bt.out 1).trans rfl, (blk_cell bt.out 2).trans rfl, (blk_cell bt.out 3).trans rfl, (blk_cell bt.out 4).trans rfl, (blk_cell bt.out 5).trans rfl, (blk_cell bt.out 6).trans rfl, (blk_cell bt.out 7).trans rfl, (blk_cell bt.out 8).trans rfl, (blk_cell bt.out 9).trans rfl, (blk_cell bt.out 10).trans rfl, (blk_cell bt.out 11).trans rfl, (blk_cell bt.out 12).trans rfl, (blk_cell cB.out 0).trans rfl, (blk_cell cB.out 1).trans rfl, (blk_cell cB.out 2).trans rfl, (blk_cell cB.out 3).trans rfl, (blk_cell cB.out 4).trans rfl, (blk_cell cB.out 5).trans rfl, (hbt HB hw650_0)⟩ | exact hHeld) (fun hHeld => ?_)
   clear hK K
   refine norm_ (a' := ?_) ?_ ?_
   rotate_left
   ·show Act.put _ (some 21) _ = _
    simp only [Act.put, List.setIfInBounds_toArray, List.set_cons_zero, List.set_cons_succ, i64_w, i32_w]
    rfl
   refine pv_ 9 22 (bm 22 1023) ?_
   refine pv_ 10 23 (bm 22 2047) ?_
   refine pm_ 11 24 (bm 22 4095) ?_
   refine pm_ 12 25 (bm 22 8191) ?_
   refine pm_ 13 26 (bm 22 16383) ?_
   refine pm_ 14 27 (bm 22 32767) ?_
   refine pm_ 15 28 (bm 22 65535) ?_
   refine pm_ 16 29 (bm 22 131071) ?_
   refine pm_ 17 30 (bm 22 262143) ?_
   refine pm_ 18 31 (bm 22 524287) ?_
   refine pm_ 19 32 (bm 22 1048575) ?_
   refine pm_ 20 33 (bm 22 2097151) ?_
   refine pv_ 21 34 (bm 22 4194303) ?_
   refine done_ (done_of HT_.out (by kernel_rfl)) ?_
   try go_wp2
   go_ret
   exact ⟨q114t, q47t⟩

end Go.Proofs.YtofpmdgndegalacDoor.QFnNodes
