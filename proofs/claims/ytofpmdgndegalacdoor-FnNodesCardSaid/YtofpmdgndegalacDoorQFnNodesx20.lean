/- What the functions that the law FnNodes reaches compute, as plain functions, and that the code computes just that (by a program of this session's; the library's functions by hand). No condition. -/
import Derived.Test.YtofpmdgndegalacDoorQFnNodesx0
import Derived.Test.YtofpmdgndegalacDoorQFnNodesx1
import Derived.Test.YtofpmdgndegalacDoorQFnNodesx19
namespace Go.Proofs.YtofpmdgndegalacDoor.QFnNodes
open Go.RowKit Go.Proofs.YtofpmdgndegalacDoorW.PrintWords Go.Proofs.YtofpmdgndegalacDoorW.PrintLast Go.Proofs.YtofpmdgndegalacDoorW.PrintMore
attribute [local go_sem] max2_int min2_int max_two min_two max_three min_three max_four min_four   -- for this text's walks alone
set_option linter.unusedVariables false
set_option linter.unusedSimpArgs false

attribute [local go_sem high] eqA33
/-! ### laws_sameNode: function 16 -/
mutual
def laws_sameNode.j0 : Nat → Bool → Int → Int → Int → Int → Int → Int → Int → Int → List Int → Int → Int → List (S33) → List Int → Int → Int → Int → Int → Int → Int → Int → Int → List Int → Int → Int → List (S33) → List Int → Option (Bool)
 | 0, _, _, _, _, _, _, _, _, _, _, _, _, _, _, _, _, _, _, _, _, _, _, _, _, _, _, _ => none
 | k + 1, x98, zz, zA, zB, zC, zD, zE, zF, zG, zH, zI, zJ, pq, zK, zL, zM, zN, zO, zP, zQ, zR, zS, zT, zU, zV, pr, zW => if x98 = true then (some false) else (laws_sameNode.l0 k 0 zz zA zB zC zD zE zF zG zH zI zJ pq zK zL zM zN zO zP zQ zR zS zT zU zV pr zW)
def laws_sameNode.l0 : Nat → Int → Int → Int → Int → Int → Int → Int → Int → Int → List Int → Int → Int → List (S33) → List Int → Int → Int → Int → Int → Int → Int → Int → Int → List Int → Int → Int → List (S33) → List Int → Option (Bool)
 | 0, _, _, _, _, _, _, _, _, _, _, _, _, _, _, _, _, _, _, _, _, _, _, _, _, _, _, _ => none
 | k + 1, x5, zz, zA, zB, zC, zD, zE, zF, zG, zH, zI, zJ, pq, zK, zL, zM, zN, zO, zP, zQ, zR, zS, zT, zU, zV, pr, zW => if x5 < (pq.length : Int) then (if 0 ≤ x5 then (if x5 < (pr.length : Int) then (if (!(((rd_T33 pq x5).f0) == ((rd_T33 pr x5).f0)) || (!(((rd_T33 pq x5).f1) == ((rd_T33 pr x5).f1)) || (!(((rd_T33 pq x5).f2) == ((rd_T33 pr x5).f2))))) = true then (some false) else (laws_sameNode.l0 k (wrap64 (x5 + 1)) zz zA zB zC zD zE zF zG zH zI zJ pq zK zL zM zN zO zP zQ zR zS zT zU zV pr zW)) else (none)) else (none)) else (some true)
end
def laws_sameNode.f (k : Nat) (aa : Int) (ab : Int) (ac : Int) (af : Int) (ag : Int) (ae : Int) (aJ : Int) (aK : Int) (av : List Int) (aM : Int) (aN : Int) (au : List (S33)) (ax : List Int) (aj : Int) (ai : Int) (ak : Int) (ap : Int) (aq : Int) (ao : Int) (aQ : Int) (aT : Int) (an : List Int) (aH : Int) (aU : Int) (ar : List (S33)) (aC : List Int) : Option (Bool) := if aa = aj then (if ab = ai then (if ac = ak then (if af = ap then (if ag = aq then (if ae = ao then (if aJ = aQ then (if aK = aT then ((laws_sameInts.f k av an).bind fun tf => (if tf = true then (if aM = aH then (if aN = aU then (if (au.length : Int) = (ar.length : Int) then ((laws_sameInts.f k ax aC).bind fun n1 => (laws_sameNode.j0 k (!n1) aa ab ac af ag ae aJ aK av aM aN au ax aj ai ak ap aq ao aQ aT an aH aU ar aC)) else (laws_sameNode.j0 k true aa ab ac af ag ae aJ aK av aM aN au ax aj ai ak ap aq ao aQ aT an aH aU ar aC)) else (laws_sameNode.j0 k true aa ab ac af ag ae aJ aK av aM aN au ax aj ai ak ap aq ao aQ aT an aH aU ar aC)) else (laws_sameNode.j0 k true aa ab ac af ag ae aJ aK av aM aN au ax aj ai ak ap aq ao aQ aT an aH aU ar aC)) else (laws_sameNode.j0 k true aa ab ac af ag ae aJ aK av aM aN au ax aj ai ak ap aq ao aQ aT an aH aU ar aC))) else (laws_sameNode.j0 k true aa ab ac af ag ae aJ aK av aM aN au ax aj ai ak ap aq ao aQ aT an aH aU ar aC)) else (laws_sameNode.j0 k true aa ab ac af ag ae aJ aK av aM aN au ax aj ai ak ap aq ao aQ aT an aH aU ar aC)) else (laws_sameNode.j0 k true aa ab ac af ag ae aJ aK av aM aN au ax aj ai ak ap aq ao aQ aT an aH aU ar aC)) else (laws_sameNode.j0 k true aa ab ac af ag ae aJ aK av aM aN au ax aj ai ak ap aq ao aQ aT an aH aU ar aC)) else (laws_sameNode.j0 k true aa ab ac af ag ae aJ aK av aM aN au ax aj ai ak ap aq ao aQ aT an aH aU ar aC)) else (laws_sameNode.j0 k true aa ab ac af ag ae aJ aK av aM aN au ax aj ai ak ap aq ao aQ aT an aH aU ar aC)) else (laws_sameNode.j0 k true aa ab ac af ag ae aJ aK av aM aN au ax aj ai ak ap aq ao aQ aT an aH aU ar aC)) else (laws_sameNode.j0 k true aa ab ac af ag ae aJ aK av aM aN au ax aj ai ak ap aq ao aQ aT an aH aU ar aC)
set_option maxHeartbeats 8000000 in
set_option maxRecDepth 100000 in
theorem laws_sameNode.calls (k : Nat) (aa : Int) (ab : Int) (ac : Int) (af : Int) (ag : Int) (ae : Int) (aJ : Int) (aK : Int) (A0_8 : Option Addr) (c0_8 : Nat) (av : List Int) (aM : Int) (aN : Int) (A0_11 : Option Addr) (c0_11 : Nat) (au : List (S33)) (A0_12 : Option Addr) (c0_12 : Nat) (ax : List Int) (aj : Int) (ai : Int) (ak : Int) (ap : Int) (aq : Int) (ao : Int) (aQ : Int) (aT : Int) (A1_8 : Option Addr) (c1_8 : Nat) (an : List Int) (aH : Int) (aU : Int) (A1_11 : Option Addr) (c1_11 : Nat) (ar : List (S33)) (A1_12 : Option Addr) (c1_12 : Nat) (aC : List Int) (r : Bool) (w : World) (hr0_8 : Kd.C (Kd.int .i64) w A0_8 av.length av) (hc0_8 : av.length ≤ c0_8) (hr0_11 : Kd.C k33 w A0_11 au.length au) (hc0_11 : au.length ≤ c0_11) (hr0_12 : Kd.C (Kd.int .i64) w A0_12 ax.length ax) (hc0_12 : ax.length ≤ c0_12) (hr1_8 : Kd.C (Kd.int .i64) w A1_8 an.length an) (hc1_8 : an.length ≤ c1_8) (hr1_11 : Kd.C k33 w A1_11 ar.length ar) (hc1_11 : ar.length ≤ c1_11) (hr1_12 : Kd.C (Kd.int .i64) w A1_12 aC.length aC) (hc1_12 : aC.length ≤ c1_12) (h : laws_sameNode.f k aa ab ac af ag ae aJ aK av aM aN au ax aj ai ak ap aq ao aQ aT an aH aU ar aC = some r) :
  Calls Tryd.prog 16 #[.agg #[aa, ab, ac, af, ag, ae, aJ, aK, .slice A0_8 av.length c0_8, aM, aN, .slice A0_11 au.length c0_11, .slice A0_12 ax.length c0_12], .agg #[aj, ai, ak, ap, aq, ao, aQ, aT, .slice A1_8 an.length c1_8, aH, aU, .slice A1_11 ar.length c1_11, .slice A1_12 aC.length c1_12]] w fun e w' => e = .returned (.bool r) ∧ Below w.heap.size w w' := by
 have hu29 := Tryd.underlying29
 have hu33 := Tryd.underlying33
 have d1 := Aside0.mk hr0_8
 have ec := Aside0.mk hc0_8
 clear hr0_8 hc0_8
 have jA := Aside0.mk hr0_11
 have ml := Aside0.mk hc0_11
 clear hr0_11 hc0_11
 have jB := Aside0.mk hr0_12
 have ko := Aside0.mk hc0_12
 clear hr0_12 hc0_12
 have b6 := Aside0.mk hr1_8
 have ck := Aside0.mk hc1_8
 clear hr1_8 hc1_8
 have gv := Aside0.mk hr1_11
 have jE := Aside0.mk hc1_11
 clear hr1_11 hc1_11
 have ga := Aside0.mk hr1_12
 have hD := Aside0.mk hc1_12
 clear hr1_12 hc1_12
 have HB := am (Below.refl w.heap.size w)
 have H : (if aa = aj then (if ab = ai then (if ac = ak then (if af = ap then (if ag = aq then (if ae = ao then (if aJ = aQ then (if aK = aT then ((laws_sameInts.f k av an).bind fun tf => (if tf = true then (if aM = aH then (if aN = aU then (if (au.length : Int) = (ar.length : Int) then ((laws_sameInts.f k ax aC).bind fun n1 => (laws_sameNode.j0 k (!n1) aa ab ac af ag ae aJ aK av aM aN au ax aj ai ak ap aq ao aQ aT an aH aU ar aC)) else (laws_sameNode.j0 k true aa ab ac af ag ae aJ aK av aM aN au ax aj ai ak ap aq ao aQ aT an aH aU ar aC)) else (laws_sameNode.j0 k true aa ab ac af ag ae aJ aK av aM aN au ax aj ai ak ap aq ao aQ aT an aH aU ar aC)) else (laws_sameNode.j0 k true aa ab ac af ag ae aJ aK av aM aN au ax aj ai ak ap aq ao aQ aT an aH aU ar aC)) else (laws_sameNode.j0 k true aa ab ac af ag ae aJ aK av aM aN au ax aj ai ak ap aq ao aQ aT an aH aU ar aC))) else (laws_sameNode.j0 k true aa ab ac af ag ae aJ aK av aM aN au ax aj ai ak ap aq ao aQ aT an aH aU ar aC)) else (laws_sameNode.j0 k true aa ab ac af ag ae aJ aK av aM aN au ax aj ai ak ap aq ao aQ aT an aH aU ar aC)) else (laws_sameNode.j0 k true aa ab ac af ag ae aJ aK av aM aN au ax aj ai ak ap aq ao aQ aT an aH aU ar aC)) else (laws_sameNode.j0 k true aa ab ac af ag ae aJ aK av aM aN au ax aj ai ak ap aq ao aQ aT an aH aU ar aC)) else (laws_sameNode.j0 k true aa ab ac af ag ae aJ aK av aM aN au ax aj ai ak ap aq ao aQ aT an aH aU ar aC)) else (laws_sameNode.j0 k true aa ab ac af ag ae aJ aK av aM aN au ax aj ai ak ap aq ao aQ aT an aH aU ar aC)) else (laws_sameNode.j0 k true aa ab ac af ag ae aJ aK av aM aN au ax aj ai ak ap aq ao aQ aT an aH aU ar aC)) else (laws_sameNode.j0 k true aa ab ac af ag ae aJ aK av aM aN au ax aj ai ak ap aq ao aQ aT an aH aU ar aC)) = some r := h
 clear h
 have eK := Aside0.mk H
 clear H
 go_enter Tryd.func16, Tryd.ntmps16
 go_upto_region 1 with (first | ((with_reducible refine gate_dst (N := 2) rfl ?_); (try (refine gate_guard q127t ?_; dsimp only)); refine box_ev 2 #[aa, ab, ac, af, ag, ae, aJ, aK, .slice A0_8 av.length c0_8, aM, aN, .slice A0_11 au.length c0_11, .slice A0_12 ax.length c0_12] 29 ?_; intro gz hg w4 hbox hb; have bq := am (hbox); have Fm := am ((q63t : w.heap.size ≤ gz)); have Fo := am ((q63t : w.heap.size ≤ gz)); replace HB := am (below_step q68t hb); clear hb hbox hg) | ((with_reducible refine gate_dst (N := 3) rfl ?_); (try (refine gate_guard q127t ?_; dsimp only)); refine box_ev 3 #[aj, ai, ak, ap, aq, ao, aQ, aT, .slice A1_8 an.length c1_8, aH, aU, .slice A1_11 ar.length c1_11, .slice A1_12 aC.length c1_12] 29 ?_; intro gA hg w5 hbox hb; have bV := am (hbox); have Fp := am ((q41t : w.heap.size ≤ gA)); have Fq := am ((q41t : w.heap.size ≤ gA)); replace HB := am (below_step q47t hb); have fM := am ((by rw [hg]; exact Nat.ne_of_lt (blk_lt (qbk bq)) : gz ≠ gA)); have fN := am ((by rw [hg]; exact Nat.ne_of_gt (blk_lt (qbk bq)) : gA ≠ gz)); replace bq := blb bq hb; clear hb hbox hg))
 repeat (go_quiet (first | ((with_reducible refine gate_dst (N := 2) rfl ?_); (try (refine gate_guard q127t ?_; dsimp only)); refine box_ev 2 #[aa, ab, ac, af, ag, ae, aJ, aK, .slice A0_8 av.length c0_8, aM, aN, .slice A0_11 au.length c0_11, .slice A0_12 ax.length c0_12] 29 ?_; intro gz hg w4 hbox hb; have bq := am (hbox); have Fm := am ((q63t : w.heap.size ≤ gz)); have Fo := am ((q63t : w.heap.size ≤ gz)); replace HB := am (below_step q68t hb); clear hb hbox hg) | ((with_reducible refine gate_dst (N := 3) rfl ?_); (try (refine gate_guard q127t ?_; dsimp only)); refine box_ev 3 #[aj, ai, ak, ap, aq, ao, aQ, aT, .slice A1_8 an.length c1_8, aH, aU, .slice A1_11 ar.length c1_11, .slice A1_12 aC.length c1_12] 29 ?_; intro gA hg w5 hbox hb; have bV := am (hbox); have Fp := am ((q41t : w.heap.size ≤ gA)); have Fq := am ((q41t : w.heap.size ≤ gA)); replace HB := am (below_step q47t hb); have fM := am ((by rw [hg]; exact Nat.ne_of_lt (blk_lt (qbk bq)) : gz ≠ gA)); have fN := am ((by rw [hg]; exact Nat.ne_of_gt (blk_lt (qbk bq)) : gA ≠ gz)); replace bq := blb bq hb; clear hb hbox hg)); go_upto_region 1 with (first | ((with_reducible refine gate_dst (N := 2) rfl ?_); (try (refine gate_guard q127t ?_; dsimp only)); refine box_ev 2 #[aa, ab, ac, af, ag, ae, aJ, aK, .slice A0_8 av.length c0_8, aM, aN, .slice A0_11 au.length c0_11, .slice A0_12 ax.length c0_12] 29 ?_; intro gz hg w4 hbox hb; have bq := am (hbox); have Fm := am ((q63t : w.heap.size ≤ gz)); have Fo := am ((q63t : w.heap.size ≤ gz)); replace HB := am (below_step q68t hb); clear hb hbox hg) | ((with_reducible refine gate_dst (N := 3) rfl ?_); (try (refine gate_guard q127t ?_; dsimp only)); refine box_ev 3 #[aj, ai, ak, ap, aq, ao, aQ, aT, .slice A1_8 an.length c1_8, aH, aU, .slice A1_11 ar.length c1_11, .slice A1_12 aC.length c1_12] 29 ?_; intro gA hg w5 hbox hb; have bV := am (hbox); have Fp := am ((q41t : w.heap.size ≤ gA)); have Fq := am ((q41t : w.heap.size ≤ gA)); replace HB := am (below_step q47t hb); have fM := am ((by rw [hg]; exact Nat.ne_of_lt (blk_lt (qbk bq)) : gz ≠ gA)); have fN := am ((by rw [hg]; exact Nat.ne_of_gt (blk_lt (qbk bq)) : gA ≠ gz)); replace bq := blb bq hb; clear hb hbox hg)))
 (try simp only [Act.put, List.setIfInBounds_toArray, List.set_cons_zero, List.set_cons_succ])
 go_cut [98] (fun v98 wc => ∃ (kq : Nat) (vE : Bool), v98 = .bool vE ∧ Aside0 (laws_sameNode.j0 kq vE aa ab ac af ag ae aJ aK av aM aN au ax aj ai ak ap aq ao aQ aT an aH aU ar aC = some r) ∧ Aside0 (kq ≤ k) ∧ Aside0 (wc.heap[gz]? = some (.cells #[aa, ab, ac, af, ag, ae, aJ, aK, (.slice A0_8 av.length c0_8), aM, aN, (.slice A0_11 au.length c0_11), (.slice A0_12 ax.length c0_12)] 29 (0, 0))) ∧ Aside0 (wc.heap[gA]? = some (.cells #[aj, ai, ak, ap, aq, ao, aQ, aT, (.slice A1_8 an.length c1_8), aH, aU, (.slice A1_11 ar.length c1_11), (.slice A1_12 aC.length c1_12)] 29 (0, 0))) ∧ Aside0 (Below w.heap.size w wc))
 case first =>
  have H := eK.out
  clear eK
  by_cases c6 : aa = aj
  rotate_left
  ·rw [if_neg c6] at H
   have d9 : (aa == aj) = false := beq_eq_false_iff_ne.mpr c6
   have gg : (aa != aj) = true := bne_iff_ne.mpr c6
   (first | rw [d9] | (simp only [i64_w, i32_w]; rw [d9]) | skip)
   have H' := Aside0.mk H
   clear H
   have W3 := fM.out
   have W4 := fN.out
   have qm := qc13 bq.out
   have ph := qf13 bq.out
   have vw := qc13 bV.out
   have vx := qf13 bV.out
   go_wp2
   repeat (go_quiet (fail); try go_wp2)
   go_meet
   case rel => exact ⟨_, (true), q121t, H', ⟨q122t⟩, ⟨qbk bq⟩, ⟨qbk bV⟩, ⟨q47t⟩⟩
  rw [if_pos c6] at H
  have d9 : (aa == aj) = true := beq_iff_eq.mpr c6
  have gg : (aa != aj) = false := bne_eq_false_iff_eq.mpr c6
  clear c6
  (first | rw [d9] | (simp only [i64_w, i32_w]; rw [d9]) | skip)
  by_cases c7 : ab = ai
  rotate_left
  ·rw [if_neg c7] at H
   have eM : (ab == ai) = false := beq_eq_false_iff_ne.mpr c7
   have jJ : (ab != ai) = true := bne_iff_ne.mpr c7
   have H' := Aside0.mk H
   clear H
   have DI := fM.out
   have DJ := fN.out
   have pe := qc13 bq.out
   have nL := qf13 bq.out
   have nw := qc13 bV.out
   have nx := qf13 bV.out
   go_wp2
   repeat (go_quiet (fail); try go_wp2)
   go_meet
   case rel => exact ⟨_, (true), q121t, H', ⟨q122t⟩, ⟨qbk bq⟩, ⟨qbk bV⟩, ⟨q47t⟩⟩
  rw [if_pos c7] at H
  have eM : (ab == ai) = true := beq_iff_eq.mpr c7
  have jJ : (ab != ai) = false := bne_eq_false_iff_eq.mpr c7
  clear c7
  by_cases c8 : ac = ak
  rotate_left
  ·rw [if_neg c8] at H
   have gu : (ac == ak) = false := beq_eq_false_iff_ne.mpr c8
   have mC : (ac != ak) = true := bne_iff_ne.mpr c8
   have H' := Aside0.mk H
   clear H
   have yD := fM.out
   have yE := fN.out
   have qn := qc13 bq.out
   have pj := qf13 bq.out
   have k6 := qc13 bV.out
   have kt := qf13 bV.out
   go_wp2
   repeat (go_quiet (fail); try go_wp2)
   go_meet
   case rel => exact ⟨_, (true), q121t, H', ⟨q122t⟩, ⟨qbk bq⟩, ⟨qbk bV⟩, ⟨q47t⟩⟩
  rw [if_pos c8] at H
  have gu : (ac == ak) = true := beq_iff_eq.mpr c8
  have mC : (ac != ak) = false := bne_eq_false_iff_eq.mpr c8
  clear c8
  by_cases c9 : af = ap
  rotate_left
  ·rw [if_neg c9] at H
   have mD : (af == ap) = false := beq_eq_false_iff_ne.mpr c9
   have pi : (af != ap) = true := bne_iff_ne.mpr c9
   have H' := Aside0.mk H
   clear H
   have wB := fM.out
   have wC := fN.out
   have zb := qc13 bq.out
   have zc := qf13 bq.out
   have pd := qc13 bV.out
   have nK := qf13 bV.out
   go_wp2
   repeat (go_quiet (fail); try go_wp2)
   go_meet
   case rel => exact ⟨_, (true), q121t, H', ⟨q122t⟩, ⟨qbk bq⟩, ⟨qbk bV⟩, ⟨q47t⟩⟩
  rw [if_pos c9] at H
  have mD : (af == ap) = true := beq_iff_eq.mpr c9
  have pi : (af != ap) = false := bne_eq_false_iff_eq.mpr c9
  clear c9
  by_cases c10 : ag = aq
  rotate_left
  ·rw [if_neg c10] at H
   have eN : (ag == aq) = false := beq_eq_false_iff_ne.mpr c10
   have jK : (ag != aq) = true := bne_iff_ne.mpr c10
   have H' := Aside0.mk H
   clear H
   have uc := fM.out
   have ud := fN.out
   have vu := qc13 bq.out
   have vv := qf13 bq.out
   have nV := qc13 bV.out
   have mB := qf13 bV.out
   go_wp2
   repeat (go_quiet (fail); try go_wp2)
   go_meet
   case rel => exact ⟨_, (true), q121t, H', ⟨q122t⟩, ⟨qbk bq⟩, ⟨qbk bV⟩, ⟨q47t⟩⟩
  rw [if_pos c10] at H
  have eN : (ag == aq) = true := beq_iff_eq.mpr c10
  have jK : (ag != aq) = false := bne_eq_false_iff_eq.mpr c10
  clear c10
  by_cases c11 : ae = ao
  rotate_left
  ·rw [if_neg c11] at H
   have kB : (ae == ao) = false := beq_eq_false_iff_ne.mpr c11
   have oA : (ae != ao) = true := bne_iff_ne.mpr c11
   have H' := Aside0.mk H
   clear H
   have q3 := fM.out
   have q4 := fN.out
   have kK := qc13 bq.out
   have kL := qf13 bq.out
   have y9 := qc13 bV.out
   have za := qf13 bV.out
   go_wp2
   repeat (go_quiet (fail); try go_wp2)
   go_meet
   case rel => exact ⟨_, (true), q121t, H', ⟨q122t⟩, ⟨qbk bq⟩, ⟨qbk bV⟩, ⟨q47t⟩⟩
  rw [if_pos c11] at H
  have kB : (ae == ao) = true := beq_iff_eq.mpr c11
  have oA : (ae != ao) = false := bne_eq_false_iff_eq.mpr c11
  clear c11
  by_cases c12 : aJ = aQ
  rotate_left
  ·rw [if_neg c12] at H
   have kU : (aJ == aQ) = false := beq_eq_false_iff_ne.mpr c12
   have pX : (aJ != aQ) = true := bne_iff_ne.mpr c12
   have H' := Aside0.mk H
   clear H
   have Jp := fM.out
   have Jq := fN.out
   have Fr := qc13 bq.out
   have Fs := qf13 bq.out
   have rT := qc13 bV.out
   have rU := qf13 bV.out
   go_wp2
   repeat (go_quiet (fail); try go_wp2)
   go_meet
   case rel => exact ⟨_, (true), q121t, H', ⟨q122t⟩, ⟨qbk bq⟩, ⟨qbk bV⟩, ⟨q47t⟩⟩
  rw [if_pos c12] at H
  have kU : (aJ == aQ) = true := beq_iff_eq.mpr c12
  have pX : (aJ != aQ) = false := bne_eq_false_iff_eq.mpr c12
  clear c12
  by_cases c13 : aK = aT
  rotate_left
  ·rw [if_neg c13] at H
   have k7 : (aK == aT) = false := beq_eq_false_iff_ne.mpr c13
   have pk : (aK != aT) = true := bne_iff_ne.mpr c13
   have H' := Aside0.mk H
   clear H
   have xc := fM.out
   have xd := fN.out
   have sD := qc13 bq.out
   have sE := qf13 bq.out
   have lX := qc13 bV.out
   have lY := qf13 bV.out
   go_wp2
   repeat (go_quiet (fail); try go_wp2)
   go_meet
   case rel => exact ⟨_, (true), q121t, H', ⟨q122t⟩, ⟨qbk bq⟩, ⟨qbk bV⟩, ⟨q47t⟩⟩
  rw [if_pos c13] at H
  have k7 : (aK == aT) = true := beq_iff_eq.mpr c13
  have pk : (aK != aT) = false := bne_eq_false_iff_eq.mpr c13
  clear c13
  obtain ⟨tf, eS, H⟩ := bnd H
  try dsimp only at H
  by_cases c15 : tf = true
  rotate_left
  ·replace c15 := Bool.eq_false_iff.mpr c15
   subst c15
   rw [if_neg (show ¬ (false = true) by decide)] at H
   have H' := Aside0.mk H
   clear H
   have qZ := fM.out
   have q0 := fN.out
   have mi := qc13 bq.out
   have kY := qf13 bq.out
   have kI := qc13 bV.out
   have kJ := qf13 bV.out
   go_wp2_with (first | (go_at_call 47; (with_reducible refine (laws_sameInts.calls k _ _ av _ _ an false _ ?side1 ?side2 ?side3 ?side4 eS.out).mono ?_); (case side1 => exact sC (Kd.C_below d1.out HB.out)); (case side2 => exact ec.out); (case side3 => exact sC (Kd.C_below b6.out HB.out)); (case side4 => exact ck.out); rintro e w' ⟨rfl, ⟨nd, rfl⟩⟩; (try first | exact ⟨rfl, _, World.drewN_drewN _ _ _⟩ | exact ⟨rfl, _, Eq.trans (World.drewN_drewN _ _ _) (congrArg (World.drewN _) (Nat.add_assoc _ _ _))⟩)))
   repeat (go_quiet (first | (go_at_call 47; (with_reducible refine (laws_sameInts.calls k _ _ av _ _ an false _ ?side1 ?side2 ?side3 ?side4 eS.out).mono ?_); (case side1 => exact sC (Kd.C_below d1.out HB.out)); (case side2 => exact ec.out); (case side3 => exact sC (Kd.C_below b6.out HB.out)); (case side4 => exact ck.out); rintro e w' ⟨rfl, ⟨nd, rfl⟩⟩; (try first | exact ⟨rfl, _, World.drewN_drewN _ _ _⟩ | exact ⟨rfl, _, Eq.trans (World.drewN_drewN _ _ _) (congrArg (World.drewN _) (Nat.add_assoc _ _ _))⟩))); try go_wp2_with (first | (go_at_call 47; (with_reducible refine (laws_sameInts.calls k _ _ av _ _ an false _ ?side1 ?side2 ?side3 ?side4 eS.out).mono ?_); (case side1 => exact sC (Kd.C_below d1.out HB.out)); (case side2 => exact ec.out); (case side3 => exact sC (Kd.C_below b6.out HB.out)); (case side4 => exact ck.out); rintro e w' ⟨rfl, ⟨nd, rfl⟩⟩; (try first | exact ⟨rfl, _, World.drewN_drewN _ _ _⟩ | exact ⟨rfl, _, Eq.trans (World.drewN_drewN _ _ _) (congrArg (World.drewN _) (Nat.add_assoc _ _ _))⟩))))
   go_meet
   case rel => exact ⟨_, (true), q121t, H', ⟨q122t⟩, ⟨qbk bq⟩, ⟨qbk bV⟩, ⟨q47t⟩⟩
  subst c15
  rw [if_pos rfl] at H
  by_cases c16 : aM = aH
  rotate_left
  ·rw [if_neg c16] at H
   have qp : (aM == aH) = false := beq_eq_false_iff_ne.mpr c16
   have zX : (aM != aH) = true := bne_iff_ne.mpr c16
   have H' := Aside0.mk H
   clear H
   have uK := fM.out
   have uL := fN.out
   have rZ := qc13 bq.out
   have qh := qf13 bq.out
   have qi := qc13 bV.out
   have qj := qf13 bV.out
   go_wp2_with (first | (go_at_call 47; (with_reducible refine (laws_sameInts.calls k _ _ av _ _ an true _ ?side1 ?side2 ?side3 ?side4 eS.out).mono ?_); (case side1 => exact sC (Kd.C_below d1.out HB.out)); (case side2 => exact ec.out); (case side3 => exact sC (Kd.C_below b6.out HB.out)); (case side4 => exact ck.out); rintro e w' ⟨rfl, ⟨nd, rfl⟩⟩; (try first | exact ⟨rfl, _, World.drewN_drewN _ _ _⟩ | exact ⟨rfl, _, Eq.trans (World.drewN_drewN _ _ _) (congrArg (World.drewN _) (Nat.add_assoc _ _ _))⟩)))
   repeat (go_quiet (first | (go_at_call 47; (with_reducible refine (laws_sameInts.calls k _ _ av _ _ an true _ ?side1 ?side2 ?side3 ?side4 eS.out).mono ?_); (case side1 => exact sC (Kd.C_below d1.out HB.out)); (case side2 => exact ec.out); (case side3 => exact sC (Kd.C_below b6.out HB.out)); (case side4 => exact ck.out); rintro e w' ⟨rfl, ⟨nd, rfl⟩⟩; (try first | exact ⟨rfl, _, World.drewN_drewN _ _ _⟩ | exact ⟨rfl, _, Eq.trans (World.drewN_drewN _ _ _) (congrArg (World.drewN _) (Nat.add_assoc _ _ _))⟩))); try go_wp2_with (first | (go_at_call 47; (with_reducible refine (laws_sameInts.calls k _ _ av _ _ an true _ ?side1 ?side2 ?side3 ?side4 eS.out).mono ?_); (case side1 => exact sC (Kd.C_below d1.out HB.out)); (case side2 => exact ec.out); (case side3 => exact sC (Kd.C_below b6.out HB.out)); (case side4 => exact ck.out); rintro e w' ⟨rfl, ⟨nd, rfl⟩⟩; (try first | exact ⟨rfl, _, World.drewN_drewN _ _ _⟩ | exact ⟨rfl, _, Eq.trans (World.drewN_drewN _ _ _) (congrArg (World.drewN _) (Nat.add_assoc _ _ _))⟩))))
   go_meet
   case rel => exact ⟨_, (true), q121t, H', ⟨q122t⟩, ⟨qbk bq⟩, ⟨qbk bV⟩, ⟨q47t⟩⟩
  rw [if_pos c16] at H
  have qp : (aM == aH) = true := beq_iff_eq.mpr c16
  have zX : (aM != aH) = false := bne_eq_false_iff_eq.mpr c16
  clear c16
  by_cases c17 : aN = aU
  rotate_left
  ·rw [if_neg c17] at H
   have vA : (aN == aU) = false := beq_eq_false_iff_ne.mpr c17
   have L2 : (aN != aU) = true := bne_iff_ne.mpr c17
   have H' := Aside0.mk H
   clear H
   have qO := fM.out
   have qP := fN.out
   have gJ := qc13 bq.out
   have gj := qf13 bq.out
   have W5 := qc13 bV.out
   have W6 := qf13 bV.out
   go_wp2_with (first | (go_at_call 47; (with_reducible refine (laws_sameInts.calls k _ _ av _ _ an true _ ?side1 ?side2 ?side3 ?side4 eS.out).mono ?_); (case side1 => exact sC (Kd.C_below d1.out HB.out)); (case side2 => exact ec.out); (case side3 => exact sC (Kd.C_below b6.out HB.out)); (case side4 => exact ck.out); rintro e w' ⟨rfl, ⟨nd, rfl⟩⟩; (try first | exact ⟨rfl, _, World.drewN_drewN _ _ _⟩ | exact ⟨rfl, _, Eq.trans (World.drewN_drewN _ _ _) (congrArg (World.drewN _) (Nat.add_assoc _ _ _))⟩)))
   repeat (go_quiet (first | (go_at_call 47; (with_reducible refine (laws_sameInts.calls k _ _ av _ _ an true _ ?side1 ?side2 ?side3 ?side4 eS.out).mono ?_); (case side1 => exact sC (Kd.C_below d1.out HB.out)); (case side2 => exact ec.out); (case side3 => exact sC (Kd.C_below b6.out HB.out)); (case side4 => exact ck.out); rintro e w' ⟨rfl, ⟨nd, rfl⟩⟩; (try first | exact ⟨rfl, _, World.drewN_drewN _ _ _⟩ | exact ⟨rfl, _, Eq.trans (World.drewN_drewN _ _ _) (congrArg (World.drewN _) (Nat.add_assoc _ _ _))⟩))); try go_wp2_with (first | (go_at_call 47; (with_reducible refine (laws_sameInts.calls k _ _ av _ _ an true _ ?side1 ?side2 ?side3 ?side4 eS.out).mono ?_); (case side1 => exact sC (Kd.C_below d1.out HB.out)); (case side2 => exact ec.out); (case side3 => exact sC (Kd.C_below b6.out HB.out)); (case side4 => exact ck.out); rintro e w' ⟨rfl, ⟨nd, rfl⟩⟩; (try first | exact ⟨rfl, _, World.drewN_drewN _ _ _⟩ | exact ⟨rfl, _, Eq.trans (World.drewN_drewN _ _ _) (congrArg (World.drewN _) (Nat.add_assoc _ _ _))⟩))))
   go_meet
   case rel => exact ⟨_, (true), q121t, H', ⟨q122t⟩, ⟨qbk bq⟩, ⟨qbk bV⟩, ⟨q47t⟩⟩
  rw [if_pos c17] at H
  have vA : (aN == aU) = true := beq_iff_eq.mpr c17
  have L2 : (aN != aU) = false := bne_eq_false_iff_eq.mpr c17
  clear c17
  by_cases c18 : (au.length : Int) = (ar.length : Int)
  ·rw [if_pos c18] at H
   have zY : ((au.length : Int) == (ar.length : Int)) = true := beq_iff_eq.mpr c18
   have zZ : ((au.length : Int) != (ar.length : Int)) = false := bne_eq_false_iff_eq.mpr c18
   have z1 : (au.length == ar.length) = true := by first | simpa using c18 | (simp at c18 ⊢; omega)
   clear c18
   obtain ⟨n1, z2, H⟩ := bnd H
   try dsimp only at H
   have H' := Aside0.mk H
   clear H
   have sd := fM.out
   have se := fN.out
   have k0 := qc13 bq.out
   have ij := qf13 bq.out
   have qI := qc13 bV.out
   have qJ := qf13 bV.out
   go_wp2_with (first | (go_at_call 47; (with_reducible refine (laws_sameInts.calls k _ _ av _ _ an true _ ?side1 ?side2 ?side3 ?side4 eS.out).mono ?_); (case side1 => exact sC (Kd.C_below d1.out HB.out)); (case side2 => exact ec.out); (case side3 => exact sC (Kd.C_below b6.out HB.out)); (case side4 => exact ck.out); rintro e w' ⟨rfl, ⟨nd, rfl⟩⟩; (try first | exact ⟨rfl, _, World.drewN_drewN _ _ _⟩ | exact ⟨rfl, _, Eq.trans (World.drewN_drewN _ _ _) (congrArg (World.drewN _) (Nat.add_assoc _ _ _))⟩)) | (go_at_call 47; (with_reducible refine (laws_sameInts.calls k _ _ ax _ _ aC n1 _ ?side1 ?side2 ?side3 ?side4 z2.out).mono ?_); (case side1 => repeat (first | exact (Kd.C_below jB.out q47t) | (with_reducible refine Kd.C_alloc ?_ _) | (with_reducible refine Kd.C_drewN ?_ _) | (with_reducible refine Kd.C_drew ?_))); (case side2 => exact ko.out); (case side3 => repeat (first | exact (Kd.C_below ga.out q47t) | (with_reducible refine Kd.C_alloc ?_ _) | (with_reducible refine Kd.C_drewN ?_ _) | (with_reducible refine Kd.C_drew ?_))); (case side4 => exact hD.out); rintro e w' ⟨rfl, ⟨nd, rfl⟩⟩; (try first | exact ⟨rfl, _, World.drewN_drewN _ _ _⟩ | exact ⟨rfl, _, Eq.trans (World.drewN_drewN _ _ _) (congrArg (World.drewN _) (Nat.add_assoc _ _ _))⟩)))
   repeat (go_quiet (first | (go_at_call 47; (with_reducible refine (laws_sameInts.calls k _ _ av _ _ an true _ ?side1 ?side2 ?side3 ?side4 eS.out).mono ?_); (case side1 => exact sC (Kd.C_below d1.out HB.out)); (case side2 => exact ec.out); (case side3 => exact sC (Kd.C_below b6.out HB.out)); (case side4 => exact ck.out); rintro e w' ⟨rfl, ⟨nd, rfl⟩⟩; (try first | exact ⟨rfl, _, World.drewN_drewN _ _ _⟩ | exact ⟨rfl, _, Eq.trans (World.drewN_drewN _ _ _) (congrArg (World.drewN _) (Nat.add_assoc _ _ _))⟩)) | (go_at_call 47; (with_reducible refine (laws_sameInts.calls k _ _ ax _ _ aC n1 _ ?side1 ?side2 ?side3 ?side4 z2.out).mono ?_); (case side1 => repeat (first | exact (Kd.C_below jB.out q47t) | (with_reducible refine Kd.C_alloc ?_ _) | (with_reducible refine Kd.C_drewN ?_ _) | (with_reducible refine Kd.C_drew ?_))); (case side2 => exact ko.out); (case side3 => repeat (first | exact (Kd.C_below ga.out q47t) | (with_reducible refine Kd.C_alloc ?_ _) | (with_reducible refine Kd.C_drewN ?_ _) | (with_reducible refine Kd.C_drew ?_))); (case side4 => exact hD.out); rintro e w' ⟨rfl, ⟨nd, rfl⟩⟩; (try first | exact ⟨rfl, _, World.drewN_drewN _ _ _⟩ | exact ⟨rfl, _, Eq.trans (World.drewN_drewN _ _ _) (congrArg (World.drewN _) (Nat.add_assoc _ _ _))⟩))); try go_wp2_with (first | (go_at_call 47; (with_reducible refine (laws_sameInts.calls k _ _ av _ _ an true _ ?side1 ?side2 ?side3 ?side4 eS.out).mono ?_); (case side1 => exact sC (Kd.C_below d1.out HB.out)); (case side2 => exact ec.out); (case side3 => exact sC (Kd.C_below b6.out HB.out)); (case side4 => exact ck.out); rintro e w' ⟨rfl, ⟨nd, rfl⟩⟩; (try first | exact ⟨rfl, _, World.drewN_drewN _ _ _⟩ | exact ⟨rfl, _, Eq.trans (World.drewN_drewN _ _ _) (congrArg (World.drewN _) (Nat.add_assoc _ _ _))⟩)) | (go_at_call 47; (with_reducible refine (laws_sameInts.calls k _ _ ax _ _ aC n1 _ ?side1 ?side2 ?side3 ?side4 z2.out).mono ?_); (case side1 => repeat (first | exact (Kd.C_below jB.out q47t) | (with_reducible refine Kd.C_alloc ?_ _) | (with_reducible refine Kd.C_drewN ?_ _) | (with_reducible refine Kd.C_drew ?_))); (case side2 => exact ko.out); (case side3 => repeat (first | exact (Kd.C_below ga.out q47t) | (with_reducible refine Kd.C_alloc ?_ _) | (with_reducible refine Kd.C_drewN ?_ _) | (with_reducible refine Kd.C_drew ?_))); (case side4 => exact hD.out); rintro e w' ⟨rfl, ⟨nd, rfl⟩⟩; (try first | exact ⟨rfl, _, World.drewN_drewN _ _ _⟩ | exact ⟨rfl, _, Eq.trans (World.drewN_drewN _ _ _) (congrArg (World.drewN _) (Nat.add_assoc _ _ _))⟩))))
   go_meet
   case rel => exact ⟨_, (!n1), q121t, H', ⟨q122t⟩, ⟨qbk bq⟩, ⟨qbk bV⟩, ⟨q47t⟩⟩
  rw [if_neg c18] at H
  have zY : ((au.length : Int) == (ar.length : Int)) = false := beq_eq_false_iff_ne.mpr c18
  have zZ : ((au.length : Int) != (ar.length : Int)) = true := bne_iff_ne.mpr c18
  have z1 : (au.length == ar.length) = false := by first | simpa using c18 | (simp at c18 ⊢; omega)
  have H' := Aside0.mk H
  clear H
  have Dz := fM.out
  have DA := fN.out
  have uz := qc13 bq.out
  have uA := qf13 bq.out
  have lV := qc13 bV.out
  have lW := qf13 bV.out
  go_wp2_with (first | (go_at_call 47; (with_reducible refine (laws_sameInts.calls k _ _ av _ _ an true _ ?side1 ?side2 ?side3 ?side4 eS.out).mono ?_); (case side1 => exact sC (Kd.C_below d1.out HB.out)); (case side2 => exact ec.out); (case side3 => exact sC (Kd.C_below b6.out HB.out)); (case side4 => exact ck.out); rintro e w' ⟨rfl, ⟨nd, rfl⟩⟩; (try first | exact ⟨rfl, _, World.drewN_drewN _ _ _⟩ | exact ⟨rfl, _, Eq.trans (World.drewN_drewN _ _ _) (congrArg (World.drewN _) (Nat.add_assoc _ _ _))⟩)))
  repeat (go_quiet (first | (go_at_call 47; (with_reducible refine (laws_sameInts.calls k _ _ av _ _ an true _ ?side1 ?side2 ?side3 ?side4 eS.out).mono ?_); (case side1 => exact sC (Kd.C_below d1.out HB.out)); (case side2 => exact ec.out); (case side3 => exact sC (Kd.C_below b6.out HB.out)); (case side4 => exact ck.out); rintro e w' ⟨rfl, ⟨nd, rfl⟩⟩; (try first | exact ⟨rfl, _, World.drewN_drewN _ _ _⟩ | exact ⟨rfl, _, Eq.trans (World.drewN_drewN _ _ _) (congrArg (World.drewN _) (Nat.add_assoc _ _ _))⟩))); try go_wp2_with (first | (go_at_call 47; (with_reducible refine (laws_sameInts.calls k _ _ av _ _ an true _ ?side1 ?side2 ?side3 ?side4 eS.out).mono ?_); (case side1 => exact sC (Kd.C_below d1.out HB.out)); (case side2 => exact ec.out); (case side3 => exact sC (Kd.C_below b6.out HB.out)); (case side4 => exact ck.out); rintro e w' ⟨rfl, ⟨nd, rfl⟩⟩; (try first | exact ⟨rfl, _, World.drewN_drewN _ _ _⟩ | exact ⟨rfl, _, Eq.trans (World.drewN_drewN _ _ _) (congrArg (World.drewN _) (Nat.add_assoc _ _ _))⟩))))
  go_meet
  case rel => exact ⟨_, (true), q121t, H', ⟨q122t⟩, ⟨qbk bq⟩, ⟨qbk bV⟩, ⟨q47t⟩⟩
 case rest =>
  clear eK
  try clear c1
  try clear p2
  try clear c3
  try clear c4
  try clear c5
  try clear c6
  try clear d9
  try clear gg
  try clear c7
  try clear eM
  try clear jJ
  try clear c8
  try clear gu
  try clear mC
  try clear c9
  try clear mD
  try clear pi
  try clear c10
  try clear eN
  try clear jK
  try clear c11
  try clear kB
  try clear oA
  try clear c12
  try clear kU
  try clear pX
  try clear c13
  try clear k7
  try clear pk
  try clear c15
  try clear c32
  try clear c35
  try clear c38
  try clear c41
  try clear c44
  try clear c47
  try clear c50
  try clear c53
  try clear c56
  try clear qi
  try clear mi
  try clear kI
  try clear sD
  try clear lX
  try clear Fr
  try clear rT
  try clear kK
  try clear y9
  try clear vu
  try clear nV
  try clear zb
  try clear pd
  try clear qn
  try clear k6
  try clear pe
  try clear nw
  try clear qm
  try clear vw
  try clear qj
  try clear kY
  try clear kJ
  try clear sE
  try clear lY
  try clear Fs
  try clear rU
  try clear kL
  try clear za
  try clear vv
  try clear mB
  try clear zc
  try clear nK
  try clear pj
  try clear kt
  try clear nL
  try clear nx
  try clear ph
  try clear vx
  obtain ⟨kq, vE, rfl, HA, gD, bq, bV, HB⟩ := hcut
  cases kq with
  | zero => exact absurd HA.out (by simp [laws_sameNode.j0])
  | succ kj2 =>
   have H := HA.out
   clear HA
   simp only [laws_sameNode.j0] at H
   by_cases c59 : vE = true
   ·subst c59
    rw [if_pos rfl] at H
    obtain rfl := Option.some.inj H
    go_wp2
    repeat (go_quiet (fail); try go_wp2)
    go_ret
    exact ⟨q114t, q47t⟩
   replace c59 := Bool.eq_false_iff.mpr c59
   subst c59
   rw [if_neg (show ¬ (false = true) by decide)] at H
   have H' := Aside0.mk H
   clear H
   go_wp2
   repeat (go_quiet (fail); try go_wp2)
   go_loopg [5] kj2 (fun kq v5 w' => ∃ (cq : Int), v5 = .int .i64 cq ∧ Aside0 (laws_sameNode.l0 kq cq aa ab ac af ag ae aJ aK av aM aN au ax aj ai ak ap aq ao aQ aT an aH aU ar aC = some r) ∧ Aside0 (kq ≤ kj2) ∧ Aside0 (w'.heap[gz]? = some (.cells #[aa, ab, ac, af, ag, ae, aJ, aK, (.slice A0_8 av.length c0_8), aM, aN, (.slice A0_11 au.length c0_11), (.slice A0_12 ax.length c0_12)] 29 (0, 0))) ∧ Aside0 (w'.heap[gA]? = some (.cells #[aj, ai, ak, ap, aq, ao, aQ, aT, (.slice A1_8 an.length c1_8), aH, aU, (.slice A1_11 ar.length c1_11), (.slice A1_12 aC.length c1_12)] 29 (0, 0))) ∧ Aside0 (Below w.heap.size w w'))
   case atStart => exact ⟨(0), q121t, H', ⟨Nat.le_refl _⟩, ⟨qbk bq⟩, ⟨qbk bV⟩, ⟨q47t⟩⟩
   case round =>
    clear H'
    try clear c1
    try clear p2
    try clear p2
    try clear c3
    try clear c4
    try clear c5
    try clear c6
    try clear d9
    try clear gg
    try clear c7
    try clear eM
    try clear jJ
    try clear c8
    try clear gu
    try clear mC
    try clear c9
    try clear mD
    try clear pi
    try clear c10
    try clear eN
    try clear jK
    try clear c11
    try clear kB
    try clear oA
    try clear c12
    try clear kU
    try clear pX
    try clear c13
    try clear k7
    try clear pk
    try clear c15
    try clear c32
    try clear c35
    try clear c38
    try clear c41
    try clear c44
    try clear c47
    try clear c50
    try clear c53
    try clear c56
    try clear c59
    try clear qi
    try clear mi
    try clear kI
    try clear sD
    try clear lX
    try clear Fr
    try clear rT
    try clear kK
    try clear y9
    try clear vu
    try clear nV
    try clear zb
    try clear pd
    try clear qn
    try clear k6
    try clear pe
    try clear nw
    try clear qm
    try clear vw
    try clear qj
    try clear kY
    try clear kJ
    try clear sE
    try clear lY
    try clear Fs
    try clear rU
    try clear kL
    try clear za
    try clear vv
    try clear mB
    try clear zc
    try clear nK
    try clear pj
    try clear kt
    try clear nL
    try clear nx
    try clear ph
    try clear vx
    obtain ⟨cq, rfl, HA, HK2, bq, bV, HB⟩ := hrel
    cases gk with
    | zero => exact absurd HA.out (by simp [laws_sameNode.l0])
    | succ k2 =>
     have H := HA.out
     clear HA
     simp only [laws_sameNode.l0] at H
     by_cases c60 : cq < (au.length : Int)
     rotate_left
     ·rw [if_neg c60] at H
      have L3 : decide (cq < (au.length : Int)) = false := decide_eq_false c60
      clear c60
      obtain rfl := Option.some.inj H
      have BJ := fM.out
      have BL := fN.out
      have rc := qc13 bq.out
      have re := qf13 bq.out
      go_wp2
      repeat (go_quiet (fail); try go_wp2)
      go_ret
      exact ⟨q114t, q47t⟩
     rw [if_pos c60] at H
     have L3 : decide (cq < (au.length : Int)) = true := decide_eq_true c60
     clear c60
     by_cases c61 : 0 ≤ cq
     rotate_left
     ·rw [if_neg c61] at H
      exact absurd H q126t
     rw [if_pos c61] at H
     have W7 : decide (0 ≤ cq) = true := decide_eq_true c61
     clear c61
     by_cases c62 : cq < (ar.length : Int)
     rotate_left
     ·rw [if_neg c62] at H
      exact absurd H q126t
     rw [if_pos c62] at H
     have qz : decide (cq < (ar.length : Int)) = true := decide_eq_true c62
     clear c62
     by_cases c63 : (!(((rd_T33 au cq).f0) == ((rd_T33 ar cq).f0)) || (!(((rd_T33 au cq).f1) == ((rd_T33 ar cq).f1)) || (!(((rd_T33 au cq).f2) == ((rd_T33 ar cq).f2))))) = true
     ·rw [if_pos c63] at H
      have L4 : (!(((rd_T33 au cq).f0) == ((rd_T33 ar cq).f0)) || (!(((rd_T33 au cq).f1) == ((rd_T33 ar cq).f1)) || (!(((rd_T33 au cq).f2) == ((rd_T33 ar cq).f2))))) = true := c63
      clear c63
      obtain rfl := Option.some.inj H
      have Ck := fM.out
      have Cl := fN.out
      have xl := qc13 bq.out
      have xm := qf13 bq.out
      have p678 : 0 ≤ (cq : Int) := of_decide_eq_true q118t
      have q678 : cq < (au.length : Int) := of_decide_eq_true q118t
      obtain ⟨L5, e678, tg, th, ti⟩ := at_T33 jA.out cq p678 q678
      cases e678
      replace tg := hbt HB tg
      replace th := hbt HB th
      replace ti := hbt HB ti
      replace p678 := eq_true p678
      replace q678 := eq_true q678
      have vm := qc13 bV.out
      have sA := qf13 bV.out
      have p679 : 0 ≤ (cq : Int) := of_decide_eq_true q118t
      have q679 : cq < (ar.length : Int) := of_decide_eq_true q118t
      obtain ⟨L6, e679, tj, tk, tm⟩ := at_T33 gv.out cq p679 q679
      cases e679
      replace tj := hbt HB tj
      replace tk := hbt HB tk
      replace tm := hbt HB tm
      replace p679 := eq_true p679
      replace q679 := eq_true q679
      go_wp2
      repeat (go_quiet (fail); try go_wp2)
      go_ret
      exact ⟨q114t, q47t⟩
     rw [if_neg c63] at H
     have L4 : (!(((rd_T33 au cq).f0) == ((rd_T33 ar cq).f0)) || (!(((rd_T33 au cq).f1) == ((rd_T33 ar cq).f1)) || (!(((rd_T33 au cq).f2) == ((rd_T33 ar cq).f2))))) = false := by simpa using c63
     clear c63
     have H' := Aside0.mk H
     clear H
     have wG := fM.out
     have wH := fN.out
     have xO := qc13 bq.out
     have xP := qf13 bq.out
     have p678 : 0 ≤ (cq : Int) := of_decide_eq_true q118t
     have q678 : cq < (au.length : Int) := of_decide_eq_true q118t
     obtain ⟨L5, e678, tg, th, ti⟩ := at_T33 jA.out cq p678 q678
     cases e678
     replace tg := hbt HB tg
     replace th := hbt HB th
     replace ti := hbt HB ti
     replace p678 := eq_true p678
     replace q678 := eq_true q678
     have s5 := qc13 bV.out
     have qu := qf13 bV.out
     have p679 : 0 ≤ (cq : Int) := of_decide_eq_true q118t
     have q679 : cq < (ar.length : Int) := of_decide_eq_true q118t
     obtain ⟨L6, e679, tj, tk, tm⟩ := at_T33 gv.out cq p679 q679
     cases e679
     replace tj := hbt HB tj
     replace tk := hbt HB tk
     replace tm := hbt HB tm
     replace p679 := eq_true p679
     replace q679 := eq_true q679
     go_wp2
     repeat (go_quiet (fail); try go_wp2)
     go_roundg k2
     case measure => have := gD.out; have := HK2.out; omega
     case rel => exact ⟨(wrap64 (cq + 1)), q121t, H', ⟨(by have := gD.out; have := HK2.out; omega)⟩, ⟨qbk bq⟩, ⟨qbk bV⟩, ⟨q47t⟩⟩

end Go.Proofs.YtofpmdgndegalacDoor.QFnNodes
