/- What the functions that the law FnTables reaches compute, as plain functions, and that the code computes just that (by a program of this session's; the library's functions by hand). No condition. -/
import Derived.Test.YtofpmdgndegalabQFnTablesx0
import Derived.Test.YtofpmdgndegalabQFnTablesx3
import Derived.Test.YtofpmdgndegalabQFnTablesx6
import Derived.Test.YtofpmdgndegalabQFnTablesx7
import Derived.Test.YtofpmdgndegalabQFnTablesx9
namespace Go.Proofs.Ytofpmdgndegalab.QFnTables
open Go.RowKit Go.Proofs.YtofpmdgndegalabW.PrintWords Go.Proofs.YtofpmdgndegalabW.PrintLast Go.Proofs.YtofpmdgndegalabW.PrintMore
attribute [local go_sem] max2_int min2_int max_two min_two max_three min_three max_four min_four   -- for this text's walks alone
set_option linter.unusedVariables false
set_option linter.unusedSimpArgs false

/-! ### laws_sameTable: function 12 -/
def laws_sameTable.l0 : Nat → List (S48) → List (S48) → Int → Option (Bool)
 | 0, _, _, _ => none
 | k + 1, x0, x1, x5 => if x5 < (x0.length : Int) then (if 0 ≤ x5 then (if x5 < (x1.length : Int) then ((laws_sameNode.f k ((rd_T48 x0 x5).f0) ((rd_T48 x0 x5).f1) ((rd_T48 x0 x5).f2) ((rd_T48 x0 x5).f3) ((rd_T48 x0 x5).f4) ((rd_T48 x0 x5).f5) ((rd_T48 x0 x5).f6) ((rd_T48 x0 x5).f7) ((rd_T48 x0 x5).f8) ((rd_T48 x0 x5).f9) ((rd_T48 x0 x5).f10) ((rd_T48 x0 x5).f11) ((rd_T48 x0 x5).f12) ((rd_T48 x1 x5).f0) ((rd_T48 x1 x5).f1) ((rd_T48 x1 x5).f2) ((rd_T48 x1 x5).f3) ((rd_T48 x1 x5).f4) ((rd_T48 x1 x5).f5) ((rd_T48 x1 x5).f6) ((rd_T48 x1 x5).f7) ((rd_T48 x1 x5).f8) ((rd_T48 x1 x5).f9) ((rd_T48 x1 x5).f10) ((rd_T48 x1 x5).f11) ((rd_T48 x1 x5).f12)).bind fun t557 => (if t557 = true then (laws_sameTable.l0 k x0 x1 (wrap64 (x5 + 1))) else (some false))) else (none)) else (none)) else (some true)
def laws_sameTable.f (k : Nat) (l0 : List (S48)) (l1 : List (S48)) : Option (Bool) := if (l0.length : Int) = (l1.length : Int) then (laws_sameTable.l0 k l0 l1 0) else (some false)
theorem laws_sameTable.mono_l : ∀ k, (∀ y0 y1 y2, LeO (laws_sameTable.l0 k y0 y1 y2) (laws_sameTable.l0 (k + 1) y0 y1 y2))
 | 0 => fun _ _ _ r h => by simp [laws_sameTable.l0] at h
 | k + 1 => by
  have ih0 := laws_sameTable.mono_l k
  ·intro y0 y1 y2
   unfold laws_sameTable.l0
   repeat' first
   | (with_reducible exact ih0 _ _ _)
   | (with_reducible exact laws_sameNode.mono _ _ _ _ _ _ _ _ _ _ _ _ _ _ _ _ _ _ _ _ _ _ _ _ _ _ _)
   | (with_reducible exact LeO.refl _)
   | (with_reducible exact LeO.none _)
   | (with_reducible refine LeO.ite ?_ ?_)
   | (with_reducible refine LeO.bind ?_ (fun _ => ?_))
   | exact ih0 _ _ _
   | exact laws_sameNode.mono _ _ _ _ _ _ _ _ _ _ _ _ _ _ _ _ _ _ _ _ _ _ _ _ _ _ _
   | exact LeO.none _
   | refine LeO.ite ?_ ?_
   | refine LeO.bind ?_ (fun _ => ?_)
theorem laws_sameTable.mono : ∀ a0 a1 k, LeO (laws_sameTable.f k a0 a1) (laws_sameTable.f (k + 1) a0 a1) := by
 intro a0 a1 k
 have ih0 := laws_sameTable.mono_l k
 unfold laws_sameTable.f
 repeat' first
   | (with_reducible exact ih0 _ _ _)
   | (with_reducible exact laws_sameNode.mono _ _ _ _ _ _ _ _ _ _ _ _ _ _ _ _ _ _ _ _ _ _ _ _ _ _ _)
   | (with_reducible exact LeO.refl _)
   | (with_reducible exact LeO.none _)
   | (with_reducible refine LeO.ite ?_ ?_)
   | (with_reducible refine LeO.bind ?_ (fun _ => ?_))
   | exact ih0 _ _ _
   | exact laws_sameNode.mono _ _ _ _ _ _ _ _ _ _ _ _ _ _ _ _ _ _ _ _ _ _ _ _ _ _ _
   | exact LeO.none _
   | refine LeO.ite ?_ ?_
   | refine LeO.bind ?_ (fun _ => ?_)
def laws_sameTable.T6 : Bool × List (List Nat × List Nat) := (true, [([], []), ([], []), ([0, 1], [0, 1]), ([2], [2]), ([], []), ([], []), ([4, 5], [4, 5]), ([6], [6]), ([3, 7], [3, 7]), ([8], [8])])
def laws_sameTable.B6 : List Nat := [0, 0, 3, 7, 0, 0, 48, 112, 255, 511]
theorem laws_sameTable.tab6 : rtab .any (opsOf Try.f12 6) = laws_sameTable.T6 := by kernel_rfl
theorem laws_sameTable.bits6 : waitsOk laws_sameTable.T6.2 laws_sameTable.B6 = true := by kernel_rfl
set_option maxHeartbeats 8000000 in
set_option maxRecDepth 100000 in
theorem laws_sameTable.calls (k : Nat) (A0 : Option Addr) (c0 : Nat) (l0 : List (S48)) (A1 : Option Addr) (c1 : Nat) (l1 : List (S48)) (r : Bool) (w : World) (hr0 : Kd.C k48 w A0 l0.length l0) (hc0 : l0.length ≤ c0) (hr1 : Kd.C k48 w A1 l1.length l1) (hc1 : l1.length ≤ c1) (h : laws_sameTable.f k l0 l1 = some r) :
  Calls Try.prog 12 #[.slice A0 l0.length c0, .slice A1 l1.length c1] w fun e w' => e = .returned (.bool r) ∧ Below w.heap.size w w' := by
 have hu48 := Try.underlying48
 have HR0 := Aside0.mk hr0
 have HC0 := Aside0.mk hc0
 clear hr0 hc0
 have HR1 := Aside0.mk hr1
 have HC1 := Aside0.mk hc1
 clear hr1 hc1
 have HB := Aside0.mk (Below.refl w.heap.size w)
 have H : (if (l0.length : Int) = (l1.length : Int) then (laws_sameTable.l0 k l0 l1 0) else (some false)) = some r := h
 clear h
 by_cases c3 : (l0.length : Int) = (l1.length : Int)
 rotate_left
 ·rw [if_neg c3] at H
  have c3b0 : ((l0.length : Int) == (l1.length : Int)) = false := beq_eq_false_iff_ne.mpr c3
  have c3b1 : ((l0.length : Int) != (l1.length : Int)) = true := bne_iff_ne.mpr c3
  have c3b2 : (l0.length == l1.length) = false := by first | simpa using c3 | (simp at c3 ⊢; omega)
  obtain rfl := Option.some.inj H
  go_enter Try.func12, Try.ntmps12
  go_wp2
  go_ret
  exact ⟨q73t, q53t⟩
 rw [if_pos c3] at H
 have c3b0 : ((l0.length : Int) == (l1.length : Int)) = true := beq_iff_eq.mpr c3
 have c3b1 : ((l0.length : Int) != (l1.length : Int)) = false := bne_eq_false_iff_eq.mpr c3
 have c3b2 : (l0.length == l1.length) = true := by first | simpa using c3 | (simp at c3 ⊢; omega)
 clear c3
 have H' := Aside0.mk H
 clear H
 go_enter Try.func12, Try.ntmps12
 go_wp2
 go_loopg [5] k (fun kq v5 w' => ∃ (x5_1 : Int), v5 = .int .i64 x5_1 ∧ Aside0 (laws_sameTable.l0 kq l0 l1 x5_1 = some r) ∧ Aside0 (kq ≤ k) ∧ Aside0 (Below w.heap.size w w'))
 case atStart => exact ⟨(0), q81t, H', ⟨Nat.le_refl _⟩, ⟨q53t⟩⟩
 case round =>
  clear H'
  try clear c1
  try clear p2
  try clear c3
  try clear c3b0
  try clear c3b1
  try clear c3b2
  obtain ⟨x5_1, rfl, HA, HK1, HB⟩ := hrel
  cases gk with
  | zero => exact absurd HA.out (by simp [laws_sameTable.l0])
  | succ k1 =>
   have H := HA.out
   clear HA
   simp only [laws_sameTable.l0] at H
   by_cases c4 : x5_1 < (l0.length : Int)
   rotate_left
   ·rw [if_neg c4] at H
    have c4b0 : decide (x5_1 < (l0.length : Int)) = false := decide_eq_false c4
    clear c4
    obtain rfl := Option.some.inj H
    go_wp2
    go_ret
    exact ⟨q73t, q53t⟩
   rw [if_pos c4] at H
   have c4b0 : decide (x5_1 < (l0.length : Int)) = true := decide_eq_true c4
   clear c4
   by_cases c5 : 0 ≤ x5_1
   rotate_left
   ·rw [if_neg c5] at H
    exact absurd H q87t
   rw [if_pos c5] at H
   have c5b0 : decide (0 ≤ x5_1) = true := decide_eq_true c5
   clear c5
   by_cases c6 : x5_1 < (l1.length : Int)
   rotate_left
   ·rw [if_neg c6] at H
    exact absurd H q87t
   rw [if_pos c6] at H
   have c6b0 : decide (x5_1 < (l1.length : Int)) = true := decide_eq_true c6
   clear c6
   replace H := Option.bind_eq_some_iff.mp H
   obtain ⟨t557, A70, H⟩ := H
   try dsimp only at H
   have A7 := Aside0.mk A70
   clear A70
   by_cases c8 : t557 = true
   ·subst c8
    rw [if_pos rfl] at H
    have H' := Aside0.mk H
    clear H
    try go_wp2
    replace HB := Aside0.mk (below_drew1 HB.out)
    have p555 : 0 ≤ (x5_1 : Int) := of_decide_eq_true q76t
    have q555 : x5_1 < (l0.length : Int) := of_decide_eq_true q76t
    obtain ⟨ad555, A555_8, c555_8, A555_11, c555_11, A555_12, c555_12, e555, hx555_0, hx555_1, hx555_2, hx555_3, hx555_4, hx555_5, hx555_6, hx555_7, hx555_8, hx555_9, hx555_10, hx555_11, hx555_12, hl555_8, hi555_8, hl555_11, hi555_11, hl555_12, hi555_12⟩ := at_T48 HR0.out x5_1 p555 q555
    have hw555_12 := hx555_12
    have hw555_11 := hx555_11
    have hw555_10 := hx555_10
    have hw555_9 := hx555_9
    have hw555_8 := hx555_8
    have hw555_7 := hx555_7
    have hw555_6 := hx555_6
    have hw555_5 := hx555_5
    have hw555_4 := hx555_4
    have hw555_3 := hx555_3
    have hw555_2 := hx555_2
    have hw555_1 := hx555_1
    have hw555_0 := hx555_0
    cases e555
    replace hx555_0 := hbt HB hx555_0
    replace hx555_1 := hbt HB hx555_1
    replace hx555_2 := hbt HB hx555_2
    replace hx555_3 := hbt HB hx555_3
    replace hx555_4 := hbt HB hx555_4
    replace hx555_5 := hbt HB hx555_5
    replace hx555_6 := hbt HB hx555_6
    replace hx555_7 := hbt HB hx555_7
    replace hx555_8 := hbt HB hx555_8
    replace hx555_9 := hbt HB hx555_9
    replace hx555_10 := hbt HB hx555_10
    replace hx555_11 := hbt HB hx555_11
    replace hx555_12 := hbt HB hx555_12
    have HR555_8 := Aside0.mk hi555_8
    have HC555_8 := Aside0.mk hl555_8
    clear hi555_8 hl555_8
    have HR555_11 := Aside0.mk hi555_11
    have HC555_11 := Aside0.mk hl555_11
    clear hi555_11 hl555_11
    have HR555_12 := Aside0.mk hi555_12
    have HC555_12 := Aside0.mk hl555_12
    clear hi555_12 hl555_12
    replace p555 := eq_true p555
    replace q555 := eq_true q555
    have p556 : 0 ≤ (x5_1 : Int) := of_decide_eq_true q76t
    have q556 : x5_1 < (l1.length : Int) := of_decide_eq_true q76t
    obtain ⟨ad556, A556_8, c556_8, A556_11, c556_11, A556_12, c556_12, e556, hx556_0, hx556_1, hx556_2, hx556_3, hx556_4, hx556_5, hx556_6, hx556_7, hx556_8, hx556_9, hx556_10, hx556_11, hx556_12, hl556_8, hi556_8, hl556_11, hi556_11, hl556_12, hi556_12⟩ := at_T48 HR1.out x5_1 p556 q556
    have hw556_12 := hx556_12
    have hw556_11 := hx556_11
    have hw556_10 := hx556_10
    have hw556_9 := hx556_9
    have hw556_8 := hx556_8
    have hw556_7 := hx556_7
    have hw556_6 := hx556_6
    have hw556_5 := hx556_5
    have hw556_4 := hx556_4
    have hw556_3 := hx556_3
    have hw556_2 := hx556_2
    have hw556_1 := hx556_1
    have hw556_0 := hx556_0
    cases e556
    replace hx556_0 := hbt HB hx556_0
    replace hx556_1 := hbt HB hx556_1
    replace hx556_2 := hbt HB hx556_2
    replace hx556_3 := hbt HB hx556_3
    replace hx556_4 := hbt HB hx556_4
    replace hx556_5 := hbt HB hx556_5
    replace hx556_6 := hbt HB hx556_6
    replace hx556_7 := hbt HB hx556_7
    replace hx556_8 := hbt HB hx556_8
    replace hx556_9 := hbt HB hx556_9
    replace hx556_10 := hbt HB hx556_10
    replace hx556_11 := hbt HB hx556_11
    replace hx556_12 := hbt HB hx556_12
    have HR556_8 := Aside0.mk hi556_8
    have HC556_8 := Aside0.mk hl556_8
    clear hi556_8 hl556_8
    have HR556_11 := Aside0.mk hi556_11
    have HC556_11 := Aside0.mk hl556_11
    clear hi556_11 hl556_11
    have HR556_12 := Aside0.mk hi556_12
    have HC556_12 := Aside0.mk hl556_12
    clear hi556_12 hl556_12
    replace p556 := eq_true p556
    replace q556 := eq_true q556
    refine start_ (n := 10) (S := fun w' => w'.cell? (ad555.add ((x5_1).toNat * 13)) = some (.int .i64 ((rd_T48 l0 x5_1).f0)) ∧ w'.cell? ⟨(ad555.add ((x5_1).toNat * 13)).block, (ad555.add ((x5_1).toNat * 13)).off + 1, none⟩ = some (.int .i64 ((rd_T48 l0 x5_1).f1)) ∧ w'.cell? ⟨(ad555.add ((x5_1).toNat * 13)).block, (ad555.add ((x5_1).toNat * 13)).off + 2, none⟩ = some (.int .i64 ((rd_T48 l0 x5_1).f2)) ∧ w'.cell? ⟨(ad555.add ((x5_1).toNat * 13)).block, (ad555.add ((x5_1).toNat * 13)).off + 3, none⟩ = some (.int .i64 ((rd_T48 l0 x5_1).f3)) ∧ w'.cell? ⟨(ad555.add ((x5_1).toNat * 13)).block, (ad555.add ((x5_1).toNat * 13)).off + 4, none⟩ = some (.int .i64 ((rd_T48 l0 x5_1).f4)) ∧ w'.cell? ⟨(ad555.add ((x5_1).toNat * 13)).block, (ad555.add ((x5_1).toNat * 13)).off + 5, none⟩ = some (.int .i64 ((rd_T48 l0 x5_1).f5)) ∧ w'.cell? ⟨(ad555.add ((x5_1).toNat * 13)).block, (ad555.add ((x5_1).toNat * 13)).off + 6, none⟩ = some (.int .i64 ((rd_T48 l0 x5_1).f6)) ∧ w'.cell? ⟨(ad555.add ((x5_1).toNat * 13)).block, (ad555.add ((x5_1).toNat * 13)).off + 7, none⟩ = some (.int .i64 ((rd_T48 l0 x5_1).f7)) ∧ w'.cell? ⟨(ad555.add ((x5_1).toNat * 13)).block, (ad555.add ((x5_1).toNat * 13)).off + 8, none⟩ = some (.slice A555_8 ((rd_T48 l0 x5_1).f8).length c555_8) ∧ w'.cell? ⟨(ad555.add ((x5_1).toNat * 13)).block, (ad555.add ((x5_1).toNat * 13)).off + 9, none⟩ = some (.int .i64 ((rd_T48 l0 x5_1).f9)) ∧ w'.cell? ⟨(ad555.add ((x5_1).toNat * 13)).block, (ad555.add ((x5_1).toNat * 13)).off + 10, none⟩ = some (.int .i64 ((rd_T48 l0 x5_1).f10)) ∧ w'.cell? ⟨(ad555.add ((x5_1).toNat * 13)).block, (ad555.add ((x5_1).toNat * 13)).off + 11, none⟩ = some (.slice A555_11 ((rd_T48 l0 x5_1).f11).length c555_11) ∧ w'.cell? ⟨(ad555.add ((x5_1).toNat * 13)).block, (ad555.add ((x5_1).toNat * 13)).off + 12, none⟩ = some (.slice A555_12 ((rd_T48 l0 x5_1).f12).length c555_12) ∧ w'.cell? (ad556.add ((x5_1).toNat * 13)) = some (.int .i64 ((rd_T48 l1 x5_1).f0)) ∧ w'.cell? ⟨(ad556.add ((x5_1).toNat * 13)).block, (ad556.add ((x5_1).toNat * 13)).off + 1, none⟩ = some (.int .i64 ((rd_T48 l1 x5_1).f1)) ∧ w'.cell? ⟨(ad556.add ((x5_1).toNat * 13)).block, (ad556.add ((x5_1).toNat * 13)).off + 2, none⟩ = some (.int .i64 ((rd_T48 l1 x5_1).f2)) ∧ w'.cell? ⟨(ad556.add ((x5_1).toNat * 13)).block, (ad556.add ((x5_1).toNat * 13)).off + 3, none⟩ = some (.int .i64 ((rd_T48 l1 x5_1).f3)) ∧ w'.cell? ⟨(ad556.add ((x5_1).toNat * 13)).block, (ad556.add ((x5_1).toNat * 13)).off + 4, none⟩ = some (.int .i64 ((rd_T48 l1 x5_1).f4)) ∧ w'.cell? ⟨(ad556.add ((x5_1).toNat * 13)).block, (ad556.add ((x5_1).toNat * 13)).off + 5, none⟩ = some (.int .i64 ((rd_T48 l1 x5_1).f5)) ∧ w'.cell? ⟨(ad556.add ((x5_1).toNat * 13)).block, (ad556.add ((x5_1).toNat * 13)).off + 6, none⟩ = some (.int .i64 ((rd_T48 l1 x5_1).f6)) ∧ w'.cell? ⟨(ad556.add ((x5_1).toNat * 13)).block, (ad556.add ((x5_1).toNat * 13)).off + 7, none⟩ = some (.int .i64 ((rd_T48 l1 x5_1).f7)) ∧ w'.cell? ⟨(ad556.add ((x5_1).toNat * 13)).block, (ad556.add ((x5_1).toNat * 13)).off + 8, none⟩ = some (.slice A556_8 ((rd_T48 l1 x5_1).f8).length c556_8) ∧ w'.cell? ⟨(ad556.add ((x5_1).toNat * 13)).block, (ad556.add ((x5_1).toNat * 13)).off + 9, none⟩ = some (.int .i64 ((rd_T48 l1 x5_1).f9)) ∧ w'.cell? ⟨(ad556.add ((x5_1).toNat * 13)).block, (ad556.add ((x5_1).toNat * 13)).off + 10, none⟩ = some (.int .i64 ((rd_T48 l1 x5_1).f10)) ∧ w'.cell? ⟨(ad556.add ((x5_1).toNat * 13)).block, (ad556.add ((x5_1).toNat * 13)).off + 11, none⟩ = some (.slice A556_11 ((rd_T48 l1 x5_1).f11).length c556_11) ∧ w'.cell? ⟨(ad556.add ((x5_1).toNat * 13)).block, (ad556.add ((x5_1).toNat * 13)).off + 12, none⟩ = some (.slice A556_12 ((rd_T48 l1 x5_1).f12).length c556_12)) (ds := []) (bm 10 0) (by kernel_rfl) rfl (by kernel_rfl) ⟨(hbt HB hw555_0), (hbt HB hw555_1), (hbt HB hw555_2), (hbt HB hw555_3), (hbt HB hw555_4), (hbt HB hw555_5), (hbt HB hw555_6), (hbt HB hw555_7), (hbt HB hw555_8), (hbt HB hw555_9), (hbt HB hw555_10), (hbt HB hw555_11), (hbt HB hw555_12), (hbt HB hw556_0), (hbt HB hw556_1), (hbt HB hw556_2), (hbt HB hw556_3), (hbt HB hw556_4), (hbt HB hw556_5), (hbt HB hw556_6), (hbt HB hw556_7), (hbt HB hw556_8), (hbt HB hw556_9), (hbt HB hw556_10), (hbt HB hw556_11), (hbt HB hw556_12)⟩ (fun hHeld => ?_); refine with_tabW laws_sameTable.tab6 laws_sameTable.bits6 (fun HT_ HW_ => ?_)
    generalize wr.drew = w9 at HB HR555_11 HR555_12 HR555_8 HR556_11 HR556_12 HR556_8 hx555_0 hx555_1 hx555_10 hx555_11 hx555_12 hx555_2 hx555_3 hx555_4 hx555_5 hx555_6 hx555_7 hx555_8 hx555_9 hx556_0 hx556_1 hx556_10 hx556_11 hx556_12 hx556_2 hx556_3 hx556_4 hx556_5 hx556_6 hx556_7 hx556_8 hx556_9 hHeld ⊢
    refine pu_ 0 (some 17) (bm 10 1) (any_of HT_.out (by kernel_rfl)) ?_
    refine pu_ 1 (some 18) (bm 10 3) (any_of HT_.out (by kernel_rfl)) ?_
    refine pu_ 2 (some 19) (bm 10 7) (any_of HT_.out (by kernel_rfl)) ?_
    refine pu_ 4 (some 21) (bm 10 23) (any_of HT_.out (by kernel_rfl)) ?_
    refine pu_ 5 (some 22) (bm 10 55) (any_of HT_.out (by kernel_rfl)) ?_
    refine pu_ 6 (some 23) (bm 10 119) (any_of HT_.out (by kernel_rfl)) ?_
    refine tk_ 3 (some 20) (bm 10 127) (take_ofW HT_.out HW_.out (by kernel_rfl)) hHeld ?_
    refine tk_ 7 (some 24) (bm 10 255) (take_ofW HT_.out HW_.out (by kernel_rfl)) hHeld ?_
    refine one_ (i := 8) (N := some 25) (bm 10 511) rfl rfl (one_of HT_.out (by kernel_rfl)) q85t (fun K hK => ?_)
    refine goes_ Try.func34 (by kernel_rfl) rfl #[.agg #[.int .i64 ((rd_T48 l0 x5_1).f0), .int .i64 ((rd_T48 l0 x5_1).f1), .int .i64 ((rd_T48 l0 x5_1).f2), .int .i64 ((rd_T48 l0 x5_1).f3), .int .i64 ((rd_T48 l0 x5_1).f4), .int .i64 ((rd_T48 l0 x5_1).f5), .int .i64 ((rd_T48 l0 x5_1).f6), .int .i64 ((rd_T48 l0 x5_1).f7), .slice A555_8 ((rd_T48 l0 x5_1).f8).length c555_8, .int .i64 ((rd_T48 l0 x5_1).f9), .int .i64 ((rd_T48 l0 x5_1).f10), .slice A555_11 ((rd_T48 l0 x5_1).f11).length c555_11, .slice A555_12 ((rd_T48 l0 x5_1).f12).length c555_12], .agg #[.int .i64 ((rd_T48 l1 x5_1).f0), .int .i64 ((rd_T48 l1 x5_1).f1), .int .i64 ((rd_T48 l1 x5_1).f2), .int .i64 ((rd_T48 l1 x5_1).f3), .int .i64 ((rd_T48 l1 x5_1).f4), .int .i64 ((rd_T48 l1 x5_1).f5), .int .i64 ((rd_T48 l1 x5_1).f6), .int .i64 ((rd_T48 l1 x5_1).f7), .slice A556_8 ((rd_T48 l1 x5_1).f8).length c556_8, .int .i64 ((rd_T48 l1 x5_1).f9), .int .i64 ((rd_T48 l1 x5_1).f10), .slice A556_11 ((rd_T48 l1 x5_1).f11).length c556_11, .slice A556_12 ((rd_T48 l1 x5_1).f12).length c556_12]] (by rfl) rfl rfl q51t ?_
    with_reducible refine (laws_sameNode.calls k1 ((rd_T48 l0 x5_1).f0) ((rd_T48 l0 x5_1).f1) ((rd_T48 l0 x5_1).f2) ((rd_T48 l0 x5_1).f3) ((rd_T48 l0 x5_1).f4) ((rd_T48 l0 x5_1).f5) ((rd_T48 l0 x5_1).f6) ((rd_T48 l0 x5_1).f7) _ _ ((rd_T48 l0 x5_1).f8) ((rd_T48 l0 x5_1).f9) ((rd_T48 l0 x5_1).f10) _ _ ((rd_T48 l0 x5_1).f11) _ _ ((rd_T48 l0 x5_1).f12) ((rd_T48 l1 x5_1).f0) ((rd_T48 l1 x5_1).f1) ((rd_T48 l1 x5_1).f2) ((rd_T48 l1 x5_1).f3) ((rd_T48 l1 x5_1).f4) ((rd_T48 l1 x5_1).f5) ((rd_T48 l1 x5_1).f6) ((rd_T48 l1 x5_1).f7) _ _ ((rd_T48 l1 x5_1).f8) ((rd_T48 l1 x5_1).f9) ((rd_T48 l1 x5_1).f10) _ _ ((rd_T48 l1 x5_1).f11) _ _ ((rd_T48 l1 x5_1).f12) true _ ?side1 ?side2 ?side3 ?side4 ?side5 ?side6 ?side7 ?side8 ?side9 ?side10 ?side11 ?side12 A7.out).mono ?_
    (case side1 => exact sC (Kd.C_below HR555_8.out HB.out))
    (case side2 => exact HC555_8.out)
    (case side3 => exact sC (Kd.C_below HR555_11.out HB.out))
    (case side4 => exact HC555_11.out)
    (case side5 => exact sC (Kd.C_below HR555_12.out HB.out))
    (case side6 => exact HC555_12.out)
    (case side7 => exact sC (Kd.C_below HR556_8.out HB.out))
    (case side8 => exact HC556_8.out)
    (case side9 => exact sC (Kd.C_below HR556_11.out HB.out))
    (case side10 => exact HC556_11.out)
    (case side11 => exact sC (Kd.C_below HR556_12.out HB.out))
    (case side12 => exact HC556_12.out)
    rintro e w10 ⟨rfl, hb⟩
    refine ⟨_, rfl, ?_⟩
    replace HB := Aside0.mk (below_step q53t hb)
    (try clear hb)
    (try clear hb2)
    (try clear hk)
    (try clear hi)
    refine hK.out _ _ (by first | exact ⟨(hbt HB hw555_0), (hbt HB hw555_1), (hbt HB hw555_2), (hbt HB hw555_3), (hbt HB hw555_4), (hbt HB hw555_5), (hbt HB hw555_6), (hbt HB hw555_7), (hbt HB hw555_8), (hbt HB hw555_9), (hbt HB hw555_10), (hbt HB hw555_11), (hbt HB hw555_12), (hbt HB hw556_0), (hbt HB hw556_1), (hbt HB hw556_2), (hbt HB hw556_3), (hbt HB hw556_4), (hbt HB hw556_5), (hbt HB hw556_6), (hbt HB hw556_7), (hbt HB hw556_8), (hbt HB hw556_9), (hbt HB hw556_10), (hbt HB hw556_11), (hbt HB hw556_12)⟩ | exact hHeld) (fun hHeld => ?_)
    clear hK K
    refine norm_ (a' := ?_) ?_ ?_
    rotate_left
    ·show Act.put _ (some 25) _ = _
     simp only [Act.put, List.setIfInBounds_toArray, List.set_cons_zero, List.set_cons_succ, i64_w, i32_w]
     rfl
    refine pu_ 9 (some 26) (bm 10 1023) (any_of HT_.out (by kernel_rfl)) ?_
    refine done_ (done_of HT_.out (by kernel_rfl)) ?_
    try go_wp2
    go_roundg k1
    case measure => have := HK1.out; omega
    case rel => exact ⟨(wrap64 (x5_1 + 1)), q81t, H', ⟨q84t⟩, ⟨q53t⟩⟩
   replace c8 := Bool.eq_false_iff.mpr c8
   subst c8
   rw [if_neg (show ¬ (false = true) by decide)] at H
   obtain rfl := Option.some.inj H
   try go_wp2
   replace HB := Aside0.mk (below_drew1 HB.out)
   have p555 : 0 ≤ (x5_1 : Int) := of_decide_eq_true q76t
   have q555 : x5_1 < (l0.length : Int) := of_decide_eq_true q76t
   obtain ⟨ad555, A555_8, c555_8, A555_11, c555_11, A555_12, c555_12, e555, hx555_0, hx555_1, hx555_2, hx555_3, hx555_4, hx555_5, hx555_6, hx555_7, hx555_8, hx555_9, hx555_10, hx555_11, hx555_12, hl555_8, hi555_8, hl555_11, hi555_11, hl555_12, hi555_12⟩ := at_T48 HR0.out x5_1 p555 q555
   have hw555_12 := hx555_12
   have hw555_11 := hx555_11
   have hw555_10 := hx555_10
   have hw555_9 := hx555_9
   have hw555_8 := hx555_8
   have hw555_7 := hx555_7
   have hw555_6 := hx555_6
   have hw555_5 := hx555_5
   have hw555_4 := hx555_4
   have hw555_3 := hx555_3
   have hw555_2 := hx555_2
   have hw555_1 := hx555_1
   have hw555_0 := hx555_0
   cases e555
   replace hx555_0 := hbt HB hx555_0
   replace hx555_1 := hbt HB hx555_1
   replace hx555_2 := hbt HB hx555_2
   replace hx555_3 := hbt HB hx555_3
   replace hx555_4 := hbt HB hx555_4
   replace hx555_5 := hbt HB hx555_5
   replace hx555_6 := hbt HB hx555_6
   replace hx555_7 := hbt HB hx555_7
   replace hx555_8 := hbt HB hx555_8
   replace hx555_9 := hbt HB hx555_9
   replace hx555_10 := hbt HB hx555_10
   replace hx555_11 := hbt HB hx555_11
   replace hx555_12 := hbt HB hx555_12
   have HR555_8 := Aside0.mk hi555_8
   have HC555_8 := Aside0.mk hl555_8
   clear hi555_8 hl555_8
   have HR555_11 := Aside0.mk hi555_11
   have HC555_11 := Aside0.mk hl555_11
   clear hi555_11 hl555_11
   have HR555_12 := Aside0.mk hi555_12
   have HC555_12 := Aside0.mk hl555_12
   clear hi555_12 hl555_12
   replace p555 := eq_true p555
   replace q555 := eq_true q555
   have p556 : 0 ≤ (x5_1 : Int) := of_decide_eq_true q76t
   have q556 : x5_1 < (l1.length : Int) := of_decide_eq_true q76t
   obtain ⟨ad556, A556_8, c556_8, A556_11, c556_11, A556_12, c556_12, e556, hx556_0, hx556_1, hx556_2, hx556_3, hx556_4, hx556_5, hx556_6, hx556_7, hx556_8, hx556_9, hx556_10, hx556_11, hx556_12, hl556_8, hi556_8, hl556_11, hi556_11, hl556_12, hi556_12⟩ := at_T48 HR1.out x5_1 p556 q556
   have hw556_12 := hx556_12
   have hw556_11 := hx556_11
   have hw556_10 := hx556_10
   have hw556_9 := hx556_9
   have hw556_8 := hx556_8
   have hw556_7 := hx556_7
   have hw556_6 := hx556_6
   have hw556_5 := hx556_5
   have hw556_4 := hx556_4
   have hw556_3 := hx556_3
   have hw556_2 := hx556_2
   have hw556_1 := hx556_1
   have hw556_0 := hx556_0
   cases e556
   replace hx556_0 := hbt HB hx556_0
   replace hx556_1 := hbt HB hx556_1
   replace hx556_2 := hbt HB hx556_2
   replace hx556_3 := hbt HB hx556_3
   replace hx556_4 := hbt HB hx556_4
   replace hx556_5 := hbt HB hx556_5
   replace hx556_6 := hbt HB hx556_6
   replace hx556_7 := hbt HB hx556_7
   replace hx556_8 := hbt HB hx556_8
   replace hx556_9 := hbt HB hx556_9
   replace hx556_10 := hbt HB hx556_10
   replace hx556_11 := hbt HB hx556_11
   replace hx556_12 := hbt HB hx556_12
   have HR556_8 := Aside0.mk hi556_8
   have HC556_8 := Aside0.mk hl556_8
   clear hi556_8 hl556_8
   have HR556_11 := Aside0.mk hi556_11
   have HC556_11 := Aside0.mk hl556_11
   clear hi556_11 hl556_11
   have HR556_12 := Aside0.mk hi556_12
   have HC556_12 := Aside0.mk hl556_12
   clear hi556_12 hl556_12
   replace p556 := eq_true p556
   replace q556 := eq_true q556
   refine start_ (n := 10) (S := fun w' => w'.cell? (ad555.add ((x5_1).toNat * 13)) = some (.int .i64 ((rd_T48 l0 x5_1).f0)) ∧ w'.cell? ⟨(ad555.add ((x5_1).toNat * 13)).block, (ad555.add ((x5_1).toNat * 13)).off + 1, none⟩ = some (.int .i64 ((rd_T48 l0 x5_1).f1)) ∧ w'.cell? ⟨(ad555.add ((x5_1).toNat * 13)).block, (ad555.add ((x5_1).toNat * 13)).off + 2, none⟩ = some (.int .i64 ((rd_T48 l0 x5_1).f2)) ∧ w'.cell? ⟨(ad555.add ((x5_1).toNat * 13)).block, (ad555.add ((x5_1).toNat * 13)).off + 3, none⟩ = some (.int .i64 ((rd_T48 l0 x5_1).f3)) ∧ w'.cell? ⟨(ad555.add ((x5_1).toNat * 13)).block, (ad555.add ((x5_1).toNat * 13)).off + 4, none⟩ = some (.int .i64 ((rd_T48 l0 x5_1).f4)) ∧ w'.cell? ⟨(ad555.add ((x5_1).toNat * 13)).block, (ad555.add ((x5_1).toNat * 13)).off + 5, none⟩ = some (.int .i64 ((rd_T48 l0 x5_1).f5)) ∧ w'.cell? ⟨(ad555.add ((x5_1).toNat * 13)).block, (ad555.add ((x5_1).toNat * 13)).off + 6, none⟩ = some (.int .i64 ((rd_T48 l0 x5_1).f6)) ∧ w'.cell? ⟨(ad555.add ((x5_1).toNat * 13)).block, (ad555.add ((x5_1).toNat * 13)).off + 7, none⟩ = some (.int .i64 ((rd_T48 l0 x5_1).f7)) ∧ w'.cell? ⟨(ad555.add ((x5_1).toNat * 13)).block, (ad555.add ((x5_1).toNat * 13)).off + 8, none⟩ = some (.slice A555_8 ((rd_T48 l0 x5_1).f8).length c555_8) ∧ w'.cell? ⟨(ad555.add ((x5_1).toNat * 13)).block, (ad555.add ((x5_1).toNat * 13)).off + 9, none⟩ = some (.int .i64 ((rd_T48 l0 x5_1).f9)) ∧ w'.cell? ⟨(ad555.add ((x5_1).toNat * 13)).block, (ad555.add ((x5_1).toNat * 13)).off + 10, none⟩ = some (.int .i64 ((rd_T48 l0 x5_1).f10)) ∧ w'.cell? ⟨(ad555.add ((x5_1).toNat * 13)).block, (ad555.add ((x5_1).toNat * 13)).off + 11, none⟩ = some (.slice A555_11 ((rd_T48 l0 x5_1).f11).length c555_11) ∧ w'.cell? ⟨(ad555.add ((x5_1).toNat * 13)).block, (ad555.add ((x5_1).toNat * 13)).off + 12, none⟩ = some (.slice A555_12 ((rd_T48 l0 x5_1).f12).length c555_12) ∧ w'.cell? (ad556.add ((x5_1).toNat * 13)) = some (.int .i64 ((rd_T48 l1 x5_1).f0)) ∧ w'.cell? ⟨(ad556.add ((x5_1).toNat * 13)).block, (ad556.add ((x5_1).toNat * 13)).off + 1, none⟩ = some (.int .i64 ((rd_T48 l1 x5_1).f1)) ∧ w'.cell? ⟨(ad556.add ((x5_1).toNat * 13)).block, (ad556.add ((x5_1).toNat * 13)).off + 2, none⟩ = some (.int .i64 ((rd_T48 l1 x5_1).f2)) ∧ w'.cell? ⟨(ad556.add ((x5_1).toNat * 13)).block, (ad556.add ((x5_1).toNat * 13)).off + 3, none⟩ = some (.int .i64 ((rd_T48 l1 x5_1).f3)) ∧ w'.cell? ⟨(ad556.add ((x5_1).toNat * 13)).block, (ad556.add ((x5_1).toNat * 13)).off + 4, none⟩ = some (.int .i64 ((rd_T48 l1 x5_1).f4)) ∧ w'.cell? ⟨(ad556.add ((x5_1).toNat * 13)).block, (ad556.add ((x5_1).toNat * 13)).off + 5, none⟩ = some (.int .i64 ((rd_T48 l1 x5_1).f5)) ∧ w'.cell? ⟨(ad556.add ((x5_1).toNat * 13)).block, (ad556.add ((x5_1).toNat * 13)).off + 6, none⟩ = some (.int .i64 ((rd_T48 l1 x5_1).f6)) ∧ w'.cell? ⟨(ad556.add ((x5_1).toNat * 13)).block, (ad556.add ((x5_1).toNat * 13)).off + 7, none⟩ = some (.int .i64 ((rd_T48 l1 x5_1).f7)) ∧ w'.cell? ⟨(ad556.add ((x5_1).toNat * 13)).block, (ad556.add ((x5_1).toNat * 13)).off + 8, none⟩ = some (.slice A556_8 ((rd_T48 l1 x5_1).f8).length c556_8) ∧ w'.cell? ⟨(ad556.add ((x5_1).toNat * 13)).block, (ad556.add ((x5_1).toNat * 13)).off + 9, none⟩ = some (.int .i64 ((rd_T48 l1 x5_1).f9)) ∧ w'.cell? ⟨(ad556.add ((x5_1).toNat * 13)).block, (ad556.add ((x5_1).toNat * 13)).off + 10, none⟩ = some (.int .i64 ((rd_T48 l1 x5_1).f10)) ∧ w'.cell? ⟨(ad556.add ((x5_1).toNat * 13)).block, (ad556.add ((x5_1).toNat * 13)).off + 11, none⟩ = some (.slice A556_11 ((rd_T48 l1 x5_1).f11).length c556_11) ∧ w'.cell? ⟨(ad556.add ((x5_1).toNat * 13)).block, (ad556.add ((x5_1).toNat * 13)).off + 12, none⟩ = some (.slice A556_12 ((rd_T48 l1 x5_1).f12).length c556_12)) (ds := []) (bm 10 0) (by kernel_rfl) rfl (by kernel_rfl) ⟨(hbt HB hw555_0), (hbt HB hw555_1), (hbt HB hw555_2), (hbt HB hw555_3), (hbt HB hw555_4), (hbt HB hw555_5), (hbt HB hw555_6), (hbt HB hw555_7), (hbt HB hw555_8), (hbt HB hw555_9), (hbt HB hw555_10), (hbt HB hw555_11), (hbt HB hw555_12), (hbt HB hw556_0), (hbt HB hw556_1), (hbt HB hw556_2), (hbt HB hw556_3), (hbt HB hw556_4), (hbt HB hw556_5), (hbt HB hw556_6), (hbt HB hw556_7), (hbt HB hw556_8), (hbt HB hw556_9), (hbt HB hw556_10), (hbt HB hw556_11), (hbt HB hw556_12)⟩ (fun hHeld => ?_); refine with_tabW laws_sameTable.tab6 laws_sameTable.bits6 (fun HT_ HW_ => ?_)
   generalize wr.drew = w11 at HB HR555_11 HR555_12 HR555_8 HR556_11 HR556_12 HR556_8 hx555_0 hx555_1 hx555_10 hx555_11 hx555_12 hx555_2 hx555_3 hx555_4 hx555_5 hx555_6 hx555_7 hx555_8 hx555_9 hx556_0 hx556_1 hx556_10 hx556_11 hx556_12 hx556_2 hx556_3 hx556_4 hx556_5 hx556_6 hx556_7 hx556_8 hx556_9 hHeld ⊢
   refine pu_ 0 (some 17) (bm 10 1) (any_of HT_.out (by kernel_rfl)) ?_
   refine pu_ 1 (some 18) (bm 10 3) (any_of HT_.out (by kernel_rfl)) ?_
   refine pu_ 2 (some 19) (bm 10 7) (any_of HT_.out (by kernel_rfl)) ?_
   refine pu_ 4 (some 21) (bm 10 23) (any_of HT_.out (by kernel_rfl)) ?_
   refine pu_ 5 (some 22) (bm 10 55) (any_of HT_.out (by kernel_rfl)) ?_
   refine pu_ 6 (some 23) (bm 10 119) (any_of HT_.out (by kernel_rfl)) ?_
   refine tk_ 3 (some 20) (bm 10 127) (take_ofW HT_.out HW_.out (by kernel_rfl)) hHeld ?_
   refine tk_ 7 (some 24) (bm 10 255) (take_ofW HT_.out HW_.out (by kernel_rfl)) hHeld ?_
   refine one_ (i := 8) (N := some 25) (bm 10 511) rfl rfl (one_of HT_.out (by kernel_rfl)) q85t (fun K hK => ?_)
   refine goes_ Try.func34 (by kernel_rfl) rfl #[.agg #[.int .i64 ((rd_T48 l0 x5_1).f0), .int .i64 ((rd_T48 l0 x5_1).f1), .int .i64 ((rd_T48 l0 x5_1).f2), .int .i64 ((rd_T48 l0 x5_1).f3), .int .i64 ((rd_T48 l0 x5_1).f4), .int .i64 ((rd_T48 l0 x5_1).f5), .int .i64 ((rd_T48 l0 x5_1).f6), .int .i64 ((rd_T48 l0 x5_1).f7), .slice A555_8 ((rd_T48 l0 x5_1).f8).length c555_8, .int .i64 ((rd_T48 l0 x5_1).f9), .int .i64 ((rd_T48 l0 x5_1).f10), .slice A555_11 ((rd_T48 l0 x5_1).f11).length c555_11, .slice A555_12 ((rd_T48 l0 x5_1).f12).length c555_12], .agg #[.int .i64 ((rd_T48 l1 x5_1).f0), .int .i64 ((rd_T48 l1 x5_1).f1), .int .i64 ((rd_T48 l1 x5_1).f2), .int .i64 ((rd_T48 l1 x5_1).f3), .int .i64 ((rd_T48 l1 x5_1).f4), .int .i64 ((rd_T48 l1 x5_1).f5), .int .i64 ((rd_T48 l1 x5_1).f6), .int .i64 ((rd_T48 l1 x5_1).f7), .slice A556_8 ((rd_T48 l1 x5_1).f8).length c556_8, .int .i64 ((rd_T48 l1 x5_1).f9), .int .i64 ((rd_T48 l1 x5_1).f10), .slice A556_11 ((rd_T48 l1 x5_1).f11).length c556_11, .slice A556_12 ((rd_T48 l1 x5_1).f12).length c556_12]] (by rfl) rfl rfl q51t ?_
   with_reducible refine (laws_sameNode.calls k1 ((rd_T48 l0 x5_1).f0) ((rd_T48 l0 x5_1).f1) ((rd_T48 l0 x5_1).f2) ((rd_T48 l0 x5_1).f3) ((rd_T48 l0 x5_1).f4) ((rd_T48 l0 x5_1).f5) ((rd_T48 l0 x5_1).f6) ((rd_T48 l0 x5_1).f7) _ _ ((rd_T48 l0 x5_1).f8) ((rd_T48 l0 x5_1).f9) ((rd_T48 l0 x5_1).f10) _ _ ((rd_T48 l0 x5_1).f11) _ _ ((rd_T48 l0 x5_1).f12) ((rd_T48 l1 x5_1).f0) ((rd_T48 l1 x5_1).f1) ((rd_T48 l1 x5_1).f2) ((rd_T48 l1 x5_1).f3) ((rd_T48 l1 x5_1).f4) ((rd_T48 l1 x5_1).f5) ((rd_T48 l1 x5_1).f6) ((rd_T48 l1 x5_1).f7) _ _ ((rd_T48 l1 x5_1).f8) ((rd_T48 l1 x5_1).f9) ((rd_T48 l1 x5_1).f10) _ _ ((rd_T48 l1 x5_1).f11) _ _ ((rd_T48 l1 x5_1).f12) false _ ?side1 ?side2 ?side3 ?side4 ?side5 ?side6 ?side7 ?side8 ?side9 ?side10 ?side11 ?side12 A7.out).mono ?_
   (case side1 => exact sC (Kd.C_below HR555_8.out HB.out))
   (case side2 => exact HC555_8.out)
   (case side3 => exact sC (Kd.C_below HR555_11.out HB.out))
   (case side4 => exact HC555_11.out)
   (case side5 => exact sC (Kd.C_below HR555_12.out HB.out))
   (case side6 => exact HC555_12.out)
   (case side7 => exact sC (Kd.C_below HR556_8.out HB.out))
   (case side8 => exact HC556_8.out)
   (case side9 => exact sC (Kd.C_below HR556_11.out HB.out))
   (case side10 => exact HC556_11.out)
   (case side11 => exact sC (Kd.C_below HR556_12.out HB.out))
   (case side12 => exact HC556_12.out)
   rintro e w12 ⟨rfl, hb⟩
   refine ⟨_, rfl, ?_⟩
   replace HB := Aside0.mk (below_step q53t hb)
   (try clear hb)
   (try clear hb2)
   (try clear hk)
   (try clear hi)
   refine hK.out _ _ (by first | exact ⟨(hbt HB hw555_0), (hbt HB hw555_1), (hbt HB hw555_2), (hbt HB hw555_3), (hbt HB hw555_4), (hbt HB hw555_5), (hbt HB hw555_6), (hbt HB hw555_7), (hbt HB hw555_8), (hbt HB hw555_9), (hbt HB hw555_10), (hbt HB hw555_11), (hbt HB hw555_12), (hbt HB hw556_0), (hbt HB hw556_1), (hbt HB hw556_2), (hbt HB hw556_3), (hbt HB hw556_4), (hbt HB hw556_5), (hbt HB hw556_6), (hbt HB hw556_7), (hbt HB hw556_8), (hbt HB hw556_9), (hbt HB hw556_10), (hbt HB hw556_11), (hbt HB hw556_12)⟩ | exact hHeld) (fun hHeld => ?_)
   clear hK K
   refine norm_ (a' := ?_) ?_ ?_
   rotate_left
   ·show Act.put _ (some 25) _ = _
    simp only [Act.put, List.setIfInBounds_toArray, List.set_cons_zero, List.set_cons_succ, i64_w, i32_w]
    rfl
   refine pu_ 9 (some 26) (bm 10 1023) (any_of HT_.out (by kernel_rfl)) ?_
   refine done_ (done_of HT_.out (by kernel_rfl)) ?_
   try go_wp2
   go_ret
   exact ⟨q73t, q53t⟩

/-! ### spec_Clear: function 13 -/
def spec_Clear.f (k : Nat) (l0 : List (S48)) (a1 : Int) (a2 : Int) : Option ((List (S48))) := (spec_l7All.f k l0).bind fun t558 => ((spec_l1In.f a1 0 (wrap64 ((l0.length : Int) - 1))).bind fun t561 => (if t561 = true then (if 0 ≤ a1 then (if a1 < (l0.length : Int) then (if ((rd_T48 l0 a1).f1) ≥ a2 then (if a1 < (t558.length : Int) then (some (t558.set (a1 : Int).toNat (⟨3, (rd_T48 l0 a1).f1, 0, 0, 0, 0, 0, 0, ([] : List Int), 0, 0, ([] : List (S74)), ([] : List Int)⟩ : S48))) else (none)) else ((spec_NodeNew.f (wrap64 (((rd_T48 l0 a1).f1) + 1))).bind fun bt566 => (if a1 < (t558.length : Int) then (some (t558.set (a1 : Int).toNat (⟨bt566.1, bt566.2.1, bt566.2.2.1, bt566.2.2.2.1, bt566.2.2.2.2.1, bt566.2.2.2.2.2.1, bt566.2.2.2.2.2.2.1, bt566.2.2.2.2.2.2.2.1, bt566.2.2.2.2.2.2.2.2.1, bt566.2.2.2.2.2.2.2.2.2.1, bt566.2.2.2.2.2.2.2.2.2.2.1, bt566.2.2.2.2.2.2.2.2.2.2.2.1, bt566.2.2.2.2.2.2.2.2.2.2.2.2⟩ : S48))) else (none)))) else (none)) else (none)) else (some t558)))
theorem spec_Clear.mono : ∀ a0 a1 a2 k, LeO (spec_Clear.f k a0 a1 a2) (spec_Clear.f (k + 1) a0 a1 a2) := by
 intro a0 a1 a2 k
 unfold spec_Clear.f
 repeat' first
   | (with_reducible exact spec_l7All.mono _ _)
   | (with_reducible exact LeO.refl _)
   | (with_reducible exact LeO.none _)
   | (with_reducible refine LeO.ite ?_ ?_)
   | (with_reducible refine LeO.bind ?_ (fun _ => ?_))
   | exact spec_l7All.mono _ _
   | exact LeO.none _
   | refine LeO.ite ?_ ?_
   | refine LeO.bind ?_ (fun _ => ?_)
set_option maxHeartbeats 8000000 in
set_option maxRecDepth 100000 in
theorem spec_Clear.calls (k : Nat) (A0 : Option Addr) (c0 : Nat) (l0 : List (S48)) (a1 : Int) (a2 : Int) (r : List (S48)) (w : World) (hr0 : Kd.C k48 w A0 l0.length l0) (hc0 : l0.length ≤ c0) (h : spec_Clear.f k l0 a1 a2 = some r) :
  Calls Try.prog 13 #[.slice A0 l0.length c0, .int .i64 a1, .int .i64 a2] w fun e w' => ∃ v0_ : Value, e = .returned (v0_) ∧ Kd.S k48 48 w' w.heap.size (fun _ => True) v0_ r ∧ Below w.heap.size w w' := by
 have hu48 := Try.underlying48
 have HR0 := Aside0.mk hr0
 have HC0 := Aside0.mk hc0
 clear hr0 hc0
 have HB := Aside0.mk (Below.refl w.heap.size w)
 have H : ((spec_l7All.f k l0).bind fun t558 => ((spec_l1In.f a1 0 (wrap64 ((l0.length : Int) - 1))).bind fun t561 => (if t561 = true then (if 0 ≤ a1 then (if a1 < (l0.length : Int) then (if ((rd_T48 l0 a1).f1) ≥ a2 then (if a1 < (t558.length : Int) then (some (t558.set (a1 : Int).toNat (⟨3, (rd_T48 l0 a1).f1, 0, 0, 0, 0, 0, 0, ([] : List Int), 0, 0, ([] : List (S74)), ([] : List Int)⟩ : S48))) else (none)) else ((spec_NodeNew.f (wrap64 (((rd_T48 l0 a1).f1) + 1))).bind fun bt566 => (if a1 < (t558.length : Int) then (some (t558.set (a1 : Int).toNat (⟨bt566.1, bt566.2.1, bt566.2.2.1, bt566.2.2.2.1, bt566.2.2.2.2.1, bt566.2.2.2.2.2.1, bt566.2.2.2.2.2.2.1, bt566.2.2.2.2.2.2.2.1, bt566.2.2.2.2.2.2.2.2.1, bt566.2.2.2.2.2.2.2.2.2.1, bt566.2.2.2.2.2.2.2.2.2.2.1, bt566.2.2.2.2.2.2.2.2.2.2.2.1, bt566.2.2.2.2.2.2.2.2.2.2.2.2⟩ : S48))) else (none)))) else (none)) else (none)) else (some t558)))) = some r := h
 clear h
 replace H := Option.bind_eq_some_iff.mp H
 obtain ⟨t558, A40, H⟩ := H
 try dsimp only at H
 have A4 := Aside0.mk A40
 clear A40
 replace H := Option.bind_eq_some_iff.mp H
 obtain ⟨t561, A50, H⟩ := H
 try dsimp only at H
 have A5 := Aside0.mk A50
 clear A50
 by_cases c6 : t561 = true
 rotate_left
 ·replace c6 := Bool.eq_false_iff.mpr c6
  subst c6
  rw [if_neg (show ¬ (false = true) by decide)] at H
  obtain rfl := Option.some.inj H
  go_enter Try.func13, Try.ntmps13
  go_wp2_with (first | ((with_reducible refine gate_callee (f := 33) rfl ?_); refine goesL_ (some 9) rfl rfl Try.func33 (by kernel_rfl) rfl #[.slice A0 l0.length c0] rfl q51t ?_; (with_reducible refine (spec_l7All.calls k _ _ l0 t558 _ ?side1 ?side2 A4.out).mono ?_); (case side1 => repeat (first | exact HR0.out | (with_reducible refine Kd.C_alloc ?_ _) | (with_reducible refine Kd.C_drewN ?_ _) | (with_reducible refine Kd.C_drew ?_))); (case side2 => exact HC0.out); rintro e w22 ⟨v559, rfl, ho0, hb⟩; refine ⟨_, rfl, ?_⟩; have HO560 := Aside0.mk (Kd.S_lower ho0 (below_size q53t)); replace HB := Aside0.mk (below_step q53t hb); (try clear hb); (try clear hb2); (try clear hk); (try clear hi); (try clear ho0)) | ((with_reducible refine gate_callee (f := 35) rfl ?_); refine goesL_ (some 14) rfl rfl Try.func35 (by kernel_rfl) rfl #[.int .i64 a1, .int .i64 0, .int .i64 (wrap64 ((l0.length : Int) - 1))] rfl q51t ?_; (with_reducible refine (spec_l1In.calls a1 0 (wrap64 ((l0.length : Int) - 1)) false _ A5.out).mono ?_); rintro e w' ⟨rfl, ⟨nd, rfl⟩⟩; refine ⟨_, rfl, ?_⟩))
  go_ret
  exact ⟨_, q73t, q59t, q53t⟩
 subst c6
 rw [if_pos rfl] at H
 by_cases c7 : 0 ≤ a1
 rotate_left
 ·rw [if_neg c7] at H
  exact absurd H q87t
 rw [if_pos c7] at H
 have c7b0 : decide (0 ≤ a1) = true := decide_eq_true c7
 clear c7
 by_cases c8 : a1 < (l0.length : Int)
 rotate_left
 ·rw [if_neg c8] at H
  exact absurd H q87t
 rw [if_pos c8] at H
 have c8b0 : decide (a1 < (l0.length : Int)) = true := decide_eq_true c8
 clear c8
 by_cases c9 : ((rd_T48 l0 a1).f1) ≥ a2
 ·rw [if_pos c9] at H
  have c9b0 : decide (a2 ≤ ((rd_T48 l0 a1).f1)) = true := decide_eq_true c9
  clear c9
  by_cases c10 : a1 < (t558.length : Int)
  rotate_left
  ·rw [if_neg c10] at H
   exact absurd H q87t
  rw [if_pos c10] at H
  have c10b0 : decide (a1 < (t558.length : Int)) = true := decide_eq_true c10
  clear c10
  obtain ⟨y564, hy564⟩ : ∃ y_ : List (S48), y_ = (t558.set (a1 : Int).toNat (⟨3, (rd_T48 l0 a1).f1, 0, 0, 0, 0, 0, 0, ([] : List Int), 0, 0, ([] : List (S74)), ([] : List Int)⟩ : S48)) := ⟨_, rfl⟩
  replace H : (some y564) = some r := by first | (rw [hy564]; with_reducible exact H) | (have H2_ := (Option.bind_some _ _).symm.trans H; rw [hy564]; with_reducible exact H2_) | (have H2_ := (Option.bind_some _ _).symm.trans H; with_reducible exact H2_) | with_reducible exact H | (rw [hy564]; exact H) | exact H
  have Ny564 := Aside0.mk hy564
  clear hy564
  obtain rfl := Option.some.inj H
  go_enter Try.func13, Try.ntmps13
  go_wp2_with (first | ((with_reducible refine gate_callee (f := 33) rfl ?_); refine goesL_ (some 9) rfl rfl Try.func33 (by kernel_rfl) rfl #[.slice A0 l0.length c0] rfl q51t ?_; (with_reducible refine (spec_l7All.calls k _ _ l0 t558 _ ?side1 ?side2 A4.out).mono ?_); (case side1 => repeat (first | exact HR0.out | (with_reducible refine Kd.C_alloc ?_ _) | (with_reducible refine Kd.C_drewN ?_ _) | (with_reducible refine Kd.C_drew ?_))); (case side2 => exact HC0.out); rintro e w12 ⟨v559, rfl, ho0, hb⟩; refine ⟨_, rfl, ?_⟩; have HO560 := Aside0.mk (Kd.S_lower ho0 (below_size q53t)); replace HB := Aside0.mk (below_step q53t hb); (try clear hb); (try clear hb2); (try clear hk); (try clear hi); (try clear ho0)) | ((with_reducible refine gate_callee (f := 35) rfl ?_); refine goesL_ (some 14) rfl rfl Try.func35 (by kernel_rfl) rfl #[.int .i64 a1, .int .i64 0, .int .i64 (wrap64 ((l0.length : Int) - 1))] rfl q51t ?_; (with_reducible refine (spec_l1In.calls a1 0 (wrap64 ((l0.length : Int) - 1)) true _ A5.out).mono ?_); rintro e w' ⟨rfl, ⟨nd, rfl⟩⟩; refine ⟨_, rfl, ?_⟩; (try (rw [drewN_self w12]; generalize hq_ : World.drewN w12 _ = w12; replace HO560 : Aside0 (Kd.S k48 48 w12 w.heap.size (fun _ => True) v559 t558) := ⟨by rw [← hq_]; exact q59t⟩; replace HB : Aside0 (Below w.heap.size w w12) := ⟨by rw [← hq_]; exact q53t⟩; clear hq_)); have p562 : 0 ≤ (a1 : Int) := of_decide_eq_true q76t; have q562 : a1 < (l0.length : Int) := of_decide_eq_true q76t; obtain ⟨ad562, A562_8, c562_8, A562_11, c562_11, A562_12, c562_12, e562, hx562_0, hx562_1, hx562_2, hx562_3, hx562_4, hx562_5, hx562_6, hx562_7, hx562_8, hx562_9, hx562_10, hx562_11, hx562_12, hl562_8, hi562_8, hl562_11, hi562_11, hl562_12, hi562_12⟩ := at_T48 HR0.out a1 p562 q562; cases e562; replace hx562_0 := hbt HB hx562_0; replace hx562_1 := hbt HB hx562_1; replace hx562_2 := hbt HB hx562_2; replace hx562_3 := hbt HB hx562_3; replace hx562_4 := hbt HB hx562_4; replace hx562_5 := hbt HB hx562_5; replace hx562_6 := hbt HB hx562_6; replace hx562_7 := hbt HB hx562_7; replace hx562_8 := hbt HB hx562_8; replace hx562_9 := hbt HB hx562_9; replace hx562_10 := hbt HB hx562_10; replace hx562_11 := hbt HB hx562_11; replace hx562_12 := hbt HB hx562_12; have HR562_8 := Aside0.mk hi562_8; have HC562_8 := Aside0.mk hl562_8; clear hi562_8 hl562_8; have HR562_11 := Aside0.mk hi562_11; have HC562_11 := Aside0.mk hl562_11; clear hi562_11 hl562_11; have HR562_12 := Aside0.mk hi562_12; have HC562_12 := Aside0.mk hl562_12; clear hi562_12 hl562_12; replace p562 := eq_true p562; replace q562 := eq_true q562; have p563 : 0 ≤ (a1 : Int) := of_decide_eq_true q76t; have q563 : a1 < (l0.length : Int) := of_decide_eq_true q76t; obtain ⟨ad563, A563_8, c563_8, A563_11, c563_11, A563_12, c563_12, e563, hx563_0, hx563_1, hx563_2, hx563_3, hx563_4, hx563_5, hx563_6, hx563_7, hx563_8, hx563_9, hx563_10, hx563_11, hx563_12, hl563_8, hi563_8, hl563_11, hi563_11, hl563_12, hi563_12⟩ := at_T48 HR0.out a1 p563 q563; obtain rfl : ad562 = ad563 := (by injection e563); replace hx563_0 := hbt HB hx563_0; replace hx563_1 := hbt HB hx563_1; replace hx563_2 := hbt HB hx563_2; replace hx563_3 := hbt HB hx563_3; replace hx563_4 := hbt HB hx563_4; replace hx563_5 := hbt HB hx563_5; replace hx563_6 := hbt HB hx563_6; replace hx563_7 := hbt HB hx563_7; replace hx563_8 := hbt HB hx563_8; replace hx563_9 := hbt HB hx563_9; replace hx563_10 := hbt HB hx563_10; replace hx563_11 := hbt HB hx563_11; replace hx563_12 := hbt HB hx563_12; have HR563_8 := Aside0.mk hi563_8; have HC563_8 := Aside0.mk hl563_8; clear hi563_8 hl563_8; have HR563_11 := Aside0.mk hi563_11; have HC563_11 := Aside0.mk hl563_11; clear hi563_11 hl563_11; have HR563_12 := Aside0.mk hi563_12; have HC563_12 := Aside0.mk hl563_12; clear hi563_12 hl563_12; replace p563 := eq_true p563; replace q563 := eq_true q563; have ea_ := Option.some.inj (hx562_8.symm.trans hx563_8); injection ea_ with ea_ en_ ec_; subst ea_; subst ec_; clear en_; have ea_ := Option.some.inj (hx562_11.symm.trans hx563_11); injection ea_ with ea_ en_ ec_; subst ea_; subst ec_; clear en_; have ea_ := Option.some.inj (hx562_12.symm.trans hx563_12); injection ea_ with ea_ en_ ec_; subst ea_; subst ec_; clear en_; have p11 : 0 ≤ (a1 : Int) := of_decide_eq_true q76t; have q11 : (a1 : Int) < ((t558.length : Int) : Int) := of_decide_eq_true q76t; obtain ⟨go11, co11, eo11, gb11, gl11, cl11, HG11⟩ := Kd.S_form HO560.out q86t; (first | cases eo11 | (injection eo11 with ea_ en_ ec_; (first | subst ea_ | (injection ea_ with ea_; subst ea_)); subst ec_; clear en_)); have GB11 := Aside0.mk gb11; have GG11 := Aside0.mk HG11; clear gb11 gl11 HG11; obtain ⟨_, ce11, hcl11, hM11, hcc11, hfr11, _, _⟩ := Kd.S_elem HO560.out z48 (a1 : Int) p11 q11; obtain ⟨ve11_8, ve11_11, ve11_12, rfl, ge11_8, ge11_11, ge11_12⟩ := k48_openM hM11; have hx11_0 : w12.cell? ⟨go11, (a1 : Int).toNat * 13, none⟩ = some (.int .i64 ((rd_T48 t558 a1).f0)) := hcc11 0 _ rfl; have hx11_1 : w12.cell? ⟨go11, (a1 : Int).toNat * 13 + 1, none⟩ = some (.int .i64 ((rd_T48 t558 a1).f1)) := hcc11 1 _ rfl; have hx11_2 : w12.cell? ⟨go11, (a1 : Int).toNat * 13 + 2, none⟩ = some (.int .i64 ((rd_T48 t558 a1).f2)) := hcc11 2 _ rfl; have hx11_3 : w12.cell? ⟨go11, (a1 : Int).toNat * 13 + 3, none⟩ = some (.int .i64 ((rd_T48 t558 a1).f3)) := hcc11 3 _ rfl; have hx11_4 : w12.cell? ⟨go11, (a1 : Int).toNat * 13 + 4, none⟩ = some (.int .i64 ((rd_T48 t558 a1).f4)) := hcc11 4 _ rfl; have hx11_5 : w12.cell? ⟨go11, (a1 : Int).toNat * 13 + 5, none⟩ = some (.int .i64 ((rd_T48 t558 a1).f5)) := hcc11 5 _ rfl; have hx11_6 : w12.cell? ⟨go11, (a1 : Int).toNat * 13 + 6, none⟩ = some (.int .i64 ((rd_T48 t558 a1).f6)) := hcc11 6 _ rfl; have hx11_7 : w12.cell? ⟨go11, (a1 : Int).toNat * 13 + 7, none⟩ = some (.int .i64 ((rd_T48 t558 a1).f7)) := hcc11 7 _ rfl; have hx11_8 : w12.cell? ⟨go11, (a1 : Int).toNat * 13 + 8, none⟩ = some (ve11_8) := hcc11 8 _ rfl; have hx11_9 : w12.cell? ⟨go11, (a1 : Int).toNat * 13 + 9, none⟩ = some (.int .i64 ((rd_T48 t558 a1).f9)) := hcc11 9 _ rfl; have hx11_10 : w12.cell? ⟨go11, (a1 : Int).toNat * 13 + 10, none⟩ = some (.int .i64 ((rd_T48 t558 a1).f10)) := hcc11 10 _ rfl; have hx11_11 : w12.cell? ⟨go11, (a1 : Int).toNat * 13 + 11, none⟩ = some (ve11_11) := hcc11 11 _ rfl; have hx11_12 : w12.cell? ⟨go11, (a1 : Int).toNat * 13 + 12, none⟩ = some (ve11_12) := hcc11 12 _ rfl; have hf11_0 : w12.frozen? ⟨go11, (a1 : Int).toNat * 13, none⟩ = false := hfr11 0; have hf11_1 : w12.frozen? ⟨go11, (a1 : Int).toNat * 13 + 1, none⟩ = false := hfr11 1; have hf11_2 : w12.frozen? ⟨go11, (a1 : Int).toNat * 13 + 2, none⟩ = false := hfr11 2; have hf11_3 : w12.frozen? ⟨go11, (a1 : Int).toNat * 13 + 3, none⟩ = false := hfr11 3; have hf11_4 : w12.frozen? ⟨go11, (a1 : Int).toNat * 13 + 4, none⟩ = false := hfr11 4; have hf11_5 : w12.frozen? ⟨go11, (a1 : Int).toNat * 13 + 5, none⟩ = false := hfr11 5; have hf11_6 : w12.frozen? ⟨go11, (a1 : Int).toNat * 13 + 6, none⟩ = false := hfr11 6; have hf11_7 : w12.frozen? ⟨go11, (a1 : Int).toNat * 13 + 7, none⟩ = false := hfr11 7; have hf11_8 : w12.frozen? ⟨go11, (a1 : Int).toNat * 13 + 8, none⟩ = false := hfr11 8; have hf11_9 : w12.frozen? ⟨go11, (a1 : Int).toNat * 13 + 9, none⟩ = false := hfr11 9; have hf11_10 : w12.frozen? ⟨go11, (a1 : Int).toNat * 13 + 10, none⟩ = false := hfr11 10; have hf11_11 : w12.frozen? ⟨go11, (a1 : Int).toNat * 13 + 11, none⟩ = false := hfr11 11; have hf11_12 : w12.frozen? ⟨go11, (a1 : Int).toNat * 13 + 12, none⟩ = false := hfr11 12; clear hcl11 hcc11 hfr11 hM11; replace p11 := eq_true p11; replace q11 := eq_true q11; have HX13 := Aside0.mk (show Kd.S k48 48 w12 w.heap.size (fun k_ => ((fun _ => True)) k_ ∧ ¬ ((fun _ => False)) k_) (.slice (some ⟨go11, 0, none⟩) t558.length co11) t558 from (by (with_reducible repeat (first | apply Kd.S_alloc | apply Kd.S_drewN | apply Kd.S_drew)); exact Kd.S_mono HO560.out (fun k_ hk => ⟨trivial, fun e_ => e_⟩))); obtain ⟨oki13, ce13, hcl13, hM13, hcc13, hfr13, hoki13, hH13⟩ := Kd.S_elem HX13.out z48 (a1 : Int) (of_decide_eq_true q76t) (by have h_ : (a1 : Int) < ((t558.length : Int) : Int) := of_decide_eq_true q76t; first | exact h_ | (have e_ := (Kd.S_reads' HO560.out).1; omega) | simpa using h_); obtain ⟨ve13_8, ve13_11, ve13_12, rfl, ge13_8, ge13_11, ge13_12⟩ := k48_openM hM13; have HP13 := Kd.S_seg hH13 (of_decide_eq_true q76t) (by have h_ : (a1 : Int) < ((t558.length : Int) : Int) := of_decide_eq_true q76t; first | exact h_ | (have e_ := (Kd.S_reads' HO560.out).1; omega) | simpa using h_) (seg := [.int .i64 3, .int .i64 ((rd_T48 l0 a1).f1), .int .i64 0, .int .i64 0, .int .i64 0, .int .i64 0, .int .i64 0, .int .i64 0, .slice none 0 0, .int .i64 0, .int .i64 0, .slice none 0 0, .slice none 0 0]) (j := 0) (show 13 ≤ 13 from by decide) (x' := (⟨3, (rd_T48 l0 a1).f1, 0, 0, 0, 0, 0, 0, ([] : List Int), 0, 0, ([] : List (S74)), ([] : List Int)⟩ : S48)) (k48_mkM _ _ _ (⟨3, (rd_T48 l0 a1).f1, 0, 0, 0, 0, 0, 0, ([] : List Int), 0, 0, ([] : List (S74)), ([] : List Int)⟩ : S48) (Kd.R_nil _ _ _ _ _) (Kd.R_nil _ _ _ _ _) (Kd.R_nil _ _ _ _ _)) (fun _ hk => hk) (fun k_ hk_ => hk_.elim); have hx13_0 := hcc13 0 _ rfl; (try simp only [show (k48).sz = 13 from rfl, Nat.mul_one, Nat.add_zero] at hx13_0); have hf13_0 := hfr13 0; (try simp only [show (k48).sz = 13 from rfl, Nat.mul_one, Nat.add_zero] at hf13_0); have hx13_1 := hcc13 1 _ rfl; (try simp only [show (k48).sz = 13 from rfl, Nat.mul_one, Nat.add_zero] at hx13_1); have hf13_1 := hfr13 1; (try simp only [show (k48).sz = 13 from rfl, Nat.mul_one, Nat.add_zero] at hf13_1); have hx13_2 := hcc13 2 _ rfl; (try simp only [show (k48).sz = 13 from rfl, Nat.mul_one, Nat.add_zero] at hx13_2); have hf13_2 := hfr13 2; (try simp only [show (k48).sz = 13 from rfl, Nat.mul_one, Nat.add_zero] at hf13_2); have hx13_3 := hcc13 3 _ rfl; (try simp only [show (k48).sz = 13 from rfl, Nat.mul_one, Nat.add_zero] at hx13_3); have hf13_3 := hfr13 3; (try simp only [show (k48).sz = 13 from rfl, Nat.mul_one, Nat.add_zero] at hf13_3); have hx13_4 := hcc13 4 _ rfl; (try simp only [show (k48).sz = 13 from rfl, Nat.mul_one, Nat.add_zero] at hx13_4); have hf13_4 := hfr13 4; (try simp only [show (k48).sz = 13 from rfl, Nat.mul_one, Nat.add_zero] at hf13_4); have hx13_5 := hcc13 5 _ rfl; (try simp only [show (k48).sz = 13 from rfl, Nat.mul_one, Nat.add_zero] at hx13_5); have hf13_5 := hfr13 5; (try simp only [show (k48).sz = 13 from rfl, Nat.mul_one, Nat.add_zero] at hf13_5); have hx13_6 := hcc13 6 _ rfl; (try simp only [show (k48).sz = 13 from rfl, Nat.mul_one, Nat.add_zero] at hx13_6); have hf13_6 := hfr13 6; (try simp only [show (k48).sz = 13 from rfl, Nat.mul_one, Nat.add_zero] at hf13_6); have hx13_7 := hcc13 7 _ rfl; (try simp only [show (k48).sz = 13 from rfl, Nat.mul_one, Nat.add_zero] at hx13_7); have hf13_7 := hfr13 7; (try simp only [show (k48).sz = 13 from rfl, Nat.mul_one, Nat.add_zero] at hf13_7); have hx13_8 := hcc13 8 _ rfl; (try simp only [show (k48).sz = 13 from rfl, Nat.mul_one, Nat.add_zero] at hx13_8); have hf13_8 := hfr13 8; (try simp only [show (k48).sz = 13 from rfl, Nat.mul_one, Nat.add_zero] at hf13_8); have hx13_9 := hcc13 9 _ rfl; (try simp only [show (k48).sz = 13 from rfl, Nat.mul_one, Nat.add_zero] at hx13_9); have hf13_9 := hfr13 9; (try simp only [show (k48).sz = 13 from rfl, Nat.mul_one, Nat.add_zero] at hf13_9); have hx13_10 := hcc13 10 _ rfl; (try simp only [show (k48).sz = 13 from rfl, Nat.mul_one, Nat.add_zero] at hx13_10); have hf13_10 := hfr13 10; (try simp only [show (k48).sz = 13 from rfl, Nat.mul_one, Nat.add_zero] at hf13_10); have hx13_11 := hcc13 11 _ rfl; (try simp only [show (k48).sz = 13 from rfl, Nat.mul_one, Nat.add_zero] at hx13_11); have hf13_11 := hfr13 11; (try simp only [show (k48).sz = 13 from rfl, Nat.mul_one, Nat.add_zero] at hf13_11); have hx13_12 := hcc13 12 _ rfl; (try simp only [show (k48).sz = 13 from rfl, Nat.mul_one, Nat.add_zero] at hx13_12); have hf13_12 := hfr13 12; (try simp only [show (k48).sz = 13 from rfl, Nat.mul_one, Nat.add_zero] at hf13_12); clear hcl13 hcc13 hfr13 hM13 hoki13 hH13) | ((with_reducible refine gate_store (t := 48) (p := 32) rfl ?_); refine store_event (t := 48) (p := 32) (v := ?vo_w14) (w1 := (((((((((((((w12.setCell ⟨go11, (a1 : Int).toNat * 13, none⟩ (.int .i64 3)).setCell ⟨go11, (a1 : Int).toNat * 13 + 1, none⟩ (.int .i64 ((rd_T48 l0 a1).f1))).setCell ⟨go11, (a1 : Int).toNat * 13 + 2, none⟩ (.int .i64 0)).setCell ⟨go11, (a1 : Int).toNat * 13 + 3, none⟩ (.int .i64 0)).setCell ⟨go11, (a1 : Int).toNat * 13 + 4, none⟩ (.int .i64 0)).setCell ⟨go11, (a1 : Int).toNat * 13 + 5, none⟩ (.int .i64 0)).setCell ⟨go11, (a1 : Int).toNat * 13 + 6, none⟩ (.int .i64 0)).setCell ⟨go11, (a1 : Int).toNat * 13 + 7, none⟩ (.int .i64 0)).setCell ⟨go11, (a1 : Int).toNat * 13 + 8, none⟩ (.slice none 0 0)).setCell ⟨go11, (a1 : Int).toNat * 13 + 9, none⟩ (.int .i64 0)).setCell ⟨go11, (a1 : Int).toNat * 13 + 10, none⟩ (.int .i64 0)).setCell ⟨go11, (a1 : Int).toNat * 13 + 11, none⟩ (.slice none 0 0)).setCell ⟨go11, (a1 : Int).toNat * 13 + 12, none⟩ (.slice none 0 0))) ?hg ?ho ?hn ?hr ?_; (case ho => rfl); (case hg => rfl); (case hn => rfl); (case hr => first | (go_simp; done) | (go_simp; rfl)); intro w14 hw; have hg : w12.grownBy w14 (some go11) := (by rw [hw]; exact HP13.2); have hp_ : Kd.S k48 48 w14 w.heap.size (fun _ => True) (.slice (some ⟨go11, 0, none⟩) t558.length co11) y564 := (by rw [hw, Ny564.out]; exact HP13.1); clear HP13; replace HO560 := Aside0.mk (hp_); replace HB := Aside0.mk ((by rw [hw]; exact below_set (below_set (below_set (below_set (below_set (below_set (below_set (below_set (below_set (below_set (below_set (below_set (below_set (HB.out) GB11.out) GB11.out) GB11.out) GB11.out) GB11.out) GB11.out) GB11.out) GB11.out) GB11.out) GB11.out) GB11.out) GB11.out) GB11.out : Below w.heap.size w w14)); clear hg hw hp_))
  go_ret
  exact ⟨_, q73t, q59t, q53t⟩
 rw [if_neg c9] at H
 have c9b0 : decide (a2 ≤ ((rd_T48 l0 a1).f1)) = false := decide_eq_false c9
 clear c9
 replace H := Option.bind_eq_some_iff.mp H
 obtain ⟨⟨t566, t567, t568, t569, t570, t571, t572, t573, t574, t577, t578, t579, t582⟩, A150, H⟩ := H
 try dsimp only at H
 have A15 := Aside0.mk A150
 clear A150
 by_cases c16 : a1 < (t558.length : Int)
 rotate_left
 ·rw [if_neg c16] at H
  exact absurd H q87t
 rw [if_pos c16] at H
 have c16b0 : decide (a1 < (t558.length : Int)) = true := decide_eq_true c16
 clear c16
 obtain ⟨y585, hy585⟩ : ∃ y_ : List (S48), y_ = (t558.set (a1 : Int).toNat (⟨t566, t567, t568, t569, t570, t571, t572, t573, t574, t577, t578, t579, t582⟩ : S48)) := ⟨_, rfl⟩
 replace H : (some y585) = some r := by first | (rw [hy585]; with_reducible exact H) | (have H2_ := (Option.bind_some _ _).symm.trans H; rw [hy585]; with_reducible exact H2_) | (have H2_ := (Option.bind_some _ _).symm.trans H; with_reducible exact H2_) | with_reducible exact H | (rw [hy585]; exact H) | exact H
 have Ny585 := Aside0.mk hy585
 clear hy585
 obtain rfl := Option.some.inj H
 go_enter Try.func13, Try.ntmps13
 go_wp2_with (first | ((with_reducible refine gate_callee (f := 33) rfl ?_); refine goesL_ (some 9) rfl rfl Try.func33 (by kernel_rfl) rfl #[.slice A0 l0.length c0] rfl q51t ?_; (with_reducible refine (spec_l7All.calls k _ _ l0 t558 _ ?side1 ?side2 A4.out).mono ?_); (case side1 => repeat (first | exact HR0.out | (with_reducible refine Kd.C_alloc ?_ _) | (with_reducible refine Kd.C_drewN ?_ _) | (with_reducible refine Kd.C_drew ?_))); (case side2 => exact HC0.out); rintro e w18 ⟨v559, rfl, ho0, hb⟩; refine ⟨_, rfl, ?_⟩; have HO560 := Aside0.mk (Kd.S_lower ho0 (below_size q53t)); replace HB := Aside0.mk (below_step q53t hb); (try clear hb); (try clear hb2); (try clear hk); (try clear hi); (try clear ho0)) | ((with_reducible refine gate_callee (f := 35) rfl ?_); refine goesL_ (some 14) rfl rfl Try.func35 (by kernel_rfl) rfl #[.int .i64 a1, .int .i64 0, .int .i64 (wrap64 ((l0.length : Int) - 1))] rfl q51t ?_; (with_reducible refine (spec_l1In.calls a1 0 (wrap64 ((l0.length : Int) - 1)) true _ A5.out).mono ?_); rintro e w' ⟨rfl, ⟨nd, rfl⟩⟩; refine ⟨_, rfl, ?_⟩; (try (rw [drewN_self w18]; generalize hq_ : World.drewN w18 _ = w18; replace HO560 : Aside0 (Kd.S k48 48 w18 w.heap.size (fun _ => True) v559 t558) := ⟨by rw [← hq_]; exact q59t⟩; replace HB : Aside0 (Below w.heap.size w w18) := ⟨by rw [← hq_]; exact q53t⟩; clear hq_)); have p562 : 0 ≤ (a1 : Int) := of_decide_eq_true q76t; have q562 : a1 < (l0.length : Int) := of_decide_eq_true q76t; obtain ⟨ad562, A562_8, c562_8, A562_11, c562_11, A562_12, c562_12, e562, hx562_0, hx562_1, hx562_2, hx562_3, hx562_4, hx562_5, hx562_6, hx562_7, hx562_8, hx562_9, hx562_10, hx562_11, hx562_12, hl562_8, hi562_8, hl562_11, hi562_11, hl562_12, hi562_12⟩ := at_T48 HR0.out a1 p562 q562; cases e562; replace hx562_0 := hbt HB hx562_0; replace hx562_1 := hbt HB hx562_1; replace hx562_2 := hbt HB hx562_2; replace hx562_3 := hbt HB hx562_3; replace hx562_4 := hbt HB hx562_4; replace hx562_5 := hbt HB hx562_5; replace hx562_6 := hbt HB hx562_6; replace hx562_7 := hbt HB hx562_7; replace hx562_8 := hbt HB hx562_8; replace hx562_9 := hbt HB hx562_9; replace hx562_10 := hbt HB hx562_10; replace hx562_11 := hbt HB hx562_11; replace hx562_12 := hbt HB hx562_12; have HR562_8 := Aside0.mk hi562_8; have HC562_8 := Aside0.mk hl562_8; clear hi562_8 hl562_8; have HR562_11 := Aside0.mk hi562_11; have HC562_11 := Aside0.mk hl562_11; clear hi562_11 hl562_11; have HR562_12 := Aside0.mk hi562_12; have HC562_12 := Aside0.mk hl562_12; clear hi562_12 hl562_12; replace p562 := eq_true p562; replace q562 := eq_true q562; have p565 : 0 ≤ (a1 : Int) := of_decide_eq_true q76t; have q565 : a1 < (l0.length : Int) := of_decide_eq_true q76t; obtain ⟨ad565, A565_8, c565_8, A565_11, c565_11, A565_12, c565_12, e565, hx565_0, hx565_1, hx565_2, hx565_3, hx565_4, hx565_5, hx565_6, hx565_7, hx565_8, hx565_9, hx565_10, hx565_11, hx565_12, hl565_8, hi565_8, hl565_11, hi565_11, hl565_12, hi565_12⟩ := at_T48 HR0.out a1 p565 q565; obtain rfl : ad562 = ad565 := (by injection e565); replace hx565_0 := hbt HB hx565_0; replace hx565_1 := hbt HB hx565_1; replace hx565_2 := hbt HB hx565_2; replace hx565_3 := hbt HB hx565_3; replace hx565_4 := hbt HB hx565_4; replace hx565_5 := hbt HB hx565_5; replace hx565_6 := hbt HB hx565_6; replace hx565_7 := hbt HB hx565_7; replace hx565_8 := hbt HB hx565_8; replace hx565_9 := hbt HB hx565_9; replace hx565_10 := hbt HB hx565_10; replace hx565_11 := hbt HB hx565_11; replace hx565_12 := hbt HB hx565_12; have HR565_8 := Aside0.mk hi565_8; have HC565_8 := Aside0.mk hl565_8; clear hi565_8 hl565_8; have HR565_11 := Aside0.mk hi565_11; have HC565_11 := Aside0.mk hl565_11; clear hi565_11 hl565_11; have HR565_12 := Aside0.mk hi565_12; have HC565_12 := Aside0.mk hl565_12; clear hi565_12 hl565_12; replace p565 := eq_true p565; replace q565 := eq_true q565; have ea_ := Option.some.inj (hx562_8.symm.trans hx565_8); injection ea_ with ea_ en_ ec_; subst ea_; subst ec_; clear en_; have ea_ := Option.some.inj (hx562_11.symm.trans hx565_11); injection ea_ with ea_ en_ ec_; subst ea_; subst ec_; clear en_; have ea_ := Option.some.inj (hx562_12.symm.trans hx565_12); injection ea_ with ea_ en_ ec_; subst ea_; subst ec_; clear en_) | ((with_reducible refine gate_callee (f := 36) rfl ?_); refine goesL_ (some 41) rfl rfl Try.func36 (by kernel_rfl) rfl #[.int .i64 (wrap64 (((rd_T48 l0 a1).f1) + 1))] rfl q51t ?_; (with_reducible refine (spec_NodeNew.calls (wrap64 (((rd_T48 l0 a1).f1) + 1)) t566 t567 t568 t569 t570 t571 t572 t573 t574 t577 t578 t579 t582 _ A15.out).mono ?_); rintro e w19 ⟨v575, v580, v583, rfl, ho0, ho1, ho2, hb⟩; refine ⟨_, rfl, ?_⟩; replace HO560 := Aside0.mk (Kd.S_mono (Kd.S_told (Kd.S_told (Kd.S_told (Kd.S_old q59t hb) (Kd.R_base ho0)) (Kd.R_base ho1)) (Kd.R_base ho2)) (fun _ h_ => h_.1)); have HO576 := Aside0.mk (Kd.R_lower ho0 (below_size q53t)); have HO581 := Aside0.mk (Kd.R_lower ho1 (below_size q53t)); have HO584 := Aside0.mk (Kd.R_lower ho2 (below_size q53t)); replace HB := Aside0.mk (below_step q53t hb); (try clear hb); (try clear hb2); (try clear hk); (try clear hi); (try clear ho0); (try clear ho1); (try clear ho2); have p17 : 0 ≤ (a1 : Int) := of_decide_eq_true q76t; have q17 : (a1 : Int) < ((t558.length : Int) : Int) := of_decide_eq_true q76t; obtain ⟨go17, co17, eo17, gb17, gl17, cl17, HG17⟩ := Kd.S_form HO560.out q86t; (first | cases eo17 | (injection eo17 with ea_ en_ ec_; (first | subst ea_ | (injection ea_ with ea_; subst ea_)); subst ec_; clear en_)); have GB17 := Aside0.mk gb17; have GG17 := Aside0.mk HG17; clear gb17 gl17 HG17; obtain ⟨_, ce17, hcl17, hM17, hcc17, hfr17, _, _⟩ := Kd.S_elem HO560.out z48 (a1 : Int) p17 q17; obtain ⟨ve17_8, ve17_11, ve17_12, rfl, ge17_8, ge17_11, ge17_12⟩ := k48_openM hM17; have hx17_0 : w19.cell? ⟨go17, (a1 : Int).toNat * 13, none⟩ = some (.int .i64 ((rd_T48 t558 a1).f0)) := hcc17 0 _ rfl; have hx17_1 : w19.cell? ⟨go17, (a1 : Int).toNat * 13 + 1, none⟩ = some (.int .i64 ((rd_T48 t558 a1).f1)) := hcc17 1 _ rfl; have hx17_2 : w19.cell? ⟨go17, (a1 : Int).toNat * 13 + 2, none⟩ = some (.int .i64 ((rd_T48 t558 a1).f2)) := hcc17 2 _ rfl; have hx17_3 : w19.cell? ⟨go17, (a1 : Int).toNat * 13 + 3, none⟩ = some (.int .i64 ((rd_T48 t558 a1).f3)) := hcc17 3 _ rfl; have hx17_4 : w19.cell? ⟨go17, (a1 : Int).toNat * 13 + 4, none⟩ = some (.int .i64 ((rd_T48 t558 a1).f4)) := hcc17 4 _ rfl; have hx17_5 : w19.cell? ⟨go17, (a1 : Int).toNat * 13 + 5, none⟩ = some (.int .i64 ((rd_T48 t558 a1).f5)) := hcc17 5 _ rfl; have hx17_6 : w19.cell? ⟨go17, (a1 : Int).toNat * 13 + 6, none⟩ = some (.int .i64 ((rd_T48 t558 a1).f6)) := hcc17 6 _ rfl; have hx17_7 : w19.cell? ⟨go17, (a1 : Int).toNat * 13 + 7, none⟩ = some (.int .i64 ((rd_T48 t558 a1).f7)) := hcc17 7 _ rfl; have hx17_8 : w19.cell? ⟨go17, (a1 : Int).toNat * 13 + 8, none⟩ = some (ve17_8) := hcc17 8 _ rfl; have hx17_9 : w19.cell? ⟨go17, (a1 : Int).toNat * 13 + 9, none⟩ = some (.int .i64 ((rd_T48 t558 a1).f9)) := hcc17 9 _ rfl; have hx17_10 : w19.cell? ⟨go17, (a1 : Int).toNat * 13 + 10, none⟩ = some (.int .i64 ((rd_T48 t558 a1).f10)) := hcc17 10 _ rfl; have hx17_11 : w19.cell? ⟨go17, (a1 : Int).toNat * 13 + 11, none⟩ = some (ve17_11) := hcc17 11 _ rfl; have hx17_12 : w19.cell? ⟨go17, (a1 : Int).toNat * 13 + 12, none⟩ = some (ve17_12) := hcc17 12 _ rfl; have hf17_0 : w19.frozen? ⟨go17, (a1 : Int).toNat * 13, none⟩ = false := hfr17 0; have hf17_1 : w19.frozen? ⟨go17, (a1 : Int).toNat * 13 + 1, none⟩ = false := hfr17 1; have hf17_2 : w19.frozen? ⟨go17, (a1 : Int).toNat * 13 + 2, none⟩ = false := hfr17 2; have hf17_3 : w19.frozen? ⟨go17, (a1 : Int).toNat * 13 + 3, none⟩ = false := hfr17 3; have hf17_4 : w19.frozen? ⟨go17, (a1 : Int).toNat * 13 + 4, none⟩ = false := hfr17 4; have hf17_5 : w19.frozen? ⟨go17, (a1 : Int).toNat * 13 + 5, none⟩ = false := hfr17 5; have hf17_6 : w19.frozen? ⟨go17, (a1 : Int).toNat * 13 + 6, none⟩ = false := hfr17 6; have hf17_7 : w19.frozen? ⟨go17, (a1 : Int).toNat * 13 + 7, none⟩ = false := hfr17 7; have hf17_8 : w19.frozen? ⟨go17, (a1 : Int).toNat * 13 + 8, none⟩ = false := hfr17 8; have hf17_9 : w19.frozen? ⟨go17, (a1 : Int).toNat * 13 + 9, none⟩ = false := hfr17 9; have hf17_10 : w19.frozen? ⟨go17, (a1 : Int).toNat * 13 + 10, none⟩ = false := hfr17 10; have hf17_11 : w19.frozen? ⟨go17, (a1 : Int).toNat * 13 + 11, none⟩ = false := hfr17 11; have hf17_12 : w19.frozen? ⟨go17, (a1 : Int).toNat * 13 + 12, none⟩ = false := hfr17 12; clear hcl17 hcc17 hfr17 hM17; replace p17 := eq_true p17; replace q17 := eq_true q17; have n_ := Aside0.mk (Kd.S_mono (ok' := (fun k_ => some k_ ≠ (v575 : Value).ownBlock ∧ some k_ ≠ (v580 : Value).ownBlock ∧ some k_ ≠ (v583 : Value).ownBlock)) HO560.out (fun k_ hk => ⟨hk.1.1.2, ⟨hk.1.2, hk.2⟩⟩)); clear HO560; have HO560 := n_; clear n_; have HX20 := Aside0.mk (show Kd.S k48 48 w19 w.heap.size (fun k_ => ((fun _ => True)) k_ ∧ ¬ ((fun k_ => some k_ = (v575 : Value).ownBlock ∨ some k_ = (v580 : Value).ownBlock ∨ some k_ = (v583 : Value).ownBlock)) k_) (.slice (some ⟨go17, 0, none⟩) t558.length co17) t558 from (by (with_reducible repeat (first | apply Kd.S_alloc | apply Kd.S_drewN | apply Kd.S_drew)); exact Kd.S_mono HO560.out (fun k_ hk => ⟨trivial, fun e_ => e_.elim (fun h_ => hk.1 h_) (fun h_ => h_.elim (fun h_ => hk.2.1 h_) (fun h_ => hk.2.2 h_))⟩))); obtain ⟨oki20, ce20, hcl20, hM20, hcc20, hfr20, hoki20, hH20⟩ := Kd.S_elem HX20.out z48 (a1 : Int) (of_decide_eq_true q76t) (by have h_ : (a1 : Int) < ((t558.length : Int) : Int) := of_decide_eq_true q76t; first | exact h_ | (have e_ := (Kd.S_reads' HO560.out).1; omega) | simpa using h_); obtain ⟨ve20_8, ve20_11, ve20_12, rfl, ge20_8, ge20_11, ge20_12⟩ := k48_openM hM20; have HP20 := Kd.S_seg hH20 (of_decide_eq_true q76t) (by have h_ : (a1 : Int) < ((t558.length : Int) : Int) := of_decide_eq_true q76t; first | exact h_ | (have e_ := (Kd.S_reads' HO560.out).1; omega) | simpa using h_) (seg := [.int .i64 t566, .int .i64 t567, .int .i64 t568, .int .i64 t569, .int .i64 t570, .int .i64 t571, .int .i64 t572, .int .i64 t573, v575, .int .i64 t577, .int .i64 t578, v580, v583]) (j := 0) (show 13 ≤ 13 from by decide) (x' := (⟨t566, t567, t568, t569, t570, t571, t572, t573, t574, t577, t578, t579, t582⟩ : S48)) (k48_mkM _ _ _ (⟨t566, t567, t568, t569, t570, t571, t572, t573, t574, t577, t578, t579, t582⟩ : S48) (Kd.R_mono (Kd.R_tight rfl (Kd.R_mono (ok' := fun k_ => ((fun _ => True)) k_ ∧ k_ ≠ go17) (Kd.R_apart' (HO576.out) (Kd.S_typed HO560.out) q85t) (fun k_ hk => ⟨trivial, fun e_ => (hk.2) (by rw [e_]; rfl)⟩))) (fun _ h_ => Or.inr (Or.inl h_))) (Kd.R_mono (Kd.R_tight rfl (Kd.R_mono (ok' := fun k_ => ((fun _ => True)) k_ ∧ k_ ≠ go17) (Kd.R_apart' (HO581.out) (Kd.S_typed HO560.out) q85t) (fun k_ hk => ⟨trivial, fun e_ => (hk.2) (by rw [e_]; rfl)⟩))) (fun _ h_ => Or.inr (Or.inr (Or.inl h_)))) (Kd.R_mono (Kd.R_tight rfl (Kd.R_mono (ok' := fun k_ => ((fun _ => True)) k_ ∧ k_ ≠ go17) (Kd.R_apart' (HO584.out) (Kd.S_typed HO560.out) q85t) (fun k_ hk => ⟨trivial, fun e_ => (hk.2) (by rw [e_]; rfl)⟩))) (fun _ h_ => Or.inr (Or.inr (Or.inr (h_)))))) (fun _ hk => hk) (fun k_ hk_ => hk_.elim (fun h_ => ((Kd.R_mono (ok' := fun k_ => ((fun _ => True)) k_ ∧ k_ ≠ go17) (Kd.R_apart' (HO576.out) (Kd.S_typed HO560.out) q85t) (fun k_ hk => ⟨trivial, fun e_ => (hk.2) (by rw [e_]; rfl)⟩))).1 k_ h_.symm) (fun h_ => h_.elim (fun h_ => ((Kd.R_mono (ok' := fun k_ => ((fun _ => True)) k_ ∧ k_ ≠ go17) (Kd.R_apart' (HO581.out) (Kd.S_typed HO560.out) q85t) (fun k_ hk => ⟨trivial, fun e_ => (hk.2) (by rw [e_]; rfl)⟩))).1 k_ h_.symm) (fun h_ => ((Kd.R_mono (ok' := fun k_ => ((fun _ => True)) k_ ∧ k_ ≠ go17) (Kd.R_apart' (HO584.out) (Kd.S_typed HO560.out) q85t) (fun k_ hk => ⟨trivial, fun e_ => (hk.2) (by rw [e_]; rfl)⟩))).1 k_ h_.symm))); have hx20_0 := hcc20 0 _ rfl; (try simp only [show (k48).sz = 13 from rfl, Nat.mul_one, Nat.add_zero] at hx20_0); have hf20_0 := hfr20 0; (try simp only [show (k48).sz = 13 from rfl, Nat.mul_one, Nat.add_zero] at hf20_0); have hx20_1 := hcc20 1 _ rfl; (try simp only [show (k48).sz = 13 from rfl, Nat.mul_one, Nat.add_zero] at hx20_1); have hf20_1 := hfr20 1; (try simp only [show (k48).sz = 13 from rfl, Nat.mul_one, Nat.add_zero] at hf20_1); have hx20_2 := hcc20 2 _ rfl; (try simp only [show (k48).sz = 13 from rfl, Nat.mul_one, Nat.add_zero] at hx20_2); have hf20_2 := hfr20 2; (try simp only [show (k48).sz = 13 from rfl, Nat.mul_one, Nat.add_zero] at hf20_2); have hx20_3 := hcc20 3 _ rfl; (try simp only [show (k48).sz = 13 from rfl, Nat.mul_one, Nat.add_zero] at hx20_3); have hf20_3 := hfr20 3; (try simp only [show (k48).sz = 13 from rfl, Nat.mul_one, Nat.add_zero] at hf20_3); have hx20_4 := hcc20 4 _ rfl; (try simp only [show (k48).sz = 13 from rfl, Nat.mul_one, Nat.add_zero] at hx20_4); have hf20_4 := hfr20 4; (try simp only [show (k48).sz = 13 from rfl, Nat.mul_one, Nat.add_zero] at hf20_4); have hx20_5 := hcc20 5 _ rfl; (try simp only [show (k48).sz = 13 from rfl, Nat.mul_one, Nat.add_zero] at hx20_5); have hf20_5 := hfr20 5; (try simp only [show (k48).sz = 13 from rfl, Nat.mul_one, Nat.add_zero] at hf20_5); have hx20_6 := hcc20 6 _ rfl; (try simp only [show (k48).sz = 13 from rfl, Nat.mul_one, Nat.add_zero] at hx20_6); have hf20_6 := hfr20 6; (try simp only [show (k48).sz = 13 from rfl, Nat.mul_one, Nat.add_zero] at hf20_6); have hx20_7 := hcc20 7 _ rfl; (try simp only [show (k48).sz = 13 from rfl, Nat.mul_one, Nat.add_zero] at hx20_7); have hf20_7 := hfr20 7; (try simp only [show (k48).sz = 13 from rfl, Nat.mul_one, Nat.add_zero] at hf20_7); have hx20_8 := hcc20 8 _ rfl; (try simp only [show (k48).sz = 13 from rfl, Nat.mul_one, Nat.add_zero] at hx20_8); have hf20_8 := hfr20 8; (try simp only [show (k48).sz = 13 from rfl, Nat.mul_one, Nat.add_zero] at hf20_8); have hx20_9 := hcc20 9 _ rfl; (try simp only [show (k48).sz = 13 from rfl, Nat.mul_one, Nat.add_zero] at hx20_9); have hf20_9 := hfr20 9; (try simp only [show (k48).sz = 13 from rfl, Nat.mul_one, Nat.add_zero] at hf20_9); have hx20_10 := hcc20 10 _ rfl; (try simp only [show (k48).sz = 13 from rfl, Nat.mul_one, Nat.add_zero] at hx20_10); have hf20_10 := hfr20 10; (try simp only [show (k48).sz = 13 from rfl, Nat.mul_one, Nat.add_zero] at hf20_10); have hx20_11 := hcc20 11 _ rfl; (try simp only [show (k48).sz = 13 from rfl, Nat.mul_one, Nat.add_zero] at hx20_11); have hf20_11 := hfr20 11; (try simp only [show (k48).sz = 13 from rfl, Nat.mul_one, Nat.add_zero] at hf20_11); have hx20_12 := hcc20 12 _ rfl; (try simp only [show (k48).sz = 13 from rfl, Nat.mul_one, Nat.add_zero] at hx20_12); have hf20_12 := hfr20 12; (try simp only [show (k48).sz = 13 from rfl, Nat.mul_one, Nat.add_zero] at hf20_12); clear hcl20 hcc20 hfr20 hM20 hoki20 hH20) | ((with_reducible refine gate_store (t := 48) (p := 42) rfl ?_); refine store_event (t := 48) (p := 42) (v := ?vo_w21) (w1 := (((((((((((((w19.setCell ⟨go17, (a1 : Int).toNat * 13, none⟩ (.int .i64 t566)).setCell ⟨go17, (a1 : Int).toNat * 13 + 1, none⟩ (.int .i64 t567)).setCell ⟨go17, (a1 : Int).toNat * 13 + 2, none⟩ (.int .i64 t568)).setCell ⟨go17, (a1 : Int).toNat * 13 + 3, none⟩ (.int .i64 t569)).setCell ⟨go17, (a1 : Int).toNat * 13 + 4, none⟩ (.int .i64 t570)).setCell ⟨go17, (a1 : Int).toNat * 13 + 5, none⟩ (.int .i64 t571)).setCell ⟨go17, (a1 : Int).toNat * 13 + 6, none⟩ (.int .i64 t572)).setCell ⟨go17, (a1 : Int).toNat * 13 + 7, none⟩ (.int .i64 t573)).setCell ⟨go17, (a1 : Int).toNat * 13 + 8, none⟩ (v575)).setCell ⟨go17, (a1 : Int).toNat * 13 + 9, none⟩ (.int .i64 t577)).setCell ⟨go17, (a1 : Int).toNat * 13 + 10, none⟩ (.int .i64 t578)).setCell ⟨go17, (a1 : Int).toNat * 13 + 11, none⟩ (v580)).setCell ⟨go17, (a1 : Int).toNat * 13 + 12, none⟩ (v583))) ?hg ?ho ?hn ?hr ?_; (case ho => rfl); (case hg => rfl); (case hn => rfl); (case hr => first | (go_simp; done) | (go_simp; rfl) | (obtain ⟨A_575, c_575, e_575⟩ := Kd.R_slice HO576.out; obtain ⟨A_580, c_580, e_580⟩ := Kd.R_slice HO581.out; obtain ⟨A_583, c_583, e_583⟩ := Kd.R_slice HO584.out; subst e_575; subst e_580; subst e_583; first | (go_simp; done) | (go_simp; rfl))); intro w21 hw; have hg : w19.grownBy w21 (some go17) := (by rw [hw]; exact HP20.2); have hp_ : Kd.S k48 48 w21 w.heap.size (fun _ => True) (.slice (some ⟨go17, 0, none⟩) t558.length co17) y585 := (by rw [hw, Ny585.out]; exact HP20.1); clear HP20; replace HO560 := Aside0.mk (hp_); replace HB := Aside0.mk ((by rw [hw]; exact below_set (below_set (below_set (below_set (below_set (below_set (below_set (below_set (below_set (below_set (below_set (below_set (below_set (HB.out) GB17.out) GB17.out) GB17.out) GB17.out) GB17.out) GB17.out) GB17.out) GB17.out) GB17.out) GB17.out) GB17.out) GB17.out) GB17.out : Below w.heap.size w w21)); clear HO576 HO581 HO584; clear hg hw hp_))
 go_ret
 exact ⟨_, q73t, q59t, q53t⟩

end Go.Proofs.Ytofpmdgndegalab.QFnTables
