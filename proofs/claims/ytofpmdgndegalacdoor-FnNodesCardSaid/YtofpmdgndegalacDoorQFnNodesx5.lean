/- What the functions that the law FnNodes reaches compute, as plain functions, and that the code computes just that (by a program of this session's; the library's functions by hand). No condition. -/
import Derived.Test.YtofpmdgndegalacDoorQFnNodesx0
import Derived.Test.YtofpmdgndegalacDoorQFnNodesx2
import Derived.Test.YtofpmdgndegalacDoorQFnNodesx4
namespace Go.Proofs.YtofpmdgndegalacDoor.QFnNodes
open Go.RowKit Go.Proofs.YtofpmdgndegalacDoorW.PrintWords Go.Proofs.YtofpmdgndegalacDoorW.PrintLast Go.Proofs.YtofpmdgndegalacDoorW.PrintMore
attribute [local go_sem] max2_int min2_int max_two min_two max_three min_three max_four min_four   -- for this text's walks alone
set_option linter.unusedVariables false
set_option linter.unusedSimpArgs false

/-! ### spec_l7Any: function 24 -/
def spec_l7Any.j0 : Nat → List Int → Int → Int → Int → Int → Int → Int → Int → Int → Int → Int → List Int → Int → Int → List (S33) → List Int → Option (Int × Int × Int × Int × Int × Int × Int × Int × List Int × Int × Int × (List (S33)) × List Int × Int × Int)
 | 0, _, _, _, _, _, _, _, _, _, _, _, _, _, _, _, _ => none
 | k + 1, eJ, fE, fF, HP, HQ, HS, HT, HU, HV, HW, HX, HY, Ia, Ib, Ic, Id => some (HP, HQ, HS, HT, HU, HV, HW, HX, HY, Ia, Ib, Ic, Id, fE, fF)
def spec_l7Any.f (k : Nat) (ah : List Int) (a5 : Int) (a7 : Int) (aj : Int) (ai : Int) (ak : Int) (ap : Int) (aq : Int) (ao : Int) : Option (Int × Int × Int × Int × Int × Int × Int × Int × List Int × Int × Int × (List (S33)) × List Int × Int × Int) := (spec_l7Draw.f k ah a5 a7 aj ai ak ap aq ao).bind fun al => ((spec_l1Below.f ah al.2.2.2.2.2.2.2.2.2.2.2.2.2.1 al.2.2.2.2.2.2.2.2.2.2.2.2.2.2 14).bind fun bF => (if bF.1 = 0 then ((spec_l1Below.f ah bF.2.1 bF.2.2 6).bind fun oO => (spec_l7Any.j0 k ah oO.2.1 oO.2.2 (wrap64 (oO.1 - 1)) al.2.1 al.2.2.1 al.2.2.2.1 al.2.2.2.2.1 al.2.2.2.2.2.1 al.2.2.2.2.2.2.1 al.2.2.2.2.2.2.2.1 al.2.2.2.2.2.2.2.2.1 al.2.2.2.2.2.2.2.2.2.1 al.2.2.2.2.2.2.2.2.2.2.1 al.2.2.2.2.2.2.2.2.2.2.2.1 al.2.2.2.2.2.2.2.2.2.2.2.2.1)) else (if bF.1 = 1 then ((spec_l1Int.f ah bF.2.1 bF.2.2 (([0, 4, 5] : List Int))).bind fun j8 => (spec_l7Any.j0 k ah j8.2.1 j8.2.2 al.1 j8.1 al.2.2.1 al.2.2.2.1 al.2.2.2.2.1 al.2.2.2.2.2.1 al.2.2.2.2.2.2.1 al.2.2.2.2.2.2.2.1 al.2.2.2.2.2.2.2.2.1 al.2.2.2.2.2.2.2.2.2.1 al.2.2.2.2.2.2.2.2.2.2.1 al.2.2.2.2.2.2.2.2.2.2.2.1 al.2.2.2.2.2.2.2.2.2.2.2.2.1)) else (if bF.1 = 2 then ((spec_l1Int.f ah bF.2.1 bF.2.2 (([(-1), 1, 8, 9] : List Int))).bind fun j9 => (spec_l7Any.j0 k ah j9.2.1 j9.2.2 al.1 al.2.1 al.2.2.1 j9.1 al.2.2.2.2.1 al.2.2.2.2.2.1 al.2.2.2.2.2.2.1 al.2.2.2.2.2.2.2.1 al.2.2.2.2.2.2.2.2.1 al.2.2.2.2.2.2.2.2.2.1 al.2.2.2.2.2.2.2.2.2.2.1 al.2.2.2.2.2.2.2.2.2.2.2.1 al.2.2.2.2.2.2.2.2.2.2.2.2.1)) else (if bF.1 = 3 then ((spec_l1Int.f ah bF.2.1 bF.2.2 (([0, 12, (-1)] : List Int))).bind fun ka => (if al.2.2.2.2.2.2.2.2.1.length < 17592186044416 then (spec_l7Any.j0 k ah ka.2.1 ka.2.2 al.1 al.2.1 al.2.2.1 al.2.2.2.1 al.2.2.2.2.1 al.2.2.2.2.2.1 al.2.2.2.2.2.2.1 al.2.2.2.2.2.2.2.1 (al.2.2.2.2.2.2.2.2.1 ++ [ka.1]) al.2.2.2.2.2.2.2.2.2.1 al.2.2.2.2.2.2.2.2.2.2.1 al.2.2.2.2.2.2.2.2.2.2.2.1 al.2.2.2.2.2.2.2.2.2.2.2.2.1) else (none))) else (if bF.1 = 4 then ((spec_l1Below.f ah bF.2.1 bF.2.2 4).bind fun oP => (spec_l7Any.j0 k ah oP.2.1 oP.2.2 al.1 al.2.1 al.2.2.1 al.2.2.2.1 al.2.2.2.2.1 al.2.2.2.2.2.1 al.2.2.2.2.2.2.1 al.2.2.2.2.2.2.2.1 al.2.2.2.2.2.2.2.2.1 oP.1 al.2.2.2.2.2.2.2.2.2.2.1 al.2.2.2.2.2.2.2.2.2.2.2.1 al.2.2.2.2.2.2.2.2.2.2.2.2.1)) else (if bF.1 = 5 then ((spec_l1Int.f ah bF.2.1 bF.2.2 (([0, 8, 17, (-1)] : List Int))).bind fun kb => (spec_l7Any.j0 k ah kb.2.1 kb.2.2 al.1 al.2.1 al.2.2.1 al.2.2.2.1 al.2.2.2.2.1 al.2.2.2.2.2.1 al.2.2.2.2.2.2.1 al.2.2.2.2.2.2.2.1 al.2.2.2.2.2.2.2.2.1 al.2.2.2.2.2.2.2.2.2.1 kb.1 al.2.2.2.2.2.2.2.2.2.2.2.1 al.2.2.2.2.2.2.2.2.2.2.2.2.1)) else (if bF.1 = 6 then ((spec_l1Int.f ah bF.2.1 bF.2.2 (([255, 256, (-1)] : List Int))).bind fun kc => (if al.2.2.2.2.2.2.2.2.2.2.2.2.1.length < 17592186044416 then (spec_l7Any.j0 k ah kc.2.1 kc.2.2 al.1 al.2.1 al.2.2.1 al.2.2.2.1 al.2.2.2.2.1 al.2.2.2.2.2.1 al.2.2.2.2.2.2.1 al.2.2.2.2.2.2.2.1 al.2.2.2.2.2.2.2.2.1 al.2.2.2.2.2.2.2.2.2.1 al.2.2.2.2.2.2.2.2.2.2.1 al.2.2.2.2.2.2.2.2.2.2.2.1 (al.2.2.2.2.2.2.2.2.2.2.2.2.1 ++ [kc.1])) else (none))) else (if bF.1 = 7 then ((spec_l1Below.f ah bF.2.1 bF.2.2 100).bind fun oQ => ((spec_l1Below.f ah oQ.2.1 oQ.2.2 20).bind fun oR => ((spec_l1Below.f ah oR.2.1 oR.2.2 3).bind fun oS => (if al.2.2.2.2.2.2.2.2.2.2.2.1.length < 5864062014805 then (spec_l7Any.j0 k ah oS.2.1 oS.2.2 al.1 al.2.1 al.2.2.1 al.2.2.2.1 al.2.2.2.2.1 al.2.2.2.2.2.1 al.2.2.2.2.2.2.1 al.2.2.2.2.2.2.2.1 al.2.2.2.2.2.2.2.2.1 al.2.2.2.2.2.2.2.2.2.1 al.2.2.2.2.2.2.2.2.2.2.1 (al.2.2.2.2.2.2.2.2.2.2.2.1 ++ [(⟨oQ.1, oR.1, oS.1⟩ : S33)]) al.2.2.2.2.2.2.2.2.2.2.2.2.1) else (none))))) else (spec_l7Any.j0 k ah bF.2.1 bF.2.2 al.1 al.2.1 al.2.2.1 al.2.2.2.1 al.2.2.2.2.1 al.2.2.2.2.2.1 al.2.2.2.2.2.2.1 al.2.2.2.2.2.2.2.1 al.2.2.2.2.2.2.2.2.1 al.2.2.2.2.2.2.2.2.2.1 al.2.2.2.2.2.2.2.2.2.2.1 al.2.2.2.2.2.2.2.2.2.2.2.1 al.2.2.2.2.2.2.2.2.2.2.2.2.1))))))))))
def spec_l7Any.T10 : Bool × List (List Nat × List Nat) := (true, [([], []), ([0], [0]), ([], []), ([], []), ([2, 3], [2, 3]), ([4], [4]), ([1, 5, 4], [1, 5]), ([0, 1, 2, 3, 4, 5, 6], []), ([7, 6, 6, 0, 1, 2, 3, 4, 5, 6], [6, 7])])
def spec_l7Any.B10 : List Nat := [0, 1, 0, 0, 12, 28, 63, 127, 255]
theorem spec_l7Any.tab10 : rtab .any (opsOf Tryd.f24 10) = spec_l7Any.T10 := by kernel_rfl
theorem spec_l7Any.bits10 : waitsOk spec_l7Any.T10.2 spec_l7Any.B10 = true := by kernel_rfl
def spec_l7Any.T16 : Bool × List (List Nat × List Nat) := (true, [([], []), ([0], [0]), ([], []), ([], []), ([2, 3], [2, 3]), ([4], [4]), ([1, 5, 4], [1, 5]), ([0, 1, 2, 3, 4, 5, 6], []), ([7, 6, 6, 0, 1, 2, 3, 4, 5, 6], [6, 7])])
def spec_l7Any.B16 : List Nat := [0, 1, 0, 0, 12, 28, 63, 127, 255]
theorem spec_l7Any.tab16 : rtab .any (opsOf Tryd.f24 16) = spec_l7Any.T16 := by kernel_rfl
theorem spec_l7Any.bits16 : waitsOk spec_l7Any.T16.2 spec_l7Any.B16 = true := by kernel_rfl
def spec_l7Any.T18 : Bool × List (List Nat × List Nat) := (true, [([], []), ([0], [0]), ([], []), ([2], [2]), ([], []), ([4, 3], [4]), ([], []), ([6, 5], [6]), ([3, 5, 7], [3, 5, 7]), ([8], [8]), ([1, 9, 7], [1, 9]), ([0, 1, 2, 3, 4, 5, 6, 7, 8, 9, 10], []), ([11, 10, 10, 0, 1, 2, 3, 4, 5, 6, 7, 8, 9, 10], [10, 11])])
def spec_l7Any.B18 : List Nat := [0, 1, 0, 4, 0, 28, 0, 124, 252, 508, 1023, 2047, 4095]
theorem spec_l7Any.tab18 : rtab .any (opsOf Tryd.f24 18) = spec_l7Any.T18 := by kernel_rfl
theorem spec_l7Any.bits18 : waitsOk spec_l7Any.T18.2 spec_l7Any.B18 = true := by kernel_rfl
set_option maxHeartbeats 8000000 in
set_option maxRecDepth 100000 in
theorem spec_l7Any.calls (k : Nat) (g : Nat) (ah : List Int) (a5 : Int) (a7 : Int) (aj : Int) (ai : Int) (ak : Int) (ap : Int) (aq : Int) (ao : Int) (r1 : Int) (r2 : Int) (r3 : Int) (r4 : Int) (r5 : Int) (r6 : Int) (r7 : Int) (r8 : Int) (r9 : List Int) (r10 : Int) (r11 : Int) (r12 : List (S33)) (r13 : List Int) (r14 : Int) (r15 : Int) (w0 w : World) (hI : IsS69 w0 w g ah a5 a7) (hB : Below w0.heap.size w0 w) (h : spec_l7Any.f k ah a5 a7 aj ai ak ap aq ao = some (r1, r2, r3, r4, r5, r6, r7, r8, r9, r10, r11, r12, r13, r14, r15)) :
  Calls Tryd.prog 24 #[.pointer (some ⟨g, 0, none⟩), .agg #[aj, ai, ak, ap, aq, ao]] w fun e w' => ∃ v8_ v11_ v12_ : Value, e = .returned (.agg #[r1, r2, r3, r4, r5, r6, r7, r8, v8_, r10, r11, v11_, v12_]) ∧ Kd.R (Kd.int .i64) 3 w' w.heap.size (fun k_ => some k_ ≠ (v12_ : Value).ownBlock) v8_ r9 ∧ Kd.R k33 33 w' w.heap.size (fun _ => True) v11_ r12 ∧ Kd.R (Kd.int .i64) 3 w' w.heap.size (fun k_ => some k_ ≠ (v8_ : Value).ownBlock) v12_ r13 ∧ IsS69 w0 w' g ah r14 r15 ∧ Below w0.heap.size w0 w' ∧ KeepBut w w' g none := by
 have hu25 := Tryd.underlying25
 have hu29 := Tryd.underlying29
 have hu33 := Tryd.underlying33
 have HI0 := Aside0.mk hI
 have HK := am (KeepBut.refl w g none)
 have HL := Aside0.mk hB.size
 clear hI
 have HW0 := Aside0.mk hB.size
 have HB := Aside0.mk hB
 clear hB
 have H : ((spec_l7Draw.f k ah a5 a7 aj ai ak ap aq ao).bind fun al => ((spec_l1Below.f ah al.2.2.2.2.2.2.2.2.2.2.2.2.2.1 al.2.2.2.2.2.2.2.2.2.2.2.2.2.2 14).bind fun bF => (if bF.1 = 0 then ((spec_l1Below.f ah bF.2.1 bF.2.2 6).bind fun oO => (spec_l7Any.j0 k ah oO.2.1 oO.2.2 (wrap64 (oO.1 - 1)) al.2.1 al.2.2.1 al.2.2.2.1 al.2.2.2.2.1 al.2.2.2.2.2.1 al.2.2.2.2.2.2.1 al.2.2.2.2.2.2.2.1 al.2.2.2.2.2.2.2.2.1 al.2.2.2.2.2.2.2.2.2.1 al.2.2.2.2.2.2.2.2.2.2.1 al.2.2.2.2.2.2.2.2.2.2.2.1 al.2.2.2.2.2.2.2.2.2.2.2.2.1)) else (if bF.1 = 1 then ((spec_l1Int.f ah bF.2.1 bF.2.2 (([0, 4, 5] : List Int))).bind fun j8 => (spec_l7Any.j0 k ah j8.2.1 j8.2.2 al.1 j8.1 al.2.2.1 al.2.2.2.1 al.2.2.2.2.1 al.2.2.2.2.2.1 al.2.2.2.2.2.2.1 al.2.2.2.2.2.2.2.1 al.2.2.2.2.2.2.2.2.1 al.2.2.2.2.2.2.2.2.2.1 al.2.2.2.2.2.2.2.2.2.2.1 al.2.2.2.2.2.2.2.2.2.2.2.1 al.2.2.2.2.2.2.2.2.2.2.2.2.1)) else (if bF.1 = 2 then ((spec_l1Int.f ah bF.2.1 bF.2.2 (([(-1), 1, 8, 9] : List Int))).bind fun j9 => (spec_l7Any.j0 k ah j9.2.1 j9.2.2 al.1 al.2.1 al.2.2.1 j9.1 al.2.2.2.2.1 al.2.2.2.2.2.1 al.2.2.2.2.2.2.1 al.2.2.2.2.2.2.2.1 al.2.2.2.2.2.2.2.2.1 al.2.2.2.2.2.2.2.2.2.1 al.2.2.2.2.2.2.2.2.2.2.1 al.2.2.2.2.2.2.2.2.2.2.2.1 al.2.2.2.2.2.2.2.2.2.2.2.2.1)) else (if bF.1 = 3 then ((spec_l1Int.f ah bF.2.1 bF.2.2 (([0, 12, (-1)] : List Int))).bind fun ka => (if al.2.2.2.2.2.2.2.2.1.length < 17592186044416 then (spec_l7Any.j0 k ah ka.2.1 ka.2.2 al.1 al.2.1 al.2.2.1 al.2.2.2.1 al.2.2.2.2.1 al.2.2.2.2.2.1 al.2.2.2.2.2.2.1 al.2.2.2.2.2.2.2.1 (al.2.2.2.2.2.2.2.2.1 ++ [ka.1]) al.2.2.2.2.2.2.2.2.2.1 al.2.2.2.2.2.2.2.2.2.2.1 al.2.2.2.2.2.2.2.2.2.2.2.1 al.2.2.2.2.2.2.2.2.2.2.2.2.1) else (none))) else (if bF.1 = 4 then ((spec_l1Below.f ah bF.2.1 bF.2.2 4).bind fun oP => (spec_l7Any.j0 k ah oP.2.1 oP.2.2 al.1 al.2.1 al.2.2.1 al.2.2.2.1 al.2.2.2.2.1 al.2.2.2.2.2.1 al.2.2.2.2.2.2.1 al.2.2.2.2.2.2.2.1 al.2.2.2.2.2.2.2.2.1 oP.1 al.2.2.2.2.2.2.2.2.2.2.1 al.2.2.2.2.2.2.2.2.2.2.2.1 al.2.2.2.2.2.2.2.2.2.2.2.2.1)) else (if bF.1 = 5 then ((spec_l1Int.f ah bF.2.1 bF.2.2 (([0, 8, 17, (-1)] : List Int))).bind fun kb => (spec_l7Any.j0 k ah kb.2.1 kb.2.2 al.1 al.2.1 al.2.2.1 al.2.2.2.1 al.2.2.2.2.1 al.2.2.2.2.2.1 al.2.2.2.2.2.2.1 al.2.2.2.2.2.2.2.1 al.2.2.2.2.2.2.2.2.1 al.2.2.2.2.2.2.2.2.2.1 kb.1 al.2.2.2.2.2.2.2.2.2.2.2.1 al.2.2.2.2.2.2.2.2.2.2.2.2.1)) else (if bF.1 = 6 then ((spec_l1Int.f ah bF.2.1 bF.2.2 (([255, 256, (-1)] : List Int))).bind fun kc => (if al.2.2.2.2.2.2.2.2.2.2.2.2.1.length < 17592186044416 then (spec_l7Any.j0 k ah kc.2.1 kc.2.2 al.1 al.2.1 al.2.2.1 al.2.2.2.1 al.2.2.2.2.1 al.2.2.2.2.2.1 al.2.2.2.2.2.2.1 al.2.2.2.2.2.2.2.1 al.2.2.2.2.2.2.2.2.1 al.2.2.2.2.2.2.2.2.2.1 al.2.2.2.2.2.2.2.2.2.2.1 al.2.2.2.2.2.2.2.2.2.2.2.1 (al.2.2.2.2.2.2.2.2.2.2.2.2.1 ++ [kc.1])) else (none))) else (if bF.1 = 7 then ((spec_l1Below.f ah bF.2.1 bF.2.2 100).bind fun oQ => ((spec_l1Below.f ah oQ.2.1 oQ.2.2 20).bind fun oR => ((spec_l1Below.f ah oR.2.1 oR.2.2 3).bind fun oS => (if al.2.2.2.2.2.2.2.2.2.2.2.1.length < 5864062014805 then (spec_l7Any.j0 k ah oS.2.1 oS.2.2 al.1 al.2.1 al.2.2.1 al.2.2.2.1 al.2.2.2.2.1 al.2.2.2.2.2.1 al.2.2.2.2.2.2.1 al.2.2.2.2.2.2.2.1 al.2.2.2.2.2.2.2.2.1 al.2.2.2.2.2.2.2.2.2.1 al.2.2.2.2.2.2.2.2.2.2.1 (al.2.2.2.2.2.2.2.2.2.2.2.1 ++ [(⟨oQ.1, oR.1, oS.1⟩ : S33)]) al.2.2.2.2.2.2.2.2.2.2.2.2.1) else (none))))) else (spec_l7Any.j0 k ah bF.2.1 bF.2.2 al.1 al.2.1 al.2.2.1 al.2.2.2.1 al.2.2.2.2.1 al.2.2.2.2.2.1 al.2.2.2.2.2.2.1 al.2.2.2.2.2.2.2.1 al.2.2.2.2.2.2.2.2.1 al.2.2.2.2.2.2.2.2.2.1 al.2.2.2.2.2.2.2.2.2.2.1 al.2.2.2.2.2.2.2.2.2.2.2.1 al.2.2.2.2.2.2.2.2.2.2.2.2.1))))))))))) = some (r1, r2, r3, r4, r5, r6, r7, r8, r9, r10, r11, r12, r13, r14, r15) := h
 clear h
 obtain ⟨⟨eZ, fg, gR, fh, gS, gT, gU, gV, db, e1, fi, dr, dc, oT, oU⟩, A3, H⟩ := bnd H
 try dsimp only at H
 obtain ⟨⟨cn, b8, b9⟩, A4, H⟩ := bnd H
 try dsimp only at H
 have wR := Aside0.mk H
 clear H
 go_enter Tryd.func24, Tryd.ntmps24
 go_upto_block 0 with (first | ((with_reducible refine gate_dst (N := 3) rfl ?_); refine box_ev 3 #[aj, ai, ak, ap, aq, ao] 25 ?_; intro kd hg w6 hbox hb; replace HB := am (below_step q60t hb); have be := am (hbox); have vI := am ((q46t : w.heap.size ≤ kd)); have Pr := am ((Nat.le_trans HW0.out (q46t : w.heap.size ≤ kd) : w0.heap.size ≤ kd)); replace HK := am (KeepBut.trans q64t (KeepBut.of_below hb g none) (.inl rfl)); have Ie := am ((q18t : g ≠ kd)); have iI := am ((q19t : kd ≠ g)); replace HI0 := am (IsS69.below q61t hb); clear hb hbox hg) | ((with_reducible refine gate_dst (N := 4) rfl ?_); refine box_ev 4 #[.int .i64 0, .int .i64 0, .int .i64 0, .int .i64 0, .int .i64 0, .int .i64 0, .int .i64 0, .int .i64 0, .slice none 0 0, .int .i64 0, .int .i64 0, .slice none 0 0, .slice none 0 0] 29 ?_; intro js hg w7 hbox hb; replace HB := am (below_step q38t hb); have bf := am (hbox); have AK := am ((by rw [hg]; exact (keep_size (w := w) (g := g) (row := none) q52t) : w.heap.size ≤ js)); have Ps := am ((Nat.le_trans HW0.out (by rw [hg]; exact (keep_size (w := w) (g := g) (row := none) q52t) : w.heap.size ≤ js) : w0.heap.size ≤ js)); replace HK := am (KeepBut.trans q52t (KeepBut.of_below hb g none) (.inl rfl)); have BV := am ((by rw [hg]; exact Nat.ne_of_lt (blk_lt (qbk be)) : kd ≠ js)); have BX := am ((by rw [hg]; exact Nat.ne_of_gt (blk_lt (qbk be)) : js ≠ kd)); replace be := blb be hb; have If := am ((q12t : g ≠ js)); have iJ := am ((q13t : js ≠ g)); replace HI0 := am (IsS69.below q39t hb); clear hb hbox hg; have Ig := BV.out; have Ih := BX.out; have vZ := iI.out; have wa := Ie.out; have wS := qc6 be.out; have wT := qf6 be.out) | ((with_reducible refine gate_callee (f := 51) rfl ?_); refine goesL_ (some 8) rfl rfl Tryd.func51 (by kernel_rfl) rfl #[.pointer (some ⟨g, 0, none⟩), .agg #[aj, ai, ak, ap, aq, ao]] rfl q66t ?_; (with_reducible refine (spec_l7Draw.calls k g ah a5 a7 aj ai ak ap aq ao eZ fg gR fh gS gT gU gV db e1 fi dr dc oT oU w0 _ ?side1 ?side2 A3.out).mono ?_); (case side1 => repeat (first | (with_reducible first | exact HI0.out | apply IsS69.alloc | apply IsS69.drewN | apply IsS69.drew | apply IsS69.set_1 | apply IsS69.set_2 | refine IsS69.far ?_ (Aside0.out q123t) _) | exact HI0.out)); (case side2 => repeat (first | (with_reducible first | exact HB.out | apply below_alloc | apply pw_below_drewN | apply below_drew1 | refine below_set ?_ (IsS69.ge HI0.out) | refine below_set ?_ (Aside0.out q123t)) | exact HB.out)); rintro e w11 ⟨v243, v248, v251, rfl, ho0, ho1, ho2, hi, hb, hk⟩; refine ⟨_, rfl, ?_⟩; replace be := kbb be hk iI.out q126t; replace bf := kbb bf hk iJ.out q126t; have cl := am (Kd.R_lower ho0 (keep_size (w := w) (g := g) (row := none) q44t)); have cF := am (Kd.R_lower ho1 (keep_size (w := w) (g := g) (row := none) q44t)); have cm := am (Kd.R_lower ho2 (keep_size (w := w) (g := g) (row := none) q44t)); replace HK := am (KeepBut.trans q44t hk (.inl rfl)); replace HB := am (hb); replace HI0 := am (hi); (try clear hb); (try clear hb2); (try clear hk); (try clear hi); (try clear ho0); (try clear ho1); (try clear ho2)) | ((with_reducible refine gate_dst (N := 5) rfl ?_); refine box_ev 5 #[.int .i64 0, .int .i64 0, .int .i64 0, .int .i64 0, .int .i64 0, .int .i64 0, .int .i64 0, .int .i64 0, .slice none 0 0, .int .i64 0, .int .i64 0, .slice none 0 0, .slice none 0 0] 29 ?_; intro bI hg w12 hbox hb; replace cl := am (Kd.R_below q85t hb); replace cF := am (Kd.R_below q86t hb); replace cm := am (Kd.R_below q87t hb); replace HB := am (below_step q38t hb); have aV := am (hbox); have F1 := am ((by rw [hg]; exact (keep_size (w := w) (g := g) (row := none) q44t) : w.heap.size ≤ bI)); have Pt := am ((Nat.le_trans HW0.out (by rw [hg]; exact (keep_size (w := w) (g := g) (row := none) q44t) : w.heap.size ≤ bI) : w0.heap.size ≤ bI)); replace HK := am (KeepBut.trans q44t (KeepBut.of_below hb g none) (.inl rfl)); have kO := am ((by rw [hg]; exact Nat.ne_of_lt (blk_lt (qbk be)) : kd ≠ bI)); have kP := am ((by rw [hg]; exact Nat.ne_of_gt (blk_lt (qbk be)) : bI ≠ kd)); replace be := blb be hb; have kQ := am ((by rw [hg]; exact Nat.ne_of_lt (blk_lt (qbk bf)) : js ≠ bI)); have kR := am ((by rw [hg]; exact Nat.ne_of_gt (blk_lt (qbk bf)) : bI ≠ js)); replace bf := blb bf hb; have oV := am ((by rw [hg]; exact Nat.ne_of_lt (IsS69.lt (show IsS69 w0 _ g ah oT oU from by repeat (first | (with_reducible first | exact HI0.out | apply IsS69.alloc | apply IsS69.drewN | apply IsS69.drew | apply IsS69.set_1 | apply IsS69.set_2 | refine IsS69.far ?_ (Aside0.out q123t) _) | exact HI0.out))) : g ≠ bI)); have fG := am ((by rw [hg]; exact Nat.ne_of_gt (IsS69.lt (show IsS69 w0 _ g ah oT oU from by repeat (first | (with_reducible first | exact HI0.out | apply IsS69.alloc | apply IsS69.drewN | apply IsS69.drew | apply IsS69.set_1 | apply IsS69.set_2 | refine IsS69.far ?_ (Aside0.out q123t) _) | exact HI0.out))) : bI ≠ g)); replace HI0 := am (IsS69.below q39t hb); clear hb hbox hg; have wU := kP.out; have wV := kO.out; have wW := kR.out; have wX := kQ.out; have wY := fG.out; have wZ := oV.out; have lZ := qc13 aV.out; have l3 := qf13 aV.out; obtain ⟨bz, bA, rf⟩ := Kd.R_slice cl.out; subst rf; obtain ⟨gH, gI, vS⟩ := Kd.R_slice cF.out; subst vS; obtain ⟨gW, gX, Ii⟩ := Kd.R_slice cm.out; subst Ii) | ((with_reducible refine gate_callee (f := 26) rfl ?_); refine goesL_ (some 10) rfl rfl Tryd.func26 (by kernel_rfl) rfl #[.pointer (some ⟨g, 0, none⟩), .int .i64 14] rfl q66t ?_; (with_reducible refine (spec_l1Below.calls g ah oT oU 14 cn b8 b9 w0 _ ?side1 ?side2 A4.out).mono ?_); (case side1 => repeat (first | (with_reducible first | exact HI0.out | apply IsS69.alloc | apply IsS69.drewN | apply IsS69.drew | apply IsS69.set_1 | apply IsS69.set_2 | refine IsS69.far ?_ (Aside0.out q123t) _) | exact HI0.out)); (case side2 => repeat (first | (with_reducible first | exact HB.out | apply below_alloc | apply pw_below_drewN | apply below_drew1 | refine below_set ?_ (IsS69.ge HI0.out) | refine below_set ?_ (Aside0.out q123t)) | exact HB.out)); rintro e w20 ⟨rfl, hi, hb, hk⟩; refine ⟨_, rfl, ?_⟩; replace be := am (KeepBut.blk hk (g' := kd) (o := .cells #[aj, ai, ak, ap, aq, ao] 25 (0, 0)) (qbf be) iI.out q126t); replace bf := am (KeepBut.blk hk (g' := js) (o := .cells #[.int .i64 0, .int .i64 0, .int .i64 0, .int .i64 0, .int .i64 0, .int .i64 0, .int .i64 0, .int .i64 0, .slice none 0 0, .int .i64 0, .int .i64 0, .slice none 0 0, .slice none 0 0] 29 (0, 0)) (qbf bf) iJ.out q126t); replace cl := am (Kd.R_mono (Kd.R_keep (IsS69.apart (show IsS69 w0 _ g ah oT oU from by repeat (first | (with_reducible first | exact HI0.out | apply IsS69.alloc | apply IsS69.drewN | apply IsS69.drew | apply IsS69.set_1 | apply IsS69.set_2 | refine IsS69.far ?_ (Aside0.out q123t) _) | exact HI0.out)) (by (with_reducible repeat (first | apply Kd.R_alloc | apply Kd.R_drewN | apply Kd.R_drew)); exact (Kd.R_mono (rk13 (Kd.R_types cl.out aV.out q125t)) (fun _ h_ => h_.1))) q125t) hk (fun _ h => h.2)) (fun _ h => h.1)); replace cF := am (Kd.R_mono (Kd.R_keep (IsS69.apart (show IsS69 w0 _ g ah oT oU from by repeat (first | (with_reducible first | exact HI0.out | apply IsS69.alloc | apply IsS69.drewN | apply IsS69.drew | apply IsS69.set_1 | apply IsS69.set_2 | refine IsS69.far ?_ (Aside0.out q123t) _) | exact HI0.out)) (by (with_reducible repeat (first | apply Kd.R_alloc | apply Kd.R_drewN | apply Kd.R_drew)); exact (Kd.R_mono (rk13 (Kd.R_types cF.out aV.out q125t)) (fun _ h_ => h_.1))) q125t) hk (fun _ h => h.2)) (fun _ h => h.1)); replace cm := am (Kd.R_mono (Kd.R_keep (IsS69.apart (show IsS69 w0 _ g ah oT oU from by repeat (first | (with_reducible first | exact HI0.out | apply IsS69.alloc | apply IsS69.drewN | apply IsS69.drew | apply IsS69.set_1 | apply IsS69.set_2 | refine IsS69.far ?_ (Aside0.out q123t) _) | exact HI0.out)) (by (with_reducible repeat (first | apply Kd.R_alloc | apply Kd.R_drewN | apply Kd.R_drew)); exact (Kd.R_mono (rk13 (Kd.R_types cm.out aV.out q125t)) (fun _ h_ => h_.1))) q125t) hk (fun _ h => h.2)) (fun _ h => h.1)); replace aV := kbp aV hk fG.out q126t; replace HK := am (KeepBut.trans q30t hk (.inl rfl)); replace HB := am (hb); replace HI0 := am (hi); (try clear hb); (try clear hb2); (try clear hk); (try clear hi)))
 (try simp only [Act.put, List.setIfInBounds_toArray, List.set_cons_zero, List.set_cons_succ])
 go_cut [] (fun wc => ∃ (kq : Nat) (j6 : Int) (j7 : Int) (t4 : Int) (t5 : Int) (t6 : Int) (t7 : List Int) (t8 : Int) (t9 : Int) (ua : List (S33)) (ub : List Int) (u256008 : Value) (u256011 : Value) (u256012 : Value), Aside0 (spec_l7Any.j0 kq ah j6 j7 t4 t5 gR t6 gS gT gU gV t7 t8 t9 ua ub = some (r1, r2, r3, r4, r5, r6, r7, r8, r9, r10, r11, r12, r13, r14, r15)) ∧ Aside0 (kq ≤ k) ∧ Aside0 (Kd.R (Kd.int .i64) 3 wc w.heap.size (fun k_ => some k_ ≠ (u256012 : Value).ownBlock) u256008 t7) ∧ Aside0 (Kd.R k33 33 wc w.heap.size (fun _ => True) u256011 ua) ∧ Aside0 (Kd.R (Kd.int .i64) 3 wc w.heap.size (fun k_ => some k_ ≠ (u256008 : Value).ownBlock) u256012 ub) ∧ Aside0 (wc.heap[kd]? = some (.cells #[aj, ai, ak, ap, aq, ao] 25 (0, 0))) ∧ Aside0 (wc.heap[js]? = some (.cells #[.int .i64 0, .int .i64 0, .int .i64 0, .int .i64 0, .int .i64 0, .int .i64 0, .int .i64 0, .int .i64 0, (.slice none 0 0), .int .i64 0, .int .i64 0, (.slice none 0 0), (.slice none 0 0)] 29 (0, 0))) ∧ Aside0 (wc.heap[bI]? = some (.cells #[t4, t5, gR, t6, gS, gT, gU, gV, u256008, t8, t9, u256011, u256012] 29 (0, 0))) ∧ Aside0 (IsS69 w0 wc g ah j6 j7) ∧ Aside0 (KeepBut w wc g none) ∧ Aside0 (Below w0.heap.size w0 wc))
 case first =>
  have H := wR.out
  clear wR
  by_cases c21 : cn = 0
  ·rw [if_pos c21] at H
   have kS : (cn == 0) = true := beq_iff_eq.mpr c21
   have pN : (cn != 0) = false := bne_eq_false_iff_eq.mpr c21
   clear c21
   (first | rw [kS] | (simp only [i64_w, i32_w]; rw [kS]) | skip)
   obtain ⟨⟨BY, BZ, B0⟩, qM, H⟩ := bnd H
   try dsimp only at H
   have H' := Aside0.mk H
   clear H
   go_wp2_with (first | ((with_reducible refine gate_callee (f := 26) rfl ?_); refine goesL_ (some 14) rfl rfl Tryd.func26 (by kernel_rfl) rfl #[.pointer (some ⟨g, 0, none⟩), .int .i64 6] rfl q66t ?_; (with_reducible refine (spec_l1Below.calls g ah b8 b9 6 BY BZ B0 w0 _ ?side1 ?side2 qM.out).mono ?_); (case side1 => repeat (first | (with_reducible first | exact HI0.out | apply IsS69.alloc | apply IsS69.drewN | apply IsS69.drew | apply IsS69.set_1 | apply IsS69.set_2 | refine IsS69.far ?_ (Aside0.out q123t) _) | exact HI0.out)); (case side2 => repeat (first | (with_reducible first | exact HB.out | apply below_alloc | apply pw_below_drewN | apply below_drew1 | refine below_set ?_ (IsS69.ge HI0.out) | refine below_set ?_ (Aside0.out q123t)) | exact HB.out)); rintro e w23 ⟨rfl, hi, hb, hk⟩; refine ⟨_, rfl, ?_⟩; replace be := kbb be hk iI.out q126t; replace bf := kbb bf hk iJ.out q126t; replace cl := am (Kd.R_mono (Kd.R_keep (IsS69.apart (show IsS69 w0 _ g ah b8 b9 from by repeat (first | (with_reducible first | exact HI0.out | apply IsS69.alloc | apply IsS69.drewN | apply IsS69.drew | apply IsS69.set_1 | apply IsS69.set_2 | refine IsS69.far ?_ (Aside0.out q123t) _) | exact HI0.out)) q85t q125t) hk (fun _ h => h.2)) (fun _ h => h.1)); replace cF := am (Kd.R_mono (Kd.R_keep (IsS69.apart (show IsS69 w0 _ g ah b8 b9 from by repeat (first | (with_reducible first | exact HI0.out | apply IsS69.alloc | apply IsS69.drewN | apply IsS69.drew | apply IsS69.set_1 | apply IsS69.set_2 | refine IsS69.far ?_ (Aside0.out q123t) _) | exact HI0.out)) q86t q125t) hk (fun _ h => h.2)) (fun _ h => h.1)); replace cm := am (Kd.R_mono (Kd.R_keep (IsS69.apart (show IsS69 w0 _ g ah b8 b9 from by repeat (first | (with_reducible first | exact HI0.out | apply IsS69.alloc | apply IsS69.drewN | apply IsS69.drew | apply IsS69.set_1 | apply IsS69.set_2 | refine IsS69.far ?_ (Aside0.out q123t) _) | exact HI0.out)) q87t q125t) hk (fun _ h => h.2)) (fun _ h => h.1)); replace aV := kbb aV hk fG.out q126t; replace HK := am (KeepBut.trans q30t hk (.inl rfl)); replace HB := am (hb); replace HI0 := am (hi); (try clear hb); (try clear hb2); (try clear hk); (try clear hi); have Ij := kP.out; have Ik := kO.out; have pz := kR.out; have pA := kQ.out; have qO := fG.out; have qP := oV.out; have gJ := qc13 aV.out; have gj := qf13 aV.out))
   go_meet
   case rel => exact ⟨_, (BZ), (B0), (wrap64 (BY - 1)), (fg), (fh), (db), (e1), (fi), (dr), (dc), (.slice bz db.length bA), (.slice gH dr.length gI), (.slice gW dc.length gX), H', ⟨q122t⟩, ⟨q58t⟩, ⟨q54t⟩, ⟨q59t⟩, ⟨(qbf be)⟩, ⟨(qbf bf)⟩, ⟨qbp aV⟩, ⟨q39t⟩, ⟨q30t⟩, ⟨q38t⟩⟩
  rw [if_neg c21] at H
  have kS : (cn == 0) = false := beq_eq_false_iff_ne.mpr c21
  have pN : (cn != 0) = true := bne_iff_ne.mpr c21
  (first | rw [kS] | (simp only [i64_w, i32_w]; rw [kS]) | skip)
  by_cases c28 : cn = 1
  ·rw [if_pos c28] at H
   have l4 : (cn == 1) = true := beq_iff_eq.mpr c28
   have Il : (cn != 1) = false := bne_eq_false_iff_eq.mpr c28
   clear c28
   obtain ⟨xa, hy262⟩ : ∃ y_ : List Int, y_ = (([0, 4, 5] : List Int)) := ⟨_, rfl⟩
   replace H : ((spec_l1Int.f ah b8 b9 xa).bind fun j8 => (spec_l7Any.j0 k ah j8.2.1 j8.2.2 eZ j8.1 gR fh gS gT gU gV db e1 fi dr dc)) = some (r1, r2, r3, r4, r5, r6, r7, r8, r9, r10, r11, r12, r13, r14, r15) := by first | (rw [hy262]; with_reducible exact H) | (have H2_ := (Option.bind_some _ _).symm.trans H; rw [hy262]; with_reducible exact H2_) | (have H2_ := (Option.bind_some _ _).symm.trans H; with_reducible exact H2_) | with_reducible exact H | (rw [hy262]; exact H) | exact H
   have B1 := Aside0.mk hy262
   clear hy262
   obtain ⟨⟨B3, B8, Ca⟩, xb, H⟩ := bnd H
   try dsimp only at H
   have H' := Aside0.mk H
   clear H
   go_wp2_with (first | ((with_reducible refine gate_dst (N := 20) rfl ?_); refine Kd.R_lit (Kd.int .i64) _ 3 ?hg (N := 20) ?hd (xs := ([0, 4, 5] : List Int)) (inner := [.int .i64 0, .int .i64 4, .int .i64 5]) (ok := fun _ => True) (okp := fun _ => True) ?hr ?hp (fun _ hk => hk) trivial (Below.refl _ _) (Nat.le_refl _) q126t ?_; (case hd => rfl); (case hg => rfl); (case hr => first | (go_simp; done) | (go_simp; rfl)); (case hp => exact (Reps.one (show Kd.M (Kd.int .i64) _ _ _ 0 [.int .i64 0] from rfl) (Reps.one (show Kd.M (Kd.int .i64) _ _ _ 4 [.int .i64 4] from rfl) (Reps.one (show Kd.M (Kd.int .i64) _ _ _ 5 [.int .i64 5] from rfl) (Reps.none _ _))))); intro v263 w30 ho31 hb hg_ hnew_; clear hg_ hnew_; (first | rw [← B1.out] at ho31 | (simp only [Int.reduceToNat] at ho31; rw [← B1.out] at ho31)); replace cF := am (Kd.R_below q86t hb); have pO := am (Kd.R_lower (Kd.R_new' (Kd.R_new' ho31 (Kd.R_lt q85t)) (Kd.R_lt q87t)) (keep_size (w := w) (g := g) (row := none) q30t)); replace cl := am (Kd.R_elder' q85t (Kd.R_base ho31) hb); replace cm := am (Kd.R_elder' q87t (Kd.R_base ho31) hb); replace be := blb be hb; replace bf := blb bf hb; replace aV := blb aV hb; replace HK := am (KeepBut.trans q30t (KeepBut.of_below hb g none) (.inl rfl)); replace HB := am (below_step q38t hb); replace HI0 := am (IsS69.below q39t hb); clear hb ho31; obtain ⟨Im, In, Io⟩ := Kd.R_slice pO.out; subst Io) | ((with_reducible refine gate_callee (f := 50) rfl ?_); refine goesL_ (some 21) rfl rfl Tryd.func50 (by kernel_rfl) rfl #[.pointer (some ⟨g, 0, none⟩), .slice Im xa.length In] rfl q66t ?_; (with_reducible refine (spec_l1Int.calls g ah b8 b9 _ _ xa B3 B8 Ca w0 _ ?side1 ?side2 ?side3 ?side4 ?side5 xb.out).mono ?_); (case side1 => repeat (first | (with_reducible first | exact HI0.out | apply IsS69.alloc | apply IsS69.drewN | apply IsS69.drew | apply IsS69.set_1 | apply IsS69.set_2 | refine IsS69.far ?_ (Aside0.out q123t) _) | exact HI0.out)); (case side2 => repeat (first | (with_reducible first | exact HB.out | apply below_alloc | apply pw_below_drewN | apply below_drew1 | refine below_set ?_ (IsS69.ge HI0.out) | refine below_set ?_ (Aside0.out q123t)) | exact HB.out)); (case side3 => repeat (first | exact (Kd.R_reads' pO.out).2.2 | (with_reducible refine Kd.C_alloc ?_ _) | (with_reducible refine Kd.C_drewN ?_ _) | (with_reducible refine Kd.C_drew ?_))); (case side4 => exact (Kd.R_reads' pO.out).2.1); (case side5 => exact far_slice (IsS69.own_ne HI0.out pO.out q125t)); rintro e w33 ⟨rfl, hi, hb, hk⟩; refine ⟨_, rfl, ?_⟩; replace be := kbb be hk iI.out q126t; replace bf := kbb bf hk iJ.out q126t; replace cl := am (Kd.R_mono (Kd.R_keep (IsS69.apart (show IsS69 w0 _ g ah b8 b9 from by repeat (first | (with_reducible first | exact HI0.out | apply IsS69.alloc | apply IsS69.drewN | apply IsS69.drew | apply IsS69.set_1 | apply IsS69.set_2 | refine IsS69.far ?_ (Aside0.out q123t) _) | exact HI0.out)) q85t q125t) hk (fun _ h => h.2)) (fun _ h => h.1)); replace cF := am (Kd.R_mono (Kd.R_keep (IsS69.apart (show IsS69 w0 _ g ah b8 b9 from by repeat (first | (with_reducible first | exact HI0.out | apply IsS69.alloc | apply IsS69.drewN | apply IsS69.drew | apply IsS69.set_1 | apply IsS69.set_2 | refine IsS69.far ?_ (Aside0.out q123t) _) | exact HI0.out)) q86t q125t) hk (fun _ h => h.2)) (fun _ h => h.1)); replace cm := am (Kd.R_mono (Kd.R_keep (IsS69.apart (show IsS69 w0 _ g ah b8 b9 from by repeat (first | (with_reducible first | exact HI0.out | apply IsS69.alloc | apply IsS69.drewN | apply IsS69.drew | apply IsS69.set_1 | apply IsS69.set_2 | refine IsS69.far ?_ (Aside0.out q123t) _) | exact HI0.out)) q87t q125t) hk (fun _ h => h.2)) (fun _ h => h.1)); replace aV := kbb aV hk fG.out q126t; replace pO := am (Kd.R_mono (Kd.R_keep (IsS69.apart (show IsS69 w0 _ g ah b8 b9 from by repeat (first | (with_reducible first | exact HI0.out | apply IsS69.alloc | apply IsS69.drewN | apply IsS69.drew | apply IsS69.set_1 | apply IsS69.set_2 | refine IsS69.far ?_ (Aside0.out q123t) _) | exact HI0.out)) (by (with_reducible repeat (first | apply Kd.R_alloc | apply Kd.R_drewN | apply Kd.R_drew)); exact pO.out) q125t) hk (fun _ h => h.2)) (fun _ h => h.1)); replace HK := am (KeepBut.trans q30t hk (.inl rfl)); replace HB := am (hb); replace HI0 := am (hi); (try clear hb); (try clear hb2); (try clear hk); (try clear hi); have Pu := kP.out; have Pv := kO.out; have xc := kR.out; have xd := kQ.out; have xe := fG.out; have xf := oV.out; have lX := qc13 aV.out; have lY := qf13 aV.out))
   go_meet
   case rel => exact ⟨_, (B8), (Ca), (eZ), (B3), (fh), (db), (e1), (fi), (dr), (dc), (.slice bz db.length bA), (.slice gH dr.length gI), (.slice gW dc.length gX), H', ⟨q122t⟩, ⟨q55t⟩, ⟨q54t⟩, ⟨q56t⟩, ⟨(qbf be)⟩, ⟨(qbf bf)⟩, ⟨qbp aV⟩, ⟨q39t⟩, ⟨q30t⟩, ⟨q38t⟩⟩
  rw [if_neg c28] at H
  have l4 : (cn == 1) = false := beq_eq_false_iff_ne.mpr c28
  have Il : (cn != 1) = true := bne_iff_ne.mpr c28
  by_cases c38 : cn = 2
  ·rw [if_pos c38] at H
   have Ip : (cn == 2) = true := beq_iff_eq.mpr c38
   have Iq : (cn != 2) = false := bne_eq_false_iff_eq.mpr c38
   clear c38
   obtain ⟨xg, hy268⟩ : ∃ y_ : List Int, y_ = (([(-1), 1, 8, 9] : List Int)) := ⟨_, rfl⟩
   replace H : ((spec_l1Int.f ah b8 b9 xg).bind fun j9 => (spec_l7Any.j0 k ah j9.2.1 j9.2.2 eZ fg gR j9.1 gS gT gU gV db e1 fi dr dc)) = some (r1, r2, r3, r4, r5, r6, r7, r8, r9, r10, r11, r12, r13, r14, r15) := by first | (rw [hy268]; with_reducible exact H) | (have H2_ := (Option.bind_some _ _).symm.trans H; rw [hy268]; with_reducible exact H2_) | (have H2_ := (Option.bind_some _ _).symm.trans H; with_reducible exact H2_) | with_reducible exact H | (rw [hy268]; exact H) | exact H
   have Cb := Aside0.mk hy268
   clear hy268
   obtain ⟨⟨Cc, Cd, Ce⟩, Ir, H⟩ := bnd H
   try dsimp only at H
   have H' := Aside0.mk H
   clear H
   go_wp2_with (first | ((with_reducible refine gate_dst (N := 26) rfl ?_); refine Kd.R_lit (Kd.int .i64) _ 3 ?hg (N := 26) ?hd (xs := ([(-1), 1, 8, 9] : List Int)) (inner := [.int .i64 (-1), .int .i64 1, .int .i64 8, .int .i64 9]) (ok := fun _ => True) (okp := fun _ => True) ?hr ?hp (fun _ hk => hk) trivial (Below.refl _ _) (Nat.le_refl _) q126t ?_; (case hd => rfl); (case hg => rfl); (case hr => first | (go_simp; done) | (go_simp; rfl)); (case hp => exact (Reps.one (show Kd.M (Kd.int .i64) _ _ _ (-1) [.int .i64 (-1)] from rfl) (Reps.one (show Kd.M (Kd.int .i64) _ _ _ 1 [.int .i64 1] from rfl) (Reps.one (show Kd.M (Kd.int .i64) _ _ _ 8 [.int .i64 8] from rfl) (Reps.one (show Kd.M (Kd.int .i64) _ _ _ 9 [.int .i64 9] from rfl) (Reps.none _ _)))))); intro v269 w40 ho41 hb hg_ hnew_; clear hg_ hnew_; (first | rw [← Cb.out] at ho41 | (simp only [Int.reduceToNat] at ho41; rw [← Cb.out] at ho41)); replace cF := am (Kd.R_below q86t hb); have pP := am (Kd.R_lower (Kd.R_new' (Kd.R_new' ho41 (Kd.R_lt q85t)) (Kd.R_lt q87t)) (keep_size (w := w) (g := g) (row := none) q30t)); replace cl := am (Kd.R_elder' q85t (Kd.R_base ho41) hb); replace cm := am (Kd.R_elder' q87t (Kd.R_base ho41) hb); replace be := blb be hb; replace bf := blb bf hb; replace aV := blb aV hb; replace HK := am (KeepBut.trans q30t (KeepBut.of_below hb g none) (.inl rfl)); replace HB := am (below_step q38t hb); replace HI0 := am (IsS69.below q39t hb); clear hb ho41; obtain ⟨Is, It, Iu⟩ := Kd.R_slice pP.out; subst Iu) | ((with_reducible refine gate_callee (f := 50) rfl ?_); refine goesL_ (some 27) rfl rfl Tryd.func50 (by kernel_rfl) rfl #[.pointer (some ⟨g, 0, none⟩), .slice Is xg.length It] rfl q66t ?_; (with_reducible refine (spec_l1Int.calls g ah b8 b9 _ _ xg Cc Cd Ce w0 _ ?side1 ?side2 ?side3 ?side4 ?side5 Ir.out).mono ?_); (case side1 => repeat (first | (with_reducible first | exact HI0.out | apply IsS69.alloc | apply IsS69.drewN | apply IsS69.drew | apply IsS69.set_1 | apply IsS69.set_2 | refine IsS69.far ?_ (Aside0.out q123t) _) | exact HI0.out)); (case side2 => repeat (first | (with_reducible first | exact HB.out | apply below_alloc | apply pw_below_drewN | apply below_drew1 | refine below_set ?_ (IsS69.ge HI0.out) | refine below_set ?_ (Aside0.out q123t)) | exact HB.out)); (case side3 => repeat (first | exact (Kd.R_reads' pP.out).2.2 | (with_reducible refine Kd.C_alloc ?_ _) | (with_reducible refine Kd.C_drewN ?_ _) | (with_reducible refine Kd.C_drew ?_))); (case side4 => exact (Kd.R_reads' pP.out).2.1); (case side5 => exact far_slice (IsS69.own_ne HI0.out pP.out q125t)); rintro e w43 ⟨rfl, hi, hb, hk⟩; refine ⟨_, rfl, ?_⟩; replace be := kbb be hk iI.out q126t; replace bf := kbb bf hk iJ.out q126t; replace cl := am (Kd.R_mono (Kd.R_keep (IsS69.apart (show IsS69 w0 _ g ah b8 b9 from by repeat (first | (with_reducible first | exact HI0.out | apply IsS69.alloc | apply IsS69.drewN | apply IsS69.drew | apply IsS69.set_1 | apply IsS69.set_2 | refine IsS69.far ?_ (Aside0.out q123t) _) | exact HI0.out)) q85t q125t) hk (fun _ h => h.2)) (fun _ h => h.1)); replace cF := am (Kd.R_mono (Kd.R_keep (IsS69.apart (show IsS69 w0 _ g ah b8 b9 from by repeat (first | (with_reducible first | exact HI0.out | apply IsS69.alloc | apply IsS69.drewN | apply IsS69.drew | apply IsS69.set_1 | apply IsS69.set_2 | refine IsS69.far ?_ (Aside0.out q123t) _) | exact HI0.out)) q86t q125t) hk (fun _ h => h.2)) (fun _ h => h.1)); replace cm := am (Kd.R_mono (Kd.R_keep (IsS69.apart (show IsS69 w0 _ g ah b8 b9 from by repeat (first | (with_reducible first | exact HI0.out | apply IsS69.alloc | apply IsS69.drewN | apply IsS69.drew | apply IsS69.set_1 | apply IsS69.set_2 | refine IsS69.far ?_ (Aside0.out q123t) _) | exact HI0.out)) q87t q125t) hk (fun _ h => h.2)) (fun _ h => h.1)); replace aV := kbb aV hk fG.out q126t; replace pP := am (Kd.R_mono (Kd.R_keep (IsS69.apart (show IsS69 w0 _ g ah b8 b9 from by repeat (first | (with_reducible first | exact HI0.out | apply IsS69.alloc | apply IsS69.drewN | apply IsS69.drew | apply IsS69.set_1 | apply IsS69.set_2 | refine IsS69.far ?_ (Aside0.out q123t) _) | exact HI0.out)) (by (with_reducible repeat (first | apply Kd.R_alloc | apply Kd.R_drewN | apply Kd.R_drew)); exact pP.out) q125t) hk (fun _ h => h.2)) (fun _ h => h.1)); replace HK := am (KeepBut.trans q30t hk (.inl rfl)); replace HB := am (hb); replace HI0 := am (hi); (try clear hb); (try clear hb2); (try clear hk); (try clear hi); have uc := kP.out; have ud := kO.out; have pQ := kR.out; have pR := kQ.out; have ue := fG.out; have uf := oV.out; have nA := qc13 aV.out; have l5 := qf13 aV.out))
   go_meet
   case rel => exact ⟨_, (Cd), (Ce), (eZ), (fg), (Cc), (db), (e1), (fi), (dr), (dc), (.slice bz db.length bA), (.slice gH dr.length gI), (.slice gW dc.length gX), H', ⟨q122t⟩, ⟨q55t⟩, ⟨q54t⟩, ⟨q56t⟩, ⟨(qbf be)⟩, ⟨(qbf bf)⟩, ⟨qbp aV⟩, ⟨q39t⟩, ⟨q30t⟩, ⟨q38t⟩⟩
  rw [if_neg c38] at H
  have Ip : (cn == 2) = false := beq_eq_false_iff_ne.mpr c38
  have Iq : (cn != 2) = true := bne_iff_ne.mpr c38
  by_cases c48 : cn = 3
  ·rw [if_pos c48] at H
   have oW : (cn == 3) = true := beq_iff_eq.mpr c48
   have oX : (cn != 3) = false := bne_eq_false_iff_eq.mpr c48
   clear c48
   obtain ⟨rg, hy274⟩ : ∃ y_ : List Int, y_ = (([0, 12, (-1)] : List Int)) := ⟨_, rfl⟩
   replace H : ((spec_l1Int.f ah b8 b9 rg).bind fun ka => (if db.length < 17592186044416 then (spec_l7Any.j0 k ah ka.2.1 ka.2.2 eZ fg gR fh gS gT gU gV (db ++ [ka.1]) e1 fi dr dc) else (none))) = some (r1, r2, r3, r4, r5, r6, r7, r8, r9, r10, r11, r12, r13, r14, r15) := by first | (rw [hy274]; with_reducible exact H) | (have H2_ := (Option.bind_some _ _).symm.trans H; rw [hy274]; with_reducible exact H2_) | (have H2_ := (Option.bind_some _ _).symm.trans H; with_reducible exact H2_) | with_reducible exact H | (rw [hy274]; exact H) | exact H
   have Cf := Aside0.mk hy274
   clear hy274
   obtain ⟨⟨ug, xh, xi⟩, pS, H⟩ := bnd H
   try dsimp only at H
   by_cases c50 : db.length < 17592186044416
   rotate_left
   ·rw [if_neg c50] at H
    exact absurd H q126t
   rw [if_pos c50] at H
   have LMc50 := Aside0.mk c50
   clear c50
   obtain ⟨xj, hy280⟩ : ∃ y_ : List Int, y_ = (db ++ [ug]) := ⟨_, rfl⟩
   replace H : (spec_l7Any.j0 k ah xh xi eZ fg gR fh gS gT gU gV xj e1 fi dr dc) = some (r1, r2, r3, r4, r5, r6, r7, r8, r9, r10, r11, r12, r13, r14, r15) := by first | (rw [hy280]; with_reducible exact H) | (have H2_ := (Option.bind_some _ _).symm.trans H; rw [hy280]; with_reducible exact H2_) | (have H2_ := (Option.bind_some _ _).symm.trans H; with_reducible exact H2_) | with_reducible exact H | (rw [hy280]; exact H) | exact H
   have Iv := Aside0.mk hy280
   clear hy280
   have H' := Aside0.mk H
   clear H
   try go_wp2
   replace cl := am (Kd.R_drew cl.out)
   replace cF := am (Kd.R_drew cF.out)
   replace cm := am (Kd.R_drew cm.out)
   replace be := am (blk_drew be.out)
   replace bf := am (blk_drew bf.out)
   replace aV := am (blk_drew aV.out)
   replace HI0 := am (IsS69.drew HI0.out)
   replace HK := am (keep_drew HK.out)
   replace HB := am (below_drew1 HB.out)
   refine start_ (n := 9) (S := fun w' => w'.cell? ⟨bI, 0, none⟩ = some (.int .i64 eZ) ∧ w'.cell? ⟨bI, 1, none⟩ = some (.int .i64 fg) ∧ w'.cell? ⟨bI, 2, none⟩ = some (.int .i64 gR) ∧ w'.cell? ⟨bI, 3, none⟩ = some (.int .i64 fh) ∧ w'.cell? ⟨bI, 4, none⟩ = some (.int .i64 gS) ∧ w'.cell? ⟨bI, 5, none⟩ = some (.int .i64 gT) ∧ w'.cell? ⟨bI, 6, none⟩ = some (.int .i64 gU) ∧ w'.cell? ⟨bI, 7, none⟩ = some (.int .i64 gV) ∧ w'.cell? ⟨bI, 8, none⟩ = some (.slice bz db.length bA) ∧ w'.cell? ⟨bI, 9, none⟩ = some (.int .i64 e1) ∧ w'.cell? ⟨bI, 10, none⟩ = some (.int .i64 fi) ∧ w'.cell? ⟨bI, 11, none⟩ = some (.slice gH dr.length gI) ∧ w'.cell? ⟨bI, 12, none⟩ = some (.slice gW dc.length gX)) (ds := [8]) (bm 9 0) (by kernel_rfl) rfl (by kernel_rfl) qst (fun hHeld => ?_); refine with_tabW spec_l7Any.tab10 spec_l7Any.bits10 (fun HT_ HW_ => ?_)
   generalize w20.drew = w51 at cl cF cm be bf aV HI0 HK HB hHeld ⊢
   refine pv_ 0 31 (bm 9 1) ?_
   refine pv_ 2 33 (bm 9 5) ?_
   refine tv_ 1 32 (bm 9 7) ?_
   refine one_ (i := 3) (N := some 34) (bm 9 15) rfl rfl (one_of HT_.out (by kernel_rfl)) q125t (fun K hK => ?_)
   refine Kd.R_lit_step (Kd.int .i64) _ 3 ?hg (N := 34) ?hd (xs := ([0, 12, (-1)] : List Int)) (inner := [.int .i64 0, .int .i64 12, .int .i64 (-1)]) (ok := fun _ => True) (okp := fun _ => True) ?hr ?hp (fun _ hk => hk) trivial (Below.refl _ _) (Nat.le_refl _) q126t ?_; (case hd => rfl); (case hg => rfl); (case hr => first | (go_simp; done) | (go_simp; rfl)); (case hp => exact (Reps.one (show Kd.M (Kd.int .i64) _ _ _ 0 [.int .i64 0] from rfl) (Reps.one (show Kd.M (Kd.int .i64) _ _ _ 12 [.int .i64 12] from rfl) (Reps.one (show Kd.M (Kd.int .i64) _ _ _ (-1) [.int .i64 (-1)] from rfl) (Reps.none _ _)))))
   intro v275 w52 ho53 hb hg_ hnew_
   clear hg_ hnew_
   (first | rw [← Cf.out] at ho53 | (simp only [Int.reduceToNat] at ho53; rw [← Cf.out] at ho53))
   replace cF := am (Kd.R_below q86t hb)
   have l6 := am (Kd.R_lower (Kd.R_new' (Kd.R_new' ho53 (Kd.R_lt q85t)) (Kd.R_lt q87t)) (keep_size (w := w) (g := g) (row := none) q30t))
   replace cl := am (Kd.R_elder' q85t (Kd.R_base ho53) hb)
   replace cm := am (Kd.R_elder' q87t (Kd.R_base ho53) hb)
   replace be := blb be hb
   replace bf := blb bf hb
   replace aV := blb aV hb
   replace HK := am (KeepBut.trans q30t (KeepBut.of_below hb g none) (.inl rfl))
   replace HB := am (below_step q38t hb)
   replace HI0 := am (IsS69.below q39t hb)
   clear hb ho53
   obtain ⟨rh, ri, uh⟩ := Kd.R_slice l6.out
   (first | subst uh | (injection uh with f1_ f2_ f3_; have f4_ := f1_.symm; have f5_ := f3_.symm; clear f1_ f2_ f3_; subst f4_; subst f5_))
   refine hK.out _ _ q4t (fun hHeld => ?_)
   clear hK K
   refine norm_ (a' := ?_) ?_ ?_
   rotate_left
   ·show Act.put _ (some 34) _ = _
    simp only [Act.put, List.setIfInBounds_toArray, List.set_cons_zero, List.set_cons_succ, i64_w, i32_w]
    rfl
   refine one_ (i := 4) (N := some 35) (bm 9 31) rfl rfl (one_of HT_.out (by kernel_rfl)) q125t (fun K hK => ?_)
   refine goes_ Tryd.func50 (by kernel_rfl) rfl #[.pointer (some ⟨g, 0, none⟩), .slice rh rg.length ri] q127t rfl rfl q66t ?_
   with_reducible refine (spec_l1Int.calls g ah b8 b9 _ _ rg ug xh xi w0 _ ?side1 ?side2 ?side3 ?side4 ?side5 pS.out).mono ?_
   (case side1 => repeat (first | (with_reducible first | exact HI0.out | apply IsS69.alloc | apply IsS69.drewN | apply IsS69.drew | apply IsS69.set_1 | apply IsS69.set_2 | refine IsS69.far ?_ (Aside0.out q123t) _) | exact HI0.out))
   (case side2 => repeat (first | (with_reducible first | exact HB.out | apply below_alloc | apply pw_below_drewN | apply below_drew1 | refine below_set ?_ (IsS69.ge HI0.out) | refine below_set ?_ (Aside0.out q123t)) | exact HB.out))
   (case side3 => repeat (first | exact (Kd.R_reads' l6.out).2.2 | (with_reducible refine Kd.C_alloc ?_ _) | (with_reducible refine Kd.C_drewN ?_ _) | (with_reducible refine Kd.C_drew ?_)))
   (case side4 => exact (Kd.R_reads' l6.out).2.1)
   (case side5 => exact far_slice (IsS69.own_ne HI0.out l6.out q125t))
   rintro e w55 ⟨rfl, hi, hb, hk⟩
   refine ⟨_, rfl, ?_⟩
   replace be := kbb be hk iI.out q126t
   replace bf := kbb bf hk iJ.out q126t
   replace cl := am (Kd.R_mono (Kd.R_keep (IsS69.apart (show IsS69 w0 _ g ah b8 b9 from by repeat (first | (with_reducible first | exact HI0.out | apply IsS69.alloc | apply IsS69.drewN | apply IsS69.drew | apply IsS69.set_1 | apply IsS69.set_2 | refine IsS69.far ?_ (Aside0.out q123t) _) | exact HI0.out)) q85t q125t) hk (fun _ h => h.2)) (fun _ h => h.1))
   replace cF := am (Kd.R_mono (Kd.R_keep (IsS69.apart (show IsS69 w0 _ g ah b8 b9 from by repeat (first | (with_reducible first | exact HI0.out | apply IsS69.alloc | apply IsS69.drewN | apply IsS69.drew | apply IsS69.set_1 | apply IsS69.set_2 | refine IsS69.far ?_ (Aside0.out q123t) _) | exact HI0.out)) q86t q125t) hk (fun _ h => h.2)) (fun _ h => h.1))
   replace cm := am (Kd.R_mono (Kd.R_keep (IsS69.apart (show IsS69 w0 _ g ah b8 b9 from by repeat (first | (with_reducible first | exact HI0.out | apply IsS69.alloc | apply IsS69.drewN | apply IsS69.drew | apply IsS69.set_1 | apply IsS69.set_2 | refine IsS69.far ?_ (Aside0.out q123t) _) | exact HI0.out)) q87t q125t) hk (fun _ h => h.2)) (fun _ h => h.1))
   replace aV := kbb aV hk fG.out q126t
   replace l6 := am (Kd.R_mono (Kd.R_keep (IsS69.apart (show IsS69 w0 _ g ah b8 b9 from by repeat (first | (with_reducible first | exact HI0.out | apply IsS69.alloc | apply IsS69.drewN | apply IsS69.drew | apply IsS69.set_1 | apply IsS69.set_2 | refine IsS69.far ?_ (Aside0.out q123t) _) | exact HI0.out)) (by (with_reducible repeat (first | apply Kd.R_alloc | apply Kd.R_drewN | apply Kd.R_drew)); exact l6.out) q125t) hk (fun _ h => h.2)) (fun _ h => h.1))
   replace HK := am (KeepBut.trans q30t hk (.inl rfl))
   replace HB := am (hb)
   replace HI0 := am (hi)
   (try clear hb)
   (try clear hb2)
   (try clear hk)
   (try clear hi)
   refine hK.out _ _ q4t (fun hHeld => ?_)
   clear hK K
   refine norm_ (a' := ?_) ?_ ?_
   rotate_left
   ·show Act.put _ (some 35) _ = _
    simp only [Act.put, List.setIfInBounds_toArray, List.set_cons_zero, List.set_cons_succ, i64_w, i32_w]
    rfl
   refine one_ (i := 5) (N := some 36) (bm 9 63) rfl rfl (one_of HT_.out (by kernel_rfl)) q125t (fun K hK => ?_)
   refine value_ (w1 := ?_) (v := ?_) q127t rfl ?_ ?_
   rotate_left 2
   ·go_simp
    constructor
    ·rfl
    rfl
   refine hK.out _ _ q3t (fun hHeld => ?_)
   clear hK K
   refine norm_ (a' := ?_) ?_ ?_
   rotate_left
   ·show Act.put _ (some 36) _ = _
    simp only [Act.put, List.setIfInBounds_toArray, List.set_cons_zero, List.set_cons_succ, i64_w, i32_w]
    rfl
   refine one_ (i := 6) (N := some 37) (bm 9 127) rfl rfl (one_of HT_.out (by kernel_rfl)) q125t (fun K hK => ?_)
   refine Kd.R_append_step (Kd.int .i64) w.heap.size q127t (.tmp 32) (.tmp 36) 26 3 (.int .i64 0) 8 rfl Tryd.underlying26 info3 rfl q125t (by omega) (.slice bz db.length bA) db ug [.int .i64 ug] (fun k_ => some k_ ≠ (.slice gW dc.length gX : Value).ownBlock ∧ some k_ ≠ (.slice rh rg.length ri : Value).ownBlock) (fun _ => False) rfl rfl ?aP (fun _ hk => hk.elim) ?aF ?aO (Below.refl _ _) ?aS ?aL ?_
   (case aP => exact rfl)
   (case aF => exact (fun k_ hk => ⟨Kd.fresh' (Kd.R_lt q87t) k_ hk, Kd.fresh' (Kd.R_lt (by (with_reducible repeat (first | apply Kd.R_alloc | apply Kd.R_drewN | apply Kd.R_drew)); exact l6.out)) k_ hk⟩))
   (case aO => exact q85t)
   (case aS => exact (keep_size (w := w) (g := g) (row := none) q30t))
   (case aL => have := LMc50.out; omega)
   intro v281 w56 ho hb hg hat
   rw [← Iv.out] at ho
   replace be := gbb be hg (Kd.R_ne cl.out be.out q125t)
   replace bf := gbb bf hg (Kd.R_ne cl.out bf.out q125t)
   replace cF := am (Kd.R_over' q86t (Kd.R_typed q85t) q125t hg)
   replace cm := am (Kd.R_after (ok := (fun k_ => some k_ ≠ (.slice rh rg.length ri : Value).ownBlock)) (by (with_reducible repeat (first | apply Kd.R_alloc | apply Kd.R_drewN | apply Kd.R_drew)); exact Kd.R_mono cm.out (fun _ hk => ⟨hk.2, hk.1⟩)) hg hat)
   replace aV := gbb aV hg (Kd.R_ne cl.out aV.out q125t)
   replace l6 := am (Kd.R_after (ok := (fun k_ => some k_ ≠ (.slice gW dc.length gX : Value).ownBlock)) (by (with_reducible repeat (first | apply Kd.R_alloc | apply Kd.R_drewN | apply Kd.R_drew)); exact Kd.R_mono l6.out (fun _ hk => ⟨hk.2, hk.1.2⟩)) hg hat)
   replace HB := am (below_weaken q38t HL.out hb)
   replace HI0 := am (IsS69.grown q39t hg (IsS69.own_ne HI0.out cl.out q125t))
   replace HK := am (KeepBut.trans q30t (KeepBut.of_grown hg g) (Kd.R_base2 cl.out))
   have Cg := am (ho)
   clear cl
   clear ho hb hg hat
   obtain ⟨dn, dp, ui⟩ := Kd.R_slice Cg.out
   (first | subst ui | (injection ui with f1_ f2_ f3_; have f4_ := f1_.symm; have f5_ := f3_.symm; clear f1_ f2_ f3_; subst f4_; subst f5_))
   refine hK.out _ _ q4t (fun hHeld => ?_)
   clear hK K
   refine norm_ (a' := ?_) ?_ ?_
   rotate_left
   ·show Act.put _ (some 37) _ = _
    simp only [Act.put, List.setIfInBounds_toArray, List.set_cons_zero, List.set_cons_succ, i64_w, i32_w]
    rfl
   refine pv_ 7 38 (bm 9 255) ?_
   refine last_ (i := 8) (N := none) #[true, true, true, true, true, true, true, true, true] rfl rfl (one_of HT_.out (by kernel_rfl)) q125t (fun K hK => ?_)
   have hs58 : w56.cell? ⟨bI, 8, none⟩ = some (.slice bz db.length bA) := (blk_cell aV.out 8).trans rfl
   have hfs58 := blk_frozen aV.out 8
   have Pw := kO.out
   have Iw := kQ.out
   have Px := kP.out
   have Ix := kR.out
   refine skip_ (w1 := ?_) q127t rfl ?_ ?_
   rotate_left
   ·go_simp
    rfl
   refine hK.out _ _ ?_
   clear hK K
   refine done_ (done_of HT_.out (by kernel_rfl)) ?_
   try go_wp2
   go_meet
   case rel => exact ⟨_, (xh), (xi), (eZ), (fg), (fh), (xj), (e1), (fi), (dr), (dc), (.slice dn xj.length dp), (.slice gH dr.length gI), (.slice gW dc.length gX), H', ⟨q122t⟩, ⟨(by (with_reducible repeat (first | apply Kd.R_alloc | apply Kd.R_drewN | apply Kd.R_drew)); exact Kd.R_mono (rkf (Kd.R_types Cg.out aV.out q125t)) (fun _ hk => hk.1.1))⟩, ⟨q54t⟩, ⟨(by (with_reducible repeat (first | apply Kd.R_alloc | apply Kd.R_drewN | apply Kd.R_drew)); exact Kd.R_mono (rkf (Kd.R_types cm.out aV.out q125t)) (fun _ hk => hk.1.2))⟩, ⟨(qbf be)⟩, ⟨(qbf bf)⟩, ⟨qbp aV⟩, ⟨q39t⟩, ⟨q30t⟩, ⟨q38t⟩⟩
  rw [if_neg c48] at H
  have oW : (cn == 3) = false := beq_eq_false_iff_ne.mpr c48
  have oX : (cn != 3) = true := bne_iff_ne.mpr c48
  by_cases c59 : cn = 4
  ·rw [if_pos c59] at H
   have Iy : (cn == 4) = true := beq_iff_eq.mpr c59
   have Iz : (cn != 4) = false := bne_eq_false_iff_eq.mpr c59
   clear c59
   obtain ⟨⟨Ch, Ci, Cj⟩, xk, H⟩ := bnd H
   try dsimp only at H
   have H' := Aside0.mk H
   clear H
   go_wp2_with (first | ((with_reducible refine gate_callee (f := 26) rfl ?_); refine goesL_ (some 42) rfl rfl Tryd.func26 (by kernel_rfl) rfl #[.pointer (some ⟨g, 0, none⟩), .int .i64 4] rfl q66t ?_; (with_reducible refine (spec_l1Below.calls g ah b8 b9 4 Ch Ci Cj w0 _ ?side1 ?side2 xk.out).mono ?_); (case side1 => repeat (first | (with_reducible first | exact HI0.out | apply IsS69.alloc | apply IsS69.drewN | apply IsS69.drew | apply IsS69.set_1 | apply IsS69.set_2 | refine IsS69.far ?_ (Aside0.out q123t) _) | exact HI0.out)); (case side2 => repeat (first | (with_reducible first | exact HB.out | apply below_alloc | apply pw_below_drewN | apply below_drew1 | refine below_set ?_ (IsS69.ge HI0.out) | refine below_set ?_ (Aside0.out q123t)) | exact HB.out)); rintro e w61 ⟨rfl, hi, hb, hk⟩; refine ⟨_, rfl, ?_⟩; replace be := kbb be hk iI.out q126t; replace bf := kbb bf hk iJ.out q126t; replace cl := am (Kd.R_mono (Kd.R_keep (IsS69.apart (show IsS69 w0 _ g ah b8 b9 from by repeat (first | (with_reducible first | exact HI0.out | apply IsS69.alloc | apply IsS69.drewN | apply IsS69.drew | apply IsS69.set_1 | apply IsS69.set_2 | refine IsS69.far ?_ (Aside0.out q123t) _) | exact HI0.out)) q85t q125t) hk (fun _ h => h.2)) (fun _ h => h.1)); replace cF := am (Kd.R_mono (Kd.R_keep (IsS69.apart (show IsS69 w0 _ g ah b8 b9 from by repeat (first | (with_reducible first | exact HI0.out | apply IsS69.alloc | apply IsS69.drewN | apply IsS69.drew | apply IsS69.set_1 | apply IsS69.set_2 | refine IsS69.far ?_ (Aside0.out q123t) _) | exact HI0.out)) q86t q125t) hk (fun _ h => h.2)) (fun _ h => h.1)); replace cm := am (Kd.R_mono (Kd.R_keep (IsS69.apart (show IsS69 w0 _ g ah b8 b9 from by repeat (first | (with_reducible first | exact HI0.out | apply IsS69.alloc | apply IsS69.drewN | apply IsS69.drew | apply IsS69.set_1 | apply IsS69.set_2 | refine IsS69.far ?_ (Aside0.out q123t) _) | exact HI0.out)) q87t q125t) hk (fun _ h => h.2)) (fun _ h => h.1)); replace aV := kbb aV hk fG.out q126t; replace HK := am (KeepBut.trans q30t hk (.inl rfl)); replace HB := am (hb); replace HI0 := am (hi); (try clear hb); (try clear hb2); (try clear hk); (try clear hi); have BF := kP.out; have BG := kO.out; have BH := kR.out; have BI := kQ.out; have Ck := fG.out; have Cl := oV.out; have xl := qc13 aV.out; have xm := qf13 aV.out))
   go_meet
   case rel => exact ⟨_, (Ci), (Cj), (eZ), (fg), (fh), (db), (Ch), (fi), (dr), (dc), (.slice bz db.length bA), (.slice gH dr.length gI), (.slice gW dc.length gX), H', ⟨q122t⟩, ⟨q58t⟩, ⟨q54t⟩, ⟨q59t⟩, ⟨(qbf be)⟩, ⟨(qbf bf)⟩, ⟨qbp aV⟩, ⟨q39t⟩, ⟨q30t⟩, ⟨q38t⟩⟩
  rw [if_neg c59] at H
  have Iy : (cn == 4) = false := beq_eq_false_iff_ne.mpr c59
  have Iz : (cn != 4) = true := bne_iff_ne.mpr c59
  by_cases c66 : cn = 5
  ·rw [if_pos c66] at H
   have IA : (cn == 5) = true := beq_iff_eq.mpr c66
   have IB : (cn != 5) = false := bne_eq_false_iff_eq.mpr c66
   clear c66
   obtain ⟨xn, hy286⟩ : ∃ y_ : List Int, y_ = (([0, 8, 17, (-1)] : List Int)) := ⟨_, rfl⟩
   replace H : ((spec_l1Int.f ah b8 b9 xn).bind fun kb => (spec_l7Any.j0 k ah kb.2.1 kb.2.2 eZ fg gR fh gS gT gU gV db e1 kb.1 dr dc)) = some (r1, r2, r3, r4, r5, r6, r7, r8, r9, r10, r11, r12, r13, r14, r15) := by first | (rw [hy286]; with_reducible exact H) | (have H2_ := (Option.bind_some _ _).symm.trans H; rw [hy286]; with_reducible exact H2_) | (have H2_ := (Option.bind_some _ _).symm.trans H; with_reducible exact H2_) | with_reducible exact H | (rw [hy286]; exact H) | exact H
   have Cm := Aside0.mk hy286
   clear hy286
   obtain ⟨⟨Cn, Co, Cp⟩, xo, H⟩ := bnd H
   try dsimp only at H
   have H' := Aside0.mk H
   clear H
   go_wp2_with (first | ((with_reducible refine gate_dst (N := 47) rfl ?_); refine Kd.R_lit (Kd.int .i64) _ 3 ?hg (N := 47) ?hd (xs := ([0, 8, 17, (-1)] : List Int)) (inner := [.int .i64 0, .int .i64 8, .int .i64 17, .int .i64 (-1)]) (ok := fun _ => True) (okp := fun _ => True) ?hr ?hp (fun _ hk => hk) trivial (Below.refl _ _) (Nat.le_refl _) q126t ?_; (case hd => rfl); (case hg => rfl); (case hr => first | (go_simp; done) | (go_simp; rfl)); (case hp => exact (Reps.one (show Kd.M (Kd.int .i64) _ _ _ 0 [.int .i64 0] from rfl) (Reps.one (show Kd.M (Kd.int .i64) _ _ _ 8 [.int .i64 8] from rfl) (Reps.one (show Kd.M (Kd.int .i64) _ _ _ 17 [.int .i64 17] from rfl) (Reps.one (show Kd.M (Kd.int .i64) _ _ _ (-1) [.int .i64 (-1)] from rfl) (Reps.none _ _)))))); intro v287 w68 ho69 hb hg_ hnew_; clear hg_ hnew_; (first | rw [← Cm.out] at ho69 | (simp only [Int.reduceToNat] at ho69; rw [← Cm.out] at ho69)); replace cF := am (Kd.R_below q86t hb); have pT := am (Kd.R_lower (Kd.R_new' (Kd.R_new' ho69 (Kd.R_lt q85t)) (Kd.R_lt q87t)) (keep_size (w := w) (g := g) (row := none) q30t)); replace cl := am (Kd.R_elder' q85t (Kd.R_base ho69) hb); replace cm := am (Kd.R_elder' q87t (Kd.R_base ho69) hb); replace be := blb be hb; replace bf := blb bf hb; replace aV := blb aV hb; replace HK := am (KeepBut.trans q30t (KeepBut.of_below hb g none) (.inl rfl)); replace HB := am (below_step q38t hb); replace HI0 := am (IsS69.below q39t hb); clear hb ho69; obtain ⟨IC, ID, IE⟩ := Kd.R_slice pT.out; subst IE) | ((with_reducible refine gate_callee (f := 50) rfl ?_); refine goesL_ (some 48) rfl rfl Tryd.func50 (by kernel_rfl) rfl #[.pointer (some ⟨g, 0, none⟩), .slice IC xn.length ID] rfl q66t ?_; (with_reducible refine (spec_l1Int.calls g ah b8 b9 _ _ xn Cn Co Cp w0 _ ?side1 ?side2 ?side3 ?side4 ?side5 xo.out).mono ?_); (case side1 => repeat (first | (with_reducible first | exact HI0.out | apply IsS69.alloc | apply IsS69.drewN | apply IsS69.drew | apply IsS69.set_1 | apply IsS69.set_2 | refine IsS69.far ?_ (Aside0.out q123t) _) | exact HI0.out)); (case side2 => repeat (first | (with_reducible first | exact HB.out | apply below_alloc | apply pw_below_drewN | apply below_drew1 | refine below_set ?_ (IsS69.ge HI0.out) | refine below_set ?_ (Aside0.out q123t)) | exact HB.out)); (case side3 => repeat (first | exact (Kd.R_reads' pT.out).2.2 | (with_reducible refine Kd.C_alloc ?_ _) | (with_reducible refine Kd.C_drewN ?_ _) | (with_reducible refine Kd.C_drew ?_))); (case side4 => exact (Kd.R_reads' pT.out).2.1); (case side5 => exact far_slice (IsS69.own_ne HI0.out pT.out q125t)); rintro e w71 ⟨rfl, hi, hb, hk⟩; refine ⟨_, rfl, ?_⟩; replace be := kbb be hk iI.out q126t; replace bf := kbb bf hk iJ.out q126t; replace cl := am (Kd.R_mono (Kd.R_keep (IsS69.apart (show IsS69 w0 _ g ah b8 b9 from by repeat (first | (with_reducible first | exact HI0.out | apply IsS69.alloc | apply IsS69.drewN | apply IsS69.drew | apply IsS69.set_1 | apply IsS69.set_2 | refine IsS69.far ?_ (Aside0.out q123t) _) | exact HI0.out)) q85t q125t) hk (fun _ h => h.2)) (fun _ h => h.1)); replace cF := am (Kd.R_mono (Kd.R_keep (IsS69.apart (show IsS69 w0 _ g ah b8 b9 from by repeat (first | (with_reducible first | exact HI0.out | apply IsS69.alloc | apply IsS69.drewN | apply IsS69.drew | apply IsS69.set_1 | apply IsS69.set_2 | refine IsS69.far ?_ (Aside0.out q123t) _) | exact HI0.out)) q86t q125t) hk (fun _ h => h.2)) (fun _ h => h.1)); replace cm := am (Kd.R_mono (Kd.R_keep (IsS69.apart (show IsS69 w0 _ g ah b8 b9 from by repeat (first | (with_reducible first | exact HI0.out | apply IsS69.alloc | apply IsS69.drewN | apply IsS69.drew | apply IsS69.set_1 | apply IsS69.set_2 | refine IsS69.far ?_ (Aside0.out q123t) _) | exact HI0.out)) q87t q125t) hk (fun _ h => h.2)) (fun _ h => h.1)); replace aV := kbb aV hk fG.out q126t; replace pT := am (Kd.R_mono (Kd.R_keep (IsS69.apart (show IsS69 w0 _ g ah b8 b9 from by repeat (first | (with_reducible first | exact HI0.out | apply IsS69.alloc | apply IsS69.drewN | apply IsS69.drew | apply IsS69.set_1 | apply IsS69.set_2 | refine IsS69.far ?_ (Aside0.out q123t) _) | exact HI0.out)) (by (with_reducible repeat (first | apply Kd.R_alloc | apply Kd.R_drewN | apply Kd.R_drew)); exact pT.out) q125t) hk (fun _ h => h.2)) (fun _ h => h.1)); replace HK := am (KeepBut.trans q30t hk (.inl rfl)); replace HB := am (hb); replace HI0 := am (hi); (try clear hb); (try clear hb2); (try clear hk); (try clear hi); have Hq := kP.out; have Hr := kO.out; have BM := kR.out; have BN := kQ.out; have Py := fG.out; have Pz := oV.out; have Cq := qc13 aV.out; have Cr := qf13 aV.out))
   go_meet
   case rel => exact ⟨_, (Co), (Cp), (eZ), (fg), (fh), (db), (e1), (Cn), (dr), (dc), (.slice bz db.length bA), (.slice gH dr.length gI), (.slice gW dc.length gX), H', ⟨q122t⟩, ⟨q55t⟩, ⟨q54t⟩, ⟨q56t⟩, ⟨(qbf be)⟩, ⟨(qbf bf)⟩, ⟨qbp aV⟩, ⟨q39t⟩, ⟨q30t⟩, ⟨q38t⟩⟩
  rw [if_neg c66] at H
  have IA : (cn == 5) = false := beq_eq_false_iff_ne.mpr c66
  have IB : (cn != 5) = true := bne_iff_ne.mpr c66
  by_cases c76 : cn = 6
  ·rw [if_pos c76] at H
   have Cs : (cn == 6) = true := beq_iff_eq.mpr c76
   have Ct : (cn != 6) = false := bne_eq_false_iff_eq.mpr c76
   clear c76
   obtain ⟨rj, hy292⟩ : ∃ y_ : List Int, y_ = (([255, 256, (-1)] : List Int)) := ⟨_, rfl⟩
   replace H : ((spec_l1Int.f ah b8 b9 rj).bind fun kc => (if dc.length < 17592186044416 then (spec_l7Any.j0 k ah kc.2.1 kc.2.2 eZ fg gR fh gS gT gU gV db e1 fi dr (dc ++ [kc.1])) else (none))) = some (r1, r2, r3, r4, r5, r6, r7, r8, r9, r10, r11, r12, r13, r14, r15) := by first | (rw [hy292]; with_reducible exact H) | (have H2_ := (Option.bind_some _ _).symm.trans H; rw [hy292]; with_reducible exact H2_) | (have H2_ := (Option.bind_some _ _).symm.trans H; with_reducible exact H2_) | with_reducible exact H | (rw [hy292]; exact H) | exact H
   have Cu := Aside0.mk hy292
   clear hy292
   obtain ⟨⟨uj, xp, xq⟩, xr, H⟩ := bnd H
   try dsimp only at H
   by_cases c78 : dc.length < 17592186044416
   rotate_left
   ·rw [if_neg c78] at H
    exact absurd H q126t
   rw [if_pos c78] at H
   have LMc78 := Aside0.mk c78
   clear c78
   obtain ⟨xt, hy298⟩ : ∃ y_ : List Int, y_ = (dc ++ [uj]) := ⟨_, rfl⟩
   replace H : (spec_l7Any.j0 k ah xp xq eZ fg gR fh gS gT gU gV db e1 fi dr xt) = some (r1, r2, r3, r4, r5, r6, r7, r8, r9, r10, r11, r12, r13, r14, r15) := by first | (rw [hy298]; with_reducible exact H) | (have H2_ := (Option.bind_some _ _).symm.trans H; rw [hy298]; with_reducible exact H2_) | (have H2_ := (Option.bind_some _ _).symm.trans H; with_reducible exact H2_) | with_reducible exact H | (rw [hy298]; exact H) | exact H
   have IF := Aside0.mk hy298
   clear hy298
   have H' := Aside0.mk H
   clear H
   try go_wp2
   replace cl := am (Kd.R_drew cl.out)
   replace cF := am (Kd.R_drew cF.out)
   replace cm := am (Kd.R_drew cm.out)
   replace be := am (blk_drew be.out)
   replace bf := am (blk_drew bf.out)
   replace aV := am (blk_drew aV.out)
   replace HI0 := am (IsS69.drew HI0.out)
   replace HK := am (keep_drew HK.out)
   replace HB := am (below_drew1 HB.out)
   refine start_ (n := 9) (S := fun w' => w'.cell? ⟨bI, 0, none⟩ = some (.int .i64 eZ) ∧ w'.cell? ⟨bI, 1, none⟩ = some (.int .i64 fg) ∧ w'.cell? ⟨bI, 2, none⟩ = some (.int .i64 gR) ∧ w'.cell? ⟨bI, 3, none⟩ = some (.int .i64 fh) ∧ w'.cell? ⟨bI, 4, none⟩ = some (.int .i64 gS) ∧ w'.cell? ⟨bI, 5, none⟩ = some (.int .i64 gT) ∧ w'.cell? ⟨bI, 6, none⟩ = some (.int .i64 gU) ∧ w'.cell? ⟨bI, 7, none⟩ = some (.int .i64 gV) ∧ w'.cell? ⟨bI, 8, none⟩ = some (.slice bz db.length bA) ∧ w'.cell? ⟨bI, 9, none⟩ = some (.int .i64 e1) ∧ w'.cell? ⟨bI, 10, none⟩ = some (.int .i64 fi) ∧ w'.cell? ⟨bI, 11, none⟩ = some (.slice gH dr.length gI) ∧ w'.cell? ⟨bI, 12, none⟩ = some (.slice gW dc.length gX)) (ds := [8]) (bm 9 0) (by kernel_rfl) rfl (by kernel_rfl) qst (fun hHeld => ?_); refine with_tabW spec_l7Any.tab16 spec_l7Any.bits16 (fun HT_ HW_ => ?_)
   generalize w20.drew = w79 at cl cF cm be bf aV HI0 HK HB hHeld ⊢
   refine pv_ 0 52 (bm 9 1) ?_
   refine pv_ 2 54 (bm 9 5) ?_
   refine tv_ 1 53 (bm 9 7) ?_
   refine one_ (i := 3) (N := some 55) (bm 9 15) rfl rfl (one_of HT_.out (by kernel_rfl)) q125t (fun K hK => ?_)
   refine Kd.R_lit_step (Kd.int .i64) _ 3 ?hg (N := 55) ?hd (xs := ([255, 256, (-1)] : List Int)) (inner := [.int .i64 255, .int .i64 256, .int .i64 (-1)]) (ok := fun _ => True) (okp := fun _ => True) ?hr ?hp (fun _ hk => hk) trivial (Below.refl _ _) (Nat.le_refl _) q126t ?_; (case hd => rfl); (case hg => rfl); (case hr => first | (go_simp; done) | (go_simp; rfl)); (case hp => exact (Reps.one (show Kd.M (Kd.int .i64) _ _ _ 255 [.int .i64 255] from rfl) (Reps.one (show Kd.M (Kd.int .i64) _ _ _ 256 [.int .i64 256] from rfl) (Reps.one (show Kd.M (Kd.int .i64) _ _ _ (-1) [.int .i64 (-1)] from rfl) (Reps.none _ _)))))
   intro v293 w80 ho81 hb hg_ hnew_
   clear hg_ hnew_
   (first | rw [← Cu.out] at ho81 | (simp only [Int.reduceToNat] at ho81; rw [← Cu.out] at ho81))
   replace cF := am (Kd.R_below q86t hb)
   have l7 := am (Kd.R_lower (Kd.R_new' (Kd.R_new' ho81 (Kd.R_lt q85t)) (Kd.R_lt q87t)) (keep_size (w := w) (g := g) (row := none) q30t))
   replace cl := am (Kd.R_elder' q85t (Kd.R_base ho81) hb)
   replace cm := am (Kd.R_elder' q87t (Kd.R_base ho81) hb)
   replace be := blb be hb
   replace bf := blb bf hb
   replace aV := blb aV hb
   replace HK := am (KeepBut.trans q30t (KeepBut.of_below hb g none) (.inl rfl))
   replace HB := am (below_step q38t hb)
   replace HI0 := am (IsS69.below q39t hb)
   clear hb ho81
   obtain ⟨xu, xv, Cv⟩ := Kd.R_slice l7.out
   (first | subst Cv | (injection Cv with f1_ f2_ f3_; have f4_ := f1_.symm; have f5_ := f3_.symm; clear f1_ f2_ f3_; subst f4_; subst f5_))
   refine hK.out _ _ q4t (fun hHeld => ?_)
   clear hK K
   refine norm_ (a' := ?_) ?_ ?_
   rotate_left
   ·show Act.put _ (some 55) _ = _
    simp only [Act.put, List.setIfInBounds_toArray, List.set_cons_zero, List.set_cons_succ, i64_w, i32_w]
    rfl
   refine one_ (i := 4) (N := some 56) (bm 9 31) rfl rfl (one_of HT_.out (by kernel_rfl)) q125t (fun K hK => ?_)
   refine goes_ Tryd.func50 (by kernel_rfl) rfl #[.pointer (some ⟨g, 0, none⟩), .slice xu rj.length xv] q127t rfl rfl q66t ?_
   with_reducible refine (spec_l1Int.calls g ah b8 b9 _ _ rj uj xp xq w0 _ ?side1 ?side2 ?side3 ?side4 ?side5 xr.out).mono ?_
   (case side1 => repeat (first | (with_reducible first | exact HI0.out | apply IsS69.alloc | apply IsS69.drewN | apply IsS69.drew | apply IsS69.set_1 | apply IsS69.set_2 | refine IsS69.far ?_ (Aside0.out q123t) _) | exact HI0.out))
   (case side2 => repeat (first | (with_reducible first | exact HB.out | apply below_alloc | apply pw_below_drewN | apply below_drew1 | refine below_set ?_ (IsS69.ge HI0.out) | refine below_set ?_ (Aside0.out q123t)) | exact HB.out))
   (case side3 => repeat (first | exact (Kd.R_reads' l7.out).2.2 | (with_reducible refine Kd.C_alloc ?_ _) | (with_reducible refine Kd.C_drewN ?_ _) | (with_reducible refine Kd.C_drew ?_)))
   (case side4 => exact (Kd.R_reads' l7.out).2.1)
   (case side5 => exact far_slice (IsS69.own_ne HI0.out l7.out q125t))
   rintro e w83 ⟨rfl, hi, hb, hk⟩
   refine ⟨_, rfl, ?_⟩
   replace be := kbb be hk iI.out q126t
   replace bf := kbb bf hk iJ.out q126t
   replace cl := am (Kd.R_mono (Kd.R_keep (IsS69.apart (show IsS69 w0 _ g ah b8 b9 from by repeat (first | (with_reducible first | exact HI0.out | apply IsS69.alloc | apply IsS69.drewN | apply IsS69.drew | apply IsS69.set_1 | apply IsS69.set_2 | refine IsS69.far ?_ (Aside0.out q123t) _) | exact HI0.out)) q85t q125t) hk (fun _ h => h.2)) (fun _ h => h.1))
   replace cF := am (Kd.R_mono (Kd.R_keep (IsS69.apart (show IsS69 w0 _ g ah b8 b9 from by repeat (first | (with_reducible first | exact HI0.out | apply IsS69.alloc | apply IsS69.drewN | apply IsS69.drew | apply IsS69.set_1 | apply IsS69.set_2 | refine IsS69.far ?_ (Aside0.out q123t) _) | exact HI0.out)) q86t q125t) hk (fun _ h => h.2)) (fun _ h => h.1))
   replace cm := am (Kd.R_mono (Kd.R_keep (IsS69.apart (show IsS69 w0 _ g ah b8 b9 from by repeat (first | (with_reducible first | exact HI0.out | apply IsS69.alloc | apply IsS69.drewN | apply IsS69.drew | apply IsS69.set_1 | apply IsS69.set_2 | refine IsS69.far ?_ (Aside0.out q123t) _) | exact HI0.out)) q87t q125t) hk (fun _ h => h.2)) (fun _ h => h.1))
   replace aV := kbb aV hk fG.out q126t
   replace l7 := am (Kd.R_mono (Kd.R_keep (IsS69.apart (show IsS69 w0 _ g ah b8 b9 from by repeat (first | (with_reducible first | exact HI0.out | apply IsS69.alloc | apply IsS69.drewN | apply IsS69.drew | apply IsS69.set_1 | apply IsS69.set_2 | refine IsS69.far ?_ (Aside0.out q123t) _) | exact HI0.out)) (by (with_reducible repeat (first | apply Kd.R_alloc | apply Kd.R_drewN | apply Kd.R_drew)); exact l7.out) q125t) hk (fun _ h => h.2)) (fun _ h => h.1))
   replace HK := am (KeepBut.trans q30t hk (.inl rfl))
   replace HB := am (hb)
   replace HI0 := am (hi)
   (try clear hb)
   (try clear hb2)
   (try clear hk)
   (try clear hi)
   refine hK.out _ _ q4t (fun hHeld => ?_)
   clear hK K
   refine norm_ (a' := ?_) ?_ ?_
   rotate_left
   ·show Act.put _ (some 56) _ = _
    simp only [Act.put, List.setIfInBounds_toArray, List.set_cons_zero, List.set_cons_succ, i64_w, i32_w]
    rfl
   refine one_ (i := 5) (N := some 57) (bm 9 63) rfl rfl (one_of HT_.out (by kernel_rfl)) q125t (fun K hK => ?_)
   refine value_ (w1 := ?_) (v := ?_) q127t rfl ?_ ?_
   rotate_left 2
   ·go_simp
    constructor
    ·rfl
    rfl
   refine hK.out _ _ q3t (fun hHeld => ?_)
   clear hK K
   refine norm_ (a' := ?_) ?_ ?_
   rotate_left
   ·show Act.put _ (some 57) _ = _
    simp only [Act.put, List.setIfInBounds_toArray, List.set_cons_zero, List.set_cons_succ, i64_w, i32_w]
    rfl
   refine one_ (i := 6) (N := some 58) (bm 9 127) rfl rfl (one_of HT_.out (by kernel_rfl)) q125t (fun K hK => ?_)
   refine Kd.R_append_step (Kd.int .i64) w.heap.size q127t (.tmp 53) (.tmp 57) 26 3 (.int .i64 0) 8 rfl Tryd.underlying26 info3 rfl q125t (by omega) (.slice gW dc.length gX) dc uj [.int .i64 uj] (fun k_ => some k_ ≠ (.slice bz db.length bA : Value).ownBlock ∧ some k_ ≠ (.slice xu rj.length xv : Value).ownBlock) (fun _ => False) rfl rfl ?aP (fun _ hk => hk.elim) ?aF ?aO (Below.refl _ _) ?aS ?aL ?_
   (case aP => exact rfl)
   (case aF => exact (fun k_ hk => ⟨Kd.fresh' (Kd.R_lt q85t) k_ hk, Kd.fresh' (Kd.R_lt (by (with_reducible repeat (first | apply Kd.R_alloc | apply Kd.R_drewN | apply Kd.R_drew)); exact l7.out)) k_ hk⟩))
   (case aO => exact q87t)
   (case aS => exact (keep_size (w := w) (g := g) (row := none) q30t))
   (case aL => have := LMc78.out; omega)
   intro v299 w84 ho hb hg hat
   rw [← IF.out] at ho
   replace be := gbb be hg (Kd.R_ne cm.out be.out q125t)
   replace bf := gbb bf hg (Kd.R_ne cm.out bf.out q125t)
   replace cl := am (Kd.R_after (ok := (fun k_ => some k_ ≠ (.slice xu rj.length xv : Value).ownBlock)) (by (with_reducible repeat (first | apply Kd.R_alloc | apply Kd.R_drewN | apply Kd.R_drew)); exact Kd.R_mono cl.out (fun _ hk => ⟨hk.2, hk.1⟩)) hg hat)
   replace cF := am (Kd.R_over' q86t (Kd.R_typed q87t) q125t hg)
   replace aV := gbb aV hg (Kd.R_ne cm.out aV.out q125t)
   replace l7 := am (Kd.R_after (ok := (fun k_ => some k_ ≠ (.slice bz db.length bA : Value).ownBlock)) (by (with_reducible repeat (first | apply Kd.R_alloc | apply Kd.R_drewN | apply Kd.R_drew)); exact Kd.R_mono l7.out (fun _ hk => ⟨hk.1.2, hk.2⟩)) hg hat)
   replace HB := am (below_weaken q38t HL.out hb)
   replace HI0 := am (IsS69.grown q39t hg (IsS69.own_ne HI0.out cm.out q125t))
   replace HK := am (KeepBut.trans q30t (KeepBut.of_grown hg g) (Kd.R_base2 cm.out))
   have Cw := am (ho)
   clear cm
   clear ho hb hg hat
   obtain ⟨uk, ul, rk⟩ := Kd.R_slice Cw.out
   (first | subst rk | (injection rk with f1_ f2_ f3_; have f4_ := f1_.symm; have f5_ := f3_.symm; clear f1_ f2_ f3_; subst f4_; subst f5_))
   refine hK.out _ _ q4t (fun hHeld => ?_)
   clear hK K
   refine norm_ (a' := ?_) ?_ ?_
   rotate_left
   ·show Act.put _ (some 58) _ = _
    simp only [Act.put, List.setIfInBounds_toArray, List.set_cons_zero, List.set_cons_succ, i64_w, i32_w]
    rfl
   refine pv_ 7 59 (bm 9 255) ?_
   refine last_ (i := 8) (N := none) #[true, true, true, true, true, true, true, true, true] rfl rfl (one_of HT_.out (by kernel_rfl)) q125t (fun K hK => ?_)
   have hs86 : w84.cell? ⟨bI, 12, none⟩ = some (.slice gW dc.length gX) := (blk_cell aV.out 12).trans rfl
   have hfs86 := blk_frozen aV.out 12
   have IG := kO.out
   have PA := kQ.out
   have IH := kP.out
   have PB := kR.out
   refine skip_ (w1 := ?_) q127t rfl ?_ ?_
   rotate_left
   ·go_simp
    rfl
   refine hK.out _ _ ?_
   clear hK K
   refine done_ (done_of HT_.out (by kernel_rfl)) ?_
   try go_wp2
   go_meet
   case rel => exact ⟨_, (xp), (xq), (eZ), (fg), (fh), (db), (e1), (fi), (dr), (xt), (.slice bz db.length bA), (.slice gH dr.length gI), (.slice uk xt.length ul), H', ⟨q122t⟩, ⟨(by (with_reducible repeat (first | apply Kd.R_alloc | apply Kd.R_drewN | apply Kd.R_drew)); exact Kd.R_mono (rkf (Kd.R_types cl.out aV.out q125t)) (fun _ hk => hk.1.2))⟩, ⟨q54t⟩, ⟨(by (with_reducible repeat (first | apply Kd.R_alloc | apply Kd.R_drewN | apply Kd.R_drew)); exact Kd.R_mono (rkf (Kd.R_types Cw.out aV.out q125t)) (fun _ hk => hk.1.1))⟩, ⟨(qbf be)⟩, ⟨(qbf bf)⟩, ⟨qbp aV⟩, ⟨q39t⟩, ⟨q30t⟩, ⟨q38t⟩⟩
  rw [if_neg c76] at H
  have Cs : (cn == 6) = false := beq_eq_false_iff_ne.mpr c76
  have Ct : (cn != 6) = true := bne_iff_ne.mpr c76
  by_cases c87 : cn = 7
  rotate_left
  ·rw [if_neg c87] at H
   have xw : (cn == 7) = false := beq_eq_false_iff_ne.mpr c87
   have Cx : (cn != 7) = true := bne_iff_ne.mpr c87
   have H' := Aside0.mk H
   clear H
   go_wp2
   go_meet
   case rel => exact ⟨_, (b8), (b9), (eZ), (fg), (fh), (db), (e1), (fi), (dr), (dc), (.slice bz db.length bA), (.slice gH dr.length gI), (.slice gW dc.length gX), H', ⟨q122t⟩, ⟨q85t⟩, ⟨q86t⟩, ⟨q87t⟩, ⟨qbk be⟩, ⟨qbk bf⟩, ⟨qbk aV⟩, ⟨q39t⟩, ⟨q30t⟩, ⟨q38t⟩⟩
  rw [if_pos c87] at H
  have xw : (cn == 7) = true := beq_iff_eq.mpr c87
  have Cx : (cn != 7) = false := bne_eq_false_iff_eq.mpr c87
  clear c87
  obtain ⟨⟨rl, rm, rn⟩, um, H⟩ := bnd H
  try dsimp only at H
  obtain ⟨⟨ro, rp, rq⟩, II, H⟩ := bnd H
  try dsimp only at H
  obtain ⟨⟨rr, xx, xy⟩, IJ, H⟩ := bnd H
  try dsimp only at H
  by_cases c91 : dr.length < 5864062014805
  rotate_left
  ·rw [if_neg c91] at H
   exact absurd H q126t
  rw [if_pos c91] at H
  have LMc91 := Aside0.mk c91
  clear c91
  obtain ⟨xz, hy310⟩ : ∃ y_ : List (S33), y_ = (dr ++ [(⟨rl, ro, rr⟩ : S33)]) := ⟨_, rfl⟩
  replace H : (spec_l7Any.j0 k ah xx xy eZ fg gR fh gS gT gU gV db e1 fi xz dc) = some (r1, r2, r3, r4, r5, r6, r7, r8, r9, r10, r11, r12, r13, r14, r15) := by first | (rw [hy310]; with_reducible exact H) | (have H2_ := (Option.bind_some _ _).symm.trans H; rw [hy310]; with_reducible exact H2_) | (have H2_ := (Option.bind_some _ _).symm.trans H; with_reducible exact H2_) | with_reducible exact H | (rw [hy310]; exact H) | exact H
  have IK := Aside0.mk hy310
  clear hy310
  have H' := Aside0.mk H
  clear H
  try go_wp2
  replace cl := am (Kd.R_drew cl.out)
  replace cF := am (Kd.R_drew cF.out)
  replace cm := am (Kd.R_drew cm.out)
  replace be := am (blk_drew be.out)
  replace bf := am (blk_drew bf.out)
  replace aV := am (blk_drew aV.out)
  replace HI0 := am (IsS69.drew HI0.out)
  replace HK := am (keep_drew HK.out)
  replace HB := am (below_drew1 HB.out)
  refine start_ (n := 13) (S := fun w' => w'.cell? ⟨bI, 0, none⟩ = some (.int .i64 eZ) ∧ w'.cell? ⟨bI, 1, none⟩ = some (.int .i64 fg) ∧ w'.cell? ⟨bI, 2, none⟩ = some (.int .i64 gR) ∧ w'.cell? ⟨bI, 3, none⟩ = some (.int .i64 fh) ∧ w'.cell? ⟨bI, 4, none⟩ = some (.int .i64 gS) ∧ w'.cell? ⟨bI, 5, none⟩ = some (.int .i64 gT) ∧ w'.cell? ⟨bI, 6, none⟩ = some (.int .i64 gU) ∧ w'.cell? ⟨bI, 7, none⟩ = some (.int .i64 gV) ∧ w'.cell? ⟨bI, 8, none⟩ = some (.slice bz db.length bA) ∧ w'.cell? ⟨bI, 9, none⟩ = some (.int .i64 e1) ∧ w'.cell? ⟨bI, 10, none⟩ = some (.int .i64 fi) ∧ w'.cell? ⟨bI, 11, none⟩ = some (.slice gH dr.length gI) ∧ w'.cell? ⟨bI, 12, none⟩ = some (.slice gW dc.length gX)) (ds := [12]) (bm 13 0) (by kernel_rfl) rfl (by kernel_rfl) qst (fun hHeld => ?_); refine with_tabW spec_l7Any.tab18 spec_l7Any.bits18 (fun HT_ HW_ => ?_)
  generalize w20.drew = w92 at cl cF cm be bf aV HI0 HK HB hHeld ⊢
  refine pv_ 0 62 (bm 13 1) ?_
  refine pv_ 2 64 (bm 13 5) ?_
  refine pv_ 4 66 (bm 13 21) ?_
  refine pv_ 6 68 (bm 13 85) ?_
  refine tv_ 1 63 (bm 13 87) ?_
  refine one_ (i := 3) (N := some 65) (bm 13 95) rfl rfl (one_of HT_.out (by kernel_rfl)) q125t (fun K hK => ?_)
  refine goes_ Tryd.func26 (by kernel_rfl) rfl #[.pointer (some ⟨g, 0, none⟩), .int .i64 100] q127t rfl rfl q66t ?_
  with_reducible refine (spec_l1Below.calls g ah b8 b9 100 rl rm rn w0 _ ?side1 ?side2 um.out).mono ?_
  (case side1 => repeat (first | (with_reducible first | exact HI0.out | apply IsS69.alloc | apply IsS69.drewN | apply IsS69.drew | apply IsS69.set_1 | apply IsS69.set_2 | refine IsS69.far ?_ (Aside0.out q123t) _) | exact HI0.out))
  (case side2 => repeat (first | (with_reducible first | exact HB.out | apply below_alloc | apply pw_below_drewN | apply below_drew1 | refine below_set ?_ (IsS69.ge HI0.out) | refine below_set ?_ (Aside0.out q123t)) | exact HB.out))
  rintro e w93 ⟨rfl, hi, hb, hk⟩
  refine ⟨_, rfl, ?_⟩
  replace be := kbb be hk iI.out q126t
  replace bf := kbb bf hk iJ.out q126t
  replace cl := am (Kd.R_mono (Kd.R_keep (IsS69.apart (show IsS69 w0 _ g ah b8 b9 from by repeat (first | (with_reducible first | exact HI0.out | apply IsS69.alloc | apply IsS69.drewN | apply IsS69.drew | apply IsS69.set_1 | apply IsS69.set_2 | refine IsS69.far ?_ (Aside0.out q123t) _) | exact HI0.out)) q85t q125t) hk (fun _ h => h.2)) (fun _ h => h.1))
  replace cF := am (Kd.R_mono (Kd.R_keep (IsS69.apart (show IsS69 w0 _ g ah b8 b9 from by repeat (first | (with_reducible first | exact HI0.out | apply IsS69.alloc | apply IsS69.drewN | apply IsS69.drew | apply IsS69.set_1 | apply IsS69.set_2 | refine IsS69.far ?_ (Aside0.out q123t) _) | exact HI0.out)) q86t q125t) hk (fun _ h => h.2)) (fun _ h => h.1))
  replace cm := am (Kd.R_mono (Kd.R_keep (IsS69.apart (show IsS69 w0 _ g ah b8 b9 from by repeat (first | (with_reducible first | exact HI0.out | apply IsS69.alloc | apply IsS69.drewN | apply IsS69.drew | apply IsS69.set_1 | apply IsS69.set_2 | refine IsS69.far ?_ (Aside0.out q123t) _) | exact HI0.out)) q87t q125t) hk (fun _ h => h.2)) (fun _ h => h.1))
  replace aV := kbb aV hk fG.out q126t
  replace HK := am (KeepBut.trans q30t hk (.inl rfl))
  replace HB := am (hb)
  replace HI0 := am (hi)
  (try clear hb)
  (try clear hb2)
  (try clear hk)
  (try clear hi)
  refine hK.out _ _ q4t (fun hHeld => ?_)
  clear hK K
  refine norm_ (a' := ?_) ?_ ?_
  rotate_left
  ·show Act.put _ (some 65) _ = _
   simp only [Act.put, List.setIfInBounds_toArray, List.set_cons_zero, List.set_cons_succ, i64_w, i32_w]
   rfl
  refine one_ (i := 5) (N := some 67) (bm 13 127) rfl rfl (one_of HT_.out (by kernel_rfl)) q125t (fun K hK => ?_)
  refine goes_ Tryd.func26 (by kernel_rfl) rfl #[.pointer (some ⟨g, 0, none⟩), .int .i64 20] q127t rfl rfl q66t ?_
  with_reducible refine (spec_l1Below.calls g ah rm rn 20 ro rp rq w0 _ ?side1 ?side2 II.out).mono ?_
  (case side1 => repeat (first | (with_reducible first | exact HI0.out | apply IsS69.alloc | apply IsS69.drewN | apply IsS69.drew | apply IsS69.set_1 | apply IsS69.set_2 | refine IsS69.far ?_ (Aside0.out q123t) _) | exact HI0.out))
  (case side2 => repeat (first | (with_reducible first | exact HB.out | apply below_alloc | apply pw_below_drewN | apply below_drew1 | refine below_set ?_ (IsS69.ge HI0.out) | refine below_set ?_ (Aside0.out q123t)) | exact HB.out))
  rintro e w94 ⟨rfl, hi, hb, hk⟩
  refine ⟨_, rfl, ?_⟩
  replace be := kbb be hk iI.out q126t
  replace bf := kbb bf hk iJ.out q126t
  replace cl := am (Kd.R_mono (Kd.R_keep (IsS69.apart (show IsS69 w0 _ g ah rm rn from by repeat (first | (with_reducible first | exact HI0.out | apply IsS69.alloc | apply IsS69.drewN | apply IsS69.drew | apply IsS69.set_1 | apply IsS69.set_2 | refine IsS69.far ?_ (Aside0.out q123t) _) | exact HI0.out)) q85t q125t) hk (fun _ h => h.2)) (fun _ h => h.1))
  replace cF := am (Kd.R_mono (Kd.R_keep (IsS69.apart (show IsS69 w0 _ g ah rm rn from by repeat (first | (with_reducible first | exact HI0.out | apply IsS69.alloc | apply IsS69.drewN | apply IsS69.drew | apply IsS69.set_1 | apply IsS69.set_2 | refine IsS69.far ?_ (Aside0.out q123t) _) | exact HI0.out)) q86t q125t) hk (fun _ h => h.2)) (fun _ h => h.1))
  replace cm := am (Kd.R_mono (Kd.R_keep (IsS69.apart (show IsS69 w0 _ g ah rm rn from by repeat (first | (with_reducible first | exact HI0.out | apply IsS69.alloc | apply IsS69.drewN | apply IsS69.drew | apply IsS69.set_1 | apply IsS69.set_2 | refine IsS69.far ?_ (Aside0.out q123t) _) | exact HI0.out)) q87t q125t) hk (fun _ h => h.2)) (fun _ h => h.1))
  replace aV := kbb aV hk fG.out q126t
  replace HK := am (KeepBut.trans q30t hk (.inl rfl))
  replace HB := am (hb)
  replace HI0 := am (hi)
  (try clear hb)
  (try clear hb2)
  (try clear hk)
  (try clear hi)
  refine hK.out _ _ q4t (fun hHeld => ?_)
  clear hK K
  refine norm_ (a' := ?_) ?_ ?_
  rotate_left
  ·show Act.put _ (some 67) _ = _
   simp only [Act.put, List.setIfInBounds_toArray, List.set_cons_zero, List.set_cons_succ, i64_w, i32_w]
   rfl
  refine one_ (i := 7) (N := some 69) (bm 13 255) rfl rfl (one_of HT_.out (by kernel_rfl)) q125t (fun K hK => ?_)
  refine goes_ Tryd.func26 (by kernel_rfl) rfl #[.pointer (some ⟨g, 0, none⟩), .int .i64 3] q127t rfl rfl q66t ?_
  with_reducible refine (spec_l1Below.calls g ah rp rq 3 rr xx xy w0 _ ?side1 ?side2 IJ.out).mono ?_
  (case side1 => repeat (first | (with_reducible first | exact HI0.out | apply IsS69.alloc | apply IsS69.drewN | apply IsS69.drew | apply IsS69.set_1 | apply IsS69.set_2 | refine IsS69.far ?_ (Aside0.out q123t) _) | exact HI0.out))
  (case side2 => repeat (first | (with_reducible first | exact HB.out | apply below_alloc | apply pw_below_drewN | apply below_drew1 | refine below_set ?_ (IsS69.ge HI0.out) | refine below_set ?_ (Aside0.out q123t)) | exact HB.out))
  rintro e w95 ⟨rfl, hi, hb, hk⟩
  refine ⟨_, rfl, ?_⟩
  replace be := kbb be hk iI.out q126t
  replace bf := kbb bf hk iJ.out q126t
  replace cl := am (Kd.R_mono (Kd.R_keep (IsS69.apart (show IsS69 w0 _ g ah rp rq from by repeat (first | (with_reducible first | exact HI0.out | apply IsS69.alloc | apply IsS69.drewN | apply IsS69.drew | apply IsS69.set_1 | apply IsS69.set_2 | refine IsS69.far ?_ (Aside0.out q123t) _) | exact HI0.out)) q85t q125t) hk (fun _ h => h.2)) (fun _ h => h.1))
  replace cF := am (Kd.R_mono (Kd.R_keep (IsS69.apart (show IsS69 w0 _ g ah rp rq from by repeat (first | (with_reducible first | exact HI0.out | apply IsS69.alloc | apply IsS69.drewN | apply IsS69.drew | apply IsS69.set_1 | apply IsS69.set_2 | refine IsS69.far ?_ (Aside0.out q123t) _) | exact HI0.out)) q86t q125t) hk (fun _ h => h.2)) (fun _ h => h.1))
  replace cm := am (Kd.R_mono (Kd.R_keep (IsS69.apart (show IsS69 w0 _ g ah rp rq from by repeat (first | (with_reducible first | exact HI0.out | apply IsS69.alloc | apply IsS69.drewN | apply IsS69.drew | apply IsS69.set_1 | apply IsS69.set_2 | refine IsS69.far ?_ (Aside0.out q123t) _) | exact HI0.out)) q87t q125t) hk (fun _ h => h.2)) (fun _ h => h.1))
  replace aV := kbb aV hk fG.out q126t
  replace HK := am (KeepBut.trans q30t hk (.inl rfl))
  replace HB := am (hb)
  replace HI0 := am (hi)
  (try clear hb)
  (try clear hb2)
  (try clear hk)
  (try clear hi)
  refine hK.out _ _ q4t (fun hHeld => ?_)
  clear hK K
  refine norm_ (a' := ?_) ?_ ?_
  rotate_left
  ·show Act.put _ (some 69) _ = _
   simp only [Act.put, List.setIfInBounds_toArray, List.set_cons_zero, List.set_cons_succ, i64_w, i32_w]
   rfl
  refine pv_ 8 70 (bm 13 511) ?_
  refine one_ (i := 9) (N := some 71) (bm 13 1023) rfl rfl (one_of HT_.out (by kernel_rfl)) q125t (fun K hK => ?_)
  refine value_ (w1 := ?_) (v := ?_) q127t rfl ?_ ?_
  rotate_left 2
  ·go_simp
   constructor
   ·rfl
   rfl
  refine hK.out _ _ q3t (fun hHeld => ?_)
  clear hK K
  refine norm_ (a' := ?_) ?_ ?_
  rotate_left
  ·show Act.put _ (some 71) _ = _
   simp only [Act.put, List.setIfInBounds_toArray, List.set_cons_zero, List.set_cons_succ, i64_w, i32_w]
   rfl
  refine one_ (i := 10) (N := some 72) (bm 13 2047) rfl rfl (one_of HT_.out (by kernel_rfl)) q125t (fun K hK => ?_)
  refine Kd.R_append_step k33 w.heap.size q127t (.tmp 63) (.tmp 71) 27 33 (.agg #[(.int .i64 0), (.int .i64 0), (.int .i64 0)]) 24 rfl Tryd.underlying27 info33 rfl q125t (by omega) (.slice gH dr.length gI) dr (⟨rl, ro, rr⟩ : S33) [.int .i64 rl, .int .i64 ro, .int .i64 rr] (fun _ => True) (fun _ => False) rfl rfl ?aP (fun _ hk => hk.elim) ?aF ?aO (Below.refl _ _) ?aS ?aL ?_
  (case aP => exact k33_mkM _ _ _ (⟨rl, ro, rr⟩ : S33))
  (case aF => exact (fun _ _ => trivial))
  (case aO => exact q86t)
  (case aS => exact (keep_size (w := w) (g := g) (row := none) q30t))
  (case aL => have := LMc91.out; omega)
  intro v311 w96 ho hb hg hat
  rw [← IK.out] at ho
  replace be := gbb be hg (Kd.R_ne cF.out be.out q125t)
  replace bf := gbb bf hg (Kd.R_ne cF.out bf.out q125t)
  replace cl := am (Kd.R_over' q85t (Kd.R_typed q86t) q125t hg)
  replace cm := am (Kd.R_over' q87t (Kd.R_typed q86t) q125t hg)
  replace aV := gbb aV hg (Kd.R_ne cF.out aV.out q125t)
  replace HB := am (below_weaken q38t HL.out hb)
  replace HI0 := am (IsS69.grown q39t hg (IsS69.own_ne HI0.out cF.out q125t))
  replace HK := am (KeepBut.trans q30t (KeepBut.of_grown hg g) (Kd.R_base2 cF.out))
  have Cy := am (ho)
  clear cF
  clear ho hb hg hat
  obtain ⟨xA, xB, rt⟩ := Kd.R_slice Cy.out
  (first | subst rt | (injection rt with f1_ f2_ f3_; have f4_ := f1_.symm; have f5_ := f3_.symm; clear f1_ f2_ f3_; subst f4_; subst f5_))
  refine hK.out _ _ q4t (fun hHeld => ?_)
  clear hK K
  refine norm_ (a' := ?_) ?_ ?_
  rotate_left
  ·show Act.put _ (some 72) _ = _
   simp only [Act.put, List.setIfInBounds_toArray, List.set_cons_zero, List.set_cons_succ, i64_w, i32_w]
   rfl
  refine pv_ 11 73 (bm 13 4095) ?_
  refine last_ (i := 12) (N := none) #[true, true, true, true, true, true, true, true, true, true, true, true, true] rfl rfl (one_of HT_.out (by kernel_rfl)) q125t (fun K hK => ?_)
  have hs98 : w96.cell? ⟨bI, 11, none⟩ = some (.slice gH dr.length gI) := (blk_cell aV.out 11).trans rfl
  have hfs98 := blk_frozen aV.out 11
  have PC := kO.out
  have PD := kQ.out
  have PE := kP.out
  have PF := kR.out
  refine skip_ (w1 := ?_) q127t rfl ?_ ?_
  rotate_left
  ·go_simp
   rfl
  refine hK.out _ _ ?_
  clear hK K
  refine done_ (done_of HT_.out (by kernel_rfl)) ?_
  try go_wp2
  go_meet
  case rel => exact ⟨_, (xx), (xy), (eZ), (fg), (fh), (db), (e1), (fi), (xz), (dc), (.slice bz db.length bA), (.slice xA xz.length xB), (.slice gW dc.length gX), H', ⟨q122t⟩, ⟨q58t⟩, ⟨(by (with_reducible repeat (first | apply Kd.R_alloc | apply Kd.R_drewN | apply Kd.R_drew)); exact Kd.R_mono (rkf (Kd.R_types Cy.out aV.out q125t)) (fun _ hk => trivial))⟩, ⟨q59t⟩, ⟨(qbf be)⟩, ⟨(qbf bf)⟩, ⟨qbp aV⟩, ⟨q39t⟩, ⟨q30t⟩, ⟨q38t⟩⟩
 case rest =>
  clear wR
  try clear c2
  try clear p2
  try clear c5
  try clear c7
  try clear c8
  try clear c9
  try clear c26
  try clear c50
  try clear c76
  try clear Cs
  try clear Ct
  try clear c78
  try clear c87
  try clear xw
  try clear Cx
  try clear c91
  obtain ⟨kq, j6, j7, t4, t5, t6, t7, t8, t9, ua, ub, u256008, u256011, u256012, HA, PG, Cz, CA, CB, be, bf, aV, HI0, HK, HB⟩ := hcut
  cases kq with
  | zero => exact absurd HA.out (by simp [spec_l7Any.j0])
  | succ kj4 =>
   have H := HA.out
   clear HA
   simp only [spec_l7Any.j0] at H
   simp only [Option.some.injEq, Prod.mk.injEq] at H
   obtain ⟨rfl, rfl, rfl, rfl, rfl, rfl, rfl, rfl, rfl, rfl, rfl, rfl, rfl, rfl, rfl⟩ := H
   have GI := kP.out
   have GJ := kO.out
   have Bm := kR.out
   have Bn := kQ.out
   have PH := fG.out
   have PI := oV.out
   have PJ := qc13 aV.out
   have PK := qf13 aV.out
   have PL := BX.out
   have PM := BV.out
   have PN := iJ.out
   have PO := If.out
   have PP := qc13 bf.out
   have PQ := qf13 bf.out
   obtain ⟨IL, IM, IN⟩ := Kd.R_slice Cz.out
   subst IN
   obtain ⟨iO9, IP, IQ⟩ := Kd.R_slice CA.out
   subst IQ
   obtain ⟨IR, IS, IT⟩ := Kd.R_slice CB.out
   subst IT
   go_wp2
   refine bodyPost_ret (results_cell_row rfl _ _ js 29 #[t4, t5, gR, t6, gS, gT, gU, gV, .slice IL t7.length IM, t8, t9, .slice iO9 ua.length IP, .slice IR ub.length IS] (0, 0) _ rfl (qbp bf) Tryd.underlying29 rfl (by kernel_rfl)) rfl ?_
   exact ⟨_, _, _, q114t, (by (with_reducible repeat (first | apply Kd.R_alloc | apply Kd.R_drewN | apply Kd.R_drew)); exact Kd.R_mono (rk13 (Kd.R_types Cz.out bf.out q125t)) (fun _ hk => hk.1)), (by (with_reducible repeat (first | apply Kd.R_alloc | apply Kd.R_drewN | apply Kd.R_drew)); exact Kd.R_mono (rk13 (Kd.R_types CA.out bf.out q125t)) (fun _ hk => trivial)), (by (with_reducible repeat (first | apply Kd.R_alloc | apply Kd.R_drewN | apply Kd.R_drew)); exact Kd.R_mono (rk13 (Kd.R_types CB.out bf.out q125t)) (fun _ hk => hk.1)), q39t, q38t, q30t⟩

end Go.Proofs.YtofpmdgndegalacDoor.QFnNodes
