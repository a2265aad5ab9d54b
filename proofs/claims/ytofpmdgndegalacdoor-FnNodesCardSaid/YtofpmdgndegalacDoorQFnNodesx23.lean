/- What the functions that the law FnNodes reaches compute, as plain functions, and that the code computes just that (by a program of this session's; the library's functions by hand). No condition. -/
import Derived.Test.YtofpmdgndegalacDoorQFnNodesx0
import Derived.Test.YtofpmdgndegalacDoorQFnNodesx2
import Derived.Test.YtofpmdgndegalacDoorQFnNodesx6
import Derived.Test.YtofpmdgndegalacDoorQFnNodesx7
import Derived.Test.YtofpmdgndegalacDoorQFnNodesx8
import Derived.Test.YtofpmdgndegalacDoorQFnNodesx9
import Derived.Test.YtofpmdgndegalacDoorQFnNodesx10
import Derived.Test.YtofpmdgndegalacDoorQFnNodesx11
import Derived.Test.YtofpmdgndegalacDoorQFnNodesx13
import Derived.Test.YtofpmdgndegalacDoorQFnNodesx15
import Derived.Test.YtofpmdgndegalacDoorQFnNodesx16
import Derived.Test.YtofpmdgndegalacDoorQFnNodesx18
import Derived.Test.YtofpmdgndegalacDoorQFnNodesx20
import Derived.Test.YtofpmdgndegalacDoorQFnNodesx21
import Derived.Test.YtofpmdgndegalacDoorQFnNodesx22
namespace Go.Proofs.YtofpmdgndegalacDoor.QFnNodes
open Go.RowKit Go.Proofs.YtofpmdgndegalacDoorW.PrintWords Go.Proofs.YtofpmdgndegalacDoorW.PrintLast Go.Proofs.YtofpmdgndegalacDoorW.PrintMore
attribute [local go_sem] max2_int min2_int max_two min_two max_three min_three max_four min_four   -- for this text's walks alone
set_option linter.unusedVariables false
set_option linter.unusedSimpArgs false

/-! ### laws_FnNodes: function 3 -/
mutual
def laws_FnNodes.j0 : Nat → Bool → Int → Int → Int → Int → Int → Int → Int → Int → Int → Int → Int → Int → Int → Int → List Int → Int → Int → List (S33) → List Int → Int → Int → Int → Int → Int → Int → Int → Int → Int → Option (Bool)
 | 0, _, _, _, _, _, _, _, _, _, _, _, _, _, _, _, _, _, _, _, _, _, _, _, _, _, _, _, _, _ => none
 | k + 1, x73, n4, n5, n6, n7, n8, n9, mL, oa, ob, oc, od, oe, og, oh, ol, om, oo, oq, ot, Fx, tp, Fy, Fz, FA, FB, z6, tq, qC => if x73 = true then (none) else ((impl_ThingOk.f k Fx tp Fy Fz FA FB z6 tq qC).bind fun z7 => (if z7 = true then (if z6 < 0 then (none) else ((impl_BytesOf.f Fx tp Fy Fz FA FB).bind fun mM => (if (wrap64 (z6 + tq)) > mM then (none) else (if qC = 0 then (if tq > tp then (none) else (if qC > 0 then (laws_FnNodes.j1 k (decide ((wrap64 (qC * tp)) < tq)) n4 n5 n6 n7 n8 n9 mL oa ob oc od oe og oh ol om oo oq ot) else (laws_FnNodes.j1 k false n4 n5 n6 n7 n8 n9 mL oa ob oc od oe og oh ol om oo oq ot))) else (if qC > 0 then (laws_FnNodes.j1 k (decide ((wrap64 (qC * tp)) < tq)) n4 n5 n6 n7 n8 n9 mL oa ob oc od oe og oh ol om oo oq ot) else (laws_FnNodes.j1 k false n4 n5 n6 n7 n8 n9 mL oa ob oc od oe og oh ol om oo oq ot)))))) else (laws_FnNodes.j1 k false n4 n5 n6 n7 n8 n9 mL oa ob oc od oe og oh ol om oo oq ot)))
def laws_FnNodes.j1 : Nat → Bool → Int → Int → Int → Int → Int → Int → Int → Int → Int → Int → Int → Int → Int → Int → List Int → Int → Int → List (S33) → List Int → Option (Bool)
 | 0, _, _, _, _, _, _, _, _, _, _, _, _, _, _, _, _, _, _, _, _ => none
 | k + 1, MB, n4, n5, n6, n7, n8, n9, mL, oa, ob, oc, od, oe, og, oh, ol, om, oo, oq, ot => if MB = true then (none) else ((impl_NodeNew.f 1).bind fun iT => ((impl_NodeOk.f k n4 n5 n6 n7 n8 n9 iT.1 iT.2.1 iT.2.2.1 iT.2.2.2.1 iT.2.2.2.2.1 iT.2.2.2.2.2.1 iT.2.2.2.2.2.2.1 iT.2.2.2.2.2.2.2.1 iT.2.2.2.2.2.2.2.2.1 iT.2.2.2.2.2.2.2.2.2.1 iT.2.2.2.2.2.2.2.2.2.2.1 iT.2.2.2.2.2.2.2.2.2.2.2.1 iT.2.2.2.2.2.2.2.2.2.2.2.2).bind fun z8 => (if z8 = true then ((impl_NodeNew.f 1).bind fun iU => ((impl_Bare.f k iU.1 iU.2.1 iU.2.2.1 iU.2.2.2.1 iU.2.2.2.2.1 iU.2.2.2.2.2.1 iU.2.2.2.2.2.2.1 iU.2.2.2.2.2.2.2.1 iU.2.2.2.2.2.2.2.2.1 iU.2.2.2.2.2.2.2.2.2.1 iU.2.2.2.2.2.2.2.2.2.2.1 iU.2.2.2.2.2.2.2.2.2.2.2.1 iU.2.2.2.2.2.2.2.2.2.2.2.2).bind fun z9 => (if z9 = true then ((impl_NodeOk.f k n4 n5 n6 n7 n8 n9 mL oa ob oc od oe og oh ol om oo oq ot).bind fun Aa => (if Aa = true then (if mL = 1 then (some true) else ((impl_Bare.f k mL oa ob oc od oe og oh ol om oo oq ot).bind fun Ab => (some Ab))) else (some true))) else (none)))) else (none))))
end
def laws_FnNodes.f (k : Nat) (l0 : List Int) : Option (Bool) := (laws_big.f l0).bind fun tr => (if tr = true then (some true) else ((spec_DrawNodeOk.f k l0).bind fun aX => ((spec_DrawThingOk.f k l0).bind fun bC => ((spec_DrawBare.f k l0).bind fun a3 => ((spec_DrawSameNode.f k l0).bind fun a4 => ((impl_NodeOk.f k aX.1 aX.2.1 aX.2.2.1 aX.2.2.2.1 aX.2.2.2.2.1 aX.2.2.2.2.2.1 aX.2.2.2.2.2.2.1 aX.2.2.2.2.2.2.2.1 aX.2.2.2.2.2.2.2.2.1 aX.2.2.2.2.2.2.2.2.2.1 aX.2.2.2.2.2.2.2.2.2.2.1 aX.2.2.2.2.2.2.2.2.2.2.2.1 aX.2.2.2.2.2.2.2.2.2.2.2.2.1 aX.2.2.2.2.2.2.2.2.2.2.2.2.2.1 aX.2.2.2.2.2.2.2.2.2.2.2.2.2.2.1 aX.2.2.2.2.2.2.2.2.2.2.2.2.2.2.2.1 aX.2.2.2.2.2.2.2.2.2.2.2.2.2.2.2.2.1 aX.2.2.2.2.2.2.2.2.2.2.2.2.2.2.2.2.2.1 aX.2.2.2.2.2.2.2.2.2.2.2.2.2.2.2.2.2.2).bind fun iV => ((spec_NodeOk.f k aX.1 aX.2.1 aX.2.2.1 aX.2.2.2.1 aX.2.2.2.2.1 aX.2.2.2.2.2.1 aX.2.2.2.2.2.2.1 aX.2.2.2.2.2.2.2.1 aX.2.2.2.2.2.2.2.2.1 aX.2.2.2.2.2.2.2.2.2.1 aX.2.2.2.2.2.2.2.2.2.2.1 aX.2.2.2.2.2.2.2.2.2.2.2.1 aX.2.2.2.2.2.2.2.2.2.2.2.2.1 aX.2.2.2.2.2.2.2.2.2.2.2.2.2.1 aX.2.2.2.2.2.2.2.2.2.2.2.2.2.2.1 aX.2.2.2.2.2.2.2.2.2.2.2.2.2.2.2.1 aX.2.2.2.2.2.2.2.2.2.2.2.2.2.2.2.2.1 aX.2.2.2.2.2.2.2.2.2.2.2.2.2.2.2.2.2.1 aX.2.2.2.2.2.2.2.2.2.2.2.2.2.2.2.2.2.2).bind fun iW => (if (iV != iW) = true then (none) else ((impl_ThingOk.f k bC.1 bC.2.1 bC.2.2.1 bC.2.2.2.1 bC.2.2.2.2.1 bC.2.2.2.2.2.1 bC.2.2.2.2.2.2.1 bC.2.2.2.2.2.2.2.1 bC.2.2.2.2.2.2.2.2).bind fun iX => ((spec_ThingOk.f k bC.1 bC.2.1 bC.2.2.1 bC.2.2.2.1 bC.2.2.2.2.1 bC.2.2.2.2.2.1 bC.2.2.2.2.2.2.1 bC.2.2.2.2.2.2.2.1 bC.2.2.2.2.2.2.2.2).bind fun iY => (if (iX != iY) = true then (none) else ((impl_Bare.f k a3.1 a3.2.1 a3.2.2.1 a3.2.2.2.1 a3.2.2.2.2.1 a3.2.2.2.2.2.1 a3.2.2.2.2.2.2.1 a3.2.2.2.2.2.2.2.1 a3.2.2.2.2.2.2.2.2.1 a3.2.2.2.2.2.2.2.2.2.1 a3.2.2.2.2.2.2.2.2.2.2.1 a3.2.2.2.2.2.2.2.2.2.2.2.1 a3.2.2.2.2.2.2.2.2.2.2.2.2).bind fun iZ => ((spec_Bare.f a3.1 a3.2.1 a3.2.2.1 a3.2.2.2.1 a3.2.2.2.2.1 a3.2.2.2.2.2.1 a3.2.2.2.2.2.2.1 a3.2.2.2.2.2.2.2.1 a3.2.2.2.2.2.2.2.2.1 a3.2.2.2.2.2.2.2.2.2.1 a3.2.2.2.2.2.2.2.2.2.2.1 a3.2.2.2.2.2.2.2.2.2.2.2.1 a3.2.2.2.2.2.2.2.2.2.2.2.2).bind fun ja => (if (iZ != ja) = true then (none) else ((impl_SameNode.f k a4.1 a4.2.1 a4.2.2.1 a4.2.2.2.1 a4.2.2.2.2.1 a4.2.2.2.2.2.1 a4.2.2.2.2.2.2.1 a4.2.2.2.2.2.2.2.1 a4.2.2.2.2.2.2.2.2.1 a4.2.2.2.2.2.2.2.2.2.1 a4.2.2.2.2.2.2.2.2.2.2.1 a4.2.2.2.2.2.2.2.2.2.2.2.1 a4.2.2.2.2.2.2.2.2.2.2.2.2.1 a4.2.2.2.2.2.2.2.2.2.2.2.2.2.1 a4.2.2.2.2.2.2.2.2.2.2.2.2.2.2.1 a4.2.2.2.2.2.2.2.2.2.2.2.2.2.2.2.1 a4.2.2.2.2.2.2.2.2.2.2.2.2.2.2.2.2.1 a4.2.2.2.2.2.2.2.2.2.2.2.2.2.2.2.2.2.1 a4.2.2.2.2.2.2.2.2.2.2.2.2.2.2.2.2.2.2.1 a4.2.2.2.2.2.2.2.2.2.2.2.2.2.2.2.2.2.2.2.1 a4.2.2.2.2.2.2.2.2.2.2.2.2.2.2.2.2.2.2.2.2.1 a4.2.2.2.2.2.2.2.2.2.2.2.2.2.2.2.2.2.2.2.2.2.1 a4.2.2.2.2.2.2.2.2.2.2.2.2.2.2.2.2.2.2.2.2.2.2.1 a4.2.2.2.2.2.2.2.2.2.2.2.2.2.2.2.2.2.2.2.2.2.2.2.1 a4.2.2.2.2.2.2.2.2.2.2.2.2.2.2.2.2.2.2.2.2.2.2.2.2.1 a4.2.2.2.2.2.2.2.2.2.2.2.2.2.2.2.2.2.2.2.2.2.2.2.2.2).bind fun jb => ((laws_sameNode.f k a4.1 a4.2.1 a4.2.2.1 a4.2.2.2.1 a4.2.2.2.2.1 a4.2.2.2.2.2.1 a4.2.2.2.2.2.2.1 a4.2.2.2.2.2.2.2.1 a4.2.2.2.2.2.2.2.2.1 a4.2.2.2.2.2.2.2.2.2.1 a4.2.2.2.2.2.2.2.2.2.2.1 a4.2.2.2.2.2.2.2.2.2.2.2.1 a4.2.2.2.2.2.2.2.2.2.2.2.2.1 a4.2.2.2.2.2.2.2.2.2.2.2.2.2.1 a4.2.2.2.2.2.2.2.2.2.2.2.2.2.2.1 a4.2.2.2.2.2.2.2.2.2.2.2.2.2.2.2.1 a4.2.2.2.2.2.2.2.2.2.2.2.2.2.2.2.2.1 a4.2.2.2.2.2.2.2.2.2.2.2.2.2.2.2.2.2.1 a4.2.2.2.2.2.2.2.2.2.2.2.2.2.2.2.2.2.2.1 a4.2.2.2.2.2.2.2.2.2.2.2.2.2.2.2.2.2.2.2.1 a4.2.2.2.2.2.2.2.2.2.2.2.2.2.2.2.2.2.2.2.2.1 a4.2.2.2.2.2.2.2.2.2.2.2.2.2.2.2.2.2.2.2.2.2.1 a4.2.2.2.2.2.2.2.2.2.2.2.2.2.2.2.2.2.2.2.2.2.2.1 a4.2.2.2.2.2.2.2.2.2.2.2.2.2.2.2.2.2.2.2.2.2.2.2.1 a4.2.2.2.2.2.2.2.2.2.2.2.2.2.2.2.2.2.2.2.2.2.2.2.2.1 a4.2.2.2.2.2.2.2.2.2.2.2.2.2.2.2.2.2.2.2.2.2.2.2.2.2).bind fun jc => (if (jb != jc) = true then (none) else ((impl_TextOf.f k a3.1 a3.2.1 a3.2.2.1 a3.2.2.2.1 a3.2.2.2.2.1 a3.2.2.2.2.2.1 a3.2.2.2.2.2.2.1 a3.2.2.2.2.2.2.2.1 a3.2.2.2.2.2.2.2.2.1 a3.2.2.2.2.2.2.2.2.2.1 a3.2.2.2.2.2.2.2.2.2.2.1 a3.2.2.2.2.2.2.2.2.2.2.2.1 a3.2.2.2.2.2.2.2.2.2.2.2.2).bind fun ln => ((spec_TextOf.f k a3.1 a3.2.1 a3.2.2.1 a3.2.2.2.1 a3.2.2.2.2.1 a3.2.2.2.2.2.1 a3.2.2.2.2.2.2.1 a3.2.2.2.2.2.2.2.1 a3.2.2.2.2.2.2.2.2.1 a3.2.2.2.2.2.2.2.2.2.1 a3.2.2.2.2.2.2.2.2.2.2.1 a3.2.2.2.2.2.2.2.2.2.2.2.1 a3.2.2.2.2.2.2.2.2.2.2.2.2).bind fun lp => (if ln.toList = lp.toList then ((impl_NodeNew.f 3).bind fun ef => ((spec_NodeNew.f 3).bind fun eg => ((laws_sameNode.f k ef.1 ef.2.1 ef.2.2.1 ef.2.2.2.1 ef.2.2.2.2.1 ef.2.2.2.2.2.1 ef.2.2.2.2.2.2.1 ef.2.2.2.2.2.2.2.1 ef.2.2.2.2.2.2.2.2.1 ef.2.2.2.2.2.2.2.2.2.1 ef.2.2.2.2.2.2.2.2.2.2.1 ef.2.2.2.2.2.2.2.2.2.2.2.1 ef.2.2.2.2.2.2.2.2.2.2.2.2 eg.1 eg.2.1 eg.2.2.1 eg.2.2.2.1 eg.2.2.2.2.1 eg.2.2.2.2.2.1 eg.2.2.2.2.2.2.1 eg.2.2.2.2.2.2.2.1 eg.2.2.2.2.2.2.2.2.1 eg.2.2.2.2.2.2.2.2.2.1 eg.2.2.2.2.2.2.2.2.2.2.1 eg.2.2.2.2.2.2.2.2.2.2.2.1 eg.2.2.2.2.2.2.2.2.2.2.2.2).bind fun qD => (laws_FnNodes.j0 k (!qD) aX.1 aX.2.1 aX.2.2.1 aX.2.2.2.1 aX.2.2.2.2.1 aX.2.2.2.2.2.1 aX.2.2.2.2.2.2.1 aX.2.2.2.2.2.2.2.1 aX.2.2.2.2.2.2.2.2.1 aX.2.2.2.2.2.2.2.2.2.1 aX.2.2.2.2.2.2.2.2.2.2.1 aX.2.2.2.2.2.2.2.2.2.2.2.1 aX.2.2.2.2.2.2.2.2.2.2.2.2.1 aX.2.2.2.2.2.2.2.2.2.2.2.2.2.1 aX.2.2.2.2.2.2.2.2.2.2.2.2.2.2.1 aX.2.2.2.2.2.2.2.2.2.2.2.2.2.2.2.1 aX.2.2.2.2.2.2.2.2.2.2.2.2.2.2.2.2.1 aX.2.2.2.2.2.2.2.2.2.2.2.2.2.2.2.2.2.1 aX.2.2.2.2.2.2.2.2.2.2.2.2.2.2.2.2.2.2 bC.1 bC.2.1 bC.2.2.1 bC.2.2.2.1 bC.2.2.2.2.1 bC.2.2.2.2.2.1 bC.2.2.2.2.2.2.1 bC.2.2.2.2.2.2.2.1 bC.2.2.2.2.2.2.2.2)))) else (none)))))))))))))))))))))
def laws_FnNodes.T7 : Bool × List (List Nat × List Nat) := (true, [([], []), ([], []), ([0, 1], [0, 1]), ([], []), ([], []), ([3, 4, 2], [3, 4]), ([2, 5], [2, 5]), ([6, 5], [6]), ([7], [7]), ([7], [7]), ([8, 9, 7, 7], [7, 8, 9]), ([7], [7]), ([7], [7]), ([11, 12, 10, 7], [7, 11, 12]), ([10, 13, 7], [7, 10, 13]), ([7, 14], [7, 14]), ([15, 13], [15]), ([16], [16]), ([17, 16, 16], [16, 17]), ([16], [16]), ([19, 18, 16], [16, 19]), ([18, 20, 16], [16, 18, 20]), ([16, 21], [16, 21]), ([22, 20], [22]), ([23], [23]), ([23], [23]), ([24, 25, 23, 23], [23, 24, 25]), ([23], [23]), ([23], [23]), ([27, 28, 26, 23], [23, 27, 28]), ([26, 29, 23], [23, 26, 29]), ([23, 30], [23, 30]), ([31, 29], [31]), ([32], [32]), ([33, 32, 32], [32, 33]), ([32], [32]), ([35, 34, 32], [32, 35]), ([34, 36, 32], [32, 34, 36]), ([32, 37], [32, 37]), ([38, 36], [38]), ([39, 39], [39]), ([40, 39], [39]), ([40, 41, 41, 39], [39, 40, 41]), ([42, 39], [39, 42]), ([39, 43], [39, 43])])
def laws_FnNodes.B7 : List Nat := [0, 0, 3, 0, 0, 31, 63, 127, 255, 255, 1023, 255, 255, 8191, 16383, 32767, 65535, 131071, 262143, 131071, 1048575, 2097151, 4194303, 8388607, 16777215, 16777215, 67108863, 16777215, 16777215, 536870911, 1073741823, 2147483647, 4294967295, 8589934591, 17179869183, 8589934591, 68719476735, 137438953471, 274877906943, 549755813887, 1099511627775, 2199023255551, 4398046511103, 8796093022207, 17592186044415]
theorem laws_FnNodes.tab7 : rtab .any (opsOf Tryd.f3 7) = laws_FnNodes.T7 := by kernel_rfl
theorem laws_FnNodes.bits7 : waitsOk laws_FnNodes.T7.2 laws_FnNodes.B7 = true := by kernel_rfl
def laws_FnNodes.T9 : Bool × List (List Nat × List Nat) := (true, [([], []), ([], []), ([0, 1], [0, 1]), ([2, 2], [2]), ([3], [3]), ([4, 3], [3, 4]), ([5, 3], [3, 5]), ([6, 3, 3], [3, 6]), ([7], [7]), ([8, 7], [7, 8]), ([7], [7]), ([10, 7], [7, 10]), ([9, 11, 7], [7, 9, 11]), ([7], [7]), ([13, 7, 7], [7, 13]), ([12, 14, 7], [7, 12, 14]), ([7, 15, 3], [3, 7, 15]), ([16, 14, 3], [3, 16]), ([17], [17]), ([18, 17], [17, 18]), ([19, 17], [17, 19]), ([20, 17, 17], [17, 20]), ([21], [21]), ([22, 21], [21, 22]), ([21], [21]), ([24, 21], [21, 24]), ([23, 25, 21], [21, 23, 25]), ([21, 26, 17], [17, 21, 26]), ([17, 27, 3], [3, 17, 27]), ([28, 21, 3], [3, 28]), ([29], [29]), ([30, 29], [29, 30]), ([31, 29], [29, 31]), ([32, 29, 29], [29, 32]), ([33], [33]), ([34, 33], [33, 34]), ([33], [33]), ([36, 33], [33, 36]), ([35, 37, 33], [33, 35, 37]), ([33], [33]), ([39, 33], [33, 39]), ([38, 40, 33], [33, 38, 40]), ([33, 41, 29], [29, 33, 41]), ([29, 42, 3], [3, 29, 42]), ([3, 43], [3, 43])])
def laws_FnNodes.B9 : List Nat := [0, 0, 3, 7, 15, 31, 63, 127, 255, 511, 255, 1279, 4095, 255, 8447, 32767, 65535, 131071, 262143, 524287, 1048575, 2097151, 4194303, 8388607, 4194303, 20971519, 67108863, 134217727, 268435455, 536870911, 1073741823, 2147483647, 4294967295, 8589934591, 17179869183, 34359738367, 17179869183, 85899345919, 274877906943, 17179869183, 566935683071, 2199023255551, 4398046511103, 8796093022207, 17592186044415]
theorem laws_FnNodes.tab9 : rtab .any (opsOf Tryd.f3 9) = laws_FnNodes.T9 := by kernel_rfl
theorem laws_FnNodes.bits9 : waitsOk laws_FnNodes.T9.2 laws_FnNodes.B9 = true := by kernel_rfl
def laws_FnNodes.T11 : Bool × List (List Nat × List Nat) := (true, [([], []), ([], []), ([0, 1, 1], [0, 1]), ([2, 2], [2]), ([3, 3], [3]), ([4, 4, 3], [3, 4]), ([3, 5], [3, 5]), ([6, 5], [6]), ([7], [7]), ([7], [7]), ([8, 9, 7, 7], [7, 8, 9]), ([10, 7], [7, 10]), ([11, 10, 7], [7, 11]), ([12], [12]), ([13, 12], [12, 13]), ([14, 12], [12, 14]), ([12, 15, 7], [7, 12, 15]), ([16, 12, 7], [7, 16]), ([17], [17]), ([18, 17, 17], [17, 18]), ([17, 19, 7], [7, 17, 19]), ([7, 20], [7, 20]), ([21, 19, 0, 1, 2, 3, 4, 5, 6, 7, 8, 9, 10, 11, 12, 13, 14, 15, 16, 17, 18, 19, 20, 21], [21])])
def laws_FnNodes.B11 : List Nat := [0, 0, 3, 7, 15, 31, 63, 127, 255, 255, 1023, 2047, 4095, 8191, 16383, 32767, 65535, 131071, 262143, 524287, 1048575, 2097151, 4194303]
theorem laws_FnNodes.tab11 : rtab .any (opsOf Tryd.f3 11) = laws_FnNodes.T11 := by kernel_rfl
theorem laws_FnNodes.bits11 : waitsOk laws_FnNodes.T11.2 laws_FnNodes.B11 = true := by kernel_rfl
set_option maxHeartbeats 8000000 in
set_option maxRecDepth 100000 in
theorem laws_FnNodes.calls (k : Nat) (A0 : Option Addr) (c0 : Nat) (l0 : List Int) (r : Bool) (w : World) (hr0 : Kd.C (Kd.int .u8) w A0 l0.length l0) (hc0 : l0.length ≤ c0) (h : laws_FnNodes.f k l0 = some r) (hT : Tb w) :
  Calls Tryd.prog 3 #[.slice A0 l0.length c0] w fun e w' => e = .returned (.bool r) ∧ Below w.heap.size w w' := by
 have hu25 := Tryd.underlying25
 have hu29 := Tryd.underlying29
 have hu33 := Tryd.underlying33
 have bX := Aside0.mk hr0
 have d0 := Aside0.mk hc0
 clear hr0 hc0
 have HB := am (Below.refl w.heap.size w)
 have H : ((laws_big.f l0).bind fun tr => (if tr = true then (some true) else ((spec_DrawNodeOk.f k l0).bind fun aX => ((spec_DrawThingOk.f k l0).bind fun bC => ((spec_DrawBare.f k l0).bind fun a3 => ((spec_DrawSameNode.f k l0).bind fun a4 => ((impl_NodeOk.f k aX.1 aX.2.1 aX.2.2.1 aX.2.2.2.1 aX.2.2.2.2.1 aX.2.2.2.2.2.1 aX.2.2.2.2.2.2.1 aX.2.2.2.2.2.2.2.1 aX.2.2.2.2.2.2.2.2.1 aX.2.2.2.2.2.2.2.2.2.1 aX.2.2.2.2.2.2.2.2.2.2.1 aX.2.2.2.2.2.2.2.2.2.2.2.1 aX.2.2.2.2.2.2.2.2.2.2.2.2.1 aX.2.2.2.2.2.2.2.2.2.2.2.2.2.1 aX.2.2.2.2.2.2.2.2.2.2.2.2.2.2.1 aX.2.2.2.2.2.2.2.2.2.2.2.2.2.2.2.1 aX.2.2.2.2.2.2.2.2.2.2.2.2.2.2.2.2.1 aX.2.2.2.2.2.2.2.2.2.2.2.2.2.2.2.2.2.1 aX.2.2.2.2.2.2.2.2.2.2.2.2.2.2.2.2.2.2).bind fun iV => ((spec_NodeOk.f k aX.1 aX.2.1 aX.2.2.1 aX.2.2.2.1 aX.2.2.2.2.1 aX.2.2.2.2.2.1 aX.2.2.2.2.2.2.1 aX.2.2.2.2.2.2.2.1 aX.2.2.2.2.2.2.2.2.1 aX.2.2.2.2.2.2.2.2.2.1 aX.2.2.2.2.2.2.2.2.2.2.1 aX.2.2.2.2.2.2.2.2.2.2.2.1 aX.2.2.2.2.2.2.2.2.2.2.2.2.1 aX.2.2.2.2.2.2.2.2.2.2.2.2.2.1 aX.2.2.2.2.2.2.2.2.2.2.2.2.2.2.1 aX.2.2.2.2.2.2.2.2.2.2.2.2.2.2.2.1 aX.2.2.2.2.2.2.2.2.2.2.2.2.2.2.2.2.1 aX.2.2.2.2.2.2.2.2.2.2.2.2.2.2.2.2.2.1 aX.2.2.2.2.2.2.2.2.2.2.2.2.2.2.2.2.2.2).bind fun iW => (if (iV != iW) = true then (none) else ((impl_ThingOk.f k bC.1 bC.2.1 bC.2.2.1 bC.2.2.2.1 bC.2.2.2.2.1 bC.2.2.2.2.2.1 bC.2.2.2.2.2.2.1 bC.2.2.2.2.2.2.2.1 bC.2.2.2.2.2.2.2.2).bind fun iX => ((spec_ThingOk.f k bC.1 bC.2.1 bC.2.2.1 bC.2.2.2.1 bC.2.2.2.2.1 bC.2.2.2.2.2.1 bC.2.2.2.2.2.2.1 bC.2.2.2.2.2.2.2.1 bC.2.2.2.2.2.2.2.2).bind fun iY => (if (iX != iY) = true then (none) else ((impl_Bare.f k a3.1 a3.2.1 a3.2.2.1 a3.2.2.2.1 a3.2.2.2.2.1 a3.2.2.2.2.2.1 a3.2.2.2.2.2.2.1 a3.2.2.2.2.2.2.2.1 a3.2.2.2.2.2.2.2.2.1 a3.2.2.2.2.2.2.2.2.2.1 a3.2.2.2.2.2.2.2.2.2.2.1 a3.2.2.2.2.2.2.2.2.2.2.2.1 a3.2.2.2.2.2.2.2.2.2.2.2.2).bind fun iZ => ((spec_Bare.f a3.1 a3.2.1 a3.2.2.1 a3.2.2.2.1 a3.2.2.2.2.1 a3.2.2.2.2.2.1 a3.2.2.2.2.2.2.1 a3.2.2.2.2.2.2.2.1 a3.2.2.2.2.2.2.2.2.1 a3.2.2.2.2.2.2.2.2.2.1 a3.2.2.2.2.2.2.2.2.2.2.1 a3.2.2.2.2.2.2.2.2.2.2.2.1 a3.2.2.2.2.2.2.2.2.2.2.2.2).bind fun ja => (if (iZ != ja) = true then (none) else ((impl_SameNode.f k a4.1 a4.2.1 a4.2.2.1 a4.2.2.2.1 a4.2.2.2.2.1 a4.2.2.2.2.2.1 a4.2.2.2.2.2.2.1 a4.2.2.2.2.2.2.2.1 a4.2.2.2.2.2.2.2.2.1 a4.2.2.2.2.2.2.2.2.2.1 a4.2.2.2.2.2.2.2.2.2.2.1 a4.2.2.2.2.2.2.2.2.2.2.2.1 a4.2.2.2.2.2.2.2.2.2.2.2.2.1 a4.2.2.2.2.2.2.2.2.2.2.2.2.2.1 a4.2.2.2.2.2.2.2.2.2.2.2.2.2.2.1 a4.2.2.2.2.2.2.2.2.2.2.2.2.2.2.2.1 a4.2.2.2.2.2.2.2.2.2.2.2.2.2.2.2.2.1 a4.2.2.2.2.2.2.2.2.2.2.2.2.2.2.2.2.2.1 a4.2.2.2.2.2.2.2.2.2.2.2.2.2.2.2.2.2.2.1 a4.2.2.2.2.2.2.2.2.2.2.2.2.2.2.2.2.2.2.2.1 a4.2.2.2.2.2.2.2.2.2.2.2.2.2.2.2.2.2.2.2.2.1 a4.2.2.2.2.2.2.2.2.2.2.2.2.2.2.2.2.2.2.2.2.2.1 a4.2.2.2.2.2.2.2.2.2.2.2.2.2.2.2.2.2.2.2.2.2.2.1 a4.2.2.2.2.2.2.2.2.2.2.2.2.2.2.2.2.2.2.2.2.2.2.2.1 a4.2.2.2.2.2.2.2.2.2.2.2.2.2.2.2.2.2.2.2.2.2.2.2.2.1 a4.2.2.2.2.2.2.2.2.2.2.2.2.2.2.2.2.2.2.2.2.2.2.2.2.2).bind fun jb => ((laws_sameNode.f k a4.1 a4.2.1 a4.2.2.1 a4.2.2.2.1 a4.2.2.2.2.1 a4.2.2.2.2.2.1 a4.2.2.2.2.2.2.1 a4.2.2.2.2.2.2.2.1 a4.2.2.2.2.2.2.2.2.1 a4.2.2.2.2.2.2.2.2.2.1 a4.2.2.2.2.2.2.2.2.2.2.1 a4.2.2.2.2.2.2.2.2.2.2.2.1 a4.2.2.2.2.2.2.2.2.2.2.2.2.1 a4.2.2.2.2.2.2.2.2.2.2.2.2.2.1 a4.2.2.2.2.2.2.2.2.2.2.2.2.2.2.1 a4.2.2.2.2.2.2.2.2.2.2.2.2.2.2.2.1 a4.2.2.2.2.2.2.2.2.2.2.2.2.2.2.2.2.1 a4.2.2.2.2.2.2.2.2.2.2.2.2.2.2.2.2.2.1 a4.2.2.2.2.2.2.2.2.2.2.2.2.2.2.2.2.2.2.1 a4.2.2.2.2.2.2.2.2.2.2.2.2.2.2.2.2.2.2.2.1 a4.2.2.2.2.2.2.2.2.2.2.2.2.2.2.2.2.2.2.2.2.1 a4.2.2.2.2.2.2.2.2.2.2.2.2.2.2.2.2.2.2.2.2.2.1 a4.2.2.2.2.2.2.2.2.2.2.2.2.2.2.2.2.2.2.2.2.2.2.1 a4.2.2.2.2.2.2.2.2.2.2.2.2.2.2.2.2.2.2.2.2.2.2.2.1 a4.2.2.2.2.2.2.2.2.2.2.2.2.2.2.2.2.2.2.2.2.2.2.2.2.1 a4.2.2.2.2.2.2.2.2.2.2.2.2.2.2.2.2.2.2.2.2.2.2.2.2.2).bind fun jc => (if (jb != jc) = true then (none) else ((impl_TextOf.f k a3.1 a3.2.1 a3.2.2.1 a3.2.2.2.1 a3.2.2.2.2.1 a3.2.2.2.2.2.1 a3.2.2.2.2.2.2.1 a3.2.2.2.2.2.2.2.1 a3.2.2.2.2.2.2.2.2.1 a3.2.2.2.2.2.2.2.2.2.1 a3.2.2.2.2.2.2.2.2.2.2.1 a3.2.2.2.2.2.2.2.2.2.2.2.1 a3.2.2.2.2.2.2.2.2.2.2.2.2).bind fun ln => ((spec_TextOf.f k a3.1 a3.2.1 a3.2.2.1 a3.2.2.2.1 a3.2.2.2.2.1 a3.2.2.2.2.2.1 a3.2.2.2.2.2.2.1 a3.2.2.2.2.2.2.2.1 a3.2.2.2.2.2.2.2.2.1 a3.2.2.2.2.2.2.2.2.2.1 a3.2.2.2.2.2.2.2.2.2.2.1 a3.2.2.2.2.2.2.2.2.2.2.2.1 a3.2.2.2.2.2.2.2.2.2.2.2.2).bind fun lp => (if ln.toList = lp.toList then ((impl_NodeNew.f 3).bind fun ef => ((spec_NodeNew.f 3).bind fun eg => ((laws_sameNode.f k ef.1 ef.2.1 ef.2.2.1 ef.2.2.2.1 ef.2.2.2.2.1 ef.2.2.2.2.2.1 ef.2.2.2.2.2.2.1 ef.2.2.2.2.2.2.2.1 ef.2.2.2.2.2.2.2.2.1 ef.2.2.2.2.2.2.2.2.2.1 ef.2.2.2.2.2.2.2.2.2.2.1 ef.2.2.2.2.2.2.2.2.2.2.2.1 ef.2.2.2.2.2.2.2.2.2.2.2.2 eg.1 eg.2.1 eg.2.2.1 eg.2.2.2.1 eg.2.2.2.2.1 eg.2.2.2.2.2.1 eg.2.2.2.2.2.2.1 eg.2.2.2.2.2.2.2.1 eg.2.2.2.2.2.2.2.2.1 eg.2.2.2.2.2.2.2.2.2.1 eg.2.2.2.2.2.2.2.2.2.2.1 eg.2.2.2.2.2.2.2.2.2.2.2.1 eg.2.2.2.2.2.2.2.2.2.2.2.2).bind fun qD => (laws_FnNodes.j0 k (!qD) aX.1 aX.2.1 aX.2.2.1 aX.2.2.2.1 aX.2.2.2.2.1 aX.2.2.2.2.2.1 aX.2.2.2.2.2.2.1 aX.2.2.2.2.2.2.2.1 aX.2.2.2.2.2.2.2.2.1 aX.2.2.2.2.2.2.2.2.2.1 aX.2.2.2.2.2.2.2.2.2.2.1 aX.2.2.2.2.2.2.2.2.2.2.2.1 aX.2.2.2.2.2.2.2.2.2.2.2.2.1 aX.2.2.2.2.2.2.2.2.2.2.2.2.2.1 aX.2.2.2.2.2.2.2.2.2.2.2.2.2.2.1 aX.2.2.2.2.2.2.2.2.2.2.2.2.2.2.2.1 aX.2.2.2.2.2.2.2.2.2.2.2.2.2.2.2.2.1 aX.2.2.2.2.2.2.2.2.2.2.2.2.2.2.2.2.2.1 aX.2.2.2.2.2.2.2.2.2.2.2.2.2.2.2.2.2.2 bC.1 bC.2.1 bC.2.2.1 bC.2.2.2.1 bC.2.2.2.2.1 bC.2.2.2.2.2.1 bC.2.2.2.2.2.2.1 bC.2.2.2.2.2.2.2.1 bC.2.2.2.2.2.2.2.2)))) else (none)))))))))))))))))))))) = some r := h
 clear h
 obtain ⟨tr, A2, H⟩ := bnd H
 try dsimp only at H
 by_cases c3 : tr = true
 ·subst c3
  rw [if_pos rfl] at H
  obtain rfl := Option.some.inj H
  go_enter Tryd.func3, Tryd.ntmps3
  go_wp2_with (first | ((with_reducible refine gate_callee (f := 4) rfl ?_); refine goesL_ (some 11) rfl rfl Tryd.func4 (by kernel_rfl) rfl #[.slice A0 l0.length c0] rfl q66t ?_; (with_reducible refine (laws_big.calls _ _ l0 true _ ?side1 ?side2 A2.out).mono ?_); (case side1 => repeat (first | exact bX.out | (with_reducible refine Kd.C_alloc ?_ _) | (with_reducible refine Kd.C_drewN ?_ _) | (with_reducible refine Kd.C_drew ?_))); (case side2 => exact d0.out); rintro e w' ⟨rfl, ⟨nd, rfl⟩⟩; refine ⟨_, rfl, ?_⟩))
  go_ret
  exact ⟨q114t, q68t⟩
 replace c3 := Bool.eq_false_iff.mpr c3
 subst c3
 rw [if_neg (show ¬ (false = true) by decide)] at H
 obtain ⟨⟨dN, dO, dP, dQ, dR, dS, dH, eu, ev, ew, ex, ey, ez, eA, bJ, eB, eC, cv, bK⟩, A4, H⟩ := bnd H
 try dsimp only at H
 obtain ⟨⟨dg, cw, dh, di, dj, dk, cX, cM, cg⟩, A5, H⟩ := bnd H
 try dsimp only at H
 obtain ⟨⟨jd, je, jf, jg, jh, ji, jj, jk, cx, jl, jm, d6, cy⟩, A6, H⟩ := bnd H
 try dsimp only at H
 obtain ⟨⟨lq, lr, ls, lu, lv, lw, lx, ly, cS, lz, lA, eD, cT, lB, lC, lD, lE, lF, lG, lH, lI, cU, lJ, lK, eE, cV⟩, A7, H⟩ := bnd H
 try dsimp only at H
 have Ac := Aside0.mk H
 clear H
 go_enter Tryd.func3, Tryd.ntmps3
 go_upto_region 7 with (first | ((with_reducible refine gate_callee (f := 4) rfl ?_); refine goesL_ (some 11) rfl rfl Tryd.func4 (by kernel_rfl) rfl #[.slice A0 l0.length c0] rfl q66t ?_; (with_reducible refine (laws_big.calls _ _ l0 false _ ?side1 ?side2 A2.out).mono ?_); (case side1 => repeat (first | exact bX.out | (with_reducible refine Kd.C_alloc ?_ _) | (with_reducible refine Kd.C_drewN ?_ _) | (with_reducible refine Kd.C_drew ?_))); (case side2 => exact d0.out); rintro e w' ⟨rfl, ⟨nd, rfl⟩⟩; refine ⟨_, rfl, ?_⟩) | ((with_reducible refine gate_callee (f := 5) rfl ?_); refine goesL_ (some 14) rfl rfl Tryd.func5 (by kernel_rfl) rfl #[.slice A0 l0.length c0] rfl q66t ?_; (with_reducible refine (spec_DrawNodeOk.calls k _ _ l0 dN dO dP dQ dR dS dH eu ev ew ex ey ez eA bJ eB eC cv bK _ ?side1 ?side2 A4.out).mono ?_); (case side1 => repeat (first | exact bX.out | (with_reducible refine Kd.C_alloc ?_ _) | (with_reducible refine Kd.C_drewN ?_ _) | (with_reducible refine Kd.C_drew ?_))); (case side2 => exact d0.out); rintro e w9 ⟨v724, v729, v732, rfl, ho0, ho1, ho2, hb⟩; refine ⟨_, rfl, ?_⟩; have cC := am (Kd.R_lower ho0 (below_size q68t)); have cr := am (Kd.R_lower ho1 (below_size q68t)); have cD := am (Kd.R_lower ho2 (below_size q68t)); replace HB := am (below_step q68t hb); (try clear hb); (try clear hb2); (try clear hk); (try clear hi); (try clear ho0); (try clear ho1); (try clear ho2)) | ((with_reducible refine gate_dst (N := 3) rfl ?_); refine box_ev 3 #[.int .i64 0, .int .i64 0, .int .i64 0, .int .i64 0, .int .i64 0, .int .i64 0] 25 ?_; intro cb hg w10 hbox hb; replace cC := am (Kd.R_below q94t hb); replace cr := am (Kd.R_below q95t hb); replace cD := am (Kd.R_below q96t hb); have ay := am (hbox); have X0 := am ((q63t : w.heap.size ≤ cb)); have X1 := am ((q63t : w.heap.size ≤ cb)); replace HB := am (below_step q68t hb); clear hb hbox hg) | ((with_reducible refine gate_dst (N := 4) rfl ?_); refine box_ev 4 #[.int .i64 0, .int .i64 0, .int .i64 0, .int .i64 0, .int .i64 0, .int .i64 0, .int .i64 0, .int .i64 0, .slice none 0 0, .int .i64 0, .int .i64 0, .slice none 0 0, .slice none 0 0] 29 ?_; intro bg hg w11 hbox hb; replace cC := am (Kd.R_below q94t hb); replace cr := am (Kd.R_below q95t hb); replace cD := am (Kd.R_below q96t hb); have aw := am (hbox); have X2 := am ((q41t : w.heap.size ≤ bg)); have X3 := am ((q41t : w.heap.size ≤ bg)); replace HB := am (below_step q47t hb); have MC := am ((by rw [hg]; exact Nat.ne_of_lt (blk_lt (qbk ay)) : cb ≠ bg)); have MD := am ((by rw [hg]; exact Nat.ne_of_gt (blk_lt (qbk ay)) : bg ≠ cb)); replace ay := blb ay hb; clear hb hbox hg; have wl := MC.out; have wm := MD.out; have kE := qc6 ay.out; have kF := qf6 ay.out; have nH := qc13 aw.out; have jz := qf13 aw.out; obtain ⟨cz, cA, ME⟩ := Kd.R_slice cC.out; subst ME; obtain ⟨dF, dG, xD⟩ := Kd.R_slice cr.out; subst xD; obtain ⟨bz, bA, rf⟩ := Kd.R_slice cD.out; subst rf) | ((with_reducible refine gate_callee (f := 6) rfl ?_); refine goesL_ (some 19) rfl rfl Tryd.func6 (by kernel_rfl) rfl #[.slice A0 l0.length c0] rfl q66t ?_; (with_reducible refine (spec_DrawThingOk.calls k _ _ l0 dg cw dh di dj dk cX cM cg _ ?side1 ?side2 A5.out).mono ?_); (case side1 => exact Kd.C_below bX.out q47t); (case side2 => exact d0.out); rintro e w18 ⟨rfl, hb⟩; refine ⟨_, rfl, ?_⟩; replace cC := am (Kd.R_below (by (with_reducible repeat (first | apply Kd.R_alloc | apply Kd.R_drewN | apply Kd.R_drew)); exact (Kd.R_mono (Kd.R_mono (rk13 (rk6 (Kd.R_types (Kd.R_types cC.out ay.out q125t) aw.out q125t) (fun _ hk => hk.1.2))) (fun _ h_ => h_.1)) (fun _ h_ => h_.1))) hb); replace cr := am (Kd.R_below (by (with_reducible repeat (first | apply Kd.R_alloc | apply Kd.R_drewN | apply Kd.R_drew)); exact (Kd.R_mono (Kd.R_mono (rk13 (rk6 (Kd.R_types (Kd.R_types cr.out ay.out q125t) aw.out q125t) (fun _ hk => hk.1.2))) (fun _ h_ => h_.1)) (fun _ h_ => h_.1))) hb); replace cD := am (Kd.R_below (by (with_reducible repeat (first | apply Kd.R_alloc | apply Kd.R_drewN | apply Kd.R_drew)); exact (Kd.R_mono (Kd.R_mono (rk13 (rk6 (Kd.R_types (Kd.R_types cD.out ay.out q125t) aw.out q125t) (fun _ hk => hk.1.2))) (fun _ h_ => h_.1)) (fun _ h_ => h_.1))) hb); replace ay := am (blk_below (g := cb) (o := .cells #[dN, dO, dP, dQ, dR, dS] 25 (0, 0)) (qbm ay) hb); replace aw := am (blk_below (g := bg) (o := .cells #[dH, eu, ev, ew, ex, ey, ez, eA, .slice cz bJ.length cA, eB, eC, .slice dF cv.length dG, .slice bz bK.length bA] 29 (0, 0)) (qbm aw) hb); replace HB := am (below_step q47t hb); (try clear hb); (try clear hb2); (try clear hk); (try clear hi)) | ((with_reducible refine gate_dst (N := 5) rfl ?_); refine box_ev 5 #[.int .i64 0, .int .i64 0, .int .i64 0, .int .i64 0, .int .i64 0, .int .i64 0] 25 ?_; intro bD hg w19 hbox hb; replace cC := am (Kd.R_below q94t hb); replace cr := am (Kd.R_below q95t hb); replace cD := am (Kd.R_below q96t hb); have az := am (hbox); have X4 := am ((q41t : w.heap.size ≤ bD)); have X5 := am ((q41t : w.heap.size ≤ bD)); replace HB := am (below_step q47t hb); have MF := am ((by rw [hg]; exact Nat.ne_of_lt (blk_lt (qbk ay)) : cb ≠ bD)); have MG := am ((by rw [hg]; exact Nat.ne_of_gt (blk_lt (qbk ay)) : bD ≠ cb)); replace ay := blb ay hb; have MH := am ((by rw [hg]; exact Nat.ne_of_lt (blk_lt (qbk aw)) : bg ≠ bD)); have MI := am ((by rw [hg]; exact Nat.ne_of_gt (blk_lt (qbk aw)) : bD ≠ bg)); replace aw := blb aw hb; clear hb hbox hg) | ((with_reducible refine gate_dst (N := 6) rfl ?_); refine box_ev 6 #[.int .i64 0, .int .i64 0, .int .i64 0] 33 ?_; intro bE hg w20 hbox hb; replace cC := am (Kd.R_below q94t hb); replace cr := am (Kd.R_below (Kd.R_elderB q95t bE (Nat.le_of_eq hg.symm)) hb); replace cD := am (Kd.R_below q96t hb); have aA := am (hbox); have X6 := am ((q41t : w.heap.size ≤ bE)); have X7 := am ((q41t : w.heap.size ≤ bE)); replace HB := am (below_step q47t hb); have MJ := am ((by rw [hg]; exact Nat.ne_of_lt (blk_lt (qbk ay)) : cb ≠ bE)); have MK := am ((by rw [hg]; exact Nat.ne_of_gt (blk_lt (qbk ay)) : bE ≠ cb)); replace ay := blb ay hb; have ML := am ((by rw [hg]; exact Nat.ne_of_lt (blk_lt (qbk aw)) : bg ≠ bE)); have MM := am ((by rw [hg]; exact Nat.ne_of_gt (blk_lt (qbk aw)) : bE ≠ bg)); replace aw := blb aw hb; have MN := am ((by rw [hg]; exact Nat.ne_of_lt (blk_lt (qbk az)) : bD ≠ bE)); have MO := am ((by rw [hg]; exact Nat.ne_of_gt (blk_lt (qbk az)) : bE ≠ bD)); replace az := blb az hb; clear hb hbox hg; have tJ := MG.out; have tK := MF.out; have Dx := MI.out; have Dy := MH.out; have Dz := MN.out; have DA := MO.out; have uz := qc6 az.out; have uA := qf6 az.out; have pz := MK.out; have pA := MJ.out; have qO := MM.out; have qP := ML.out; have gJ := qc3 aA.out; have gj := qf3 aA.out) | ((with_reducible refine gate_callee (f := 7) rfl ?_); refine goesL_ (some 23) rfl rfl Tryd.func7 (by kernel_rfl) rfl #[.slice A0 l0.length c0] rfl q66t ?_; (with_reducible refine (spec_DrawBare.calls k _ _ l0 jd je jf jg jh ji jj jk cx jl jm d6 cy _ ?side1 ?side2 A6.out).mono ?_); (case side1 => exact Kd.C_below bX.out q47t); (case side2 => exact d0.out); rintro e w28 ⟨v756, v761, v764, rfl, ho0, ho1, ho2, hb⟩; refine ⟨_, rfl, ?_⟩; have cY := am (Kd.R_lower (Kd.R_new' (Kd.R_new' ho0 (Kd.R_lt q7t)) (Kd.R_lt q8t)) (below_size q47t)); have cZ := am (Kd.R_lower (Kd.R_newB (Kd.R_new' ho1 (Kd.R_lt (by (with_reducible repeat (first | apply Kd.R_alloc | apply Kd.R_drewN | apply Kd.R_drew)); exact (Kd.R_mono (Kd.R_mono (rk3 (rk6 (Kd.R_mono (Kd.R_types cr.out az.out q125t) (fun k_ hk => (⟨hk, hk.1.2⟩ : _ ∧ k_ ≠ bE))) (fun _ hk => hk.1.2))) (fun _ h_ => h_.1)) (fun _ h_ => h_.1))))) (g := bE) (o := .cells #[cX, cM, cg] 33 (0, 0)) (qbm aA)) (below_size q47t)); replace cr := am (Kd.R_elder' (by (with_reducible repeat (first | apply Kd.R_alloc | apply Kd.R_drewN | apply Kd.R_drew)); exact (Kd.R_mono (Kd.R_mono (rk3 (rk6 (Kd.R_mono (Kd.R_types cr.out az.out q125t) (fun k_ hk => (⟨hk, hk.1.2⟩ : _ ∧ k_ ≠ bE))) (fun _ hk => hk.1.2))) (fun _ h_ => h_.1)) (fun _ h_ => h_.1))) (Kd.R_base ho1) hb); have da := am (Kd.R_lower (Kd.R_new' (Kd.R_new' ho2 (Kd.R_lt q7t)) (Kd.R_lt q8t)) (below_size q47t)); replace cC := am (Kd.R_mono (Kd.R_told (Kd.R_told (Kd.R_old q7t hb) (Kd.R_base ho0)) (Kd.R_base ho2)) (fun _ h_ => h_.1)); replace cD := am (Kd.R_mono (Kd.R_told (Kd.R_told (Kd.R_old q8t hb) (Kd.R_base ho0)) (Kd.R_base ho2)) (fun _ h_ => h_.1)); replace ay := am (blk_below (g := cb) (o := .cells #[dN, dO, dP, dQ, dR, dS] 25 (0, 0)) (qbf ay) hb); replace aw := am (blk_below (g := bg) (o := .cells #[dH, eu, ev, ew, ex, ey, ez, eA, .slice cz bJ.length cA, eB, eC, .slice dF cv.length dG, .slice bz bK.length bA] 29 (0, 0)) (qbf aw) hb); replace az := am (blk_below (g := bD) (o := .cells #[dg, cw, dh, di, dj, dk] 25 (0, 0)) (qbm az) hb); replace aA := am (blk_below (g := bE) (o := .cells #[cX, cM, cg] 33 (0, 0)) (qbm aA) hb); replace HB := am (below_step q47t hb); (try clear hb); (try clear hb2); (try clear hk); (try clear hi); (try clear ho0); (try clear ho1); (try clear ho2)) | ((with_reducible refine gate_dst (N := 7) rfl ?_); refine box_ev 7 #[.int .i64 0, .int .i64 0, .int .i64 0, .int .i64 0, .int .i64 0, .int .i64 0, .int .i64 0, .int .i64 0, .slice none 0 0, .int .i64 0, .int .i64 0, .slice none 0 0, .slice none 0 0] 29 ?_; intro dI hg w29 hbox hb; replace cC := am (Kd.R_below q94t hb); replace cr := am (Kd.R_below q95t hb); replace cD := am (Kd.R_below q96t hb); replace cY := am (Kd.R_below q97t hb); replace cZ := am (Kd.R_below q98t hb); replace da := am (Kd.R_below q99t hb); have aD := am (hbox); have X8 := am ((q41t : w.heap.size ≤ dI)); have X9 := am ((q41t : w.heap.size ≤ dI)); replace HB := am (below_step q47t hb); have MP := am ((by rw [hg]; exact Nat.ne_of_lt (blk_lt (qbk ay)) : cb ≠ dI)); have MQ := am ((by rw [hg]; exact Nat.ne_of_gt (blk_lt (qbk ay)) : dI ≠ cb)); replace ay := blb ay hb; have MR := am ((by rw [hg]; exact Nat.ne_of_lt (blk_lt (qbk aw)) : bg ≠ dI)); have MS := am ((by rw [hg]; exact Nat.ne_of_gt (blk_lt (qbk aw)) : dI ≠ bg)); replace aw := blb aw hb; have MT := am ((by rw [hg]; exact Nat.ne_of_lt (blk_lt (qbk az)) : bD ≠ dI)); have MU := am ((by rw [hg]; exact Nat.ne_of_gt (blk_lt (qbk az)) : dI ≠ bD)); replace az := blb az hb; have MV := am ((by rw [hg]; exact Nat.ne_of_lt (blk_lt (qbk aA)) : bE ≠ dI)); have MW := am ((by rw [hg]; exact Nat.ne_of_gt (blk_lt (qbk aA)) : dI ≠ bE)); replace aA := blb aA hb; clear hb hbox hg; have uM := MQ.out; have uN := MP.out; have wt := MS.out; have wu := MR.out; have qZ := MU.out; have q0 := MT.out; have wv := MW.out; have ww := MV.out; have kI := qc13 aD.out; have kJ := qf13 aD.out; obtain ⟨cO, cP, pV⟩ := Kd.R_slice cY.out; subst pV; obtain ⟨eo, ep, q1⟩ := Kd.R_slice cZ.out; subst q1; obtain ⟨cQ, cR, pW⟩ := Kd.R_slice da.out; subst pW) | ((with_reducible refine gate_callee (f := 8) rfl ?_); refine goesL_ (some 26) rfl rfl Tryd.func8 (by kernel_rfl) rfl #[.slice A0 l0.length c0] rfl q66t ?_; (with_reducible refine (spec_DrawSameNode.calls k _ _ l0 lq lr ls lu lv lw lx ly cS lz lA eD cT lB lC lD lE lF lG lH lI cU lJ lK eE cV _ ?side1 ?side2 A7.out).mono ?_); (case side1 => exact Kd.C_below bX.out q47t); (case side2 => exact d0.out); rintro e w38 ⟨v776, v781, v784, v795, v800, v803, rfl, ho0, ho1, ho2, ho3, ho4, ho5, hb⟩; refine ⟨_, rfl, ?_⟩; have dU := am (Kd.R_lower (Kd.R_new' (Kd.R_new' (Kd.R_new' (Kd.R_new' ho0 (Kd.R_lt q23t)) (Kd.R_lt q25t)) (Kd.R_lt q26t)) (Kd.R_lt q28t)) (below_size q47t)); have dV := am (Kd.R_lower (Kd.R_newB (Kd.R_new' (Kd.R_new' ho1 (Kd.R_lt q24t)) (Kd.R_lt q27t)) (g := bE) (o := .cells #[cX, cM, cg] 33 (0, 0)) (qbf aA)) (below_size q47t)); have dW := am (Kd.R_lower (Kd.R_new' (Kd.R_new' (Kd.R_new' (Kd.R_new' ho2 (Kd.R_lt q23t)) (Kd.R_lt q25t)) (Kd.R_lt q26t)) (Kd.R_lt q28t)) (below_size q47t)); have dX := am (Kd.R_lower (Kd.R_new' (Kd.R_new' (Kd.R_new' (Kd.R_new' ho3 (Kd.R_lt q23t)) (Kd.R_lt q25t)) (Kd.R_lt q26t)) (Kd.R_lt q28t)) (below_size q47t)); have dY := am (Kd.R_lower (Kd.R_newB (Kd.R_new' (Kd.R_new' ho4 (Kd.R_lt q24t)) (Kd.R_lt q27t)) (g := bE) (o := .cells #[cX, cM, cg] 33 (0, 0)) (qbf aA)) (below_size q47t)); replace cr := am (Kd.R_mono (Kd.R_told (Kd.R_told (Kd.R_old q24t hb) (Kd.R_base ho1)) (Kd.R_base ho4)) (fun _ h_ => h_.1)); replace cZ := am (Kd.R_mono (Kd.R_told (Kd.R_told (Kd.R_old q27t hb) (Kd.R_base ho1)) (Kd.R_base ho4)) (fun _ h_ => h_.1)); have dZ := am (Kd.R_lower (Kd.R_new' (Kd.R_new' (Kd.R_new' (Kd.R_new' ho5 (Kd.R_lt q23t)) (Kd.R_lt q25t)) (Kd.R_lt q26t)) (Kd.R_lt q28t)) (below_size q47t)); replace cC := am (Kd.R_mono (Kd.R_told (Kd.R_told (Kd.R_told (Kd.R_told (Kd.R_old q23t hb) (Kd.R_base ho0)) (Kd.R_base ho2)) (Kd.R_base ho3)) (Kd.R_base ho5)) (fun _ h_ => h_.1)); replace cD := am (Kd.R_mono (Kd.R_told (Kd.R_told (Kd.R_told (Kd.R_told (Kd.R_old q25t hb) (Kd.R_base ho0)) (Kd.R_base ho2)) (Kd.R_base ho3)) (Kd.R_base ho5)) (fun _ h_ => h_.1)); replace cY := am (Kd.R_mono (Kd.R_told (Kd.R_told (Kd.R_told (Kd.R_told (Kd.R_old q26t hb) (Kd.R_base ho0)) (Kd.R_base ho2)) (Kd.R_base ho3)) (Kd.R_base ho5)) (fun _ h_ => h_.1)); replace da := am (Kd.R_mono (Kd.R_told (Kd.R_told (Kd.R_told (Kd.R_told (Kd.R_old q28t hb) (Kd.R_base ho0)) (Kd.R_base ho2)) (Kd.R_base ho3)) (Kd.R_base ho5)) (fun _ h_ => h_.1)); replace ay := am (blk_below (g := cb) (o := .cells #[dN, dO, dP, dQ, dR, dS] 25 (0, 0)) (qbf ay) hb); replace aw := am (blk_below (g := bg) (o := .cells #[dH, eu, ev, ew, ex, ey, ez, eA, .slice cz bJ.length cA, eB, eC, .slice dF cv.length dG, .slice bz bK.length bA] 29 (0, 0)) (qbf aw) hb); replace az := am (blk_below (g := bD) (o := .cells #[dg, cw, dh, di, dj, dk] 25 (0, 0)) (qbf az) hb); replace aA := am (blk_below (g := bE) (o := .cells #[cX, cM, cg] 33 (0, 0)) (qbf aA) hb); replace aD := blp aD hb; replace HB := am (below_step q47t hb); (try clear hb); (try clear hb2); (try clear hk); (try clear hi); (try clear ho0); (try clear ho1); (try clear ho2); (try clear ho3); (try clear ho4); (try clear ho5)) | ((with_reducible refine gate_dst (N := 8) rfl ?_); refine box_ev 8 #[.int .i64 0, .int .i64 0, .int .i64 0, .int .i64 0, .int .i64 0, .int .i64 0, .int .i64 0, .int .i64 0, .slice none 0 0, .int .i64 0, .int .i64 0, .slice none 0 0, .slice none 0 0] 29 ?_; intro ch hg w39 hbox hb; replace cC := am (Kd.R_below q94t hb); replace cr := am (Kd.R_below q95t hb); replace cD := am (Kd.R_below q96t hb); replace cY := am (Kd.R_below q97t hb); replace cZ := am (Kd.R_below q98t hb); replace da := am (Kd.R_below q99t hb); replace dU := am (Kd.R_below q100t hb); replace dV := am (Kd.R_below q101t hb); replace dW := am (Kd.R_below q102t hb); replace dX := am (Kd.R_below q103t hb); replace dY := am (Kd.R_below q104t hb); replace dZ := am (Kd.R_below q105t hb); have aE := am (hbox); have Ya := am ((q41t : w.heap.size ≤ ch)); have Yb := am ((q41t : w.heap.size ≤ ch)); replace HB := am (below_step q47t hb); have MX := am ((by rw [hg]; exact Nat.ne_of_lt (blk_lt (qbk ay)) : cb ≠ ch)); have MY := am ((by rw [hg]; exact Nat.ne_of_gt (blk_lt (qbk ay)) : ch ≠ cb)); replace ay := blb ay hb; have MZ := am ((by rw [hg]; exact Nat.ne_of_lt (blk_lt (qbk aw)) : bg ≠ ch)); have M0 := am ((by rw [hg]; exact Nat.ne_of_gt (blk_lt (qbk aw)) : ch ≠ bg)); replace aw := blb aw hb; have M1 := am ((by rw [hg]; exact Nat.ne_of_lt (blk_lt (qbk az)) : bD ≠ ch)); have M2 := am ((by rw [hg]; exact Nat.ne_of_gt (blk_lt (qbk az)) : ch ≠ bD)); replace az := blb az hb; have M3 := am ((by rw [hg]; exact Nat.ne_of_lt (blk_lt (qbk aA)) : bE ≠ ch)); have M4 := am ((by rw [hg]; exact Nat.ne_of_gt (blk_lt (qbk aA)) : ch ≠ bE)); replace aA := blb aA hb; have M5 := am ((by rw [hg]; exact Nat.ne_of_lt (blk_lt (qbk aD)) : dI ≠ ch)); have M6 := am ((by rw [hg]; exact Nat.ne_of_gt (blk_lt (qbk aD)) : ch ≠ dI)); replace aD := blb aD hb; clear hb hbox hg) | ((with_reducible refine gate_dst (N := 9) rfl ?_); refine box_ev 9 #[.int .i64 0, .int .i64 0, .int .i64 0, .int .i64 0, .int .i64 0, .int .i64 0, .int .i64 0, .int .i64 0, .slice none 0 0, .int .i64 0, .int .i64 0, .slice none 0 0, .slice none 0 0] 29 ?_; intro ci hg w40 hbox hb; replace cC := am (Kd.R_below q94t hb); replace cr := am (Kd.R_below q95t hb); replace cD := am (Kd.R_below q96t hb); replace cY := am (Kd.R_below q97t hb); replace cZ := am (Kd.R_below q98t hb); replace da := am (Kd.R_below q99t hb); replace dU := am (Kd.R_below q100t hb); replace dV := am (Kd.R_below q101t hb); replace dW := am (Kd.R_below q102t hb); replace dX := am (Kd.R_below q103t hb); replace dY := am (Kd.R_below q104t hb); replace dZ := am (Kd.R_below q105t hb); have aI := am (hbox); have Yc := am ((q41t : w.heap.size ≤ ci)); have Yd := am ((q41t : w.heap.size ≤ ci)); replace HB := am (below_step q47t hb); have M7 := am ((by rw [hg]; exact Nat.ne_of_lt (blk_lt (qbk ay)) : cb ≠ ci)); have M8 := am ((by rw [hg]; exact Nat.ne_of_gt (blk_lt (qbk ay)) : ci ≠ cb)); replace ay := blb ay hb; have M9 := am ((by rw [hg]; exact Nat.ne_of_lt (blk_lt (qbk aw)) : bg ≠ ci)); have Na := am ((by rw [hg]; exact Nat.ne_of_gt (blk_lt (qbk aw)) : ci ≠ bg)); replace aw := blb aw hb; have Nb := am ((by rw [hg]; exact Nat.ne_of_lt (blk_lt (qbk az)) : bD ≠ ci)); have Nc := am ((by rw [hg]; exact Nat.ne_of_gt (blk_lt (qbk az)) : ci ≠ bD)); replace az := blb az hb; have Nd := am ((by rw [hg]; exact Nat.ne_of_lt (blk_lt (qbk aA)) : bE ≠ ci)); have Nf := am ((by rw [hg]; exact Nat.ne_of_gt (blk_lt (qbk aA)) : ci ≠ bE)); replace aA := blb aA hb; have Ng := am ((by rw [hg]; exact Nat.ne_of_lt (blk_lt (qbk aD)) : dI ≠ ci)); have Nh := am ((by rw [hg]; exact Nat.ne_of_gt (blk_lt (qbk aD)) : ci ≠ dI)); replace aD := blb aD hb; have Ni := am ((by rw [hg]; exact Nat.ne_of_lt (blk_lt (qbk aE)) : ch ≠ ci)); have Nj := am ((by rw [hg]; exact Nat.ne_of_gt (blk_lt (qbk aE)) : ci ≠ ch)); replace aE := blb aE hb; clear hb hbox hg; have q3 := MY.out; have q4 := MX.out; have Et := M0.out; have Eu := MZ.out; have Kn := M2.out; have Ko := M1.out; have uc := M4.out; have ud := M3.out; have pQ := M6.out; have pR := M5.out; have ue := Ni.out; have uf := Nj.out; have nA := qc13 aE.out; have l5 := qf13 aE.out; obtain ⟨dy, dz, Nk⟩ := Kd.R_slice dU.out; subst Nk; obtain ⟨fA, fB, Nl⟩ := Kd.R_slice dV.out; subst Nl; obtain ⟨dA, dB, Nm⟩ := Kd.R_slice dW.out; subst Nm; have tU := M8.out; have tV := M7.out; have Bz := Na.out; have BA := M9.out; have DI := Nc.out; have DJ := Nb.out; have Jf := Nf.out; have Jg := Nd.out; have xL := Nh.out; have xM := Ng.out; have nG := qc13 aI.out; have mb := qf13 aI.out; obtain ⟨dn, dp, ui⟩ := Kd.R_slice dX.out; subst ui; obtain ⟨fC, fD, Nn⟩ := Kd.R_slice dY.out; subst Nn; obtain ⟨dC, dD, No⟩ := Kd.R_slice dZ.out; subst No))
 (try simp only [Act.put, List.setIfInBounds_toArray, List.set_cons_zero, List.set_cons_succ])
 go_cut [73] (fun v73 wc => ∃ (kq : Nat) (vF : Bool), v73 = .bool vF ∧ Aside0 (laws_FnNodes.j0 kq vF dN dO dP dQ dR dS dH eu ev ew ex ey ez eA bJ eB eC cv bK dg cw dh di dj dk cX cM cg = some r) ∧ Aside0 (kq ≤ k) ∧ Aside0 (Kd.R (Kd.int .i64) 3 wc w.heap.size (fun k_ => some k_ ≠ ((.slice bz bK.length bA) : Value).ownBlock ∧ some k_ ≠ ((.slice cO cx.length cP) : Value).ownBlock ∧ some k_ ≠ ((.slice cQ cy.length cR) : Value).ownBlock ∧ some k_ ≠ ((.slice dy cS.length dz) : Value).ownBlock ∧ some k_ ≠ ((.slice dA cT.length dB) : Value).ownBlock ∧ some k_ ≠ ((.slice dn cU.length dp) : Value).ownBlock ∧ some k_ ≠ ((.slice dC cV.length dD) : Value).ownBlock) (.slice cz bJ.length cA) bJ) ∧ Aside0 (Kd.R k33 33 wc w.heap.size (fun k_ => some k_ ≠ ((.slice eo d6.length ep) : Value).ownBlock ∧ some k_ ≠ ((.slice fA eD.length fB) : Value).ownBlock ∧ some k_ ≠ ((.slice fC eE.length fD) : Value).ownBlock ∧ k_ ≠ bE) (.slice dF cv.length dG) cv) ∧ Aside0 (Kd.R (Kd.int .i64) 3 wc w.heap.size (fun k_ => some k_ ≠ ((.slice cz bJ.length cA) : Value).ownBlock ∧ some k_ ≠ ((.slice cO cx.length cP) : Value).ownBlock ∧ some k_ ≠ ((.slice cQ cy.length cR) : Value).ownBlock ∧ some k_ ≠ ((.slice dy cS.length dz) : Value).ownBlock ∧ some k_ ≠ ((.slice dA cT.length dB) : Value).ownBlock ∧ some k_ ≠ ((.slice dn cU.length dp) : Value).ownBlock ∧ some k_ ≠ ((.slice dC cV.length dD) : Value).ownBlock) (.slice bz bK.length bA) bK) ∧ Aside0 (Kd.R (Kd.int .i64) 3 wc w.heap.size (fun k_ => some k_ ≠ ((.slice cz bJ.length cA) : Value).ownBlock ∧ some k_ ≠ ((.slice bz bK.length bA) : Value).ownBlock ∧ some k_ ≠ ((.slice cQ cy.length cR) : Value).ownBlock ∧ some k_ ≠ ((.slice dy cS.length dz) : Value).ownBlock ∧ some k_ ≠ ((.slice dA cT.length dB) : Value).ownBlock ∧ some k_ ≠ ((.slice dn cU.length dp) : Value).ownBlock ∧ some k_ ≠ ((.slice dC cV.length dD) : Value).ownBlock) (.slice cO cx.length cP) cx) ∧ Aside0 (Kd.R k33 33 wc w.heap.size (fun k_ => some k_ ≠ ((.slice dF cv.length dG) : Value).ownBlock ∧ some k_ ≠ ((.slice fA eD.length fB) : Value).ownBlock ∧ some k_ ≠ ((.slice fC eE.length fD) : Value).ownBlock ∧ k_ ≠ bE) (.slice eo d6.length ep) d6) ∧ Aside0 (Kd.R (Kd.int .i64) 3 wc w.heap.size (fun k_ => some k_ ≠ ((.slice cz bJ.length cA) : Value).ownBlock ∧ some k_ ≠ ((.slice bz bK.length bA) : Value).ownBlock ∧ some k_ ≠ ((.slice cO cx.length cP) : Value).ownBlock ∧ some k_ ≠ ((.slice dy cS.length dz) : Value).ownBlock ∧ some k_ ≠ ((.slice dA cT.length dB) : Value).ownBlock ∧ some k_ ≠ ((.slice dn cU.length dp) : Value).ownBlock ∧ some k_ ≠ ((.slice dC cV.length dD) : Value).ownBlock) (.slice cQ cy.length cR) cy) ∧ Aside0 (Kd.R (Kd.int .i64) 3 wc w.heap.size (fun k_ => some k_ ≠ ((.slice cz bJ.length cA) : Value).ownBlock ∧ some k_ ≠ ((.slice bz bK.length bA) : Value).ownBlock ∧ some k_ ≠ ((.slice cO cx.length cP) : Value).ownBlock ∧ some k_ ≠ ((.slice cQ cy.length cR) : Value).ownBlock ∧ some k_ ≠ ((.slice dA cT.length dB) : Value).ownBlock ∧ some k_ ≠ ((.slice dn cU.length dp) : Value).ownBlock ∧ some k_ ≠ ((.slice dC cV.length dD) : Value).ownBlock) (.slice dy cS.length dz) cS) ∧ Aside0 (Kd.R k33 33 wc w.heap.size (fun k_ => some k_ ≠ ((.slice dF cv.length dG) : Value).ownBlock ∧ some k_ ≠ ((.slice eo d6.length ep) : Value).ownBlock ∧ some k_ ≠ ((.slice fC eE.length fD) : Value).ownBlock ∧ k_ ≠ bE) (.slice fA eD.length fB) eD) ∧ Aside0 (Kd.R (Kd.int .i64) 3 wc w.heap.size (fun k_ => some k_ ≠ ((.slice cz bJ.length cA) : Value).ownBlock ∧ some k_ ≠ ((.slice bz bK.length bA) : Value).ownBlock ∧ some k_ ≠ ((.slice cO cx.length cP) : Value).ownBlock ∧ some k_ ≠ ((.slice cQ cy.length cR) : Value).ownBlock ∧ some k_ ≠ ((.slice dy cS.length dz) : Value).ownBlock ∧ some k_ ≠ ((.slice dn cU.length dp) : Value).ownBlock ∧ some k_ ≠ ((.slice dC cV.length dD) : Value).ownBlock) (.slice dA cT.length dB) cT) ∧ Aside0 (Kd.R (Kd.int .i64) 3 wc w.heap.size (fun k_ => some k_ ≠ ((.slice cz bJ.length cA) : Value).ownBlock ∧ some k_ ≠ ((.slice bz bK.length bA) : Value).ownBlock ∧ some k_ ≠ ((.slice cO cx.length cP) : Value).ownBlock ∧ some k_ ≠ ((.slice cQ cy.length cR) : Value).ownBlock ∧ some k_ ≠ ((.slice dy cS.length dz) : Value).ownBlock ∧ some k_ ≠ ((.slice dA cT.length dB) : Value).ownBlock ∧ some k_ ≠ ((.slice dC cV.length dD) : Value).ownBlock) (.slice dn cU.length dp) cU) ∧ Aside0 (Kd.R k33 33 wc w.heap.size (fun k_ => some k_ ≠ ((.slice dF cv.length dG) : Value).ownBlock ∧ some k_ ≠ ((.slice eo d6.length ep) : Value).ownBlock ∧ some k_ ≠ ((.slice fA eD.length fB) : Value).ownBlock ∧ k_ ≠ bE) (.slice fC eE.length fD) eE) ∧ Aside0 (Kd.R (Kd.int .i64) 3 wc w.heap.size (fun k_ => some k_ ≠ ((.slice cz bJ.length cA) : Value).ownBlock ∧ some k_ ≠ ((.slice bz bK.length bA) : Value).ownBlock ∧ some k_ ≠ ((.slice cO cx.length cP) : Value).ownBlock ∧ some k_ ≠ ((.slice cQ cy.length cR) : Value).ownBlock ∧ some k_ ≠ ((.slice dy cS.length dz) : Value).ownBlock ∧ some k_ ≠ ((.slice dA cT.length dB) : Value).ownBlock ∧ some k_ ≠ ((.slice dn cU.length dp) : Value).ownBlock) (.slice dC cV.length dD) cV) ∧ Aside0 (wc.heap[cb]? = some (.cells #[dN, dO, dP, dQ, dR, dS] 25 (0, 0))) ∧ Aside0 (wc.heap[bg]? = some (.cells #[dH, eu, ev, ew, ex, ey, ez, eA, (.slice cz bJ.length cA), eB, eC, (.slice dF cv.length dG), (.slice bz bK.length bA)] 29 (0, 0))) ∧ Aside0 (wc.heap[bD]? = some (.cells #[dg, cw, dh, di, dj, dk] 25 (0, 0))) ∧ Aside0 (wc.heap[bE]? = some (.cells #[cX, cM, cg] 33 (0, 0))) ∧ Aside0 (wc.heap[dI]? = some (.cells #[jd, je, jf, jg, jh, ji, jj, jk, (.slice cO cx.length cP), jl, jm, (.slice eo d6.length ep), (.slice cQ cy.length cR)] 29 (0, 0))) ∧ Aside0 (wc.heap[ch]? = some (.cells #[lq, lr, ls, lu, lv, lw, lx, ly, (.slice dy cS.length dz), lz, lA, (.slice fA eD.length fB), (.slice dA cT.length dB)] 29 (0, 0))) ∧ Aside0 (wc.heap[ci]? = some (.cells #[lB, lC, lD, lE, lF, lG, lH, lI, (.slice dn cU.length dp), lJ, lK, (.slice fC eE.length fD), (.slice dC cV.length dD)] 29 (0, 0))) ∧ Aside0 (Below w.heap.size w wc))
 case first => as_aux_lemma =>
  have H := Ac.out
  clear Ac
  obtain ⟨iV, xk, H⟩ := bnd H
  try dsimp only at H
  obtain ⟨iW, Np, H⟩ := bnd H
  try dsimp only at H
  by_cases c62 : (iV != iW) = true
  ·rw [if_pos c62] at H
   have qz : (iV != iW) = true := c62
   (try (have Nq : decide (iV = iW) = false := by simpa using c62))
   (try (have Nr : (iV == iW) = false := by simpa using c62))
   (try (have Ye : ¬ (iV = iW) := by simpa using c62))
   clear c62
   (first | rw [qz] | (simp only [i64_w, i32_w]; rw [qz]) | skip)
   exact absurd H q126t
  rw [if_neg c62] at H
  have qz : (iV != iW) = false := by simpa using c62
  (try (have Nq : decide (iV = iW) = true := by simpa using c62))
  (try (have Nr : (iV == iW) = true := by simpa using c62))
  clear c62
  (first | rw [qz] | (simp only [i64_w, i32_w]; rw [qz]) | skip)
  obtain ⟨iX, s4, H⟩ := bnd H
  try dsimp only at H
  obtain ⟨iY, Ns, H⟩ := bnd H
  try dsimp only at H
  by_cases c65 : (iX != iY) = true
  ·rw [if_pos c65] at H
   have Nt : (iX != iY) = true := c65
   (try (have Nu : decide (iX = iY) = false := by simpa using c65))
   (try (have Nv : (iX == iY) = false := by simpa using c65))
   (try (have Yf : ¬ (iX = iY) := by simpa using c65))
   clear c65
   exact absurd H q126t
  rw [if_neg c65] at H
  have Nt : (iX != iY) = false := by simpa using c65
  (try (have Nu : decide (iX = iY) = true := by simpa using c65))
  (try (have Nv : (iX == iY) = true := by simpa using c65))
  clear c65
  obtain ⟨iZ, Nw, H⟩ := bnd H
  try dsimp only at H
  obtain ⟨ja, xo, H⟩ := bnd H
  try dsimp only at H
  by_cases c68 : (iZ != ja) = true
  ·rw [if_pos c68] at H
   have Nx : (iZ != ja) = true := c68
   (try (have Ny : decide (iZ = ja) = false := by simpa using c68))
   (try (have Nz : (iZ == ja) = false := by simpa using c68))
   (try (have Yg : ¬ (iZ = ja) := by simpa using c68))
   clear c68
   exact absurd H q126t
  rw [if_neg c68] at H
  have Nx : (iZ != ja) = false := by simpa using c68
  (try (have Ny : decide (iZ = ja) = true := by simpa using c68))
  (try (have Nz : (iZ == ja) = true := by simpa using c68))
  clear c68
  obtain ⟨jb, NA, H⟩ := bnd H
  try dsimp only at H
  obtain ⟨jc, NB, H⟩ := bnd H
  try dsimp only at H
  by_cases c71 : (jb != jc) = true
  ·rw [if_pos c71] at H
   have NC : (jb != jc) = true := c71
   (try (have ND : decide (jb = jc) = false := by simpa using c71))
   (try (have NE : (jb == jc) = false := by simpa using c71))
   (try (have Yh : ¬ (jb = jc) := by simpa using c71))
   clear c71
   exact absurd H q126t
  rw [if_neg c71] at H
  have NC : (jb != jc) = false := by simpa using c71
  (try (have ND : decide (jb = jc) = true := by simpa using c71))
  (try (have NE : (jb == jc) = true := by simpa using c71))
  clear c71
  obtain ⟨ln, NF, H⟩ := bnd H
  try dsimp only at H
  obtain ⟨lp, NG, H⟩ := bnd H
  try dsimp only at H
  by_cases c74 : ln.toList = lp.toList
  rotate_left
  ·rw [if_neg c74] at H
   have FC : (ln.toList == lp.toList) = false := beq_eq_false_iff_ne.mpr c74
   have FD : (ln.toList != lp.toList) = true := bne_iff_ne.mpr c74
   exact absurd H q126t
  rw [if_pos c74] at H
  have FC : (ln.toList == lp.toList) = true := beq_iff_eq.mpr c74
  have FD : (ln.toList != lp.toList) = false := bne_eq_false_iff_eq.mpr c74
  clear c74
  obtain ⟨⟨Ad, Ae, Af, Ag, Ah, Ai, Aj, Ak, Al, Am, An, Ao, Ap⟩, NH, H⟩ := bnd H
  try dsimp only at H
  obtain ⟨⟨Aq, Ar, As, Au, Av, Aw, Ax, Ay, Az, AA, AB, AC, AD⟩, NI, H⟩ := bnd H
  try dsimp only at H
  obtain ⟨qD, xr, H⟩ := bnd H
  try dsimp only at H
  have H' := Aside0.mk H
  clear H
  try go_wp2
  obtain ⟨w78, hq_⟩ : ∃ W, W = ((((((((((((((((((((((((((w40.setCell ⟨ch, 0, none⟩ (.int .i64 lq)).setCell ⟨ch, 1, none⟩ (.int .i64 lr)).setCell ⟨ch, 2, none⟩ (.int .i64 ls)).setCell ⟨ch, 3, none⟩ (.int .i64 lu)).setCell ⟨ch, 4, none⟩ (.int .i64 lv)).setCell ⟨ch, 5, none⟩ (.int .i64 lw)).setCell ⟨ch, 6, none⟩ (.int .i64 lx)).setCell ⟨ch, 7, none⟩ (.int .i64 ly)).setCell ⟨ch, 8, none⟩ (.slice dy cS.length dz)).setCell ⟨ch, 9, none⟩ (.int .i64 lz)).setCell ⟨ch, 10, none⟩ (.int .i64 lA)).setCell ⟨ch, 11, none⟩ (.slice fA eD.length fB)).setCell ⟨ch, 12, none⟩ (.slice dA cT.length dB)).setCell ⟨ci, 0, none⟩ (.int .i64 lB)).setCell ⟨ci, 1, none⟩ (.int .i64 lC)).setCell ⟨ci, 2, none⟩ (.int .i64 lD)).setCell ⟨ci, 3, none⟩ (.int .i64 lE)).setCell ⟨ci, 4, none⟩ (.int .i64 lF)).setCell ⟨ci, 5, none⟩ (.int .i64 lG)).setCell ⟨ci, 6, none⟩ (.int .i64 lH)).setCell ⟨ci, 7, none⟩ (.int .i64 lI)).setCell ⟨ci, 8, none⟩ (.slice dn cU.length dp)).setCell ⟨ci, 9, none⟩ (.int .i64 lJ)).setCell ⟨ci, 10, none⟩ (.int .i64 lK)).setCell ⟨ci, 11, none⟩ (.slice fC eE.length fD)).setCell ⟨ci, 12, none⟩ (.slice dC cV.length dD)) := ⟨_, rfl⟩
  have n0_ : Aside0 (Kd.R (Kd.int .i64) 3 w78 w.heap.size (fun k_ => some k_ ≠ (.slice bz bK.length bA : Value).ownBlock ∧ some k_ ≠ (.slice cO cx.length cP : Value).ownBlock ∧ some k_ ≠ (.slice cQ cy.length cR : Value).ownBlock ∧ some k_ ≠ (.slice dy cS.length dz : Value).ownBlock ∧ some k_ ≠ (.slice dA cT.length dB : Value).ownBlock ∧ some k_ ≠ (.slice dn cU.length dp : Value).ownBlock ∧ some k_ ≠ (.slice dC cV.length dD : Value).ownBlock) (.slice cz bJ.length cA) bJ) := ⟨by subst hq_; (with_reducible repeat (first | apply Kd.R_alloc | apply Kd.R_drewN | apply Kd.R_drew)); exact Kd.R_mono (rk13 (rk13 (Kd.R_types (Kd.R_types cC.out aE.out q125t) aI.out q125t) (fun _ hk => hk.1.2))) (fun _ hk => ⟨hk.1.1.1.1.1.1.1.1, ⟨hk.1.1.1.1.1.1.1.2, ⟨hk.1.1.1.1.1.1.2, ⟨hk.1.1.1.1.1.2, ⟨hk.1.1.1.1.2, ⟨hk.1.1.1.2, hk.1.1.2⟩⟩⟩⟩⟩⟩)⟩
  have n1_ : Aside0 (Kd.R k33 33 w78 w.heap.size (fun k_ => some k_ ≠ (.slice eo d6.length ep : Value).ownBlock ∧ some k_ ≠ (.slice fA eD.length fB : Value).ownBlock ∧ some k_ ≠ (.slice fC eE.length fD : Value).ownBlock ∧ k_ ≠ bE) (.slice dF cv.length dG) cv) := ⟨by subst hq_; (with_reducible repeat (first | apply Kd.R_alloc | apply Kd.R_drewN | apply Kd.R_drew)); exact Kd.R_mono (rk13 (rk13 (Kd.R_types (Kd.R_types cr.out aE.out q125t) aI.out q125t) (fun _ hk => hk.1.2))) (fun _ hk => ⟨hk.1.1.1.1.2, ⟨hk.1.1.1.2, ⟨hk.1.1.2, hk.1.1.1.1.1.2⟩⟩⟩)⟩
  have n2_ : Aside0 (Kd.R (Kd.int .i64) 3 w78 w.heap.size (fun k_ => some k_ ≠ (.slice cz bJ.length cA : Value).ownBlock ∧ some k_ ≠ (.slice cO cx.length cP : Value).ownBlock ∧ some k_ ≠ (.slice cQ cy.length cR : Value).ownBlock ∧ some k_ ≠ (.slice dy cS.length dz : Value).ownBlock ∧ some k_ ≠ (.slice dA cT.length dB : Value).ownBlock ∧ some k_ ≠ (.slice dn cU.length dp : Value).ownBlock ∧ some k_ ≠ (.slice dC cV.length dD : Value).ownBlock) (.slice bz bK.length bA) bK) := ⟨by subst hq_; (with_reducible repeat (first | apply Kd.R_alloc | apply Kd.R_drewN | apply Kd.R_drew)); exact Kd.R_mono (rk13 (rk13 (Kd.R_types (Kd.R_types cD.out aE.out q125t) aI.out q125t) (fun _ hk => hk.1.2))) (fun _ hk => ⟨hk.1.1.1.1.1.1.1.1, ⟨hk.1.1.1.1.1.1.1.2, ⟨hk.1.1.1.1.1.1.2, ⟨hk.1.1.1.1.1.2, ⟨hk.1.1.1.1.2, ⟨hk.1.1.1.2, hk.1.1.2⟩⟩⟩⟩⟩⟩)⟩
  have n3_ : Aside0 (Kd.R (Kd.int .i64) 3 w78 w.heap.size (fun k_ => some k_ ≠ (.slice cz bJ.length cA : Value).ownBlock ∧ some k_ ≠ (.slice bz bK.length bA : Value).ownBlock ∧ some k_ ≠ (.slice cQ cy.length cR : Value).ownBlock ∧ some k_ ≠ (.slice dy cS.length dz : Value).ownBlock ∧ some k_ ≠ (.slice dA cT.length dB : Value).ownBlock ∧ some k_ ≠ (.slice dn cU.length dp : Value).ownBlock ∧ some k_ ≠ (.slice dC cV.length dD : Value).ownBlock) (.slice cO cx.length cP) cx) := ⟨by subst hq_; (with_reducible repeat (first | apply Kd.R_alloc | apply Kd.R_drewN | apply Kd.R_drew)); exact Kd.R_mono (rk13 (rk13 (Kd.R_types (Kd.R_types cY.out aE.out q125t) aI.out q125t) (fun _ hk => hk.1.2))) (fun _ hk => ⟨hk.1.1.1.1.1.1.1.2, ⟨hk.1.1.1.1.1.1.2, ⟨hk.1.1.1.1.1.1.1.1, ⟨hk.1.1.1.1.1.2, ⟨hk.1.1.1.1.2, ⟨hk.1.1.1.2, hk.1.1.2⟩⟩⟩⟩⟩⟩)⟩
  have n4_ : Aside0 (Kd.R k33 33 w78 w.heap.size (fun k_ => some k_ ≠ (.slice dF cv.length dG : Value).ownBlock ∧ some k_ ≠ (.slice fA eD.length fB : Value).ownBlock ∧ some k_ ≠ (.slice fC eE.length fD : Value).ownBlock ∧ k_ ≠ bE) (.slice eo d6.length ep) d6) := ⟨by subst hq_; (with_reducible repeat (first | apply Kd.R_alloc | apply Kd.R_drewN | apply Kd.R_drew)); exact Kd.R_mono (rk13 (rk13 (Kd.R_types (Kd.R_types cZ.out aE.out q125t) aI.out q125t) (fun _ hk => hk.1.2))) (fun _ hk => ⟨hk.1.1.1.1.1.2, ⟨hk.1.1.1.2, ⟨hk.1.1.2, hk.1.1.1.1.2⟩⟩⟩)⟩
  have n5_ : Aside0 (Kd.R (Kd.int .i64) 3 w78 w.heap.size (fun k_ => some k_ ≠ (.slice cz bJ.length cA : Value).ownBlock ∧ some k_ ≠ (.slice bz bK.length bA : Value).ownBlock ∧ some k_ ≠ (.slice cO cx.length cP : Value).ownBlock ∧ some k_ ≠ (.slice dy cS.length dz : Value).ownBlock ∧ some k_ ≠ (.slice dA cT.length dB : Value).ownBlock ∧ some k_ ≠ (.slice dn cU.length dp : Value).ownBlock ∧ some k_ ≠ (.slice dC cV.length dD : Value).ownBlock) (.slice cQ cy.length cR) cy) := ⟨by subst hq_; (with_reducible repeat (first | apply Kd.R_alloc | apply Kd.R_drewN | apply Kd.R_drew)); exact Kd.R_mono (rk13 (rk13 (Kd.R_types (Kd.R_types da.out aE.out q125t) aI.out q125t) (fun _ hk => hk.1.2))) (fun _ hk => ⟨hk.1.1.1.1.1.1.1.2, ⟨hk.1.1.1.1.1.1.2, ⟨hk.1.1.1.1.1.1.1.1, ⟨hk.1.1.1.1.1.2, ⟨hk.1.1.1.1.2, ⟨hk.1.1.1.2, hk.1.1.2⟩⟩⟩⟩⟩⟩)⟩
  have n6_ : Aside0 (Kd.R (Kd.int .i64) 3 w78 w.heap.size (fun k_ => some k_ ≠ (.slice cz bJ.length cA : Value).ownBlock ∧ some k_ ≠ (.slice bz bK.length bA : Value).ownBlock ∧ some k_ ≠ (.slice cO cx.length cP : Value).ownBlock ∧ some k_ ≠ (.slice cQ cy.length cR : Value).ownBlock ∧ some k_ ≠ (.slice dA cT.length dB : Value).ownBlock ∧ some k_ ≠ (.slice dn cU.length dp : Value).ownBlock ∧ some k_ ≠ (.slice dC cV.length dD : Value).ownBlock) (.slice dy cS.length dz) cS) := ⟨by subst hq_; (with_reducible repeat (first | apply Kd.R_alloc | apply Kd.R_drewN | apply Kd.R_drew)); exact Kd.R_mono (rk13 (rk13 (Kd.R_types (Kd.R_types dU.out aE.out q125t) aI.out q125t) (fun _ hk => hk.1.2))) (fun _ hk => ⟨hk.1.1.1.1.1.2, ⟨hk.1.1.1.1.2, ⟨hk.1.1.1.2, ⟨hk.1.1.2, ⟨hk.1.1.1.1.1.1.1, ⟨hk.1.1.1.1.1.1.2.1, hk.1.1.1.1.1.1.2.2⟩⟩⟩⟩⟩⟩)⟩
  have n7_ : Aside0 (Kd.R k33 33 w78 w.heap.size (fun k_ => some k_ ≠ (.slice dF cv.length dG : Value).ownBlock ∧ some k_ ≠ (.slice eo d6.length ep : Value).ownBlock ∧ some k_ ≠ (.slice fC eE.length fD : Value).ownBlock ∧ k_ ≠ bE) (.slice fA eD.length fB) eD) := ⟨by subst hq_; (with_reducible repeat (first | apply Kd.R_alloc | apply Kd.R_drewN | apply Kd.R_drew)); exact Kd.R_mono (rk13 (rk13 (Kd.R_types (Kd.R_types dV.out aE.out q125t) aI.out q125t) (fun _ hk => hk.1.2))) (fun _ hk => ⟨hk.1.1.1.1.2, ⟨hk.1.1.1.2, ⟨hk.1.1.1.1.1, hk.1.1.2⟩⟩⟩)⟩
  have n8_ : Aside0 (Kd.R (Kd.int .i64) 3 w78 w.heap.size (fun k_ => some k_ ≠ (.slice cz bJ.length cA : Value).ownBlock ∧ some k_ ≠ (.slice bz bK.length bA : Value).ownBlock ∧ some k_ ≠ (.slice cO cx.length cP : Value).ownBlock ∧ some k_ ≠ (.slice cQ cy.length cR : Value).ownBlock ∧ some k_ ≠ (.slice dy cS.length dz : Value).ownBlock ∧ some k_ ≠ (.slice dn cU.length dp : Value).ownBlock ∧ some k_ ≠ (.slice dC cV.length dD : Value).ownBlock) (.slice dA cT.length dB) cT) := ⟨by subst hq_; (with_reducible repeat (first | apply Kd.R_alloc | apply Kd.R_drewN | apply Kd.R_drew)); exact Kd.R_mono (rk13 (rk13 (Kd.R_types (Kd.R_types dW.out aE.out q125t) aI.out q125t) (fun _ hk => hk.1.2))) (fun _ hk => ⟨hk.1.1.1.1.1.2, ⟨hk.1.1.1.1.2, ⟨hk.1.1.1.2, ⟨hk.1.1.2, ⟨hk.1.1.1.1.1.1.1, ⟨hk.1.1.1.1.1.1.2.1, hk.1.1.1.1.1.1.2.2⟩⟩⟩⟩⟩⟩)⟩
  have n9_ : Aside0 (Kd.R (Kd.int .i64) 3 w78 w.heap.size (fun k_ => some k_ ≠ (.slice cz bJ.length cA : Value).ownBlock ∧ some k_ ≠ (.slice bz bK.length bA : Value).ownBlock ∧ some k_ ≠ (.slice cO cx.length cP : Value).ownBlock ∧ some k_ ≠ (.slice cQ cy.length cR : Value).ownBlock ∧ some k_ ≠ (.slice dy cS.length dz : Value).ownBlock ∧ some k_ ≠ (.slice dA cT.length dB : Value).ownBlock ∧ some k_ ≠ (.slice dC cV.length dD : Value).ownBlock) (.slice dn cU.length dp) cU) := ⟨by subst hq_; (with_reducible repeat (first | apply Kd.R_alloc | apply Kd.R_drewN | apply Kd.R_drew)); exact Kd.R_mono (rk13 (rk13 (Kd.R_types (Kd.R_types dX.out aE.out q125t) aI.out q125t) (fun _ hk => hk.1.2))) (fun _ hk => ⟨hk.1.1.1.1.1.2, ⟨hk.1.1.1.1.2, ⟨hk.1.1.1.2, ⟨hk.1.1.2, ⟨hk.1.1.1.1.1.1.1, ⟨hk.1.1.1.1.1.1.2.1, hk.1.1.1.1.1.1.2.2⟩⟩⟩⟩⟩⟩)⟩
  have n10_ : Aside0 (Kd.R k33 33 w78 w.heap.size (fun k_ => some k_ ≠ (.slice dF cv.length dG : Value).ownBlock ∧ some k_ ≠ (.slice eo d6.length ep : Value).ownBlock ∧ some k_ ≠ (.slice fA eD.length fB : Value).ownBlock ∧ k_ ≠ bE) (.slice fC eE.length fD) eE) := ⟨by subst hq_; (with_reducible repeat (first | apply Kd.R_alloc | apply Kd.R_drewN | apply Kd.R_drew)); exact Kd.R_mono (rk13 (rk13 (Kd.R_types (Kd.R_types dY.out aE.out q125t) aI.out q125t) (fun _ hk => hk.1.2))) (fun _ hk => ⟨hk.1.1.1.1.2, ⟨hk.1.1.1.2, ⟨hk.1.1.1.1.1, hk.1.1.2⟩⟩⟩)⟩
  have n11_ : Aside0 (Kd.R (Kd.int .i64) 3 w78 w.heap.size (fun k_ => some k_ ≠ (.slice cz bJ.length cA : Value).ownBlock ∧ some k_ ≠ (.slice bz bK.length bA : Value).ownBlock ∧ some k_ ≠ (.slice cO cx.length cP : Value).ownBlock ∧ some k_ ≠ (.slice cQ cy.length cR : Value).ownBlock ∧ some k_ ≠ (.slice dy cS.length dz : Value).ownBlock ∧ some k_ ≠ (.slice dA cT.length dB : Value).ownBlock ∧ some k_ ≠ (.slice dn cU.length dp : Value).ownBlock) (.slice dC cV.length dD) cV) := ⟨by subst hq_; (with_reducible repeat (first | apply Kd.R_alloc | apply Kd.R_drewN | apply Kd.R_drew)); exact Kd.R_mono (rk13 (rk13 (Kd.R_types (Kd.R_types dZ.out aE.out q125t) aI.out q125t) (fun _ hk => hk.1.2))) (fun _ hk => ⟨hk.1.1.1.1.1.2, ⟨hk.1.1.1.1.2, ⟨hk.1.1.1.2, ⟨hk.1.1.2, ⟨hk.1.1.1.1.1.1.1, ⟨hk.1.1.1.1.1.1.2.1, hk.1.1.1.1.1.1.2.2⟩⟩⟩⟩⟩⟩)⟩
  have n12_ : Aside0 (w78.heap[cb]? = some (.cells #[dN, dO, dP, dQ, dR, dS] 25 (0, 0))) := ⟨by subst hq_; exact qbf ay⟩
  have n13_ : Aside0 (w78.heap[bg]? = some (.cells #[dH, eu, ev, ew, ex, ey, ez, eA, .slice cz bJ.length cA, eB, eC, .slice dF cv.length dG, .slice bz bK.length bA] 29 (0, 0))) := ⟨by subst hq_; exact qbf aw⟩
  have n14_ : Aside0 (w78.heap[bD]? = some (.cells #[dg, cw, dh, di, dj, dk] 25 (0, 0))) := ⟨by subst hq_; exact qbf az⟩
  have n15_ : Aside0 (w78.heap[bE]? = some (.cells #[cX, cM, cg] 33 (0, 0))) := ⟨by subst hq_; exact qbf aA⟩
  have n16_ : Aside0 (w78.heap[dI]? = some (.cells #[jd, je, jf, jg, jh, ji, jj, jk, .slice cO cx.length cP, jl, jm, .slice eo d6.length ep, .slice cQ cy.length cR] 29 (0, 0))) := ⟨by subst hq_; exact qbf aD⟩
  have n17_ : Aside0 (w78.heap[ch]? = some (.cells #[lq, lr, ls, lu, lv, lw, lx, ly, .slice dy cS.length dz, lz, lA, .slice fA eD.length fB, .slice dA cT.length dB] 29 (0, 0))) := ⟨by subst hq_; exact qbm aE⟩
  have n18_ : Aside0 (w78.heap[ci]? = some (.cells #[lB, lC, lD, lE, lF, lG, lH, lI, .slice dn cU.length dp, lJ, lK, .slice fC eE.length fD, .slice dC cV.length dD] 29 (0, 0))) := ⟨by subst hq_; exact qbm aI⟩
  have n19_ : Aside0 (Below w.heap.size w w78) := ⟨by subst hq_; repeat (first | (with_reducible first | exact HB.out | apply below_alloc | apply pw_below_drewN | apply below_drew1 | refine below_set ?_ (Aside0.out q123t)) | exact HB.out)⟩
  (try clear cC)
  (try clear cr)
  (try clear cD)
  (try clear cY)
  (try clear cZ)
  (try clear da)
  (try clear dU)
  (try clear dV)
  (try clear dW)
  (try clear dX)
  (try clear dY)
  (try clear dZ)
  (try clear ay)
  (try clear aw)
  (try clear az)
  (try clear aA)
  (try clear aD)
  (try clear aE)
  (try clear aI)
  (try clear HB)
  rw [← hq_]; clear hq_
  have cC := n0_
  have cr := n1_
  have cD := n2_
  have cY := n3_
  have cZ := n4_
  have da := n5_
  have dU := n6_
  have dV := n7_
  have dW := n8_
  have dX := n9_
  have dY := n10_
  have dZ := n11_
  have ay := n12_
  have aw := n13_
  have az := n14_
  have aA := n15_
  have aD := n16_
  have aE := n17_
  have aI := n18_
  have HB := n19_
  clear n0_ n1_ n2_ n3_ n4_ n5_ n6_ n7_ n8_ n9_ n10_ n11_ n12_ n13_ n14_ n15_ n16_ n17_ n18_ n19_
  replace cC := am (Kd.R_drew cC.out)
  replace cr := am (Kd.R_drew cr.out)
  replace cD := am (Kd.R_drew cD.out)
  replace cY := am (Kd.R_drew cY.out)
  replace cZ := am (Kd.R_drew cZ.out)
  replace da := am (Kd.R_drew da.out)
  replace dU := am (Kd.R_drew dU.out)
  replace dV := am (Kd.R_drew dV.out)
  replace dW := am (Kd.R_drew dW.out)
  replace dX := am (Kd.R_drew dX.out)
  replace dY := am (Kd.R_drew dY.out)
  replace dZ := am (Kd.R_drew dZ.out)
  replace ay := am (blk_drew ay.out)
  replace aw := am (blk_drew aw.out)
  replace az := am (blk_drew az.out)
  replace aA := am (blk_drew aA.out)
  replace aD := am (blk_drew aD.out)
  replace aE := am (blk_drew aE.out)
  replace aI := am (blk_drew aI.out)
  replace HB := am (below_drew1 HB.out)
  refine start_ (n := 45) (S := fun w' => w'.cell? ⟨cb, 0, none⟩ = some (.int .i64 dN) ∧ w'.cell? ⟨cb, 1, none⟩ = some (.int .i64 dO) ∧ w'.cell? ⟨cb, 2, none⟩ = some (.int .i64 dP) ∧ w'.cell? ⟨cb, 3, none⟩ = some (.int .i64 dQ) ∧ w'.cell? ⟨cb, 4, none⟩ = some (.int .i64 dR) ∧ w'.cell? ⟨cb, 5, none⟩ = some (.int .i64 dS) ∧ w'.cell? ⟨bg, 0, none⟩ = some (.int .i64 dH) ∧ w'.cell? ⟨bg, 1, none⟩ = some (.int .i64 eu) ∧ w'.cell? ⟨bg, 2, none⟩ = some (.int .i64 ev) ∧ w'.cell? ⟨bg, 3, none⟩ = some (.int .i64 ew) ∧ w'.cell? ⟨bg, 4, none⟩ = some (.int .i64 ex) ∧ w'.cell? ⟨bg, 5, none⟩ = some (.int .i64 ey) ∧ w'.cell? ⟨bg, 6, none⟩ = some (.int .i64 ez) ∧ w'.cell? ⟨bg, 7, none⟩ = some (.int .i64 eA) ∧ w'.cell? ⟨bg, 8, none⟩ = some (.slice cz bJ.length cA) ∧ w'.cell? ⟨bg, 9, none⟩ = some (.int .i64 eB) ∧ w'.cell? ⟨bg, 10, none⟩ = some (.int .i64 eC) ∧ w'.cell? ⟨bg, 11, none⟩ = some (.slice dF cv.length dG) ∧ w'.cell? ⟨bg, 12, none⟩ = some (.slice bz bK.length bA) ∧ w'.cell? ⟨bD, 0, none⟩ = some (.int .i64 dg) ∧ w'.cell? ⟨bD, 1, none⟩ = some (.int .i64 cw) ∧ w'.cell? ⟨bD, 2, none⟩ = some (.int .i64 dh) ∧ w'.cell? ⟨bD, 3, none⟩ = some (.int .i64 di) ∧ w'.cell? ⟨bD, 4, none⟩ = some (.int .i64 dj) ∧ w'.cell? ⟨bD, 5, none⟩ = some (.int .i64 dk) ∧ w'.cell? ⟨bE, 0, none⟩ = some (.int .i64 cX) ∧ w'.cell? ⟨bE, 1, none⟩ = some (.int .i64 cM) ∧ w'.cell? ⟨bE, 2, none⟩ = some (.int .i64 cg) ∧ w'.cell? ⟨dI, 0, none⟩ = some (.int .i64 jd) ∧ w'.cell? ⟨dI, 1, none⟩ = some (.int .i64 je) ∧ w'.cell? ⟨dI, 2, none⟩ = some (.int .i64 jf) ∧ w'.cell? ⟨dI, 3, none⟩ = some (.int .i64 jg) ∧ w'.cell? ⟨dI, 4, none⟩ = some (.int .i64 jh) ∧ w'.cell? ⟨dI, 5, none⟩ = some (.int .i64 ji) ∧ w'.cell? ⟨dI, 6, none⟩ = some (.int .i64 jj) ∧ w'.cell? ⟨dI, 7, none⟩ = some (.int .i64 jk) ∧ w'.cell? ⟨dI, 8, none⟩ = some (.slice cO cx.length cP) ∧ w'.cell? ⟨dI, 9, none⟩ = some (.int .i64 jl) ∧ w'.cell? ⟨dI, 10, none⟩ = some (.int .i64 jm) ∧ w'.cell? ⟨dI, 11, none⟩ = some (.slice eo d6.length ep) ∧ w'.cell? ⟨dI, 12, none⟩ = some (.slice cQ cy.length cR) ∧ w'.cell? ⟨ch, 0, none⟩ = some (.int .i64 lq) ∧ w'.cell? ⟨ch, 1, none⟩ = some (.int .i64 lr) ∧ w'.cell? ⟨ch, 2, none⟩ = some (.int .i64 ls) ∧ w'.cell? ⟨ch, 3, none⟩ = some (.int .i64 lu) ∧ w'.cell? ⟨ch, 4, none⟩ = some (.int .i64 lv) ∧ w'.cell? ⟨ch, 5, none⟩ = some (.int .i64 lw) ∧ w'.cell? ⟨ch, 6, none⟩ = some (.int .i64 lx) ∧ w'.cell? ⟨ch, 7, none⟩ = some (.int .i64 ly) ∧ w'.cell? ⟨ch, 8, none⟩ = some (.slice dy cS.length dz) ∧ w'.cell? ⟨ch, 9, none⟩ = some (.int .i64 lz) ∧ w'.cell? ⟨ch, 10, none⟩ = some (.int .i64 lA) ∧ w'.cell? ⟨ch, 11, none⟩ = some (.slice fA eD.length fB) ∧ w'.cell? ⟨ch, 12, none⟩ = some (.slice dA cT.length dB) ∧ w'.cell? ⟨ci, 0, none⟩ = some (.int .i64 lB) ∧ w'.cell? ⟨ci, 1, none⟩ = some (.int .i64 lC) ∧ w'.cell? ⟨ci, 2, none⟩ = some (.int .i64 lD) ∧ w'.cell? ⟨ci, 3, none⟩ = some (.int .i64 lE) ∧ w'.cell? ⟨ci, 4, none⟩ = some (.int .i64 lF) ∧ w'.cell? ⟨ci, 5, none⟩ = some (.int .i64 lG) ∧ w'.cell? ⟨ci, 6, none⟩ = some (.int .i64 lH) ∧ w'.cell? ⟨ci, 7, none⟩ = some (.int .i64 lI) ∧ w'.cell? ⟨ci, 8, none⟩ = some (.slice dn cU.length dp) ∧ w'.cell? ⟨ci, 9, none⟩ = some (.int .i64 lJ) ∧ w'.cell? ⟨ci, 10, none⟩ = some (.int .i64 lK) ∧ w'.cell? ⟨ci, 11, none⟩ = some (.slice fC eE.length fD) ∧ w'.cell? ⟨ci, 12, none⟩ = some (.slice dC cV.length dD)) (ds := []) (bm 45 0) (by kernel_rfl) rfl (by kernel_rfl) qst (fun hHeld => ?_); refine with_tabW laws_FnNodes.tab7 laws_FnNodes.bits7 (fun HT_ HW_ => ?_)
  generalize w78.drew = w79 at cC cr cD cY cZ da dU dV dW dX dY dZ ay aw az aA aD aE aI HB hHeld ⊢
  refine tv_ 0 29 (bm 45 1) ?_
  refine tv_ 1 30 (bm 45 3) ?_
  refine tv_ 3 32 (bm 45 11) ?_
  refine tv_ 4 33 (bm 45 27) ?_
  refine one_ (i := 2) (N := some 31) (bm 45 31) rfl rfl (one_of HT_.out (by kernel_rfl)) q125t (fun K hK => ?_)
  refine goes_ Tryd.func9 (by kernel_rfl) rfl #[.agg #[dN, dO, dP, dQ, dR, dS], .agg #[dH, eu, ev, ew, ex, ey, ez, eA, .slice cz bJ.length cA, eB, eC, .slice dF cv.length dG, .slice bz bK.length bA]] q127t rfl rfl q66t ?_
  with_reducible refine (impl_NodeOk.calls k dN dO dP dQ dR dS dH eu ev ew ex ey ez eA _ _ bJ eB eC _ _ cv _ _ bK iV _ ?side1 ?side2 ?side3 ?side4 ?side5 ?side6 xk.out).mono ?_
  (case side1 => repeat (first | exact (Kd.R_reads' cC.out).2.2 | (with_reducible refine Kd.C_alloc ?_ _) | (with_reducible refine Kd.C_drewN ?_ _) | (with_reducible refine Kd.C_drew ?_)))
  (case side2 => exact (Kd.R_reads' cC.out).2.1)
  (case side3 => repeat (first | exact (Kd.R_reads' cr.out).2.2 | (with_reducible refine Kd.C_alloc ?_ _) | (with_reducible refine Kd.C_drewN ?_ _) | (with_reducible refine Kd.C_drew ?_)))
  (case side4 => exact (Kd.R_reads' cr.out).2.1)
  (case side5 => repeat (first | exact (Kd.R_reads' cD.out).2.2 | (with_reducible refine Kd.C_alloc ?_ _) | (with_reducible refine Kd.C_drewN ?_ _) | (with_reducible refine Kd.C_drew ?_)))
  (case side6 => exact (Kd.R_reads' cD.out).2.1)
  rintro e w80 ⟨rfl, hb⟩
  refine ⟨_, rfl, ?_⟩
  replace cC := am (Kd.R_below q94t hb)
  replace cr := am (Kd.R_below q95t hb)
  replace cD := am (Kd.R_below q96t hb)
  replace cY := am (Kd.R_below q97t hb)
  replace cZ := am (Kd.R_below q98t hb)
  replace da := am (Kd.R_below q99t hb)
  replace dU := am (Kd.R_below q100t hb)
  replace dV := am (Kd.R_below q101t hb)
  replace dW := am (Kd.R_below q102t hb)
  replace dX := am (Kd.R_below q103t hb)
  replace dY := am (Kd.R_below q104t hb)
  replace dZ := am (Kd.R_below q105t hb)
  replace ay := blb ay hb
  replace aw := blb aw hb
  replace az := blb az hb
  replace aA := blb aA hb
  replace aD := blb aD hb
  replace aE := blb aE hb
  replace aI := blb aI hb
  replace HB := am (below_step q47t hb)
  (try clear hb)
  (try clear hb2)
  (try clear hk)
  (try clear hi)
  refine hK.out _ _ q0t (fun hHeld => ?_)
  clear hK K
  refine norm_ (a' := ?_) ?_ ?_
  rotate_left
  ·show Act.put _ (some 31) _ = _
   simp only [Act.put, List.setIfInBounds_toArray, List.set_cons_zero, List.set_cons_succ, i64_w, i32_w]
   rfl
  refine one_ (i := 5) (N := some 34) (bm 45 63) rfl rfl (one_of HT_.out (by kernel_rfl)) q125t (fun K hK => ?_)
  refine goes_ Tryd.func10 (by kernel_rfl) rfl #[.agg #[dN, dO, dP, dQ, dR, dS], .agg #[dH, eu, ev, ew, ex, ey, ez, eA, .slice cz bJ.length cA, eB, eC, .slice dF cv.length dG, .slice bz bK.length bA]] q127t rfl rfl q66t ?_
  with_reducible refine (spec_NodeOk.calls k dN dO dP dQ dR dS dH eu ev ew ex ey ez eA _ _ bJ eB eC _ _ cv _ _ bK iW _ ?side1 ?side2 ?side3 ?side4 ?side5 ?side6 Np.out).mono ?_
  (case side1 => repeat (first | exact (Kd.R_reads' cC.out).2.2 | (with_reducible refine Kd.C_alloc ?_ _) | (with_reducible refine Kd.C_drewN ?_ _) | (with_reducible refine Kd.C_drew ?_)))
  (case side2 => exact (Kd.R_reads' cC.out).2.1)
  (case side3 => repeat (first | exact (Kd.R_reads' cr.out).2.2 | (with_reducible refine Kd.C_alloc ?_ _) | (with_reducible refine Kd.C_drewN ?_ _) | (with_reducible refine Kd.C_drew ?_)))
  (case side4 => exact (Kd.R_reads' cr.out).2.1)
  (case side5 => repeat (first | exact (Kd.R_reads' cD.out).2.2 | (with_reducible refine Kd.C_alloc ?_ _) | (with_reducible refine Kd.C_drewN ?_ _) | (with_reducible refine Kd.C_drew ?_)))
  (case side6 => exact (Kd.R_reads' cD.out).2.1)
  rintro e w81 ⟨rfl, hb⟩
  refine ⟨_, rfl, ?_⟩
  replace cC := am (Kd.R_below q94t hb)
  replace cr := am (Kd.R_below q95t hb)
  replace cD := am (Kd.R_below q96t hb)
  replace cY := am (Kd.R_below q97t hb)
  replace cZ := am (Kd.R_below q98t hb)
  replace da := am (Kd.R_below q99t hb)
  replace dU := am (Kd.R_below q100t hb)
  replace dV := am (Kd.R_below q101t hb)
  replace dW := am (Kd.R_below q102t hb)
  replace dX := am (Kd.R_below q103t hb)
  replace dY := am (Kd.R_below q104t hb)
  replace dZ := am (Kd.R_below q105t hb)
  replace ay := blb ay hb
  replace aw := blb aw hb
  replace az := blb az hb
  replace aA := blb aA hb
  replace aD := blb aD hb
  replace aE := blb aE hb
  replace aI := blb aI hb
  replace HB := am (below_step q47t hb)
  (try clear hb)
  (try clear hb2)
  (try clear hk)
  (try clear hi)
  refine hK.out _ _ q0t (fun hHeld => ?_)
  clear hK K
  refine norm_ (a' := ?_) ?_ ?_
  rotate_left
  ·show Act.put _ (some 34) _ = _
   simp only [Act.put, List.setIfInBounds_toArray, List.set_cons_zero, List.set_cons_succ, i64_w, i32_w]
   rfl
  refine pv_ 6 35 (bm 45 127) ?_
  refine pv_ 7 36 (bm 45 255) ?_
  refine tv_ 8 37 (bm 45 511) ?_
  refine tv_ 9 38 (bm 45 1023) ?_
  refine tv_ 11 40 (bm 45 3071) ?_
  refine tv_ 12 41 (bm 45 7167) ?_
  refine one_ (i := 10) (N := some 39) (bm 45 8191) rfl rfl (one_of HT_.out (by kernel_rfl)) q125t (fun K hK => ?_)
  refine goes_ Tryd.func11 (by kernel_rfl) rfl #[.agg #[dg, cw, dh, di, dj, dk], .agg #[cX, cM, cg]] q127t rfl rfl q66t ?_
  with_reducible refine (impl_ThingOk.calls k dg cw dh di dj dk cX cM cg iX _ s4.out).mono ?_
  rintro e w82 ⟨rfl, hb⟩
  refine ⟨_, rfl, ?_⟩
  replace cC := am (Kd.R_below q94t hb)
  replace cr := am (Kd.R_below q95t hb)
  replace cD := am (Kd.R_below q96t hb)
  replace cY := am (Kd.R_below q97t hb)
  replace cZ := am (Kd.R_below q98t hb)
  replace da := am (Kd.R_below q99t hb)
  replace dU := am (Kd.R_below q100t hb)
  replace dV := am (Kd.R_below q101t hb)
  replace dW := am (Kd.R_below q102t hb)
  replace dX := am (Kd.R_below q103t hb)
  replace dY := am (Kd.R_below q104t hb)
  replace dZ := am (Kd.R_below q105t hb)
  replace ay := blb ay hb
  replace aw := blb aw hb
  replace az := blb az hb
  replace aA := blb aA hb
  replace aD := blb aD hb
  replace aE := blb aE hb
  replace aI := blb aI hb
  replace HB := am (below_step q47t hb)
  (try clear hb)
  (try clear hb2)
  (try clear hk)
  (try clear hi)
  refine hK.out _ _ q0t (fun hHeld => ?_)
  clear hK K
  refine norm_ (a' := ?_) ?_ ?_
  rotate_left
  ·show Act.put _ (some 39) _ = _
   simp only [Act.put, List.setIfInBounds_toArray, List.set_cons_zero, List.set_cons_succ, i64_w, i32_w]
   rfl
  refine one_ (i := 13) (N := some 42) (bm 45 16383) rfl rfl (one_of HT_.out (by kernel_rfl)) q125t (fun K hK => ?_)
  refine goes_ Tryd.func12 (by kernel_rfl) rfl #[.agg #[dg, cw, dh, di, dj, dk], .agg #[cX, cM, cg]] q127t rfl rfl q66t ?_
  with_reducible refine (spec_ThingOk.calls k dg cw dh di dj dk cX cM cg iY _ Ns.out).mono ?_
  rintro e w83 ⟨rfl, hb⟩
  refine ⟨_, rfl, ?_⟩
  replace cC := am (Kd.R_below q94t hb)
  replace cr := am (Kd.R_below q95t hb)
  replace cD := am (Kd.R_below q96t hb)
  replace cY := am (Kd.R_below q97t hb)
  replace cZ := am (Kd.R_below q98t hb)
  replace da := am (Kd.R_below q99t hb)
  replace dU := am (Kd.R_below q100t hb)
  replace dV := am (Kd.R_below q101t hb)
  replace dW := am (Kd.R_below q102t hb)
  replace dX := am (Kd.R_below q103t hb)
  replace dY := am (Kd.R_below q104t hb)
  replace dZ := am (Kd.R_below q105t hb)
  replace ay := blb ay hb
  replace aw := blb aw hb
  replace az := blb az hb
  replace aA := blb aA hb
  replace aD := blb aD hb
  replace aE := blb aE hb
  replace aI := blb aI hb
  replace HB := am (below_step q47t hb)
  (try clear hb)
  (try clear hb2)
  (try clear hk)
  (try clear hi)
  refine hK.out _ _ q0t (fun hHeld => ?_)
  clear hK K
  refine norm_ (a' := ?_) ?_ ?_
  rotate_left
  ·show Act.put _ (some 42) _ = _
   simp only [Act.put, List.setIfInBounds_toArray, List.set_cons_zero, List.set_cons_succ, i64_w, i32_w]
   rfl
  refine pv_ 14 43 (bm 45 32767) ?_
  refine pv_ 15 44 (bm 45 65535) ?_
  refine pv_ 16 45 (bm 45 131071) ?_
  refine tv_ 17 46 (bm 45 262143) ?_
  refine tv_ 19 48 (bm 45 786431) ?_
  refine one_ (i := 18) (N := some 47) (bm 45 1048575) rfl rfl (one_of HT_.out (by kernel_rfl)) q125t (fun K hK => ?_)
  refine goes_ Tryd.func13 (by kernel_rfl) rfl #[.agg #[jd, je, jf, jg, jh, ji, jj, jk, .slice cO cx.length cP, jl, jm, .slice eo d6.length ep, .slice cQ cy.length cR]] q127t rfl rfl q66t ?_
  with_reducible refine (impl_Bare.calls k jd je jf jg jh ji jj jk _ _ cx jl jm _ _ d6 _ _ cy iZ _ ?side1 ?side2 ?side3 ?side4 ?side5 ?side6 Nw.out).mono ?_
  (case side1 => repeat (first | exact (Kd.R_reads' cY.out).2.2 | (with_reducible refine Kd.C_alloc ?_ _) | (with_reducible refine Kd.C_drewN ?_ _) | (with_reducible refine Kd.C_drew ?_)))
  (case side2 => exact (Kd.R_reads' cY.out).2.1)
  (case side3 => repeat (first | exact (Kd.R_reads' cZ.out).2.2 | (with_reducible refine Kd.C_alloc ?_ _) | (with_reducible refine Kd.C_drewN ?_ _) | (with_reducible refine Kd.C_drew ?_)))
  (case side4 => exact (Kd.R_reads' cZ.out).2.1)
  (case side5 => repeat (first | exact (Kd.R_reads' da.out).2.2 | (with_reducible refine Kd.C_alloc ?_ _) | (with_reducible refine Kd.C_drewN ?_ _) | (with_reducible refine Kd.C_drew ?_)))
  (case side6 => exact (Kd.R_reads' da.out).2.1)
  rintro e w84 ⟨rfl, hb⟩
  refine ⟨_, rfl, ?_⟩
  replace cC := am (Kd.R_below q94t hb)
  replace cr := am (Kd.R_below q95t hb)
  replace cD := am (Kd.R_below q96t hb)
  replace cY := am (Kd.R_below q97t hb)
  replace cZ := am (Kd.R_below q98t hb)
  replace da := am (Kd.R_below q99t hb)
  replace dU := am (Kd.R_below q100t hb)
  replace dV := am (Kd.R_below q101t hb)
  replace dW := am (Kd.R_below q102t hb)
  replace dX := am (Kd.R_below q103t hb)
  replace dY := am (Kd.R_below q104t hb)
  replace dZ := am (Kd.R_below q105t hb)
  replace ay := blb ay hb
  replace aw := blb aw hb
  replace az := blb az hb
  replace aA := blb aA hb
  replace aD := blb aD hb
  replace aE := blb aE hb
  replace aI := blb aI hb
  replace HB := am (below_step q47t hb)
  (try clear hb)
  (try clear hb2)
  (try clear hk)
  (try clear hi)
  refine hK.out _ _ q0t (fun hHeld => ?_)
  clear hK K
  refine norm_ (a' := ?_) ?_ ?_
  rotate_left
  ·show Act.put _ (some 47) _ = _
   simp only [Act.put, List.setIfInBounds_toArray, List.set_cons_zero, List.set_cons_succ, i64_w, i32_w]
   rfl
  refine one_ (i := 20) (N := some 49) (bm 45 2097151) rfl rfl (one_of HT_.out (by kernel_rfl)) q125t (fun K hK => ?_)
  refine goes_ Tryd.func14 (by kernel_rfl) rfl #[.agg #[jd, je, jf, jg, jh, ji, jj, jk, .slice cO cx.length cP, jl, jm, .slice eo d6.length ep, .slice cQ cy.length cR]] q127t rfl rfl q66t ?_
  with_reducible refine (spec_Bare.calls jd je jf jg jh ji jj jk _ _ cx jl jm _ _ d6 _ _ cy ja _ ?side1 ?side2 ?side3 ?side4 ?side5 ?side6 xo.out).mono ?_
  (case side1 => repeat (first | exact (Kd.R_reads' cY.out).2.2 | (with_reducible refine Kd.C_alloc ?_ _) | (with_reducible refine Kd.C_drewN ?_ _) | (with_reducible refine Kd.C_drew ?_)))
  (case side2 => exact (Kd.R_reads' cY.out).2.1)
  (case side3 => repeat (first | exact (Kd.R_reads' cZ.out).2.2 | (with_reducible refine Kd.C_alloc ?_ _) | (with_reducible refine Kd.C_drewN ?_ _) | (with_reducible refine Kd.C_drew ?_)))
  (case side4 => exact (Kd.R_reads' cZ.out).2.1)
  (case side5 => repeat (first | exact (Kd.R_reads' da.out).2.2 | (with_reducible refine Kd.C_alloc ?_ _) | (with_reducible refine Kd.C_drewN ?_ _) | (with_reducible refine Kd.C_drew ?_)))
  (case side6 => exact (Kd.R_reads' da.out).2.1)
  rintro e w85 ⟨rfl, hb⟩
  refine ⟨_, rfl, ?_⟩
  replace cC := am (Kd.R_below q94t hb)
  replace cr := am (Kd.R_below q95t hb)
  replace cD := am (Kd.R_below q96t hb)
  replace cY := am (Kd.R_below q97t hb)
  replace cZ := am (Kd.R_below q98t hb)
  replace da := am (Kd.R_below q99t hb)
  replace dU := am (Kd.R_below q100t hb)
  replace dV := am (Kd.R_below q101t hb)
  replace dW := am (Kd.R_below q102t hb)
  replace dX := am (Kd.R_below q103t hb)
  replace dY := am (Kd.R_below q104t hb)
  replace dZ := am (Kd.R_below q105t hb)
  replace ay := blb ay hb
  replace aw := blb aw hb
  replace az := blb az hb
  replace aA := blb aA hb
  replace aD := blb aD hb
  replace aE := blb aE hb
  replace aI := blb aI hb
  replace HB := am (below_step q47t hb)
  (try clear hb)
  (try clear hb2)
  (try clear hk)
  (try clear hi)
  refine hK.out _ _ q0t (fun hHeld => ?_)
  clear hK K
  refine norm_ (a' := ?_) ?_ ?_
  rotate_left
  ·show Act.put _ (some 49) _ = _
   simp only [Act.put, List.setIfInBounds_toArray, List.set_cons_zero, List.set_cons_succ, i64_w, i32_w]
   rfl
  refine pv_ 21 50 (bm 45 4194303) ?_
  refine pv_ 22 51 (bm 45 8388607) ?_
  refine pv_ 23 52 (bm 45 16777215) ?_
  refine tv_ 24 53 (bm 45 33554431) ?_
  refine tv_ 25 54 (bm 45 67108863) ?_
  refine tv_ 27 56 (bm 45 201326591) ?_
  refine tv_ 28 57 (bm 45 469762047) ?_
  refine one_ (i := 26) (N := some 55) (bm 45 536870911) rfl rfl (one_of HT_.out (by kernel_rfl)) q125t (fun K hK => ?_)
  refine goes_ Tryd.func15 (by kernel_rfl) rfl #[.agg #[lq, lr, ls, lu, lv, lw, lx, ly, .slice dy cS.length dz, lz, lA, .slice fA eD.length fB, .slice dA cT.length dB], .agg #[lB, lC, lD, lE, lF, lG, lH, lI, .slice dn cU.length dp, lJ, lK, .slice fC eE.length fD, .slice dC cV.length dD]] q127t rfl rfl q66t ?_
  with_reducible refine (impl_SameNode.calls k lq lr ls lu lv lw lx ly _ _ cS lz lA _ _ eD _ _ cT lB lC lD lE lF lG lH lI _ _ cU lJ lK _ _ eE _ _ cV jb _ ?side1 ?side2 ?side3 ?side4 ?side5 ?side6 ?side7 ?side8 ?side9 ?side10 ?side11 ?side12 NA.out).mono ?_
  (case side1 => repeat (first | exact (Kd.R_reads' dU.out).2.2 | (with_reducible refine Kd.C_alloc ?_ _) | (with_reducible refine Kd.C_drewN ?_ _) | (with_reducible refine Kd.C_drew ?_)))
  (case side2 => exact (Kd.R_reads' dU.out).2.1)
  (case side3 => repeat (first | exact (Kd.R_reads' dV.out).2.2 | (with_reducible refine Kd.C_alloc ?_ _) | (with_reducible refine Kd.C_drewN ?_ _) | (with_reducible refine Kd.C_drew ?_)))
  (case side4 => exact (Kd.R_reads' dV.out).2.1)
  (case side5 => repeat (first | exact (Kd.R_reads' dW.out).2.2 | (with_reducible refine Kd.C_alloc ?_ _) | (with_reducible refine Kd.C_drewN ?_ _) | (with_reducible refine Kd.C_drew ?_)))
  (case side6 => exact (Kd.R_reads' dW.out).2.1)
  (case side7 => repeat (first | exact (Kd.R_reads' dX.out).2.2 | (with_reducible refine Kd.C_alloc ?_ _) | (with_reducible refine Kd.C_drewN ?_ _) | (with_reducible refine Kd.C_drew ?_)))
  (case side8 => exact (Kd.R_reads' dX.out).2.1)
  (case side9 => repeat (first | exact (Kd.R_reads' dY.out).2.2 | (with_reducible refine Kd.C_alloc ?_ _) | (with_reducible refine Kd.C_drewN ?_ _) | (with_reducible refine Kd.C_drew ?_)))
  (case side10 => exact (Kd.R_reads' dY.out).2.1)
  (case side11 => repeat (first | exact (Kd.R_reads' dZ.out).2.2 | (with_reducible refine Kd.C_alloc ?_ _) | (with_reducible refine Kd.C_drewN ?_ _) | (with_reducible refine Kd.C_drew ?_)))
  (case side12 => exact (Kd.R_reads' dZ.out).2.1)
  rintro e w86 ⟨rfl, hb⟩
  refine ⟨_, rfl, ?_⟩
  replace cC := am (Kd.R_below q94t hb)
  replace cr := am (Kd.R_below q95t hb)
  replace cD := am (Kd.R_below q96t hb)
  replace cY := am (Kd.R_below q97t hb)
  replace cZ := am (Kd.R_below q98t hb)
  replace da := am (Kd.R_below q99t hb)
  replace dU := am (Kd.R_below q100t hb)
  replace dV := am (Kd.R_below q101t hb)
  replace dW := am (Kd.R_below q102t hb)
  replace dX := am (Kd.R_below q103t hb)
  replace dY := am (Kd.R_below q104t hb)
  replace dZ := am (Kd.R_below q105t hb)
  replace ay := blb ay hb
  replace aw := blb aw hb
  replace az := blb az hb
  replace aA := blb aA hb
  replace aD := blb aD hb
  replace aE := blb aE hb
  replace aI := blb aI hb
  replace HB := am (below_step q47t hb)
  (try clear hb)
  (try clear hb2)
  (try clear hk)
  (try clear hi)
  refine hK.out _ _ q0t (fun hHeld => ?_)
  clear hK K
  refine norm_ (a' := ?_) ?_ ?_
  rotate_left
  ·show Act.put _ (some 55) _ = _
   simp only [Act.put, List.setIfInBounds_toArray, List.set_cons_zero, List.set_cons_succ, i64_w, i32_w]
   rfl
  refine one_ (i := 29) (N := some 58) (bm 45 1073741823) rfl rfl (one_of HT_.out (by kernel_rfl)) q125t (fun K hK => ?_)
  refine goes_ Tryd.func16 (by kernel_rfl) rfl #[.agg #[lq, lr, ls, lu, lv, lw, lx, ly, .slice dy cS.length dz, lz, lA, .slice fA eD.length fB, .slice dA cT.length dB], .agg #[lB, lC, lD, lE, lF, lG, lH, lI, .slice dn cU.length dp, lJ, lK, .slice fC eE.length fD, .slice dC cV.length dD]] q127t rfl rfl q66t ?_
  with_reducible refine (laws_sameNode.calls k lq lr ls lu lv lw lx ly _ _ cS lz lA _ _ eD _ _ cT lB lC lD lE lF lG lH lI _ _ cU lJ lK _ _ eE _ _ cV jc _ ?side1 ?side2 ?side3 ?side4 ?side5 ?side6 ?side7 ?side8 ?side9 ?side10 ?side11 ?side12 NB.out).mono ?_
  (case side1 => repeat (first | exact (Kd.R_reads' dU.out).2.2 | (with_reducible refine Kd.C_alloc ?_ _) | (with_reducible refine Kd.C_drewN ?_ _) | (with_reducible refine Kd.C_drew ?_)))
  (case side2 => exact (Kd.R_reads' dU.out).2.1)
  (case side3 => repeat (first | exact (Kd.R_reads' dV.out).2.2 | (with_reducible refine Kd.C_alloc ?_ _) | (with_reducible refine Kd.C_drewN ?_ _) | (with_reducible refine Kd.C_drew ?_)))
  (case side4 => exact (Kd.R_reads' dV.out).2.1)
  (case side5 => repeat (first | exact (Kd.R_reads' dW.out).2.2 | (with_reducible refine Kd.C_alloc ?_ _) | (with_reducible refine Kd.C_drewN ?_ _) | (with_reducible refine Kd.C_drew ?_)))
  (case side6 => exact (Kd.R_reads' dW.out).2.1)
  (case side7 => repeat (first | exact (Kd.R_reads' dX.out).2.2 | (with_reducible refine Kd.C_alloc ?_ _) | (with_reducible refine Kd.C_drewN ?_ _) | (with_reducible refine Kd.C_drew ?_)))
  (case side8 => exact (Kd.R_reads' dX.out).2.1)
  (case side9 => repeat (first | exact (Kd.R_reads' dY.out).2.2 | (with_reducible refine Kd.C_alloc ?_ _) | (with_reducible refine Kd.C_drewN ?_ _) | (with_reducible refine Kd.C_drew ?_)))
  (case side10 => exact (Kd.R_reads' dY.out).2.1)
  (case side11 => repeat (first | exact (Kd.R_reads' dZ.out).2.2 | (with_reducible refine Kd.C_alloc ?_ _) | (with_reducible refine Kd.C_drewN ?_ _) | (with_reducible refine Kd.C_drew ?_)))
  (case side12 => exact (Kd.R_reads' dZ.out).2.1)
  rintro e w87 ⟨rfl, hb⟩
  refine ⟨_, rfl, ?_⟩
  replace cC := am (Kd.R_below q94t hb)
  replace cr := am (Kd.R_below q95t hb)
  replace cD := am (Kd.R_below q96t hb)
  replace cY := am (Kd.R_below q97t hb)
  replace cZ := am (Kd.R_below q98t hb)
  replace da := am (Kd.R_below q99t hb)
  replace dU := am (Kd.R_below q100t hb)
  replace dV := am (Kd.R_below q101t hb)
  replace dW := am (Kd.R_below q102t hb)
  replace dX := am (Kd.R_below q103t hb)
  replace dY := am (Kd.R_below q104t hb)
  replace dZ := am (Kd.R_below q105t hb)
  replace ay := blb ay hb
  replace aw := blb aw hb
  replace az := blb az hb
  replace aA := blb aA hb
  replace aD := blb aD hb
  replace aE := blb aE hb
  replace aI := blb aI hb
  replace HB := am (below_step q47t hb)
  (try clear hb)
  (try clear hb2)
  (try clear hk)
  (try clear hi)
  refine hK.out _ _ q0t (fun hHeld => ?_)
  clear hK K
  refine norm_ (a' := ?_) ?_ ?_
  rotate_left
  ·show Act.put _ (some 58) _ = _
   simp only [Act.put, List.setIfInBounds_toArray, List.set_cons_zero, List.set_cons_succ, i64_w, i32_w]
   rfl
  refine pv_ 30 59 (bm 45 2147483647) ?_
  refine pv_ 31 60 (bm 45 4294967295) ?_
  refine pv_ 32 61 (bm 45 8589934591) ?_
  refine tv_ 33 62 (bm 45 17179869183) ?_
  refine tv_ 35 64 (bm 45 51539607551) ?_
  refine one_ (i := 34) (N := some 63) (bm 45 68719476735) rfl rfl (one_of HT_.out (by kernel_rfl)) q125t (fun K hK => ?_)
  refine goes_ Tryd.func17 (by kernel_rfl) rfl #[.agg #[jd, je, jf, jg, jh, ji, jj, jk, .slice cO cx.length cP, jl, jm, .slice eo d6.length ep, .slice cQ cy.length cR]] q127t rfl rfl q66t ?_
  with_reducible refine (impl_TextOf.calls k jd je jf jg jh ji jj jk _ _ cx jl jm _ _ d6 _ _ cy ln _ ?side1 ?side2 ?side3 ?side4 ?side5 ?side6 NF.out (Tb.below hT q47t)).mono ?_
  (case side1 => repeat (first | exact (Kd.R_reads' cY.out).2.2 | (with_reducible refine Kd.C_alloc ?_ _) | (with_reducible refine Kd.C_drewN ?_ _) | (with_reducible refine Kd.C_drew ?_)))
  (case side2 => exact (Kd.R_reads' cY.out).2.1)
  (case side3 => repeat (first | exact (Kd.R_reads' cZ.out).2.2 | (with_reducible refine Kd.C_alloc ?_ _) | (with_reducible refine Kd.C_drewN ?_ _) | (with_reducible refine Kd.C_drew ?_)))
  (case side4 => exact (Kd.R_reads' cZ.out).2.1)
  (case side5 => repeat (first | exact (Kd.R_reads' da.out).2.2 | (with_reducible refine Kd.C_alloc ?_ _) | (with_reducible refine Kd.C_drewN ?_ _) | (with_reducible refine Kd.C_drew ?_)))
  (case side6 => exact (Kd.R_reads' da.out).2.1)
  rintro e w88 ⟨rfl, hb⟩
  refine ⟨_, rfl, ?_⟩
  replace cC := am (Kd.R_below q94t hb)
  replace cr := am (Kd.R_below q95t hb)
  replace cD := am (Kd.R_below q96t hb)
  replace cY := am (Kd.R_below q97t hb)
  replace cZ := am (Kd.R_below q98t hb)
  replace da := am (Kd.R_below q99t hb)
  replace dU := am (Kd.R_below q100t hb)
  replace dV := am (Kd.R_below q101t hb)
  replace dW := am (Kd.R_below q102t hb)
  replace dX := am (Kd.R_below q103t hb)
  replace dY := am (Kd.R_below q104t hb)
  replace dZ := am (Kd.R_below q105t hb)
  replace ay := blb ay hb
  replace aw := blb aw hb
  replace az := blb az hb
  replace aA := blb aA hb
  replace aD := blb aD hb
  replace aE := blb aE hb
  replace aI := blb aI hb
  replace HB := am (below_step q47t hb)
  (try clear hb)
  (try clear hb2)
  (try clear hk)
  (try clear hi)
  refine hK.out _ _ q0t (fun hHeld => ?_)
  clear hK K
  refine norm_ (a' := ?_) ?_ ?_
  rotate_left
  ·show Act.put _ (some 63) _ = _
   simp only [Act.put, List.setIfInBounds_toArray, List.set_cons_zero, List.set_cons_succ, i64_w, i32_w]
   rfl
  refine one_ (i := 36) (N := some 65) (bm 45 137438953471) rfl rfl (one_of HT_.out (by kernel_rfl)) q125t (fun K hK => ?_)
  refine goes_ Tryd.func18 (by kernel_rfl) rfl #[.agg #[jd, je, jf, jg, jh, ji, jj, jk, .slice cO cx.length cP, jl, jm, .slice eo d6.length ep, .slice cQ cy.length cR]] q127t rfl rfl q66t ?_
  with_reducible refine (spec_TextOf.calls k jd je jf jg jh ji jj jk _ _ cx jl jm _ _ d6 _ _ cy lp _ ?side1 ?side2 ?side3 ?side4 ?side5 ?side6 NG.out).mono ?_
  (case side1 => repeat (first | exact (Kd.R_reads' cY.out).2.2 | (with_reducible refine Kd.C_alloc ?_ _) | (with_reducible refine Kd.C_drewN ?_ _) | (with_reducible refine Kd.C_drew ?_)))
  (case side2 => exact (Kd.R_reads' cY.out).2.1)
  (case side3 => repeat (first | exact (Kd.R_reads' cZ.out).2.2 | (with_reducible refine Kd.C_alloc ?_ _) | (with_reducible refine Kd.C_drewN ?_ _) | (with_reducible refine Kd.C_drew ?_)))
  (case side4 => exact (Kd.R_reads' cZ.out).2.1)
  (case side5 => repeat (first | exact (Kd.R_reads' da.out).2.2 | (with_reducible refine Kd.C_alloc ?_ _) | (with_reducible refine Kd.C_drewN ?_ _) | (with_reducible refine Kd.C_drew ?_)))
  (case side6 => exact (Kd.R_reads' da.out).2.1)
  rintro e w89 ⟨rfl, hb⟩
  refine ⟨_, rfl, ?_⟩
  replace cC := am (Kd.R_below q94t hb)
  replace cr := am (Kd.R_below q95t hb)
  replace cD := am (Kd.R_below q96t hb)
  replace cY := am (Kd.R_below q97t hb)
  replace cZ := am (Kd.R_below q98t hb)
  replace da := am (Kd.R_below q99t hb)
  replace dU := am (Kd.R_below q100t hb)
  replace dV := am (Kd.R_below q101t hb)
  replace dW := am (Kd.R_below q102t hb)
  replace dX := am (Kd.R_below q103t hb)
  replace dY := am (Kd.R_below q104t hb)
  replace dZ := am (Kd.R_below q105t hb)
  replace ay := blb ay hb
  replace aw := blb aw hb
  replace az := blb az hb
  replace aA := blb aA hb
  replace aD := blb aD hb
  replace aE := blb aE hb
  replace aI := blb aI hb
  replace HB := am (below_step q47t hb)
  (try clear hb)
  (try clear hb2)
  (try clear hk)
  (try clear hi)
  refine hK.out _ _ q0t (fun hHeld => ?_)
  clear hK K
  refine norm_ (a' := ?_) ?_ ?_
  rotate_left
  ·show Act.put _ (some 65) _ = _
   simp only [Act.put, List.setIfInBounds_toArray, List.set_cons_zero, List.set_cons_succ, i64_w, i32_w]
   rfl
  refine pv_ 37 66 (bm 45 274877906943) ?_
  refine pv_ 38 67 (bm 45 549755813887) ?_
  refine pv_ 39 68 (bm 45 1099511627775) ?_
  refine one_ (i := 40) (N := some 69) (bm 45 2199023255551) rfl rfl (one_of HT_.out (by kernel_rfl)) q125t (fun K hK => ?_)
  refine goes_ Tryd.func19 (by kernel_rfl) rfl #[.int .i64 3] q127t rfl rfl q66t ?_
  with_reducible refine (impl_NodeNew.calls 3 Ad Ae Af Ag Ah Ai Aj Ak Al Am An Ao Ap _ NH.out).mono ?_
  rintro e w90 ⟨v826, v831, v834, rfl, ho0, ho1, ho2, hb⟩
  refine ⟨_, rfl, ?_⟩
  have pt := am (Kd.R_lower (Kd.R_new' (Kd.R_new' (Kd.R_new' (Kd.R_new' (Kd.R_new' (Kd.R_new' (Kd.R_new' (Kd.R_new' ho0 (Kd.R_lt q94t)) (Kd.R_lt q96t)) (Kd.R_lt q97t)) (Kd.R_lt q99t)) (Kd.R_lt q100t)) (Kd.R_lt q102t)) (Kd.R_lt q103t)) (Kd.R_lt q105t)) (below_size q47t))
  have ou := am (Kd.R_lower (Kd.R_newB (Kd.R_new' (Kd.R_new' (Kd.R_new' (Kd.R_new' ho1 (Kd.R_lt q95t)) (Kd.R_lt q98t)) (Kd.R_lt q101t)) (Kd.R_lt q104t)) (qbk aA)) (below_size q47t))
  replace cr := am (Kd.R_elder' q95t (Kd.R_base ho1) hb)
  replace cZ := am (Kd.R_elder' q98t (Kd.R_base ho1) hb)
  replace dV := am (Kd.R_elder' q101t (Kd.R_base ho1) hb)
  replace dY := am (Kd.R_elder' q104t (Kd.R_base ho1) hb)
  have pu := am (Kd.R_lower (Kd.R_new' (Kd.R_new' (Kd.R_new' (Kd.R_new' (Kd.R_new' (Kd.R_new' (Kd.R_new' (Kd.R_new' ho2 (Kd.R_lt q94t)) (Kd.R_lt q96t)) (Kd.R_lt q97t)) (Kd.R_lt q99t)) (Kd.R_lt q100t)) (Kd.R_lt q102t)) (Kd.R_lt q103t)) (Kd.R_lt q105t)) (below_size q47t))
  replace cC := am (Kd.R_mono (Kd.R_told (Kd.R_told (Kd.R_old q94t hb) (Kd.R_base ho0)) (Kd.R_base ho2)) (fun _ h_ => h_.1))
  replace cD := am (Kd.R_mono (Kd.R_told (Kd.R_told (Kd.R_old q96t hb) (Kd.R_base ho0)) (Kd.R_base ho2)) (fun _ h_ => h_.1))
  replace cY := am (Kd.R_mono (Kd.R_told (Kd.R_told (Kd.R_old q97t hb) (Kd.R_base ho0)) (Kd.R_base ho2)) (fun _ h_ => h_.1))
  replace da := am (Kd.R_mono (Kd.R_told (Kd.R_told (Kd.R_old q99t hb) (Kd.R_base ho0)) (Kd.R_base ho2)) (fun _ h_ => h_.1))
  replace dU := am (Kd.R_mono (Kd.R_told (Kd.R_told (Kd.R_old q100t hb) (Kd.R_base ho0)) (Kd.R_base ho2)) (fun _ h_ => h_.1))
  replace dW := am (Kd.R_mono (Kd.R_told (Kd.R_told (Kd.R_old q102t hb) (Kd.R_base ho0)) (Kd.R_base ho2)) (fun _ h_ => h_.1))
  replace dX := am (Kd.R_mono (Kd.R_told (Kd.R_told (Kd.R_old q103t hb) (Kd.R_base ho0)) (Kd.R_base ho2)) (fun _ h_ => h_.1))
  replace dZ := am (Kd.R_mono (Kd.R_told (Kd.R_told (Kd.R_old q105t hb) (Kd.R_base ho0)) (Kd.R_base ho2)) (fun _ h_ => h_.1))
  replace ay := blb ay hb
  replace aw := blb aw hb
  replace az := blb az hb
  replace aA := blb aA hb
  replace aD := blb aD hb
  replace aE := blb aE hb
  replace aI := blb aI hb
  replace HB := am (below_step q47t hb)
  (try clear hb)
  (try clear hb2)
  (try clear hk)
  (try clear hi)
  (try clear ho0)
  (try clear ho1)
  (try clear ho2)
  refine hK.out _ _ q0t (fun hHeld => ?_)
  clear hK K
  refine norm_ (a' := ?_) ?_ ?_
  rotate_left
  ·show Act.put _ (some 69) _ = _
   simp only [Act.put, List.setIfInBounds_toArray, List.set_cons_zero, List.set_cons_succ, i64_w, i32_w]
   rfl
  refine one_ (i := 41) (N := some 70) (bm 45 4398046511103) rfl rfl (one_of HT_.out (by kernel_rfl)) q125t (fun K hK => ?_)
  refine goes_ Tryd.func20 (by kernel_rfl) rfl #[.int .i64 3] q127t rfl rfl q66t ?_
  with_reducible refine (spec_NodeNew.calls 3 Aq Ar As Au Av Aw Ax Ay Az AA AB AC AD _ NI.out).mono ?_
  rintro e w91 ⟨v845, v850, v853, rfl, ho0, ho1, ho2, hb⟩
  refine ⟨_, rfl, ?_⟩
  have tt := am (Kd.R_lower (Kd.R_new' (Kd.R_new' (Kd.R_new' (Kd.R_new' (Kd.R_new' (Kd.R_new' (Kd.R_new' (Kd.R_new' (Kd.R_new' (Kd.R_new' ho0 (Kd.R_lt q94t)) (Kd.R_lt q96t)) (Kd.R_lt q97t)) (Kd.R_lt q99t)) (Kd.R_lt q100t)) (Kd.R_lt q102t)) (Kd.R_lt q103t)) (Kd.R_lt q105t)) (Kd.R_lt q106t)) (Kd.R_lt q107t)) (below_size q47t))
  have tu := am (Kd.R_lower (Kd.R_newB (Kd.R_new' (Kd.R_new' (Kd.R_new' (Kd.R_new' (Kd.R_new' ho1 (Kd.R_lt q95t)) (Kd.R_lt q98t)) (Kd.R_lt q101t)) (Kd.R_lt q104t)) (Kd.R_lt (by (with_reducible repeat (first | apply Kd.R_alloc | apply Kd.R_drewN | apply Kd.R_drew)); exact ou.out))) (qbk aA)) (below_size q47t))
  replace cr := am (Kd.R_elder' q95t (Kd.R_base ho1) hb)
  replace cZ := am (Kd.R_elder' q98t (Kd.R_base ho1) hb)
  replace dV := am (Kd.R_elder' q101t (Kd.R_base ho1) hb)
  replace dY := am (Kd.R_elder' q104t (Kd.R_base ho1) hb)
  replace ou := am (Kd.R_elder' (by (with_reducible repeat (first | apply Kd.R_alloc | apply Kd.R_drewN | apply Kd.R_drew)); exact ou.out) (Kd.R_base ho1) hb)
  have tv := am (Kd.R_lower (Kd.R_new' (Kd.R_new' (Kd.R_new' (Kd.R_new' (Kd.R_new' (Kd.R_new' (Kd.R_new' (Kd.R_new' (Kd.R_new' (Kd.R_new' ho2 (Kd.R_lt q94t)) (Kd.R_lt q96t)) (Kd.R_lt q97t)) (Kd.R_lt q99t)) (Kd.R_lt q100t)) (Kd.R_lt q102t)) (Kd.R_lt q103t)) (Kd.R_lt q105t)) (Kd.R_lt q106t)) (Kd.R_lt q107t)) (below_size q47t))
  replace cC := am (Kd.R_mono (Kd.R_told (Kd.R_told (Kd.R_old q94t hb) (Kd.R_base ho0)) (Kd.R_base ho2)) (fun _ h_ => h_.1))
  replace cD := am (Kd.R_mono (Kd.R_told (Kd.R_told (Kd.R_old q96t hb) (Kd.R_base ho0)) (Kd.R_base ho2)) (fun _ h_ => h_.1))
  replace cY := am (Kd.R_mono (Kd.R_told (Kd.R_told (Kd.R_old q97t hb) (Kd.R_base ho0)) (Kd.R_base ho2)) (fun _ h_ => h_.1))
  replace da := am (Kd.R_mono (Kd.R_told (Kd.R_told (Kd.R_old q99t hb) (Kd.R_base ho0)) (Kd.R_base ho2)) (fun _ h_ => h_.1))
  replace dU := am (Kd.R_mono (Kd.R_told (Kd.R_told (Kd.R_old q100t hb) (Kd.R_base ho0)) (Kd.R_base ho2)) (fun _ h_ => h_.1))
  replace dW := am (Kd.R_mono (Kd.R_told (Kd.R_told (Kd.R_old q102t hb) (Kd.R_base ho0)) (Kd.R_base ho2)) (fun _ h_ => h_.1))
  replace dX := am (Kd.R_mono (Kd.R_told (Kd.R_told (Kd.R_old q103t hb) (Kd.R_base ho0)) (Kd.R_base ho2)) (fun _ h_ => h_.1))
  replace dZ := am (Kd.R_mono (Kd.R_told (Kd.R_told (Kd.R_old q105t hb) (Kd.R_base ho0)) (Kd.R_base ho2)) (fun _ h_ => h_.1))
  replace pt := am (Kd.R_mono (Kd.R_told (Kd.R_told (Kd.R_old q106t hb) (Kd.R_base ho0)) (Kd.R_base ho2)) (fun _ h_ => h_.1))
  replace pu := am (Kd.R_mono (Kd.R_told (Kd.R_told (Kd.R_old q107t hb) (Kd.R_base ho0)) (Kd.R_base ho2)) (fun _ h_ => h_.1))
  replace ay := blb ay hb
  replace aw := blb aw hb
  replace az := blb az hb
  replace aA := blb aA hb
  replace aD := blb aD hb
  replace aE := blb aE hb
  replace aI := blb aI hb
  replace HB := am (below_step q47t hb)
  (try clear hb)
  (try clear hb2)
  (try clear hk)
  (try clear hi)
  (try clear ho0)
  (try clear ho1)
  (try clear ho2)
  obtain ⟨NJ, NK, FE⟩ := Kd.R_slice pt.out
  (first | subst FE | (injection FE with f1_ f2_ f3_; have f4_ := f1_.symm; have f5_ := f3_.symm; clear f1_ f2_ f3_; subst f4_; subst f5_))
  obtain ⟨NL, NM, FF⟩ := Kd.R_slice ou.out
  (first | subst FF | (injection FF with f1_ f2_ f3_; have f4_ := f1_.symm; have f5_ := f3_.symm; clear f1_ f2_ f3_; subst f4_; subst f5_))
  obtain ⟨NN, NO, FG⟩ := Kd.R_slice pu.out
  (first | subst FG | (injection FG with f1_ f2_ f3_; have f4_ := f1_.symm; have f5_ := f3_.symm; clear f1_ f2_ f3_; subst f4_; subst f5_))
  obtain ⟨wK, wL, tY⟩ := Kd.R_slice tt.out
  (first | subst tY | (injection tY with f1_ f2_ f3_; have f4_ := f1_.symm; have f5_ := f3_.symm; clear f1_ f2_ f3_; subst f4_; subst f5_))
  obtain ⟨wM, wN, tZ⟩ := Kd.R_slice tu.out
  (first | subst tZ | (injection tZ with f1_ f2_ f3_; have f4_ := f1_.symm; have f5_ := f3_.symm; clear f1_ f2_ f3_; subst f4_; subst f5_))
  obtain ⟨xA, xB, rt⟩ := Kd.R_slice tv.out
  (first | subst rt | (injection rt with f1_ f2_ f3_; have f4_ := f1_.symm; have f5_ := f3_.symm; clear f1_ f2_ f3_; subst f4_; subst f5_))
  refine hK.out _ _ q0t (fun hHeld => ?_)
  clear hK K
  refine norm_ (a' := ?_) ?_ ?_
  rotate_left
  ·show Act.put _ (some 70) _ = _
   simp only [Act.put, List.setIfInBounds_toArray, List.set_cons_zero, List.set_cons_succ, i64_w, i32_w]
   rfl
  refine one_ (i := 42) (N := some 71) (bm 45 8796093022207) rfl rfl (one_of HT_.out (by kernel_rfl)) q125t (fun K hK => ?_)
  refine goes_ Tryd.func16 (by kernel_rfl) rfl #[.agg #[Ad, Ae, Af, Ag, Ah, Ai, Aj, Ak, .slice NJ Al.length NK, Am, An, .slice NL Ao.length NM, .slice NN Ap.length NO], .agg #[Aq, Ar, As, Au, Av, Aw, Ax, Ay, .slice wK Az.length wL, AA, AB, .slice wM AC.length wN, .slice xA AD.length xB]] q127t rfl rfl q66t ?_
  with_reducible refine (laws_sameNode.calls k Ad Ae Af Ag Ah Ai Aj Ak _ _ Al Am An _ _ Ao _ _ Ap Aq Ar As Au Av Aw Ax Ay _ _ Az AA AB _ _ AC _ _ AD qD _ ?side1 ?side2 ?side3 ?side4 ?side5 ?side6 ?side7 ?side8 ?side9 ?side10 ?side11 ?side12 xr.out).mono ?_
  (case side1 => repeat (first | exact (Kd.R_reads' pt.out).2.2 | (with_reducible refine Kd.C_alloc ?_ _) | (with_reducible refine Kd.C_drewN ?_ _) | (with_reducible refine Kd.C_drew ?_)))
  (case side2 => exact (Kd.R_reads' pt.out).2.1)
  (case side3 => repeat (first | exact (Kd.R_reads' ou.out).2.2 | (with_reducible refine Kd.C_alloc ?_ _) | (with_reducible refine Kd.C_drewN ?_ _) | (with_reducible refine Kd.C_drew ?_)))
  (case side4 => exact (Kd.R_reads' ou.out).2.1)
  (case side5 => repeat (first | exact (Kd.R_reads' pu.out).2.2 | (with_reducible refine Kd.C_alloc ?_ _) | (with_reducible refine Kd.C_drewN ?_ _) | (with_reducible refine Kd.C_drew ?_)))
  (case side6 => exact (Kd.R_reads' pu.out).2.1)
  (case side7 => repeat (first | exact (Kd.R_reads' tt.out).2.2 | (with_reducible refine Kd.C_alloc ?_ _) | (with_reducible refine Kd.C_drewN ?_ _) | (with_reducible refine Kd.C_drew ?_)))
  (case side8 => exact (Kd.R_reads' tt.out).2.1)
  (case side9 => repeat (first | exact (Kd.R_reads' tu.out).2.2 | (with_reducible refine Kd.C_alloc ?_ _) | (with_reducible refine Kd.C_drewN ?_ _) | (with_reducible refine Kd.C_drew ?_)))
  (case side10 => exact (Kd.R_reads' tu.out).2.1)
  (case side11 => repeat (first | exact (Kd.R_reads' tv.out).2.2 | (with_reducible refine Kd.C_alloc ?_ _) | (with_reducible refine Kd.C_drewN ?_ _) | (with_reducible refine Kd.C_drew ?_)))
  (case side12 => exact (Kd.R_reads' tv.out).2.1)
  rintro e w98 ⟨rfl, hb⟩
  refine ⟨_, rfl, ?_⟩
  replace cC := am (Kd.R_below q94t hb)
  replace cr := am (Kd.R_below q95t hb)
  replace cD := am (Kd.R_below q96t hb)
  replace cY := am (Kd.R_below q97t hb)
  replace cZ := am (Kd.R_below q98t hb)
  replace da := am (Kd.R_below q99t hb)
  replace dU := am (Kd.R_below q100t hb)
  replace dV := am (Kd.R_below q101t hb)
  replace dW := am (Kd.R_below q102t hb)
  replace dX := am (Kd.R_below q103t hb)
  replace dY := am (Kd.R_below q104t hb)
  replace dZ := am (Kd.R_below q105t hb)
  replace pt := am (Kd.R_below q106t hb)
  replace ou := am (Kd.R_below (by (with_reducible repeat (first | apply Kd.R_alloc | apply Kd.R_drewN | apply Kd.R_drew)); exact ou.out) hb)
  replace pu := am (Kd.R_below q107t hb)
  replace tt := am (Kd.R_below (by (with_reducible repeat (first | apply Kd.R_alloc | apply Kd.R_drewN | apply Kd.R_drew)); exact tt.out) hb)
  replace tu := am (Kd.R_below (by (with_reducible repeat (first | apply Kd.R_alloc | apply Kd.R_drewN | apply Kd.R_drew)); exact tu.out) hb)
  replace tv := am (Kd.R_below (by (with_reducible repeat (first | apply Kd.R_alloc | apply Kd.R_drewN | apply Kd.R_drew)); exact tv.out) hb)
  replace ay := blb ay hb
  replace aw := blb aw hb
  replace az := blb az hb
  replace aA := blb aA hb
  replace aD := blb aD hb
  replace aE := blb aE hb
  replace aI := blb aI hb
  replace HB := am (below_step q47t hb)
  (try clear hb)
  (try clear hb2)
  (try clear hk)
  (try clear hi)
  refine hK.out _ _ q0t (fun hHeld => ?_)
  clear hK K
  refine norm_ (a' := ?_) ?_ ?_
  rotate_left
  ·show Act.put _ (some 71) _ = _
   simp only [Act.put, List.setIfInBounds_toArray, List.set_cons_zero, List.set_cons_succ, i64_w, i32_w]
   rfl
  refine pv_ 43 72 (bm 45 17592186044415) ?_
  refine pv_ 44 73 (bm 45 35184372088831) ?_
  refine done_ (done_of HT_.out (by kernel_rfl)) ?_
  try go_wp2
  go_meet
  case rel => exact ⟨_, (!qD), q121t, H', ⟨q122t⟩, ⟨(by (with_reducible repeat (first | apply Kd.R_alloc | apply Kd.R_drewN | apply Kd.R_drew)); exact Kd.R_mono cC.out (fun _ hk => ⟨hk.1.1.1.1.1, ⟨hk.1.1.1.1.2.1, ⟨hk.1.1.1.1.2.2.1, ⟨hk.1.1.1.1.2.2.2.1, ⟨hk.1.1.1.1.2.2.2.2.1, ⟨hk.1.1.1.1.2.2.2.2.2.1, hk.1.1.1.1.2.2.2.2.2.2⟩⟩⟩⟩⟩⟩))⟩, ⟨(by (with_reducible repeat (first | apply Kd.R_alloc | apply Kd.R_drewN | apply Kd.R_drew)); exact Kd.R_mono cr.out (fun _ hk => ⟨hk.1.1.1, ⟨hk.1.1.2.1, ⟨hk.1.1.2.2.1, hk.1.1.2.2.2⟩⟩⟩))⟩, ⟨(by (with_reducible repeat (first | apply Kd.R_alloc | apply Kd.R_drewN | apply Kd.R_drew)); exact Kd.R_mono cD.out (fun _ hk => ⟨hk.1.1.1.1.1, ⟨hk.1.1.1.1.2.1, ⟨hk.1.1.1.1.2.2.1, ⟨hk.1.1.1.1.2.2.2.1, ⟨hk.1.1.1.1.2.2.2.2.1, ⟨hk.1.1.1.1.2.2.2.2.2.1, hk.1.1.1.1.2.2.2.2.2.2⟩⟩⟩⟩⟩⟩))⟩, ⟨(by (with_reducible repeat (first | apply Kd.R_alloc | apply Kd.R_drewN | apply Kd.R_drew)); exact Kd.R_mono cY.out (fun _ hk => ⟨hk.1.1.1.1.1, ⟨hk.1.1.1.1.2.1, ⟨hk.1.1.1.1.2.2.1, ⟨hk.1.1.1.1.2.2.2.1, ⟨hk.1.1.1.1.2.2.2.2.1, ⟨hk.1.1.1.1.2.2.2.2.2.1, hk.1.1.1.1.2.2.2.2.2.2⟩⟩⟩⟩⟩⟩))⟩, ⟨(by (with_reducible repeat (first | apply Kd.R_alloc | apply Kd.R_drewN | apply Kd.R_drew)); exact Kd.R_mono cZ.out (fun _ hk => ⟨hk.1.1.1, ⟨hk.1.1.2.1, ⟨hk.1.1.2.2.1, hk.1.1.2.2.2⟩⟩⟩))⟩, ⟨(by (with_reducible repeat (first | apply Kd.R_alloc | apply Kd.R_drewN | apply Kd.R_drew)); exact Kd.R_mono da.out (fun _ hk => ⟨hk.1.1.1.1.1, ⟨hk.1.1.1.1.2.1, ⟨hk.1.1.1.1.2.2.1, ⟨hk.1.1.1.1.2.2.2.1, ⟨hk.1.1.1.1.2.2.2.2.1, ⟨hk.1.1.1.1.2.2.2.2.2.1, hk.1.1.1.1.2.2.2.2.2.2⟩⟩⟩⟩⟩⟩))⟩, ⟨(by (with_reducible repeat (first | apply Kd.R_alloc | apply Kd.R_drewN | apply Kd.R_drew)); exact Kd.R_mono dU.out (fun _ hk => ⟨hk.1.1.1.1.1, ⟨hk.1.1.1.1.2.1, ⟨hk.1.1.1.1.2.2.1, ⟨hk.1.1.1.1.2.2.2.1, ⟨hk.1.1.1.1.2.2.2.2.1, ⟨hk.1.1.1.1.2.2.2.2.2.1, hk.1.1.1.1.2.2.2.2.2.2⟩⟩⟩⟩⟩⟩))⟩, ⟨(by (with_reducible repeat (first | apply Kd.R_alloc | apply Kd.R_drewN | apply Kd.R_drew)); exact Kd.R_mono dV.out (fun _ hk => ⟨hk.1.1.1, ⟨hk.1.1.2.1, ⟨hk.1.1.2.2.1, hk.1.1.2.2.2⟩⟩⟩))⟩, ⟨(by (with_reducible repeat (first | apply Kd.R_alloc | apply Kd.R_drewN | apply Kd.R_drew)); exact Kd.R_mono dW.out (fun _ hk => ⟨hk.1.1.1.1.1, ⟨hk.1.1.1.1.2.1, ⟨hk.1.1.1.1.2.2.1, ⟨hk.1.1.1.1.2.2.2.1, ⟨hk.1.1.1.1.2.2.2.2.1, ⟨hk.1.1.1.1.2.2.2.2.2.1, hk.1.1.1.1.2.2.2.2.2.2⟩⟩⟩⟩⟩⟩))⟩, ⟨(by (with_reducible repeat (first | apply Kd.R_alloc | apply Kd.R_drewN | apply Kd.R_drew)); exact Kd.R_mono dX.out (fun _ hk => ⟨hk.1.1.1.1.1, ⟨hk.1.1.1.1.2.1, ⟨hk.1.1.1.1.2.2.1, ⟨hk.1.1.1.1.2.2.2.1, ⟨hk.1.1.1.1.2.2.2.2.1, ⟨hk.1.1.1.1.2.2.2.2.2.1, hk.1.1.1.1.2.2.2.2.2.2⟩⟩⟩⟩⟩⟩))⟩, ⟨(by (with_reducible repeat (first | apply Kd.R_alloc | apply Kd.R_drewN | apply Kd.R_drew)); exact Kd.R_mono dY.out (fun _ hk => ⟨hk.1.1.1, ⟨hk.1.1.2.1, ⟨hk.1.1.2.2.1, hk.1.1.2.2.2⟩⟩⟩))⟩, ⟨(by (with_reducible repeat (first | apply Kd.R_alloc | apply Kd.R_drewN | apply Kd.R_drew)); exact Kd.R_mono dZ.out (fun _ hk => ⟨hk.1.1.1.1.1, ⟨hk.1.1.1.1.2.1, ⟨hk.1.1.1.1.2.2.1, ⟨hk.1.1.1.1.2.2.2.1, ⟨hk.1.1.1.1.2.2.2.2.1, ⟨hk.1.1.1.1.2.2.2.2.2.1, hk.1.1.1.1.2.2.2.2.2.2⟩⟩⟩⟩⟩⟩))⟩, ⟨qbk ay⟩, ⟨qbk aw⟩, ⟨qbk az⟩, ⟨qbk aA⟩, ⟨qbk aD⟩, ⟨qbk aE⟩, ⟨qbk aI⟩, ⟨q47t⟩⟩
 case rest => as_aux_lemma =>
  clear Ac
  try clear c1
  try clear c2
  try clear p2
  try clear c7
  try clear c16
  try clear c17
  try clear c18
  try clear c19
  try clear c20
  try clear c74
  try clear FC
  try clear FD
  obtain ⟨kq, vF, rfl, HA, tw, bv, bw, bx, bL, bM, bN, bO, bP, bQ, bR, bS, bT, ay, aw, az, aA, aD, aE, aI, HB⟩ := hcut
  cases kq with
  | zero => exact absurd HA.out (by simp [laws_FnNodes.j0])
  | succ kj7 =>
   have H := HA.out
   clear HA
   simp only [laws_FnNodes.j0] at H
   by_cases c99 : vF = true
   ·subst c99
    rw [if_pos rfl] at H
    exact absurd H q126t
   replace c99 := Bool.eq_false_iff.mpr c99
   subst c99
   rw [if_neg (show ¬ (false = true) by decide)] at H
   have AE := Aside0.mk H
   clear H
   go_upto_region 9 with (fail)
   go_cut [118] (fun v118 wc => ∃ (kq : Nat) (vG : Bool), v118 = .bool vG ∧ Aside0 (laws_FnNodes.j1 kq vG dN dO dP dQ dR dS dH eu ev ew ex ey ez eA bJ eB eC cv bK = some r) ∧ Aside0 (kq ≤ kj7) ∧ Aside0 (Kd.R (Kd.int .i64) 3 wc w.heap.size (fun k_ => some k_ ≠ ((.slice bz bK.length bA) : Value).ownBlock ∧ some k_ ≠ ((.slice cO cx.length cP) : Value).ownBlock ∧ some k_ ≠ ((.slice cQ cy.length cR) : Value).ownBlock ∧ some k_ ≠ ((.slice dy cS.length dz) : Value).ownBlock ∧ some k_ ≠ ((.slice dA cT.length dB) : Value).ownBlock ∧ some k_ ≠ ((.slice dn cU.length dp) : Value).ownBlock ∧ some k_ ≠ ((.slice dC cV.length dD) : Value).ownBlock) (.slice cz bJ.length cA) bJ) ∧ Aside0 (Kd.R k33 33 wc w.heap.size (fun k_ => some k_ ≠ ((.slice eo d6.length ep) : Value).ownBlock ∧ some k_ ≠ ((.slice fA eD.length fB) : Value).ownBlock ∧ some k_ ≠ ((.slice fC eE.length fD) : Value).ownBlock ∧ k_ ≠ bE) (.slice dF cv.length dG) cv) ∧ Aside0 (Kd.R (Kd.int .i64) 3 wc w.heap.size (fun k_ => some k_ ≠ ((.slice cz bJ.length cA) : Value).ownBlock ∧ some k_ ≠ ((.slice cO cx.length cP) : Value).ownBlock ∧ some k_ ≠ ((.slice cQ cy.length cR) : Value).ownBlock ∧ some k_ ≠ ((.slice dy cS.length dz) : Value).ownBlock ∧ some k_ ≠ ((.slice dA cT.length dB) : Value).ownBlock ∧ some k_ ≠ ((.slice dn cU.length dp) : Value).ownBlock ∧ some k_ ≠ ((.slice dC cV.length dD) : Value).ownBlock) (.slice bz bK.length bA) bK) ∧ Aside0 (Kd.R (Kd.int .i64) 3 wc w.heap.size (fun k_ => some k_ ≠ ((.slice cz bJ.length cA) : Value).ownBlock ∧ some k_ ≠ ((.slice bz bK.length bA) : Value).ownBlock ∧ some k_ ≠ ((.slice cQ cy.length cR) : Value).ownBlock ∧ some k_ ≠ ((.slice dy cS.length dz) : Value).ownBlock ∧ some k_ ≠ ((.slice dA cT.length dB) : Value).ownBlock ∧ some k_ ≠ ((.slice dn cU.length dp) : Value).ownBlock ∧ some k_ ≠ ((.slice dC cV.length dD) : Value).ownBlock) (.slice cO cx.length cP) cx) ∧ Aside0 (Kd.R k33 33 wc w.heap.size (fun k_ => some k_ ≠ ((.slice dF cv.length dG) : Value).ownBlock ∧ some k_ ≠ ((.slice fA eD.length fB) : Value).ownBlock ∧ some k_ ≠ ((.slice fC eE.length fD) : Value).ownBlock ∧ k_ ≠ bE) (.slice eo d6.length ep) d6) ∧ Aside0 (Kd.R (Kd.int .i64) 3 wc w.heap.size (fun k_ => some k_ ≠ ((.slice cz bJ.length cA) : Value).ownBlock ∧ some k_ ≠ ((.slice bz bK.length bA) : Value).ownBlock ∧ some k_ ≠ ((.slice cO cx.length cP) : Value).ownBlock ∧ some k_ ≠ ((.slice dy cS.length dz) : Value).ownBlock ∧ some k_ ≠ ((.slice dA cT.length dB) : Value).ownBlock ∧ some k_ ≠ ((.slice dn cU.length dp) : Value).ownBlock ∧ some k_ ≠ ((.slice dC cV.length dD) : Value).ownBlock) (.slice cQ cy.length cR) cy) ∧ Aside0 (Kd.R (Kd.int .i64) 3 wc w.heap.size (fun k_ => some k_ ≠ ((.slice cz bJ.length cA) : Value).ownBlock ∧ some k_ ≠ ((.slice bz bK.length bA) : Value).ownBlock ∧ some k_ ≠ ((.slice cO cx.length cP) : Value).ownBlock ∧ some k_ ≠ ((.slice cQ cy.length cR) : Value).ownBlock ∧ some k_ ≠ ((.slice dA cT.length dB) : Value).ownBlock ∧ some k_ ≠ ((.slice dn cU.length dp) : Value).ownBlock ∧ some k_ ≠ ((.slice dC cV.length dD) : Value).ownBlock) (.slice dy cS.length dz) cS) ∧ Aside0 (Kd.R k33 33 wc w.heap.size (fun k_ => some k_ ≠ ((.slice dF cv.length dG) : Value).ownBlock ∧ some k_ ≠ ((.slice eo d6.length ep) : Value).ownBlock ∧ some k_ ≠ ((.slice fC eE.length fD) : Value).ownBlock ∧ k_ ≠ bE) (.slice fA eD.length fB) eD) ∧ Aside0 (Kd.R (Kd.int .i64) 3 wc w.heap.size (fun k_ => some k_ ≠ ((.slice cz bJ.length cA) : Value).ownBlock ∧ some k_ ≠ ((.slice bz bK.length bA) : Value).ownBlock ∧ some k_ ≠ ((.slice cO cx.length cP) : Value).ownBlock ∧ some k_ ≠ ((.slice cQ cy.length cR) : Value).ownBlock ∧ some k_ ≠ ((.slice dy cS.length dz) : Value).ownBlock ∧ some k_ ≠ ((.slice dn cU.length dp) : Value).ownBlock ∧ some k_ ≠ ((.slice dC cV.length dD) : Value).ownBlock) (.slice dA cT.length dB) cT) ∧ Aside0 (Kd.R (Kd.int .i64) 3 wc w.heap.size (fun k_ => some k_ ≠ ((.slice cz bJ.length cA) : Value).ownBlock ∧ some k_ ≠ ((.slice bz bK.length bA) : Value).ownBlock ∧ some k_ ≠ ((.slice cO cx.length cP) : Value).ownBlock ∧ some k_ ≠ ((.slice cQ cy.length cR) : Value).ownBlock ∧ some k_ ≠ ((.slice dy cS.length dz) : Value).ownBlock ∧ some k_ ≠ ((.slice dA cT.length dB) : Value).ownBlock ∧ some k_ ≠ ((.slice dC cV.length dD) : Value).ownBlock) (.slice dn cU.length dp) cU) ∧ Aside0 (Kd.R k33 33 wc w.heap.size (fun k_ => some k_ ≠ ((.slice dF cv.length dG) : Value).ownBlock ∧ some k_ ≠ ((.slice eo d6.length ep) : Value).ownBlock ∧ some k_ ≠ ((.slice fA eD.length fB) : Value).ownBlock ∧ k_ ≠ bE) (.slice fC eE.length fD) eE) ∧ Aside0 (Kd.R (Kd.int .i64) 3 wc w.heap.size (fun k_ => some k_ ≠ ((.slice cz bJ.length cA) : Value).ownBlock ∧ some k_ ≠ ((.slice bz bK.length bA) : Value).ownBlock ∧ some k_ ≠ ((.slice cO cx.length cP) : Value).ownBlock ∧ some k_ ≠ ((.slice cQ cy.length cR) : Value).ownBlock ∧ some k_ ≠ ((.slice dy cS.length dz) : Value).ownBlock ∧ some k_ ≠ ((.slice dA cT.length dB) : Value).ownBlock ∧ some k_ ≠ ((.slice dn cU.length dp) : Value).ownBlock) (.slice dC cV.length dD) cV) ∧ Aside0 (wc.heap[cb]? = some (.cells #[dN, dO, dP, dQ, dR, dS] 25 (0, 0))) ∧ Aside0 (wc.heap[bg]? = some (.cells #[dH, eu, ev, ew, ex, ey, ez, eA, (.slice cz bJ.length cA), eB, eC, (.slice dF cv.length dG), (.slice bz bK.length bA)] 29 (0, 0))) ∧ Aside0 (wc.heap[bD]? = some (.cells #[dg, cw, dh, di, dj, dk] 25 (0, 0))) ∧ Aside0 (wc.heap[bE]? = some (.cells #[cX, cM, cg] 33 (0, 0))) ∧ Aside0 (wc.heap[dI]? = some (.cells #[jd, je, jf, jg, jh, ji, jj, jk, (.slice cO cx.length cP), jl, jm, (.slice eo d6.length ep), (.slice cQ cy.length cR)] 29 (0, 0))) ∧ Aside0 (wc.heap[ch]? = some (.cells #[lq, lr, ls, lu, lv, lw, lx, ly, (.slice dy cS.length dz), lz, lA, (.slice fA eD.length fB), (.slice dA cT.length dB)] 29 (0, 0))) ∧ Aside0 (wc.heap[ci]? = some (.cells #[lB, lC, lD, lE, lF, lG, lH, lI, (.slice dn cU.length dp), lJ, lK, (.slice fC eE.length fD), (.slice dC cV.length dD)] 29 (0, 0))) ∧ Aside0 (Below w.heap.size w wc))
   case first => as_aux_lemma =>
    have H := AE.out
    clear AE
    obtain ⟨z7, tx, H⟩ := bnd H
    try dsimp only at H
    by_cases c102 : z7 = true
    rotate_left
    ·replace c102 := Bool.eq_false_iff.mpr c102
     subst c102
     rw [if_neg (show ¬ (false = true) by decide)] at H
     have H' := Aside0.mk H
     clear H
     try go_wp2
     replace bv := am (Kd.R_drew bv.out)
     replace bw := am (Kd.R_drew bw.out)
     replace bx := am (Kd.R_drew bx.out)
     replace bL := am (Kd.R_drew bL.out)
     replace bM := am (Kd.R_drew bM.out)
     replace bN := am (Kd.R_drew bN.out)
     replace bO := am (Kd.R_drew bO.out)
     replace bP := am (Kd.R_drew bP.out)
     replace bQ := am (Kd.R_drew bQ.out)
     replace bR := am (Kd.R_drew bR.out)
     replace bS := am (Kd.R_drew bS.out)
     replace bT := am (Kd.R_drew bT.out)
     replace ay := am (blk_drew ay.out)
     replace aw := am (blk_drew aw.out)
     replace az := am (blk_drew az.out)
     replace aA := am (blk_drew aA.out)
     replace aD := am (blk_drew aD.out)
     replace aE := am (blk_drew aE.out)
     replace aI := am (blk_drew aI.out)
     replace HB := am (below_drew1 HB.out)
     refine start_ (n := 45) (S := fun w' => w'.cell? ⟨bD, 0, none⟩ = some (.int .i64 dg) ∧ w'.cell? ⟨bD, 1, none⟩ = some (.int .i64 cw) ∧ w'.cell? ⟨bD, 2, none⟩ = some (.int .i64 dh) ∧ w'.cell? ⟨bD, 3, none⟩ = some (.int .i64 di) ∧ w'.cell? ⟨bD, 4, none⟩ = some (.int .i64 dj) ∧ w'.cell? ⟨bD, 5, none⟩ = some (.int .i64 dk) ∧ w'.cell? ⟨bE, 0, none⟩ = some (.int .i64 cX) ∧ w'.cell? ⟨bE, 1, none⟩ = some (.int .i64 cM) ∧ w'.cell? ⟨bE, 2, none⟩ = some (.int .i64 cg)) (ds := []) (bm 45 0) (by kernel_rfl) rfl (by kernel_rfl) qst (fun hHeld => ?_); refine with_tabW laws_FnNodes.tab9 laws_FnNodes.bits9 (fun HT_ HW_ => ?_)
     generalize wc.drew = w122 at bv bw bx bL bM bN bO bP bQ bR bS bT ay aw az aA aD aE aI HB hHeld ⊢
     refine tv_ 0 74 (bm 45 1) ?_
     refine tv_ 1 75 (bm 45 3) ?_
     refine one_ (i := 2) (N := some 76) (bm 45 7) rfl rfl (one_of HT_.out (by kernel_rfl)) q125t (fun K hK => ?_)
     refine goes_ Tryd.func11 (by kernel_rfl) rfl #[.agg #[dg, cw, dh, di, dj, dk], .agg #[cX, cM, cg]] q127t rfl rfl q66t ?_
     with_reducible refine (impl_ThingOk.calls kj7 dg cw dh di dj dk cX cM cg false _ tx.out).mono ?_
     rintro e w123 ⟨rfl, hb⟩
     refine ⟨_, rfl, ?_⟩
     replace bv := am (Kd.R_below q72t hb)
     replace bw := am (Kd.R_below q73t hb)
     replace bx := am (Kd.R_below q74t hb)
     replace bL := am (Kd.R_below q75t hb)
     replace bM := am (Kd.R_below q76t hb)
     replace bN := am (Kd.R_below q77t hb)
     replace bO := am (Kd.R_below q78t hb)
     replace bP := am (Kd.R_below q79t hb)
     replace bQ := am (Kd.R_below q80t hb)
     replace bR := am (Kd.R_below q81t hb)
     replace bS := am (Kd.R_below q82t hb)
     replace bT := am (Kd.R_below q83t hb)
     replace ay := blb ay hb
     replace aw := blb aw hb
     replace az := blb az hb
     replace aA := blb aA hb
     replace aD := blb aD hb
     replace aE := blb aE hb
     replace aI := blb aI hb
     replace HB := am (below_step q47t hb)
     (try clear hb)
     (try clear hb2)
     (try clear hk)
     (try clear hi)
     refine hK.out _ _ q11t (fun hHeld => ?_)
     clear hK K
     refine norm_ (a' := ?_) ?_ ?_
     rotate_left
     ·show Act.put _ (some 76) _ = _
      simp only [Act.put, List.setIfInBounds_toArray, List.set_cons_zero, List.set_cons_succ, i64_w, i32_w]
      rfl
     refine pv_ 3 77 (bm 45 15) ?_
     refine pm_ 4 78 (bm 45 31) ?_
     refine pm_ 5 79 (bm 45 63) ?_
     refine pm_ 6 80 (bm 45 127) ?_
     refine pm_ 7 81 (bm 45 255) ?_
     refine pm_ 8 82 (bm 45 511) ?_
     refine pm_ 9 83 (bm 45 1023) ?_
     refine pm_ 10 84 (bm 45 2047) ?_
     refine pm_ 11 85 (bm 45 4095) ?_
     refine pm_ 12 86 (bm 45 8191) ?_
     refine pm_ 13 87 (bm 45 16383) ?_
     refine pm_ 14 88 (bm 45 32767) ?_
     refine pm_ 15 89 (bm 45 65535) ?_
     refine pm_ 16 90 (bm 45 131071) ?_
     refine pm_ 17 91 (bm 45 262143) ?_
     refine pm_ 18 92 (bm 45 524287) ?_
     refine pm_ 19 93 (bm 45 1048575) ?_
     refine pm_ 20 94 (bm 45 2097151) ?_
     refine pm_ 21 95 (bm 45 4194303) ?_
     refine pm_ 22 96 (bm 45 8388607) ?_
     refine pm_ 23 97 (bm 45 16777215) ?_
     refine pm_ 24 98 (bm 45 33554431) ?_
     refine pm_ 25 99 (bm 45 67108863) ?_
     refine pm_ 26 100 (bm 45 134217727) ?_
     refine pm_ 27 101 (bm 45 268435455) ?_
     refine pm_ 28 102 (bm 45 536870911) ?_
     refine pm_ 29 103 (bm 45 1073741823) ?_
     refine pm_ 30 104 (bm 45 2147483647) ?_
     refine pm_ 31 105 (bm 45 4294967295) ?_
     refine pm_ 32 106 (bm 45 8589934591) ?_
     refine pm_ 33 107 (bm 45 17179869183) ?_
     refine pm_ 34 108 (bm 45 34359738367) ?_
     refine pm_ 35 109 (bm 45 68719476735) ?_
     refine pm_ 36 110 (bm 45 137438953471) ?_
     refine pm_ 37 111 (bm 45 274877906943) ?_
     refine pm_ 38 112 (bm 45 549755813887) ?_
     refine pm_ 39 113 (bm 45 1099511627775) ?_
     refine pm_ 40 114 (bm 45 2199023255551) ?_
     refine pm_ 41 115 (bm 45 4398046511103) ?_
     refine pm_ 42 116 (bm 45 8796093022207) ?_
     refine pm_ 43 117 (bm 45 17592186044415) ?_
     refine pv_ 44 118 (bm 45 35184372088831) ?_
     refine done_ (done_of HT_.out (by kernel_rfl)) ?_
     try go_wp2
     go_meet
     case rel => exact ⟨_, (false), q121t, H', ⟨(by have := tw.out; first | omega | exact Nat.le_refl _)⟩, ⟨q72t⟩, ⟨q73t⟩, ⟨q74t⟩, ⟨q75t⟩, ⟨q76t⟩, ⟨q77t⟩, ⟨q78t⟩, ⟨q79t⟩, ⟨q80t⟩, ⟨q81t⟩, ⟨q82t⟩, ⟨q83t⟩, ⟨qbk ay⟩, ⟨qbk aw⟩, ⟨qbk az⟩, ⟨qbk aA⟩, ⟨qbk aD⟩, ⟨qbk aE⟩, ⟨qbk aI⟩, ⟨q47t⟩⟩
    subst c102
    rw [if_pos rfl] at H
    by_cases c103 : cX < 0
    ·rw [if_pos c103] at H
     have tz : decide (cX < 0) = true := decide_eq_true c103
     clear c103
     (first | rw [tz] | (simp only [i64_w, i32_w]; rw [tz]) | skip)
     exact absurd H q126t
    rw [if_neg c103] at H
    have tz : decide (cX < 0) = false := decide_eq_false c103
    clear c103
    (first | rw [tz] | (simp only [i64_w, i32_w]; rw [tz]) | skip)
    obtain ⟨mM, qr, H⟩ := bnd H
    try dsimp only at H
    by_cases c105 : (wrap64 (cX + cM)) > mM
    ·rw [if_pos c105] at H
     have NP : decide (mM < (wrap64 (cX + cM))) = true := decide_eq_true c105
     clear c105
     exact absurd H q126t
    rw [if_neg c105] at H
    have NP : decide (mM < (wrap64 (cX + cM))) = false := decide_eq_false c105
    clear c105
    by_cases c106 : cg = 0
    ·rw [if_pos c106] at H
     have NQ : (cg == 0) = true := beq_iff_eq.mpr c106
     have NR : (cg != 0) = false := bne_eq_false_iff_eq.mpr c106
     clear c106
     by_cases c107 : cM > cw
     ·rw [if_pos c107] at H
      have NS : decide (cw < cM) = true := decide_eq_true c107
      clear c107
      exact absurd H q126t
     rw [if_neg c107] at H
     have NS : decide (cw < cM) = false := decide_eq_false c107
     clear c107
     by_cases c108 : cg > 0
     ·rw [if_pos c108] at H
      have NT : decide (0 < cg) = true := decide_eq_true c108
      clear c108
      have H' := Aside0.mk H
      clear H
      try go_wp2
      replace bv := am (Kd.R_drew bv.out)
      replace bw := am (Kd.R_drew bw.out)
      replace bx := am (Kd.R_drew bx.out)
      replace bL := am (Kd.R_drew bL.out)
      replace bM := am (Kd.R_drew bM.out)
      replace bN := am (Kd.R_drew bN.out)
      replace bO := am (Kd.R_drew bO.out)
      replace bP := am (Kd.R_drew bP.out)
      replace bQ := am (Kd.R_drew bQ.out)
      replace bR := am (Kd.R_drew bR.out)
      replace bS := am (Kd.R_drew bS.out)
      replace bT := am (Kd.R_drew bT.out)
      replace ay := am (blk_drew ay.out)
      replace aw := am (blk_drew aw.out)
      replace az := am (blk_drew az.out)
      replace aA := am (blk_drew aA.out)
      replace aD := am (blk_drew aD.out)
      replace aE := am (blk_drew aE.out)
      replace aI := am (blk_drew aI.out)
      replace HB := am (below_drew1 HB.out)
      refine start_ (n := 45) (S := fun w' => w'.cell? ⟨bD, 0, none⟩ = some (.int .i64 dg) ∧ w'.cell? ⟨bD, 1, none⟩ = some (.int .i64 cw) ∧ w'.cell? ⟨bD, 2, none⟩ = some (.int .i64 dh) ∧ w'.cell? ⟨bD, 3, none⟩ = some (.int .i64 di) ∧ w'.cell? ⟨bD, 4, none⟩ = some (.int .i64 dj) ∧ w'.cell? ⟨bD, 5, none⟩ = some (.int .i64 dk) ∧ w'.cell? ⟨bE, 0, none⟩ = some (.int .i64 cX) ∧ w'.cell? ⟨bE, 1, none⟩ = some (.int .i64 cM) ∧ w'.cell? ⟨bE, 2, none⟩ = some (.int .i64 cg)) (ds := []) (bm 45 0) (by kernel_rfl) rfl (by kernel_rfl) qst (fun hHeld => ?_); refine with_tabW laws_FnNodes.tab9 laws_FnNodes.bits9 (fun HT_ HW_ => ?_)
      generalize wc.drew = w109 at bv bw bx bL bM bN bO bP bQ bR bS bT ay aw az aA aD aE aI HB hHeld ⊢
      refine tv_ 0 74 (bm 45 1) ?_
      refine tv_ 1 75 (bm 45 3) ?_
      refine one_ (i := 2) (N := some 76) (bm 45 7) rfl rfl (one_of HT_.out (by kernel_rfl)) q125t (fun K hK => ?_)
      refine goes_ Tryd.func11 (by kernel_rfl) rfl #[.agg #[dg, cw, dh, di, dj, dk], .agg #[cX, cM, cg]] q127t rfl rfl q66t ?_
      with_reducible refine (impl_ThingOk.calls kj7 dg cw dh di dj dk cX cM cg true _ tx.out).mono ?_
      rintro e w110 ⟨rfl, hb⟩
      refine ⟨_, rfl, ?_⟩
      replace bv := am (Kd.R_below q72t hb)
      replace bw := am (Kd.R_below q73t hb)
      replace bx := am (Kd.R_below q74t hb)
      replace bL := am (Kd.R_below q75t hb)
      replace bM := am (Kd.R_below q76t hb)
      replace bN := am (Kd.R_below q77t hb)
      replace bO := am (Kd.R_below q78t hb)
      replace bP := am (Kd.R_below q79t hb)
      replace bQ := am (Kd.R_below q80t hb)
      replace bR := am (Kd.R_below q81t hb)
      replace bS := am (Kd.R_below q82t hb)
      replace bT := am (Kd.R_below q83t hb)
      replace ay := blb ay hb
      replace aw := blb aw hb
      replace az := blb az hb
      replace aA := blb aA hb
      replace aD := blb aD hb
      replace aE := blb aE hb
      replace aI := blb aI hb
      replace HB := am (below_step q47t hb)
      (try clear hb)
      (try clear hb2)
      (try clear hk)
      (try clear hi)
      refine hK.out _ _ q11t (fun hHeld => ?_)
      clear hK K
      refine norm_ (a' := ?_) ?_ ?_
      rotate_left
      ·show Act.put _ (some 76) _ = _
       simp only [Act.put, List.setIfInBounds_toArray, List.set_cons_zero, List.set_cons_succ, i64_w, i32_w]
       rfl
      refine pv_ 3 77 (bm 45 15) ?_
      refine pv_ 4 78 (bm 45 31) ?_
      refine tv_ 5 79 (bm 45 63) ?_
      refine pv_ 6 80 (bm 45 127) ?_
      refine pv_ 7 81 (bm 45 255) ?_
      refine pv_ 8 82 (bm 45 511) ?_
      refine pv_ 10 84 (bm 45 1535) ?_
      refine tv_ 9 83 (bm 45 2047) ?_
      refine tv_ 11 85 (bm 45 4095) ?_
      refine pv_ 12 86 (bm 45 8191) ?_
      refine tv_ 13 87 (bm 45 16383) ?_
      refine one_ (i := 14) (N := some 88) (bm 45 32767) rfl rfl (one_of HT_.out (by kernel_rfl)) q125t (fun K hK => ?_)
      refine goes_ Tryd.func21 (by kernel_rfl) rfl #[.agg #[dg, cw, dh, di, dj, dk]] q127t rfl rfl q66t ?_
      with_reducible refine (impl_BytesOf.calls dg cw dh di dj dk mM _ qr.out).mono ?_
      rintro e w111 ⟨rfl, hb⟩
      refine ⟨_, rfl, ?_⟩
      replace bv := am (Kd.R_below q72t hb)
      replace bw := am (Kd.R_below q73t hb)
      replace bx := am (Kd.R_below q74t hb)
      replace bL := am (Kd.R_below q75t hb)
      replace bM := am (Kd.R_below q76t hb)
      replace bN := am (Kd.R_below q77t hb)
      replace bO := am (Kd.R_below q78t hb)
      replace bP := am (Kd.R_below q79t hb)
      replace bQ := am (Kd.R_below q80t hb)
      replace bR := am (Kd.R_below q81t hb)
      replace bS := am (Kd.R_below q82t hb)
      replace bT := am (Kd.R_below q83t hb)
      replace ay := blb ay hb
      replace aw := blb aw hb
      replace az := blb az hb
      replace aA := blb aA hb
      replace aD := blb aD hb
      replace aE := blb aE hb
      replace aI := blb aI hb
      replace HB := am (below_step q47t hb)
      (try clear hb)
      (try clear hb2)
      (try clear hk)
      (try clear hi)
      refine hK.out _ _ q11t (fun hHeld => ?_)
      clear hK K
      refine norm_ (a' := ?_) ?_ ?_
      rotate_left
      ·show Act.put _ (some 88) _ = _
       simp only [Act.put, List.setIfInBounds_toArray, List.set_cons_zero, List.set_cons_succ, i64_w, i32_w]
       rfl
      refine pv_ 15 89 (bm 45 65535) ?_
      refine pv_ 16 90 (bm 45 131071) ?_
      refine pv_ 17 91 (bm 45 262143) ?_
      refine pv_ 18 92 (bm 45 524287) ?_
      refine tv_ 19 93 (bm 45 1048575) ?_
      refine pv_ 20 94 (bm 45 2097151) ?_
      refine pv_ 21 95 (bm 45 4194303) ?_
      refine pv_ 22 96 (bm 45 8388607) ?_
      refine pv_ 24 98 (bm 45 25165823) ?_
      refine tv_ 23 97 (bm 45 33554431) ?_
      refine tv_ 25 99 (bm 45 67108863) ?_
      refine pv_ 26 100 (bm 45 134217727) ?_
      refine pv_ 27 101 (bm 45 268435455) ?_
      refine pv_ 28 102 (bm 45 536870911) ?_
      refine pv_ 29 103 (bm 45 1073741823) ?_
      refine pv_ 30 104 (bm 45 2147483647) ?_
      refine tv_ 31 105 (bm 45 4294967295) ?_
      refine pv_ 32 106 (bm 45 8589934591) ?_
      refine pv_ 33 107 (bm 45 17179869183) ?_
      refine pv_ 34 108 (bm 45 34359738367) ?_
      refine pv_ 36 110 (bm 45 103079215103) ?_
      refine pv_ 39 113 (bm 45 652835028991) ?_
      refine tv_ 35 109 (bm 45 687194767359) ?_
      refine tv_ 37 111 (bm 45 824633720831) ?_
      refine pv_ 38 112 (bm 45 1099511627775) ?_
      refine tv_ 40 114 (bm 45 2199023255551) ?_
      refine pv_ 41 115 (bm 45 4398046511103) ?_
      refine pv_ 42 116 (bm 45 8796093022207) ?_
      refine pv_ 43 117 (bm 45 17592186044415) ?_
      refine pv_ 44 118 (bm 45 35184372088831) ?_
      refine done_ (done_of HT_.out (by kernel_rfl)) ?_
      try go_wp2
      go_meet
      case rel => exact ⟨_, (decide ((wrap64 (cg * cw)) < cM)), q121t, H', ⟨(by have := tw.out; first | omega | exact Nat.le_refl _)⟩, ⟨q72t⟩, ⟨q73t⟩, ⟨q74t⟩, ⟨q75t⟩, ⟨q76t⟩, ⟨q77t⟩, ⟨q78t⟩, ⟨q79t⟩, ⟨q80t⟩, ⟨q81t⟩, ⟨q82t⟩, ⟨q83t⟩, ⟨qbk ay⟩, ⟨qbk aw⟩, ⟨qbk az⟩, ⟨qbk aA⟩, ⟨qbk aD⟩, ⟨qbk aE⟩, ⟨qbk aI⟩, ⟨q47t⟩⟩
     rw [if_neg c108] at H
     have NT : decide (0 < cg) = false := decide_eq_false c108
     clear c108
     have H' := Aside0.mk H
     clear H
     try go_wp2
     replace bv := am (Kd.R_drew bv.out)
     replace bw := am (Kd.R_drew bw.out)
     replace bx := am (Kd.R_drew bx.out)
     replace bL := am (Kd.R_drew bL.out)
     replace bM := am (Kd.R_drew bM.out)
     replace bN := am (Kd.R_drew bN.out)
     replace bO := am (Kd.R_drew bO.out)
     replace bP := am (Kd.R_drew bP.out)
     replace bQ := am (Kd.R_drew bQ.out)
     replace bR := am (Kd.R_drew bR.out)
     replace bS := am (Kd.R_drew bS.out)
     replace bT := am (Kd.R_drew bT.out)
     replace ay := am (blk_drew ay.out)
     replace aw := am (blk_drew aw.out)
     replace az := am (blk_drew az.out)
     replace aA := am (blk_drew aA.out)
     replace aD := am (blk_drew aD.out)
     replace aE := am (blk_drew aE.out)
     replace aI := am (blk_drew aI.out)
     replace HB := am (below_drew1 HB.out)
     refine start_ (n := 45) (S := fun w' => w'.cell? ⟨bD, 0, none⟩ = some (.int .i64 dg) ∧ w'.cell? ⟨bD, 1, none⟩ = some (.int .i64 cw) ∧ w'.cell? ⟨bD, 2, none⟩ = some (.int .i64 dh) ∧ w'.cell? ⟨bD, 3, none⟩ = some (.int .i64 di) ∧ w'.cell? ⟨bD, 4, none⟩ = some (.int .i64 dj) ∧ w'.cell? ⟨bD, 5, none⟩ = some (.int .i64 dk) ∧ w'.cell? ⟨bE, 0, none⟩ = some (.int .i64 cX) ∧ w'.cell? ⟨bE, 1, none⟩ = some (.int .i64 cM) ∧ w'.cell? ⟨bE, 2, none⟩ = some (.int .i64 cg)) (ds := []) (bm 45 0) (by kernel_rfl) rfl (by kernel_rfl) qst (fun hHeld => ?_); refine with_tabW laws_FnNodes.tab9 laws_FnNodes.bits9 (fun HT_ HW_ => ?_)
     generalize wc.drew = w112 at bv bw bx bL bM bN bO bP bQ bR bS bT ay aw az aA aD aE aI HB hHeld ⊢
     refine tv_ 0 74 (bm 45 1) ?_
     refine tv_ 1 75 (bm 45 3) ?_
     refine one_ (i := 2) (N := some 76) (bm 45 7) rfl rfl (one_of HT_.out (by kernel_rfl)) q125t (fun K hK => ?_)
     refine goes_ Tryd.func11 (by kernel_rfl) rfl #[.agg #[dg, cw, dh, di, dj, dk], .agg #[cX, cM, cg]] q127t rfl rfl q66t ?_
     with_reducible refine (impl_ThingOk.calls kj7 dg cw dh di dj dk cX cM cg true _ tx.out).mono ?_
     rintro e w113 ⟨rfl, hb⟩
     refine ⟨_, rfl, ?_⟩
     replace bv := am (Kd.R_below q72t hb)
     replace bw := am (Kd.R_below q73t hb)
     replace bx := am (Kd.R_below q74t hb)
     replace bL := am (Kd.R_below q75t hb)
     replace bM := am (Kd.R_below q76t hb)
     replace bN := am (Kd.R_below q77t hb)
     replace bO := am (Kd.R_below q78t hb)
     replace bP := am (Kd.R_below q79t hb)
     replace bQ := am (Kd.R_below q80t hb)
     replace bR := am (Kd.R_below q81t hb)
     replace bS := am (Kd.R_below q82t hb)
     replace bT := am (Kd.R_below q83t hb)
     replace ay := blb ay hb
     replace aw := blb aw hb
     replace az := blb az hb
     replace aA := blb aA hb
     replace aD := blb aD hb
     replace aE := blb aE hb
     replace aI := blb aI hb
     replace HB := am (below_step q47t hb)
     (try clear hb)
     (try clear hb2)
     (try clear hk)
     (try clear hi)
     refine hK.out _ _ q11t (fun hHeld => ?_)
     clear hK K
     refine norm_ (a' := ?_) ?_ ?_
     rotate_left
     ·show Act.put _ (some 76) _ = _
      simp only [Act.put, List.setIfInBounds_toArray, List.set_cons_zero, List.set_cons_succ, i64_w, i32_w]
      rfl
     refine pv_ 3 77 (bm 45 15) ?_
     refine pv_ 4 78 (bm 45 31) ?_
     refine tv_ 5 79 (bm 45 63) ?_
     refine pv_ 6 80 (bm 45 127) ?_
     refine pv_ 7 81 (bm 45 255) ?_
     refine pv_ 8 82 (bm 45 511) ?_
     refine pv_ 10 84 (bm 45 1535) ?_
     refine tv_ 9 83 (bm 45 2047) ?_
     refine tv_ 11 85 (bm 45 4095) ?_
     refine pv_ 12 86 (bm 45 8191) ?_
     refine tv_ 13 87 (bm 45 16383) ?_
     refine one_ (i := 14) (N := some 88) (bm 45 32767) rfl rfl (one_of HT_.out (by kernel_rfl)) q125t (fun K hK => ?_)
     refine goes_ Tryd.func21 (by kernel_rfl) rfl #[.agg #[dg, cw, dh, di, dj, dk]] q127t rfl rfl q66t ?_
     with_reducible refine (impl_BytesOf.calls dg cw dh di dj dk mM _ qr.out).mono ?_
     rintro e w114 ⟨rfl, hb⟩
     refine ⟨_, rfl, ?_⟩
     replace bv := am (Kd.R_below q72t hb)
     replace bw := am (Kd.R_below q73t hb)
     replace bx := am (Kd.R_below q74t hb)
     replace bL := am (Kd.R_below q75t hb)
     replace bM := am (Kd.R_below q76t hb)
     replace bN := am (Kd.R_below q77t hb)
     replace bO := am (Kd.R_below q78t hb)
     replace bP := am (Kd.R_below q79t hb)
     replace bQ := am (Kd.R_below q80t hb)
     replace bR := am (Kd.R_below q81t hb)
     replace bS := am (Kd.R_below q82t hb)
     replace bT := am (Kd.R_below q83t hb)
     replace ay := blb ay hb
     replace aw := blb aw hb
     replace az := blb az hb
     replace aA := blb aA hb
     replace aD := blb aD hb
     replace aE := blb aE hb
     replace aI := blb aI hb
     replace HB := am (below_step q47t hb)
     (try clear hb)
     (try clear hb2)
     (try clear hk)
     (try clear hi)
     refine hK.out _ _ q11t (fun hHeld => ?_)
     clear hK K
     refine norm_ (a' := ?_) ?_ ?_
     rotate_left
     ·show Act.put _ (some 88) _ = _
      simp only [Act.put, List.setIfInBounds_toArray, List.set_cons_zero, List.set_cons_succ, i64_w, i32_w]
      rfl
     refine pv_ 15 89 (bm 45 65535) ?_
     refine pv_ 16 90 (bm 45 131071) ?_
     refine pv_ 17 91 (bm 45 262143) ?_
     refine pv_ 18 92 (bm 45 524287) ?_
     refine tv_ 19 93 (bm 45 1048575) ?_
     refine pv_ 20 94 (bm 45 2097151) ?_
     refine pv_ 21 95 (bm 45 4194303) ?_
     refine pv_ 22 96 (bm 45 8388607) ?_
     refine pv_ 24 98 (bm 45 25165823) ?_
     refine tv_ 23 97 (bm 45 33554431) ?_
     refine tv_ 25 99 (bm 45 67108863) ?_
     refine pv_ 26 100 (bm 45 134217727) ?_
     refine pv_ 27 101 (bm 45 268435455) ?_
     refine pv_ 28 102 (bm 45 536870911) ?_
     refine pv_ 29 103 (bm 45 1073741823) ?_
     refine pv_ 30 104 (bm 45 2147483647) ?_
     refine tv_ 31 105 (bm 45 4294967295) ?_
     refine pv_ 32 106 (bm 45 8589934591) ?_
     refine pv_ 33 107 (bm 45 17179869183) ?_
     refine pm_ 34 108 (bm 45 34359738367) ?_
     refine pm_ 35 109 (bm 45 68719476735) ?_
     refine pm_ 36 110 (bm 45 137438953471) ?_
     refine pm_ 37 111 (bm 45 274877906943) ?_
     refine pm_ 38 112 (bm 45 549755813887) ?_
     refine pm_ 39 113 (bm 45 1099511627775) ?_
     refine pm_ 40 114 (bm 45 2199023255551) ?_
     refine pm_ 41 115 (bm 45 4398046511103) ?_
     refine pv_ 42 116 (bm 45 8796093022207) ?_
     refine pv_ 43 117 (bm 45 17592186044415) ?_
     refine pv_ 44 118 (bm 45 35184372088831) ?_
     refine done_ (done_of HT_.out (by kernel_rfl)) ?_
     try go_wp2
     go_meet
     case rel => exact ⟨_, (false), q121t, H', ⟨(by have := tw.out; first | omega | exact Nat.le_refl _)⟩, ⟨q72t⟩, ⟨q73t⟩, ⟨q74t⟩, ⟨q75t⟩, ⟨q76t⟩, ⟨q77t⟩, ⟨q78t⟩, ⟨q79t⟩, ⟨q80t⟩, ⟨q81t⟩, ⟨q82t⟩, ⟨q83t⟩, ⟨qbk ay⟩, ⟨qbk aw⟩, ⟨qbk az⟩, ⟨qbk aA⟩, ⟨qbk aD⟩, ⟨qbk aE⟩, ⟨qbk aI⟩, ⟨q47t⟩⟩
    rw [if_neg c106] at H
    have NQ : (cg == 0) = false := beq_eq_false_iff_ne.mpr c106
    have NR : (cg != 0) = true := bne_iff_ne.mpr c106
    by_cases c115 : cg > 0
    ·rw [if_pos c115] at H
     have NU : decide (0 < cg) = true := decide_eq_true c115
     clear c115
     have H' := Aside0.mk H
     clear H
     try go_wp2
     replace bv := am (Kd.R_drew bv.out)
     replace bw := am (Kd.R_drew bw.out)
     replace bx := am (Kd.R_drew bx.out)
     replace bL := am (Kd.R_drew bL.out)
     replace bM := am (Kd.R_drew bM.out)
     replace bN := am (Kd.R_drew bN.out)
     replace bO := am (Kd.R_drew bO.out)
     replace bP := am (Kd.R_drew bP.out)
     replace bQ := am (Kd.R_drew bQ.out)
     replace bR := am (Kd.R_drew bR.out)
     replace bS := am (Kd.R_drew bS.out)
     replace bT := am (Kd.R_drew bT.out)
     replace ay := am (blk_drew ay.out)
     replace aw := am (blk_drew aw.out)
     replace az := am (blk_drew az.out)
     replace aA := am (blk_drew aA.out)
     replace aD := am (blk_drew aD.out)
     replace aE := am (blk_drew aE.out)
     replace aI := am (blk_drew aI.out)
     replace HB := am (below_drew1 HB.out)
     refine start_ (n := 45) (S := fun w' => w'.cell? ⟨bD, 0, none⟩ = some (.int .i64 dg) ∧ w'.cell? ⟨bD, 1, none⟩ = some (.int .i64 cw) ∧ w'.cell? ⟨bD, 2, none⟩ = some (.int .i64 dh) ∧ w'.cell? ⟨bD, 3, none⟩ = some (.int .i64 di) ∧ w'.cell? ⟨bD, 4, none⟩ = some (.int .i64 dj) ∧ w'.cell? ⟨bD, 5, none⟩ = some (.int .i64 dk) ∧ w'.cell? ⟨bE, 0, none⟩ = some (.int .i64 cX) ∧ w'.cell? ⟨bE, 1, none⟩ = some (.int .i64 cM) ∧ w'.cell? ⟨bE, 2, none⟩ = some (.int .i64 cg)) (ds := []) (bm 45 0) (by kernel_rfl) rfl (by kernel_rfl) qst (fun hHeld => ?_); refine with_tabW laws_FnNodes.tab9 laws_FnNodes.bits9 (fun HT_ HW_ => ?_)
     generalize wc.drew = w116 at bv bw bx bL bM bN bO bP bQ bR bS bT ay aw az aA aD aE aI HB hHeld ⊢
     refine tv_ 0 74 (bm 45 1) ?_
     refine tv_ 1 75 (bm 45 3) ?_
     refine one_ (i := 2) (N := some 76) (bm 45 7) rfl rfl (one_of HT_.out (by kernel_rfl)) q125t (fun K hK => ?_)
     refine goes_ Tryd.func11 (by kernel_rfl) rfl #[.agg #[dg, cw, dh, di, dj, dk], .agg #[cX, cM, cg]] q127t rfl rfl q66t ?_
     with_reducible refine (impl_ThingOk.calls kj7 dg cw dh di dj dk cX cM cg true _ tx.out).mono ?_
     rintro e w117 ⟨rfl, hb⟩
     refine ⟨_, rfl, ?_⟩
     replace bv := am (Kd.R_below q72t hb)
     replace bw := am (Kd.R_below q73t hb)
     replace bx := am (Kd.R_below q74t hb)
     replace bL := am (Kd.R_below q75t hb)
     replace bM := am (Kd.R_below q76t hb)
     replace bN := am (Kd.R_below q77t hb)
     replace bO := am (Kd.R_below q78t hb)
     replace bP := am (Kd.R_below q79t hb)
     replace bQ := am (Kd.R_below q80t hb)
     replace bR := am (Kd.R_below q81t hb)
     replace bS := am (Kd.R_below q82t hb)
     replace bT := am (Kd.R_below q83t hb)
     replace ay := blb ay hb
     replace aw := blb aw hb
     replace az := blb az hb
     replace aA := blb aA hb
     replace aD := blb aD hb
     replace aE := blb aE hb
     replace aI := blb aI hb
     replace HB := am (below_step q47t hb)
     (try clear hb)
     (try clear hb2)
     (try clear hk)
     (try clear hi)
     refine hK.out _ _ q11t (fun hHeld => ?_)
     clear hK K
     refine norm_ (a' := ?_) ?_ ?_
     rotate_left
     ·show Act.put _ (some 76) _ = _
      simp only [Act.put, List.setIfInBounds_toArray, List.set_cons_zero, List.set_cons_succ, i64_w, i32_w]
      rfl
     refine pv_ 3 77 (bm 45 15) ?_
     refine pv_ 4 78 (bm 45 31) ?_
     refine tv_ 5 79 (bm 45 63) ?_
     refine pv_ 6 80 (bm 45 127) ?_
     refine pv_ 7 81 (bm 45 255) ?_
     refine pv_ 8 82 (bm 45 511) ?_
     refine pv_ 10 84 (bm 45 1535) ?_
     refine tv_ 9 83 (bm 45 2047) ?_
     refine tv_ 11 85 (bm 45 4095) ?_
     refine pv_ 12 86 (bm 45 8191) ?_
     refine tv_ 13 87 (bm 45 16383) ?_
     refine one_ (i := 14) (N := some 88) (bm 45 32767) rfl rfl (one_of HT_.out (by kernel_rfl)) q125t (fun K hK => ?_)
     refine goes_ Tryd.func21 (by kernel_rfl) rfl #[.agg #[dg, cw, dh, di, dj, dk]] q127t rfl rfl q66t ?_
     with_reducible refine (impl_BytesOf.calls dg cw dh di dj dk mM _ qr.out).mono ?_
     rintro e w118 ⟨rfl, hb⟩
     refine ⟨_, rfl, ?_⟩
     replace bv := am (Kd.R_below q72t hb)
     replace bw := am (Kd.R_below q73t hb)
     replace bx := am (Kd.R_below q74t hb)
     replace bL := am (Kd.R_below q75t hb)
     replace bM := am (Kd.R_below q76t hb)
     replace bN := am (Kd.R_below q77t hb)
     replace bO := am (Kd.R_below q78t hb)
     replace bP := am (Kd.R_below q79t hb)
     replace bQ := am (Kd.R_below q80t hb)
     replace bR := am (Kd.R_below q81t hb)
     replace bS := am (Kd.R_below q82t hb)
     replace bT := am (Kd.R_below q83t hb)
     replace ay := blb ay hb
     replace aw := blb aw hb
     replace az := blb az hb
     replace aA := blb aA hb
     replace aD := blb aD hb
     replace aE := blb aE hb
     replace aI := blb aI hb
     replace HB := am (below_step q47t hb)
     (try clear hb)
     (try clear hb2)
     (try clear hk)
     (try clear hi)
     refine hK.out _ _ q11t (fun hHeld => ?_)
     clear hK K
     refine norm_ (a' := ?_) ?_ ?_
     rotate_left
     ·show Act.put _ (some 88) _ = _
      simp only [Act.put, List.setIfInBounds_toArray, List.set_cons_zero, List.set_cons_succ, i64_w, i32_w]
      rfl
     refine pv_ 15 89 (bm 45 65535) ?_
     refine pv_ 16 90 (bm 45 131071) ?_
     refine pv_ 17 91 (bm 45 262143) ?_
     refine pv_ 18 92 (bm 45 524287) ?_
     refine tv_ 19 93 (bm 45 1048575) ?_
     refine pv_ 20 94 (bm 45 2097151) ?_
     refine pv_ 21 95 (bm 45 4194303) ?_
     refine pm_ 22 96 (bm 45 8388607) ?_
     refine pm_ 23 97 (bm 45 16777215) ?_
     refine pm_ 24 98 (bm 45 33554431) ?_
     refine pm_ 25 99 (bm 45 67108863) ?_
     refine pm_ 26 100 (bm 45 134217727) ?_
     refine pv_ 27 101 (bm 45 268435455) ?_
     refine pv_ 28 102 (bm 45 536870911) ?_
     refine pv_ 29 103 (bm 45 1073741823) ?_
     refine pv_ 30 104 (bm 45 2147483647) ?_
     refine tv_ 31 105 (bm 45 4294967295) ?_
     refine pv_ 32 106 (bm 45 8589934591) ?_
     refine pv_ 33 107 (bm 45 17179869183) ?_
     refine pv_ 34 108 (bm 45 34359738367) ?_
     refine pv_ 36 110 (bm 45 103079215103) ?_
     refine pv_ 39 113 (bm 45 652835028991) ?_
     refine tv_ 35 109 (bm 45 687194767359) ?_
     refine tv_ 37 111 (bm 45 824633720831) ?_
     refine pv_ 38 112 (bm 45 1099511627775) ?_
     refine tv_ 40 114 (bm 45 2199023255551) ?_
     refine pv_ 41 115 (bm 45 4398046511103) ?_
     refine pv_ 42 116 (bm 45 8796093022207) ?_
     refine pv_ 43 117 (bm 45 17592186044415) ?_
     refine pv_ 44 118 (bm 45 35184372088831) ?_
     refine done_ (done_of HT_.out (by kernel_rfl)) ?_
     try go_wp2
     go_meet
     case rel => exact ⟨_, (decide ((wrap64 (cg * cw)) < cM)), q121t, H', ⟨(by have := tw.out; first | omega | exact Nat.le_refl _)⟩, ⟨q72t⟩, ⟨q73t⟩, ⟨q74t⟩, ⟨q75t⟩, ⟨q76t⟩, ⟨q77t⟩, ⟨q78t⟩, ⟨q79t⟩, ⟨q80t⟩, ⟨q81t⟩, ⟨q82t⟩, ⟨q83t⟩, ⟨qbk ay⟩, ⟨qbk aw⟩, ⟨qbk az⟩, ⟨qbk aA⟩, ⟨qbk aD⟩, ⟨qbk aE⟩, ⟨qbk aI⟩, ⟨q47t⟩⟩
    rw [if_neg c115] at H
    have NU : decide (0 < cg) = false := decide_eq_false c115
    clear c115
    have H' := Aside0.mk H
    clear H
    try go_wp2
    replace bv := am (Kd.R_drew bv.out)
    replace bw := am (Kd.R_drew bw.out)
    replace bx := am (Kd.R_drew bx.out)
    replace bL := am (Kd.R_drew bL.out)
    replace bM := am (Kd.R_drew bM.out)
    replace bN := am (Kd.R_drew bN.out)
    replace bO := am (Kd.R_drew bO.out)
    replace bP := am (Kd.R_drew bP.out)
    replace bQ := am (Kd.R_drew bQ.out)
    replace bR := am (Kd.R_drew bR.out)
    replace bS := am (Kd.R_drew bS.out)
    replace bT := am (Kd.R_drew bT.out)
    replace ay := am (blk_drew ay.out)
    replace aw := am (blk_drew aw.out)
    replace az := am (blk_drew az.out)
    replace aA := am (blk_drew aA.out)
    replace aD := am (blk_drew aD.out)
    replace aE := am (blk_drew aE.out)
    replace aI := am (blk_drew aI.out)
    replace HB := am (below_drew1 HB.out)
    refine start_ (n := 45) (S := fun w' => w'.cell? ⟨bD, 0, none⟩ = some (.int .i64 dg) ∧ w'.cell? ⟨bD, 1, none⟩ = some (.int .i64 cw) ∧ w'.cell? ⟨bD, 2, none⟩ = some (.int .i64 dh) ∧ w'.cell? ⟨bD, 3, none⟩ = some (.int .i64 di) ∧ w'.cell? ⟨bD, 4, none⟩ = some (.int .i64 dj) ∧ w'.cell? ⟨bD, 5, none⟩ = some (.int .i64 dk) ∧ w'.cell? ⟨bE, 0, none⟩ = some (.int .i64 cX) ∧ w'.cell? ⟨bE, 1, none⟩ = some (.int .i64 cM) ∧ w'.cell? ⟨bE, 2, none⟩ = some (.int .i64 cg)) (ds := []) (bm 45 0) (by kernel_rfl) rfl (by kernel_rfl) qst (fun hHeld => ?_); refine with_tabW laws_FnNodes.tab9 laws_FnNodes.bits9 (fun HT_ HW_ => ?_)
    generalize wc.drew = w119 at bv bw bx bL bM bN bO bP bQ bR bS bT ay aw az aA aD aE aI HB hHeld ⊢
    refine tv_ 0 74 (bm 45 1) ?_
    refine tv_ 1 75 (bm 45 3) ?_
    refine one_ (i := 2) (N := some 76) (bm 45 7) rfl rfl (one_of HT_.out (by kernel_rfl)) q125t (fun K hK => ?_)
    refine goes_ Tryd.func11 (by kernel_rfl) rfl #[.agg #[dg, cw, dh, di, dj, dk], .agg #[cX, cM, cg]] q127t rfl rfl q66t ?_
    with_reducible refine (impl_ThingOk.calls kj7 dg cw dh di dj dk cX cM cg true _ tx.out).mono ?_
    rintro e w120 ⟨rfl, hb⟩
    refine ⟨_, rfl, ?_⟩
    replace bv := am (Kd.R_below q72t hb)
    replace bw := am (Kd.R_below q73t hb)
    replace bx := am (Kd.R_below q74t hb)
    replace bL := am (Kd.R_below q75t hb)
    replace bM := am (Kd.R_below q76t hb)
    replace bN := am (Kd.R_below q77t hb)
    replace bO := am (Kd.R_below q78t hb)
    replace bP := am (Kd.R_below q79t hb)
    replace bQ := am (Kd.R_below q80t hb)
    replace bR := am (Kd.R_below q81t hb)
    replace bS := am (Kd.R_below q82t hb)
    replace bT := am (Kd.R_below q83t hb)
    replace ay := blb ay hb
    replace aw := blb aw hb
    replace az := blb az hb
    replace aA := blb aA hb
    replace aD := blb aD hb
    replace aE := blb aE hb
    replace aI := blb aI hb
    replace HB := am (below_step q47t hb)
    (try clear hb)
    (try clear hb2)
    (try clear hk)
    (try clear hi)
    refine hK.out _ _ q11t (fun hHeld => ?_)
    clear hK K
    refine norm_ (a' := ?_) ?_ ?_
    rotate_left
    ·show Act.put _ (some 76) _ = _
     simp only [Act.put, List.setIfInBounds_toArray, List.set_cons_zero, List.set_cons_succ, i64_w, i32_w]
     rfl
    refine pv_ 3 77 (bm 45 15) ?_
    refine pv_ 4 78 (bm 45 31) ?_
    refine tv_ 5 79 (bm 45 63) ?_
    refine pv_ 6 80 (bm 45 127) ?_
    refine pv_ 7 81 (bm 45 255) ?_
    refine pv_ 8 82 (bm 45 511) ?_
    refine pv_ 10 84 (bm 45 1535) ?_
    refine tv_ 9 83 (bm 45 2047) ?_
    refine tv_ 11 85 (bm 45 4095) ?_
    refine pv_ 12 86 (bm 45 8191) ?_
    refine tv_ 13 87 (bm 45 16383) ?_
    refine one_ (i := 14) (N := some 88) (bm 45 32767) rfl rfl (one_of HT_.out (by kernel_rfl)) q125t (fun K hK => ?_)
    refine goes_ Tryd.func21 (by kernel_rfl) rfl #[.agg #[dg, cw, dh, di, dj, dk]] q127t rfl rfl q66t ?_
    with_reducible refine (impl_BytesOf.calls dg cw dh di dj dk mM _ qr.out).mono ?_
    rintro e w121 ⟨rfl, hb⟩
    refine ⟨_, rfl, ?_⟩
    replace bv := am (Kd.R_below q72t hb)
    replace bw := am (Kd.R_below q73t hb)
    replace bx := am (Kd.R_below q74t hb)
    replace bL := am (Kd.R_below q75t hb)
    replace bM := am (Kd.R_below q76t hb)
    replace bN := am (Kd.R_below q77t hb)
    replace bO := am (Kd.R_below q78t hb)
    replace bP := am (Kd.R_below q79t hb)
    replace bQ := am (Kd.R_below q80t hb)
    replace bR := am (Kd.R_below q81t hb)
    replace bS := am (Kd.R_below q82t hb)
    replace bT := am (Kd.R_below q83t hb)
    replace ay := blb ay hb
    replace aw := blb aw hb
    replace az := blb az hb
    replace aA := blb aA hb
    replace aD := blb aD hb
    replace aE := blb aE hb
    replace aI := blb aI hb
    replace HB := am (below_step q47t hb)
    (try clear hb)
    (try clear hb2)
    (try clear hk)
    (try clear hi)
    refine hK.out _ _ q11t (fun hHeld => ?_)
    clear hK K
    refine norm_ (a' := ?_) ?_ ?_
    rotate_left
    ·show Act.put _ (some 88) _ = _
     simp only [Act.put, List.setIfInBounds_toArray, List.set_cons_zero, List.set_cons_succ, i64_w, i32_w]
     rfl
    refine pv_ 15 89 (bm 45 65535) ?_
    refine pv_ 16 90 (bm 45 131071) ?_
    refine pv_ 17 91 (bm 45 262143) ?_
    refine pv_ 18 92 (bm 45 524287) ?_
    refine tv_ 19 93 (bm 45 1048575) ?_
    refine pv_ 20 94 (bm 45 2097151) ?_
    refine pv_ 21 95 (bm 45 4194303) ?_
    refine pm_ 22 96 (bm 45 8388607) ?_
    refine pm_ 23 97 (bm 45 16777215) ?_
    refine pm_ 24 98 (bm 45 33554431) ?_
    refine pm_ 25 99 (bm 45 67108863) ?_
    refine pm_ 26 100 (bm 45 134217727) ?_
    refine pv_ 27 101 (bm 45 268435455) ?_
    refine pv_ 28 102 (bm 45 536870911) ?_
    refine pv_ 29 103 (bm 45 1073741823) ?_
    refine pv_ 30 104 (bm 45 2147483647) ?_
    refine tv_ 31 105 (bm 45 4294967295) ?_
    refine pv_ 32 106 (bm 45 8589934591) ?_
    refine pv_ 33 107 (bm 45 17179869183) ?_
    refine pm_ 34 108 (bm 45 34359738367) ?_
    refine pm_ 35 109 (bm 45 68719476735) ?_
    refine pm_ 36 110 (bm 45 137438953471) ?_
    refine pm_ 37 111 (bm 45 274877906943) ?_
    refine pm_ 38 112 (bm 45 549755813887) ?_
    refine pm_ 39 113 (bm 45 1099511627775) ?_
    refine pm_ 40 114 (bm 45 2199023255551) ?_
    refine pm_ 41 115 (bm 45 4398046511103) ?_
    refine pv_ 42 116 (bm 45 8796093022207) ?_
    refine pv_ 43 117 (bm 45 17592186044415) ?_
    refine pv_ 44 118 (bm 45 35184372088831) ?_
    refine done_ (done_of HT_.out (by kernel_rfl)) ?_
    try go_wp2
    go_meet
    case rel => exact ⟨_, (false), q121t, H', ⟨(by have := tw.out; first | omega | exact Nat.le_refl _)⟩, ⟨q72t⟩, ⟨q73t⟩, ⟨q74t⟩, ⟨q75t⟩, ⟨q76t⟩, ⟨q77t⟩, ⟨q78t⟩, ⟨q79t⟩, ⟨q80t⟩, ⟨q81t⟩, ⟨q82t⟩, ⟨q83t⟩, ⟨qbk ay⟩, ⟨qbk aw⟩, ⟨qbk az⟩, ⟨qbk aA⟩, ⟨qbk aD⟩, ⟨qbk aE⟩, ⟨qbk aI⟩, ⟨q47t⟩⟩
   case rest => as_aux_lemma =>
    clear AE
    try clear c1
    try clear p2
    try clear c10
    try clear c11
    try clear c102
    obtain ⟨kq, vG, rfl, HA, Yi, bv, bw, bx, bL, bM, bN, bO, bP, bQ, bR, bS, bT, ay, aw, az, aA, aD, aE, aI, HB⟩ := hcut
    cases kq with
    | zero => exact absurd HA.out (by simp [laws_FnNodes.j1])
    | succ kj99 =>
     have H := HA.out
     clear HA
     simp only [laws_FnNodes.j1] at H
     by_cases c124 : vG = true
     ·subst c124
      rw [if_pos rfl] at H
      exact absurd H q126t
     replace c124 := Bool.eq_false_iff.mpr c124
     subst c124
     rw [if_neg (show ¬ (false = true) by decide)] at H
     obtain ⟨⟨mN, mO, mP, mQ, mR, mS, mT, mU, mV, mW, mX, mY, mZ⟩, AF, H⟩ := bnd H
     try dsimp only at H
     obtain ⟨z8, AG, H⟩ := bnd H
     try dsimp only at H
     by_cases c127 : z8 = true
     rotate_left
     ·replace c127 := Bool.eq_false_iff.mpr c127
      subst c127
      rw [if_neg (show ¬ (false = true) by decide)] at H
      exact absurd H q126t
     subst c127
     rw [if_pos rfl] at H
     obtain ⟨⟨m0, m2, m3, m4, m5, m6, m7, m8, m9, na, nb, nc, nf⟩, AH, H⟩ := bnd H
     try dsimp only at H
     obtain ⟨z9, AI, H⟩ := bnd H
     try dsimp only at H
     by_cases c130 : z9 = true
     rotate_left
     ·replace c130 := Bool.eq_false_iff.mpr c130
      subst c130
      rw [if_neg (show ¬ (false = true) by decide)] at H
      exact absurd H q126t
     subst c130
     rw [if_pos rfl] at H
     obtain ⟨Aa, AJ, H⟩ := bnd H
     try dsimp only at H
     by_cases c132 : Aa = true
     ·subst c132
      rw [if_pos rfl] at H
      by_cases c133 : dH = 1
      ·rw [if_pos c133] at H
       have NV : (dH == 1) = true := beq_iff_eq.mpr c133
       have NW : (dH != 1) = false := bne_eq_false_iff_eq.mpr c133
       clear c133
       obtain rfl := Option.some.inj H
       try go_wp2
       replace bv := am (Kd.R_drew bv.out)
       replace bw := am (Kd.R_drew bw.out)
       replace bx := am (Kd.R_drew bx.out)
       replace bL := am (Kd.R_drew bL.out)
       replace bM := am (Kd.R_drew bM.out)
       replace bN := am (Kd.R_drew bN.out)
       replace bO := am (Kd.R_drew bO.out)
       replace bP := am (Kd.R_drew bP.out)
       replace bQ := am (Kd.R_drew bQ.out)
       replace bR := am (Kd.R_drew bR.out)
       replace bS := am (Kd.R_drew bS.out)
       replace bT := am (Kd.R_drew bT.out)
       replace ay := am (blk_drew ay.out)
       replace aw := am (blk_drew aw.out)
       replace az := am (blk_drew az.out)
       replace aA := am (blk_drew aA.out)
       replace aD := am (blk_drew aD.out)
       replace aE := am (blk_drew aE.out)
       replace aI := am (blk_drew aI.out)
       replace HB := am (below_drew1 HB.out)
       refine start_ (n := 23) (S := fun w' => w'.cell? ⟨cb, 0, none⟩ = some (.int .i64 dN) ∧ w'.cell? ⟨cb, 1, none⟩ = some (.int .i64 dO) ∧ w'.cell? ⟨cb, 2, none⟩ = some (.int .i64 dP) ∧ w'.cell? ⟨cb, 3, none⟩ = some (.int .i64 dQ) ∧ w'.cell? ⟨cb, 4, none⟩ = some (.int .i64 dR) ∧ w'.cell? ⟨cb, 5, none⟩ = some (.int .i64 dS) ∧ w'.cell? ⟨bg, 0, none⟩ = some (.int .i64 dH) ∧ w'.cell? ⟨bg, 1, none⟩ = some (.int .i64 eu) ∧ w'.cell? ⟨bg, 2, none⟩ = some (.int .i64 ev) ∧ w'.cell? ⟨bg, 3, none⟩ = some (.int .i64 ew) ∧ w'.cell? ⟨bg, 4, none⟩ = some (.int .i64 ex) ∧ w'.cell? ⟨bg, 5, none⟩ = some (.int .i64 ey) ∧ w'.cell? ⟨bg, 6, none⟩ = some (.int .i64 ez) ∧ w'.cell? ⟨bg, 7, none⟩ = some (.int .i64 eA) ∧ w'.cell? ⟨bg, 8, none⟩ = some (.slice cz bJ.length cA) ∧ w'.cell? ⟨bg, 9, none⟩ = some (.int .i64 eB) ∧ w'.cell? ⟨bg, 10, none⟩ = some (.int .i64 eC) ∧ w'.cell? ⟨bg, 11, none⟩ = some (.slice dF cv.length dG) ∧ w'.cell? ⟨bg, 12, none⟩ = some (.slice bz bK.length bA)) (ds := []) (bm 23 0) (by kernel_rfl) rfl (by kernel_rfl) qst (fun hHeld => ?_); refine with_tabW laws_FnNodes.tab11 laws_FnNodes.bits11 (fun HT_ HW_ => ?_)
       generalize wc.drew = w134 at bv bw bx bL bM bN bO bP bQ bR bS bT ay aw az aA aD aE aI HB hHeld ⊢
       refine tv_ 0 119 (bm 23 1) ?_
       refine one_ (i := 1) (N := some 120) (bm 23 3) rfl rfl (one_of HT_.out (by kernel_rfl)) q125t (fun K hK => ?_)
       refine goes_ Tryd.func19 (by kernel_rfl) rfl #[.int .i64 1] q127t rfl rfl q66t ?_
       with_reducible refine (impl_NodeNew.calls 1 mN mO mP mQ mR mS mT mU mV mW mX mY mZ _ AF.out).mono ?_
       rintro e w135 ⟨v867, v872, v875, rfl, ho0, ho1, ho2, hb⟩
       refine ⟨_, rfl, ?_⟩
       have ek := am (Kd.R_lower (Kd.R_new' (Kd.R_new' (Kd.R_new' (Kd.R_new' (Kd.R_new' (Kd.R_new' (Kd.R_new' (Kd.R_new' ho0 (Kd.R_lt q72t)) (Kd.R_lt q74t)) (Kd.R_lt q75t)) (Kd.R_lt q77t)) (Kd.R_lt q78t)) (Kd.R_lt q80t)) (Kd.R_lt q81t)) (Kd.R_lt q83t)) (below_size q47t))
       have el := am (Kd.R_lower (Kd.R_newB (Kd.R_new' (Kd.R_new' (Kd.R_new' (Kd.R_new' ho1 (Kd.R_lt q73t)) (Kd.R_lt q76t)) (Kd.R_lt q79t)) (Kd.R_lt q82t)) (qbk aA)) (below_size q47t))
       replace bw := am (Kd.R_elder' q73t (Kd.R_base ho1) hb)
       replace bM := am (Kd.R_elder' q76t (Kd.R_base ho1) hb)
       replace bP := am (Kd.R_elder' q79t (Kd.R_base ho1) hb)
       replace bS := am (Kd.R_elder' q82t (Kd.R_base ho1) hb)
       have em := am (Kd.R_lower (Kd.R_new' (Kd.R_new' (Kd.R_new' (Kd.R_new' (Kd.R_new' (Kd.R_new' (Kd.R_new' (Kd.R_new' ho2 (Kd.R_lt q72t)) (Kd.R_lt q74t)) (Kd.R_lt q75t)) (Kd.R_lt q77t)) (Kd.R_lt q78t)) (Kd.R_lt q80t)) (Kd.R_lt q81t)) (Kd.R_lt q83t)) (below_size q47t))
       replace bv := am (Kd.R_mono (Kd.R_told (Kd.R_told (Kd.R_old q72t hb) (Kd.R_base ho0)) (Kd.R_base ho2)) (fun _ h_ => h_.1))
       replace bx := am (Kd.R_mono (Kd.R_told (Kd.R_told (Kd.R_old q74t hb) (Kd.R_base ho0)) (Kd.R_base ho2)) (fun _ h_ => h_.1))
       replace bL := am (Kd.R_mono (Kd.R_told (Kd.R_told (Kd.R_old q75t hb) (Kd.R_base ho0)) (Kd.R_base ho2)) (fun _ h_ => h_.1))
       replace bN := am (Kd.R_mono (Kd.R_told (Kd.R_told (Kd.R_old q77t hb) (Kd.R_base ho0)) (Kd.R_base ho2)) (fun _ h_ => h_.1))
       replace bO := am (Kd.R_mono (Kd.R_told (Kd.R_told (Kd.R_old q78t hb) (Kd.R_base ho0)) (Kd.R_base ho2)) (fun _ h_ => h_.1))
       replace bQ := am (Kd.R_mono (Kd.R_told (Kd.R_told (Kd.R_old q80t hb) (Kd.R_base ho0)) (Kd.R_base ho2)) (fun _ h_ => h_.1))
       replace bR := am (Kd.R_mono (Kd.R_told (Kd.R_told (Kd.R_old q81t hb) (Kd.R_base ho0)) (Kd.R_base ho2)) (fun _ h_ => h_.1))
       replace bT := am (Kd.R_mono (Kd.R_told (Kd.R_told (Kd.R_old q83t hb) (Kd.R_base ho0)) (Kd.R_base ho2)) (fun _ h_ => h_.1))
       replace ay := blb ay hb
       replace aw := blb aw hb
       replace az := blb az hb
       replace aA := blb aA hb
       replace aD := blb aD hb
       replace aE := blb aE hb
       replace aI := blb aI hb
       replace HB := am (below_step q47t hb)
       (try clear hb)
       (try clear hb2)
       (try clear hk)
       (try clear hi)
       (try clear ho0)
       (try clear ho1)
       (try clear ho2)
       obtain ⟨NX, NY, FH⟩ := Kd.R_slice ek.out
       (first | subst FH | (injection FH with f1_ f2_ f3_; have f4_ := f1_.symm; have f5_ := f3_.symm; clear f1_ f2_ f3_; subst f4_; subst f5_))
       obtain ⟨NZ, N0, FI⟩ := Kd.R_slice el.out
       (first | subst FI | (injection FI with f1_ f2_ f3_; have f4_ := f1_.symm; have f5_ := f3_.symm; clear f1_ f2_ f3_; subst f4_; subst f5_))
       obtain ⟨N1, N2, FJ⟩ := Kd.R_slice em.out
       (first | subst FJ | (injection FJ with f1_ f2_ f3_; have f4_ := f1_.symm; have f5_ := f3_.symm; clear f1_ f2_ f3_; subst f4_; subst f5_))
       refine hK.out _ _ q2t (fun hHeld => ?_)
       clear hK K
       refine norm_ (a' := ?_) ?_ ?_
       rotate_left
       ·show Act.put _ (some 120) _ = _
        simp only [Act.put, List.setIfInBounds_toArray, List.set_cons_zero, List.set_cons_succ, i64_w, i32_w]
        rfl
       refine one_ (i := 2) (N := some 121) (bm 23 7) rfl rfl (one_of HT_.out (by kernel_rfl)) q125t (fun K hK => ?_)
       refine goes_ Tryd.func9 (by kernel_rfl) rfl #[.agg #[dN, dO, dP, dQ, dR, dS], .agg #[mN, mO, mP, mQ, mR, mS, mT, mU, .slice NX mV.length NY, mW, mX, .slice NZ mY.length N0, .slice N1 mZ.length N2]] q127t rfl rfl q66t ?_
       with_reducible refine (impl_NodeOk.calls kj99 dN dO dP dQ dR dS mN mO mP mQ mR mS mT mU _ _ mV mW mX _ _ mY _ _ mZ true _ ?side1 ?side2 ?side3 ?side4 ?side5 ?side6 AG.out).mono ?_
       (case side1 => repeat (first | exact (Kd.R_reads' ek.out).2.2 | (with_reducible refine Kd.C_alloc ?_ _) | (with_reducible refine Kd.C_drewN ?_ _) | (with_reducible refine Kd.C_drew ?_)))
       (case side2 => exact (Kd.R_reads' ek.out).2.1)
       (case side3 => repeat (first | exact (Kd.R_reads' el.out).2.2 | (with_reducible refine Kd.C_alloc ?_ _) | (with_reducible refine Kd.C_drewN ?_ _) | (with_reducible refine Kd.C_drew ?_)))
       (case side4 => exact (Kd.R_reads' el.out).2.1)
       (case side5 => repeat (first | exact (Kd.R_reads' em.out).2.2 | (with_reducible refine Kd.C_alloc ?_ _) | (with_reducible refine Kd.C_drewN ?_ _) | (with_reducible refine Kd.C_drew ?_)))
       (case side6 => exact (Kd.R_reads' em.out).2.1)
       rintro e w139 ⟨rfl, hb⟩
       refine ⟨_, rfl, ?_⟩
       replace bv := am (Kd.R_below q72t hb)
       replace bw := am (Kd.R_below q73t hb)
       replace bx := am (Kd.R_below q74t hb)
       replace bL := am (Kd.R_below q75t hb)
       replace bM := am (Kd.R_below q76t hb)
       replace bN := am (Kd.R_below q77t hb)
       replace bO := am (Kd.R_below q78t hb)
       replace bP := am (Kd.R_below q79t hb)
       replace bQ := am (Kd.R_below q80t hb)
       replace bR := am (Kd.R_below q81t hb)
       replace bS := am (Kd.R_below q82t hb)
       replace bT := am (Kd.R_below q83t hb)
       replace ek := am (Kd.R_below q108t hb)
       replace el := am (Kd.R_below q109t hb)
       replace em := am (Kd.R_below q110t hb)
       replace ay := blb ay hb
       replace aw := blb aw hb
       replace az := blb az hb
       replace aA := blb aA hb
       replace aD := blb aD hb
       replace aE := blb aE hb
       replace aI := blb aI hb
       replace HB := am (below_step q47t hb)
       (try clear hb)
       (try clear hb2)
       (try clear hk)
       (try clear hi)
       refine hK.out _ _ q2t (fun hHeld => ?_)
       clear hK K
       refine norm_ (a' := ?_) ?_ ?_
       rotate_left
       ·show Act.put _ (some 121) _ = _
        simp only [Act.put, List.setIfInBounds_toArray, List.set_cons_zero, List.set_cons_succ, i64_w, i32_w]
        rfl
       refine pv_ 3 122 (bm 23 15) ?_
       refine one_ (i := 4) (N := some 123) (bm 23 31) rfl rfl (one_of HT_.out (by kernel_rfl)) q125t (fun K hK => ?_)
       refine goes_ Tryd.func19 (by kernel_rfl) rfl #[.int .i64 1] q127t rfl rfl q66t ?_
       with_reducible refine (impl_NodeNew.calls 1 m0 m2 m3 m4 m5 m6 m7 m8 m9 na nb nc nf _ AH.out).mono ?_
       rintro e w140 ⟨v887, v892, v895, rfl, ho0, ho1, ho2, hb⟩
       refine ⟨_, rfl, ?_⟩
       have fc := am (Kd.R_lower (Kd.R_new' (Kd.R_new' (Kd.R_new' (Kd.R_new' (Kd.R_new' (Kd.R_new' (Kd.R_new' (Kd.R_new' (Kd.R_new' (Kd.R_new' ho0 (Kd.R_lt q72t)) (Kd.R_lt q74t)) (Kd.R_lt q75t)) (Kd.R_lt q77t)) (Kd.R_lt q78t)) (Kd.R_lt q80t)) (Kd.R_lt q81t)) (Kd.R_lt q83t)) (Kd.R_lt q108t)) (Kd.R_lt q110t)) (below_size q47t))
       have fd := am (Kd.R_lower (Kd.R_newB (Kd.R_new' (Kd.R_new' (Kd.R_new' (Kd.R_new' (Kd.R_new' ho1 (Kd.R_lt q73t)) (Kd.R_lt q76t)) (Kd.R_lt q79t)) (Kd.R_lt q82t)) (Kd.R_lt q109t)) (qbk aA)) (below_size q47t))
       replace bw := am (Kd.R_elder' q73t (Kd.R_base ho1) hb)
       replace bM := am (Kd.R_elder' q76t (Kd.R_base ho1) hb)
       replace bP := am (Kd.R_elder' q79t (Kd.R_base ho1) hb)
       replace bS := am (Kd.R_elder' q82t (Kd.R_base ho1) hb)
       replace el := am (Kd.R_elder' q109t (Kd.R_base ho1) hb)
       have fe := am (Kd.R_lower (Kd.R_new' (Kd.R_new' (Kd.R_new' (Kd.R_new' (Kd.R_new' (Kd.R_new' (Kd.R_new' (Kd.R_new' (Kd.R_new' (Kd.R_new' ho2 (Kd.R_lt q72t)) (Kd.R_lt q74t)) (Kd.R_lt q75t)) (Kd.R_lt q77t)) (Kd.R_lt q78t)) (Kd.R_lt q80t)) (Kd.R_lt q81t)) (Kd.R_lt q83t)) (Kd.R_lt q108t)) (Kd.R_lt q110t)) (below_size q47t))
       replace bv := am (Kd.R_mono (Kd.R_told (Kd.R_told (Kd.R_old q72t hb) (Kd.R_base ho0)) (Kd.R_base ho2)) (fun _ h_ => h_.1))
       replace bx := am (Kd.R_mono (Kd.R_told (Kd.R_told (Kd.R_old q74t hb) (Kd.R_base ho0)) (Kd.R_base ho2)) (fun _ h_ => h_.1))
       replace bL := am (Kd.R_mono (Kd.R_told (Kd.R_told (Kd.R_old q75t hb) (Kd.R_base ho0)) (Kd.R_base ho2)) (fun _ h_ => h_.1))
       replace bN := am (Kd.R_mono (Kd.R_told (Kd.R_told (Kd.R_old q77t hb) (Kd.R_base ho0)) (Kd.R_base ho2)) (fun _ h_ => h_.1))
       replace bO := am (Kd.R_mono (Kd.R_told (Kd.R_told (Kd.R_old q78t hb) (Kd.R_base ho0)) (Kd.R_base ho2)) (fun _ h_ => h_.1))
       replace bQ := am (Kd.R_mono (Kd.R_told (Kd.R_told (Kd.R_old q80t hb) (Kd.R_base ho0)) (Kd.R_base ho2)) (fun _ h_ => h_.1))
       replace bR := am (Kd.R_mono (Kd.R_told (Kd.R_told (Kd.R_old q81t hb) (Kd.R_base ho0)) (Kd.R_base ho2)) (fun _ h_ => h_.1))
       replace bT := am (Kd.R_mono (Kd.R_told (Kd.R_told (Kd.R_old q83t hb) (Kd.R_base ho0)) (Kd.R_base ho2)) (fun _ h_ => h_.1))
       replace ek := am (Kd.R_mono (Kd.R_told (Kd.R_told (Kd.R_old q108t hb) (Kd.R_base ho0)) (Kd.R_base ho2)) (fun _ h_ => h_.1))
       replace em := am (Kd.R_mono (Kd.R_told (Kd.R_told (Kd.R_old q110t hb) (Kd.R_base ho0)) (Kd.R_base ho2)) (fun _ h_ => h_.1))
       replace ay := blb ay hb
       replace aw := blb aw hb
       replace az := blb az hb
       replace aA := blb aA hb
       replace aD := blb aD hb
       replace aE := blb aE hb
       replace aI := blb aI hb
       replace HB := am (below_step q47t hb)
       (try clear hb)
       (try clear hb2)
       (try clear hk)
       (try clear hi)
       (try clear ho0)
       (try clear ho1)
       (try clear ho2)
       obtain ⟨N3, N4, FL⟩ := Kd.R_slice fc.out
       (first | subst FL | (injection FL with f1_ f2_ f3_; have f4_ := f1_.symm; have f5_ := f3_.symm; clear f1_ f2_ f3_; subst f4_; subst f5_))
       obtain ⟨N5, N6, FM⟩ := Kd.R_slice fd.out
       (first | subst FM | (injection FM with f1_ f2_ f3_; have f4_ := f1_.symm; have f5_ := f3_.symm; clear f1_ f2_ f3_; subst f4_; subst f5_))
       obtain ⟨N7, N8, FN⟩ := Kd.R_slice fe.out
       (first | subst FN | (injection FN with f1_ f2_ f3_; have f4_ := f1_.symm; have f5_ := f3_.symm; clear f1_ f2_ f3_; subst f4_; subst f5_))
       refine hK.out _ _ q2t (fun hHeld => ?_)
       clear hK K
       refine norm_ (a' := ?_) ?_ ?_
       rotate_left
       ·show Act.put _ (some 123) _ = _
        simp only [Act.put, List.setIfInBounds_toArray, List.set_cons_zero, List.set_cons_succ, i64_w, i32_w]
        rfl
       refine one_ (i := 5) (N := some 124) (bm 23 63) rfl rfl (one_of HT_.out (by kernel_rfl)) q125t (fun K hK => ?_)
       refine goes_ Tryd.func13 (by kernel_rfl) rfl #[.agg #[m0, m2, m3, m4, m5, m6, m7, m8, .slice N3 m9.length N4, na, nb, .slice N5 nc.length N6, .slice N7 nf.length N8]] q127t rfl rfl q66t ?_
       with_reducible refine (impl_Bare.calls kj99 m0 m2 m3 m4 m5 m6 m7 m8 _ _ m9 na nb _ _ nc _ _ nf true _ ?side1 ?side2 ?side3 ?side4 ?side5 ?side6 AI.out).mono ?_
       (case side1 => repeat (first | exact (Kd.R_reads' fc.out).2.2 | (with_reducible refine Kd.C_alloc ?_ _) | (with_reducible refine Kd.C_drewN ?_ _) | (with_reducible refine Kd.C_drew ?_)))
       (case side2 => exact (Kd.R_reads' fc.out).2.1)
       (case side3 => repeat (first | exact (Kd.R_reads' fd.out).2.2 | (with_reducible refine Kd.C_alloc ?_ _) | (with_reducible refine Kd.C_drewN ?_ _) | (with_reducible refine Kd.C_drew ?_)))
       (case side4 => exact (Kd.R_reads' fd.out).2.1)
       (case side5 => repeat (first | exact (Kd.R_reads' fe.out).2.2 | (with_reducible refine Kd.C_alloc ?_ _) | (with_reducible refine Kd.C_drewN ?_ _) | (with_reducible refine Kd.C_drew ?_)))
       (case side6 => exact (Kd.R_reads' fe.out).2.1)
       rintro e w144 ⟨rfl, hb⟩
       refine ⟨_, rfl, ?_⟩
       replace bv := am (Kd.R_below q72t hb)
       replace bw := am (Kd.R_below q73t hb)
       replace bx := am (Kd.R_below q74t hb)
       replace bL := am (Kd.R_below q75t hb)
       replace bM := am (Kd.R_below q76t hb)
       replace bN := am (Kd.R_below q77t hb)
       replace bO := am (Kd.R_below q78t hb)
       replace bP := am (Kd.R_below q79t hb)
       replace bQ := am (Kd.R_below q80t hb)
       replace bR := am (Kd.R_below q81t hb)
       replace bS := am (Kd.R_below q82t hb)
       replace bT := am (Kd.R_below q83t hb)
       replace ek := am (Kd.R_below q108t hb)
       replace el := am (Kd.R_below q109t hb)
       replace em := am (Kd.R_below q110t hb)
       replace fc := am (Kd.R_below q111t hb)
       replace fd := am (Kd.R_below q112t hb)
       replace fe := am (Kd.R_below q113t hb)
       replace ay := blb ay hb
       replace aw := blb aw hb
       replace az := blb az hb
       replace aA := blb aA hb
       replace aD := blb aD hb
       replace aE := blb aE hb
       replace aI := blb aI hb
       replace HB := am (below_step q47t hb)
       (try clear hb)
       (try clear hb2)
       (try clear hk)
       (try clear hi)
       refine hK.out _ _ q2t (fun hHeld => ?_)
       clear hK K
       refine norm_ (a' := ?_) ?_ ?_
       rotate_left
       ·show Act.put _ (some 124) _ = _
        simp only [Act.put, List.setIfInBounds_toArray, List.set_cons_zero, List.set_cons_succ, i64_w, i32_w]
        rfl
       refine pv_ 6 125 (bm 23 127) ?_
       refine pv_ 7 126 (bm 23 255) ?_
       refine tv_ 8 127 (bm 23 511) ?_
       refine tv_ 9 128 (bm 23 1023) ?_
       refine one_ (i := 10) (N := some 129) (bm 23 2047) rfl rfl (one_of HT_.out (by kernel_rfl)) q125t (fun K hK => ?_)
       refine goes_ Tryd.func9 (by kernel_rfl) rfl #[.agg #[dN, dO, dP, dQ, dR, dS], .agg #[dH, eu, ev, ew, ex, ey, ez, eA, .slice cz bJ.length cA, eB, eC, .slice dF cv.length dG, .slice bz bK.length bA]] q127t rfl rfl q66t ?_
       with_reducible refine (impl_NodeOk.calls kj99 dN dO dP dQ dR dS dH eu ev ew ex ey ez eA _ _ bJ eB eC _ _ cv _ _ bK true _ ?side1 ?side2 ?side3 ?side4 ?side5 ?side6 AJ.out).mono ?_
       (case side1 => repeat (first | exact (Kd.R_reads' bv.out).2.2 | (with_reducible refine Kd.C_alloc ?_ _) | (with_reducible refine Kd.C_drewN ?_ _) | (with_reducible refine Kd.C_drew ?_)))
       (case side2 => exact (Kd.R_reads' bv.out).2.1)
       (case side3 => repeat (first | exact (Kd.R_reads' bw.out).2.2 | (with_reducible refine Kd.C_alloc ?_ _) | (with_reducible refine Kd.C_drewN ?_ _) | (with_reducible refine Kd.C_drew ?_)))
       (case side4 => exact (Kd.R_reads' bw.out).2.1)
       (case side5 => repeat (first | exact (Kd.R_reads' bx.out).2.2 | (with_reducible refine Kd.C_alloc ?_ _) | (with_reducible refine Kd.C_drewN ?_ _) | (with_reducible refine Kd.C_drew ?_)))
       (case side6 => exact (Kd.R_reads' bx.out).2.1)
       rintro e w145 ⟨rfl, hb⟩
       refine ⟨_, rfl, ?_⟩
       replace bv := am (Kd.R_below q72t hb)
       replace bw := am (Kd.R_below q73t hb)
       replace bx := am (Kd.R_below q74t hb)
       replace bL := am (Kd.R_below q75t hb)
       replace bM := am (Kd.R_below q76t hb)
       replace bN := am (Kd.R_below q77t hb)
       replace bO := am (Kd.R_below q78t hb)
       replace bP := am (Kd.R_below q79t hb)
       replace bQ := am (Kd.R_below q80t hb)
       replace bR := am (Kd.R_below q81t hb)
       replace bS := am (Kd.R_below q82t hb)
       replace bT := am (Kd.R_below q83t hb)
       replace ek := am (Kd.R_below q108t hb)
       replace el := am (Kd.R_below q109t hb)
       replace em := am (Kd.R_below q110t hb)
       replace fc := am (Kd.R_below q111t hb)
       replace fd := am (Kd.R_below q112t hb)
       replace fe := am (Kd.R_below q113t hb)
       replace ay := blb ay hb
       replace aw := blb aw hb
       replace az := blb az hb
       replace aA := blb aA hb
       replace aD := blb aD hb
       replace aE := blb aE hb
       replace aI := blb aI hb
       replace HB := am (below_step q47t hb)
       (try clear hb)
       (try clear hb2)
       (try clear hk)
       (try clear hi)
       refine hK.out _ _ q2t (fun hHeld => ?_)
       clear hK K
       refine norm_ (a' := ?_) ?_ ?_
       rotate_left
       ·show Act.put _ (some 129) _ = _
        simp only [Act.put, List.setIfInBounds_toArray, List.set_cons_zero, List.set_cons_succ, i64_w, i32_w]
        rfl
       refine pv_ 11 130 (bm 23 4095) ?_
       refine pv_ 12 131 (bm 23 8191) ?_
       refine pv_ 13 132 (bm 23 16383) ?_
       refine tv_ 14 133 (bm 23 32767) ?_
       refine pv_ 15 134 (bm 23 65535) ?_
       refine pv_ 16 135 (bm 23 131071) ?_
       refine pv_ 17 136 (bm 23 262143) ?_
       refine pm_ 18 137 (bm 23 524287) ?_
       refine pm_ 19 138 (bm 23 1048575) ?_
       refine pv_ 20 139 (bm 23 2097151) ?_
       refine pv_ 21 140 (bm 23 4194303) ?_
       refine pv_ 22 2 (bm 23 8388607) ?_
       refine done_ (done_of HT_.out (by kernel_rfl)) ?_
       try go_wp2
       go_ret
       exact ⟨q114t, q47t⟩
      rw [if_neg c133] at H
      have NV : (dH == 1) = false := beq_eq_false_iff_ne.mpr c133
      have NW : (dH != 1) = true := bne_iff_ne.mpr c133
      obtain ⟨Ab, N9, H⟩ := bnd H
      try dsimp only at H
      obtain rfl := Option.some.inj H
      try go_wp2
      replace bv := am (Kd.R_drew bv.out)
      replace bw := am (Kd.R_drew bw.out)
      replace bx := am (Kd.R_drew bx.out)
      replace bL := am (Kd.R_drew bL.out)
      replace bM := am (Kd.R_drew bM.out)
      replace bN := am (Kd.R_drew bN.out)
      replace bO := am (Kd.R_drew bO.out)
      replace bP := am (Kd.R_drew bP.out)
      replace bQ := am (Kd.R_drew bQ.out)
      replace bR := am (Kd.R_drew bR.out)
      replace bS := am (Kd.R_drew bS.out)
      replace bT := am (Kd.R_drew bT.out)
      replace ay := am (blk_drew ay.out)
      replace aw := am (blk_drew aw.out)
      replace az := am (blk_drew az.out)
      replace aA := am (blk_drew aA.out)
      replace aD := am (blk_drew aD.out)
      replace aE := am (blk_drew aE.out)
      replace aI := am (blk_drew aI.out)
      replace HB := am (below_drew1 HB.out)
      refine start_ (n := 23) (S := fun w' => w'.cell? ⟨cb, 0, none⟩ = some (.int .i64 dN) ∧ w'.cell? ⟨cb, 1, none⟩ = some (.int .i64 dO) ∧ w'.cell? ⟨cb, 2, none⟩ = some (.int .i64 dP) ∧ w'.cell? ⟨cb, 3, none⟩ = some (.int .i64 dQ) ∧ w'.cell? ⟨cb, 4, none⟩ = some (.int .i64 dR) ∧ w'.cell? ⟨cb, 5, none⟩ = some (.int .i64 dS) ∧ w'.cell? ⟨bg, 0, none⟩ = some (.int .i64 dH) ∧ w'.cell? ⟨bg, 1, none⟩ = some (.int .i64 eu) ∧ w'.cell? ⟨bg, 2, none⟩ = some (.int .i64 ev) ∧ w'.cell? ⟨bg, 3, none⟩ = some (.int .i64 ew) ∧ w'.cell? ⟨bg, 4, none⟩ = some (.int .i64 ex) ∧ w'.cell? ⟨bg, 5, none⟩ = some (.int .i64 ey) ∧ w'.cell? ⟨bg, 6, none⟩ = some (.int .i64 ez) ∧ w'.cell? ⟨bg, 7, none⟩ = some (.int .i64 eA) ∧ w'.cell? ⟨bg, 8, none⟩ = some (.slice cz bJ.length cA) ∧ w'.cell? ⟨bg, 9, none⟩ = some (.int .i64 eB) ∧ w'.cell? ⟨bg, 10, none⟩ = some (.int .i64 eC) ∧ w'.cell? ⟨bg, 11, none⟩ = some (.slice dF cv.length dG) ∧ w'.cell? ⟨bg, 12, none⟩ = some (.slice bz bK.length bA)) (ds := []) (bm 23 0) (by kernel_rfl) rfl (by kernel_rfl) qst (fun hHeld => ?_); refine with_tabW laws_FnNodes.tab11 laws_FnNodes.bits11 (fun HT_ HW_ => ?_)
      generalize wc.drew = w147 at bv bw bx bL bM bN bO bP bQ bR bS bT ay aw az aA aD aE aI HB hHeld ⊢
      refine tv_ 0 119 (bm 23 1) ?_
      refine one_ (i := 1) (N := some 120) (bm 23 3) rfl rfl (one_of HT_.out (by kernel_rfl)) q125t (fun K hK => ?_)
      refine goes_ Tryd.func19 (by kernel_rfl) rfl #[.int .i64 1] q127t rfl rfl q66t ?_
      with_reducible refine (impl_NodeNew.calls 1 mN mO mP mQ mR mS mT mU mV mW mX mY mZ _ AF.out).mono ?_
      rintro e w148 ⟨v867, v872, v875, rfl, ho0, ho1, ho2, hb⟩
      refine ⟨_, rfl, ?_⟩
      have ek := am (Kd.R_lower (Kd.R_new' (Kd.R_new' (Kd.R_new' (Kd.R_new' (Kd.R_new' (Kd.R_new' (Kd.R_new' (Kd.R_new' ho0 (Kd.R_lt q72t)) (Kd.R_lt q74t)) (Kd.R_lt q75t)) (Kd.R_lt q77t)) (Kd.R_lt q78t)) (Kd.R_lt q80t)) (Kd.R_lt q81t)) (Kd.R_lt q83t)) (below_size q47t))
      have el := am (Kd.R_lower (Kd.R_newB (Kd.R_new' (Kd.R_new' (Kd.R_new' (Kd.R_new' ho1 (Kd.R_lt q73t)) (Kd.R_lt q76t)) (Kd.R_lt q79t)) (Kd.R_lt q82t)) (qbk aA)) (below_size q47t))
      replace bw := am (Kd.R_elder' q73t (Kd.R_base ho1) hb)
      replace bM := am (Kd.R_elder' q76t (Kd.R_base ho1) hb)
      replace bP := am (Kd.R_elder' q79t (Kd.R_base ho1) hb)
      replace bS := am (Kd.R_elder' q82t (Kd.R_base ho1) hb)
      have em := am (Kd.R_lower (Kd.R_new' (Kd.R_new' (Kd.R_new' (Kd.R_new' (Kd.R_new' (Kd.R_new' (Kd.R_new' (Kd.R_new' ho2 (Kd.R_lt q72t)) (Kd.R_lt q74t)) (Kd.R_lt q75t)) (Kd.R_lt q77t)) (Kd.R_lt q78t)) (Kd.R_lt q80t)) (Kd.R_lt q81t)) (Kd.R_lt q83t)) (below_size q47t))
      replace bv := am (Kd.R_mono (Kd.R_told (Kd.R_told (Kd.R_old q72t hb) (Kd.R_base ho0)) (Kd.R_base ho2)) (fun _ h_ => h_.1))
      replace bx := am (Kd.R_mono (Kd.R_told (Kd.R_told (Kd.R_old q74t hb) (Kd.R_base ho0)) (Kd.R_base ho2)) (fun _ h_ => h_.1))
      replace bL := am (Kd.R_mono (Kd.R_told (Kd.R_told (Kd.R_old q75t hb) (Kd.R_base ho0)) (Kd.R_base ho2)) (fun _ h_ => h_.1))
      replace bN := am (Kd.R_mono (Kd.R_told (Kd.R_told (Kd.R_old q77t hb) (Kd.R_base ho0)) (Kd.R_base ho2)) (fun _ h_ => h_.1))
      replace bO := am (Kd.R_mono (Kd.R_told (Kd.R_told (Kd.R_old q78t hb) (Kd.R_base ho0)) (Kd.R_base ho2)) (fun _ h_ => h_.1))
      replace bQ := am (Kd.R_mono (Kd.R_told (Kd.R_told (Kd.R_old q80t hb) (Kd.R_base ho0)) (Kd.R_base ho2)) (fun _ h_ => h_.1))
      replace bR := am (Kd.R_mono (Kd.R_told (Kd.R_told (Kd.R_old q81t hb) (Kd.R_base ho0)) (Kd.R_base ho2)) (fun _ h_ => h_.1))
      replace bT := am (Kd.R_mono (Kd.R_told (Kd.R_told (Kd.R_old q83t hb) (Kd.R_base ho0)) (Kd.R_base ho2)) (fun _ h_ => h_.1))
      replace ay := blb ay hb
      replace aw := blb aw hb
      replace az := blb az hb
      replace aA := blb aA hb
      replace aD := blb aD hb
      replace aE := blb aE hb
      replace aI := blb aI hb
      replace HB := am (below_step q47t hb)
      (try clear hb)
      (try clear hb2)
      (try clear hk)
      (try clear hi)
      (try clear ho0)
      (try clear ho1)
      (try clear ho2)
      obtain ⟨Oa, Ob, FO⟩ := Kd.R_slice ek.out
      (first | subst FO | (injection FO with f1_ f2_ f3_; have f4_ := f1_.symm; have f5_ := f3_.symm; clear f1_ f2_ f3_; subst f4_; subst f5_))
      obtain ⟨Oc, Od, FP⟩ := Kd.R_slice el.out
      (first | subst FP | (injection FP with f1_ f2_ f3_; have f4_ := f1_.symm; have f5_ := f3_.symm; clear f1_ f2_ f3_; subst f4_; subst f5_))
      obtain ⟨Oe, Of, FQ⟩ := Kd.R_slice em.out
      (first | subst FQ | (injection FQ with f1_ f2_ f3_; have f4_ := f1_.symm; have f5_ := f3_.symm; clear f1_ f2_ f3_; subst f4_; subst f5_))
      refine hK.out _ _ q2t (fun hHeld => ?_)
      clear hK K
      refine norm_ (a' := ?_) ?_ ?_
      rotate_left
      ·show Act.put _ (some 120) _ = _
       simp only [Act.put, List.setIfInBounds_toArray, List.set_cons_zero, List.set_cons_succ, i64_w, i32_w]
       rfl
      refine one_ (i := 2) (N := some 121) (bm 23 7) rfl rfl (one_of HT_.out (by kernel_rfl)) q125t (fun K hK => ?_)
      refine goes_ Tryd.func9 (by kernel_rfl) rfl #[.agg #[dN, dO, dP, dQ, dR, dS], .agg #[mN, mO, mP, mQ, mR, mS, mT, mU, .slice Oa mV.length Ob, mW, mX, .slice Oc mY.length Od, .slice Oe mZ.length Of]] q127t rfl rfl q66t ?_
      with_reducible refine (impl_NodeOk.calls kj99 dN dO dP dQ dR dS mN mO mP mQ mR mS mT mU _ _ mV mW mX _ _ mY _ _ mZ true _ ?side1 ?side2 ?side3 ?side4 ?side5 ?side6 AG.out).mono ?_
      (case side1 => repeat (first | exact (Kd.R_reads' ek.out).2.2 | (with_reducible refine Kd.C_alloc ?_ _) | (with_reducible refine Kd.C_drewN ?_ _) | (with_reducible refine Kd.C_drew ?_)))
      (case side2 => exact (Kd.R_reads' ek.out).2.1)
      (case side3 => repeat (first | exact (Kd.R_reads' el.out).2.2 | (with_reducible refine Kd.C_alloc ?_ _) | (with_reducible refine Kd.C_drewN ?_ _) | (with_reducible refine Kd.C_drew ?_)))
      (case side4 => exact (Kd.R_reads' el.out).2.1)
      (case side5 => repeat (first | exact (Kd.R_reads' em.out).2.2 | (with_reducible refine Kd.C_alloc ?_ _) | (with_reducible refine Kd.C_drewN ?_ _) | (with_reducible refine Kd.C_drew ?_)))
      (case side6 => exact (Kd.R_reads' em.out).2.1)
      rintro e w152 ⟨rfl, hb⟩
      refine ⟨_, rfl, ?_⟩
      replace bv := am (Kd.R_below q72t hb)
      replace bw := am (Kd.R_below q73t hb)
      replace bx := am (Kd.R_below q74t hb)
      replace bL := am (Kd.R_below q75t hb)
      replace bM := am (Kd.R_below q76t hb)
      replace bN := am (Kd.R_below q77t hb)
      replace bO := am (Kd.R_below q78t hb)
      replace bP := am (Kd.R_below q79t hb)
      replace bQ := am (Kd.R_below q80t hb)
      replace bR := am (Kd.R_below q81t hb)
      replace bS := am (Kd.R_below q82t hb)
      replace bT := am (Kd.R_below q83t hb)
      replace ek := am (Kd.R_below q108t hb)
      replace el := am (Kd.R_below q109t hb)
      replace em := am (Kd.R_below q110t hb)
      replace ay := blb ay hb
      replace aw := blb aw hb
      replace az := blb az hb
      replace aA := blb aA hb
      replace aD := blb aD hb
      replace aE := blb aE hb
      replace aI := blb aI hb
      replace HB := am (below_step q47t hb)
      (try clear hb)
      (try clear hb2)
      (try clear hk)
      (try clear hi)
      refine hK.out _ _ q2t (fun hHeld => ?_)
      clear hK K
      refine norm_ (a' := ?_) ?_ ?_
      rotate_left
      ·show Act.put _ (some 121) _ = _
       simp only [Act.put, List.setIfInBounds_toArray, List.set_cons_zero, List.set_cons_succ, i64_w, i32_w]
       rfl
      refine pv_ 3 122 (bm 23 15) ?_
      refine one_ (i := 4) (N := some 123) (bm 23 31) rfl rfl (one_of HT_.out (by kernel_rfl)) q125t (fun K hK => ?_)
      refine goes_ Tryd.func19 (by kernel_rfl) rfl #[.int .i64 1] q127t rfl rfl q66t ?_
      with_reducible refine (impl_NodeNew.calls 1 m0 m2 m3 m4 m5 m6 m7 m8 m9 na nb nc nf _ AH.out).mono ?_
      rintro e w153 ⟨v887, v892, v895, rfl, ho0, ho1, ho2, hb⟩
      refine ⟨_, rfl, ?_⟩
      have fc := am (Kd.R_lower (Kd.R_new' (Kd.R_new' (Kd.R_new' (Kd.R_new' (Kd.R_new' (Kd.R_new' (Kd.R_new' (Kd.R_new' (Kd.R_new' (Kd.R_new' ho0 (Kd.R_lt q72t)) (Kd.R_lt q74t)) (Kd.R_lt q75t)) (Kd.R_lt q77t)) (Kd.R_lt q78t)) (Kd.R_lt q80t)) (Kd.R_lt q81t)) (Kd.R_lt q83t)) (Kd.R_lt q108t)) (Kd.R_lt q110t)) (below_size q47t))
      have fd := am (Kd.R_lower (Kd.R_newB (Kd.R_new' (Kd.R_new' (Kd.R_new' (Kd.R_new' (Kd.R_new' ho1 (Kd.R_lt q73t)) (Kd.R_lt q76t)) (Kd.R_lt q79t)) (Kd.R_lt q82t)) (Kd.R_lt q109t)) (qbk aA)) (below_size q47t))
      replace bw := am (Kd.R_elder' q73t (Kd.R_base ho1) hb)
      replace bM := am (Kd.R_elder' q76t (Kd.R_base ho1) hb)
      replace bP := am (Kd.R_elder' q79t (Kd.R_base ho1) hb)
      replace bS := am (Kd.R_elder' q82t (Kd.R_base ho1) hb)
      replace el := am (Kd.R_elder' q109t (Kd.R_base ho1) hb)
      have fe := am (Kd.R_lower (Kd.R_new' (Kd.R_new' (Kd.R_new' (Kd.R_new' (Kd.R_new' (Kd.R_new' (Kd.R_new' (Kd.R_new' (Kd.R_new' (Kd.R_new' ho2 (Kd.R_lt q72t)) (Kd.R_lt q74t)) (Kd.R_lt q75t)) (Kd.R_lt q77t)) (Kd.R_lt q78t)) (Kd.R_lt q80t)) (Kd.R_lt q81t)) (Kd.R_lt q83t)) (Kd.R_lt q108t)) (Kd.R_lt q110t)) (below_size q47t))
      replace bv := am (Kd.R_mono (Kd.R_told (Kd.R_told (Kd.R_old q72t hb) (Kd.R_base ho0)) (Kd.R_base ho2)) (fun _ h_ => h_.1))
      replace bx := am (Kd.R_mono (Kd.R_told (Kd.R_told (Kd.R_old q74t hb) (Kd.R_base ho0)) (Kd.R_base ho2)) (fun _ h_ => h_.1))
      replace bL := am (Kd.R_mono (Kd.R_told (Kd.R_told (Kd.R_old q75t hb) (Kd.R_base ho0)) (Kd.R_base ho2)) (fun _ h_ => h_.1))
      replace bN := am (Kd.R_mono (Kd.R_told (Kd.R_told (Kd.R_old q77t hb) (Kd.R_base ho0)) (Kd.R_base ho2)) (fun _ h_ => h_.1))
      replace bO := am (Kd.R_mono (Kd.R_told (Kd.R_told (Kd.R_old q78t hb) (Kd.R_base ho0)) (Kd.R_base ho2)) (fun _ h_ => h_.1))
      replace bQ := am (Kd.R_mono (Kd.R_told (Kd.R_told (Kd.R_old q80t hb) (Kd.R_base ho0)) (Kd.R_base ho2)) (fun _ h_ => h_.1))
      replace bR := am (Kd.R_mono (Kd.R_told (Kd.R_told (Kd.R_old q81t hb) (Kd.R_base ho0)) (Kd.R_base ho2)) (fun _ h_ => h_.1))
      replace bT := am (Kd.R_mono (Kd.R_told (Kd.R_told (Kd.R_old q83t hb) (Kd.R_base ho0)) (Kd.R_base ho2)) (fun _ h_ => h_.1))
      replace ek := am (Kd.R_mono (Kd.R_told (Kd.R_told (Kd.R_old q108t hb) (Kd.R_base ho0)) (Kd.R_base ho2)) (fun _ h_ => h_.1))
      replace em := am (Kd.R_mono (Kd.R_told (Kd.R_told (Kd.R_old q110t hb) (Kd.R_base ho0)) (Kd.R_base ho2)) (fun _ h_ => h_.1))
      replace ay := blb ay hb
      replace aw := blb aw hb
      replace az := blb az hb
      replace aA := blb aA hb
      replace aD := blb aD hb
      replace aE := blb aE hb
      replace aI := blb aI hb
      replace HB := am (below_step q47t hb)
      (try clear hb)
      (try clear hb2)
      (try clear hk)
      (try clear hi)
      (try clear ho0)
      (try clear ho1)
      (try clear ho2)
      obtain ⟨Og, Oh, FR⟩ := Kd.R_slice fc.out
      (first | subst FR | (injection FR with f1_ f2_ f3_; have f4_ := f1_.symm; have f5_ := f3_.symm; clear f1_ f2_ f3_; subst f4_; subst f5_))
      obtain ⟨Oi, Oj, FS⟩ := Kd.R_slice fd.out
      (first | subst FS | (injection FS with f1_ f2_ f3_; have f4_ := f1_.symm; have f5_ := f3_.symm; clear f1_ f2_ f3_; subst f4_; subst f5_))
      obtain ⟨Ok, Ol, FT⟩ := Kd.R_slice fe.out
      (first | subst FT | (injection FT with f1_ f2_ f3_; have f4_ := f1_.symm; have f5_ := f3_.symm; clear f1_ f2_ f3_; subst f4_; subst f5_))
      refine hK.out _ _ q2t (fun hHeld => ?_)
      clear hK K
      refine norm_ (a' := ?_) ?_ ?_
      rotate_left
      ·show Act.put _ (some 123) _ = _
       simp only [Act.put, List.setIfInBounds_toArray, List.set_cons_zero, List.set_cons_succ, i64_w, i32_w]
       rfl
      refine one_ (i := 5) (N := some 124) (bm 23 63) rfl rfl (one_of HT_.out (by kernel_rfl)) q125t (fun K hK => ?_)
      refine goes_ Tryd.func13 (by kernel_rfl) rfl #[.agg #[m0, m2, m3, m4, m5, m6, m7, m8, .slice Og m9.length Oh, na, nb, .slice Oi nc.length Oj, .slice Ok nf.length Ol]] q127t rfl rfl q66t ?_
      with_reducible refine (impl_Bare.calls kj99 m0 m2 m3 m4 m5 m6 m7 m8 _ _ m9 na nb _ _ nc _ _ nf true _ ?side1 ?side2 ?side3 ?side4 ?side5 ?side6 AI.out).mono ?_
      (case side1 => repeat (first | exact (Kd.R_reads' fc.out).2.2 | (with_reducible refine Kd.C_alloc ?_ _) | (with_reducible refine Kd.C_drewN ?_ _) | (with_reducible refine Kd.C_drew ?_)))
      (case side2 => exact (Kd.R_reads' fc.out).2.1)
      (case side3 => repeat (first | exact (Kd.R_reads' fd.out).2.2 | (with_reducible refine Kd.C_alloc ?_ _) | (with_reducible refine Kd.C_drewN ?_ _) | (with_reducible refine Kd.C_drew ?_)))
      (case side4 => exact (Kd.R_reads' fd.out).2.1)
      (case side5 => repeat (first | exact (Kd.R_reads' fe.out).2.2 | (with_reducible refine Kd.C_alloc ?_ _) | (with_reducible refine Kd.C_drewN ?_ _) | (with_reducible refine Kd.C_drew ?_)))
      (case side6 => exact (Kd.R_reads' fe.out).2.1)
      rintro e w157 ⟨rfl, hb⟩
      refine ⟨_, rfl, ?_⟩
      replace bv := am (Kd.R_below q72t hb)
      replace bw := am (Kd.R_below q73t hb)
      replace bx := am (Kd.R_below q74t hb)
      replace bL := am (Kd.R_below q75t hb)
      replace bM := am (Kd.R_below q76t hb)
      replace bN := am (Kd.R_below q77t hb)
      replace bO := am (Kd.R_below q78t hb)
      replace bP := am (Kd.R_below q79t hb)
      replace bQ := am (Kd.R_below q80t hb)
      replace bR := am (Kd.R_below q81t hb)
      replace bS := am (Kd.R_below q82t hb)
      replace bT := am (Kd.R_below q83t hb)
      replace ek := am (Kd.R_below q108t hb)
      replace el := am (Kd.R_below q109t hb)
      replace em := am (Kd.R_below q110t hb)
      replace fc := am (Kd.R_below q111t hb)
      replace fd := am (Kd.R_below q112t hb)
      replace fe := am (Kd.R_below q113t hb)
      replace ay := blb ay hb
      replace aw := blb aw hb
      replace az := blb az hb
      replace aA := blb aA hb
      replace aD := blb aD hb
      replace aE := blb aE hb
      replace aI := blb aI hb
      replace HB := am (below_step q47t hb)
      (try clear hb)
      (try clear hb2)
      (try clear hk)
      (try clear hi)
      refine hK.out _ _ q2t (fun hHeld => ?_)
      clear hK K
      refine norm_ (a' := ?_) ?_ ?_
      rotate_left
      ·show Act.put _ (some 124) _ = _
       simp only [Act.put, List.setIfInBounds_toArray, List.set_cons_zero, List.set_cons_succ, i64_w, i32_w]
       rfl
      refine pv_ 6 125 (bm 23 127) ?_
      refine pv_ 7 126 (bm 23 255) ?_
      refine tv_ 8 127 (bm 23 511) ?_
      refine tv_ 9 128 (bm 23 1023) ?_
      refine one_ (i := 10) (N := some 129) (bm 23 2047) rfl rfl (one_of HT_.out (by kernel_rfl)) q125t (fun K hK => ?_)
      refine goes_ Tryd.func9 (by kernel_rfl) rfl #[.agg #[dN, dO, dP, dQ, dR, dS], .agg #[dH, eu, ev, ew, ex, ey, ez, eA, .slice cz bJ.length cA, eB, eC, .slice dF cv.length dG, .slice bz bK.length bA]] q127t rfl rfl q66t ?_
      with_reducible refine (impl_NodeOk.calls kj99 dN dO dP dQ dR dS dH eu ev ew ex ey ez eA _ _ bJ eB eC _ _ cv _ _ bK true _ ?side1 ?side2 ?side3 ?side4 ?side5 ?side6 AJ.out).mono ?_
      (case side1 => repeat (first | exact (Kd.R_reads' bv.out).2.2 | (with_reducible refine Kd.C_alloc ?_ _) | (with_reducible refine Kd.C_drewN ?_ _) | (with_reducible refine Kd.C_drew ?_)))
      (case side2 => exact (Kd.R_reads' bv.out).2.1)
      (case side3 => repeat (first | exact (Kd.R_reads' bw.out).2.2 | (with_reducible refine Kd.C_alloc ?_ _) | (with_reducible refine Kd.C_drewN ?_ _) | (with_reducible refine Kd.C_drew ?_)))
      (case side4 => exact (Kd.R_reads' bw.out).2.1)
      (case side5 => repeat (first | exact (Kd.R_reads' bx.out).2.2 | (with_reducible refine Kd.C_alloc ?_ _) | (with_reducible refine Kd.C_drewN ?_ _) | (with_reducible refine Kd.C_drew ?_)))
      (case side6 => exact (Kd.R_reads' bx.out).2.1)
      rintro e w158 ⟨rfl, hb⟩
      refine ⟨_, rfl, ?_⟩
      replace bv := am (Kd.R_below q72t hb)
      replace bw := am (Kd.R_below q73t hb)
      replace bx := am (Kd.R_below q74t hb)
      replace bL := am (Kd.R_below q75t hb)
      replace bM := am (Kd.R_below q76t hb)
      replace bN := am (Kd.R_below q77t hb)
      replace bO := am (Kd.R_below q78t hb)
      replace bP := am (Kd.R_below q79t hb)
      replace bQ := am (Kd.R_below q80t hb)
      replace bR := am (Kd.R_below q81t hb)
      replace bS := am (Kd.R_below q82t hb)
      replace bT := am (Kd.R_below q83t hb)
      replace ek := am (Kd.R_below q108t hb)
      replace el := am (Kd.R_below q109t hb)
      replace em := am (Kd.R_below q110t hb)
      replace fc := am (Kd.R_below q111t hb)
      replace fd := am (Kd.R_below q112t hb)
      replace fe := am (Kd.R_below q113t hb)
      replace ay := blb ay hb
      replace aw := blb aw hb
      replace az := blb az hb
      replace aA := blb aA hb
      replace aD := blb aD hb
      replace aE := blb aE hb
      replace aI := blb aI hb
      replace HB := am (below_step q47t hb)
      (try clear hb)
      (try clear hb2)
      (try clear hk)
      (try clear hi)
      refine hK.out _ _ q2t (fun hHeld => ?_)
      clear hK K
      refine norm_ (a' := ?_) ?_ ?_
      rotate_left
      ·show Act.put _ (some 129) _ = _
       simp only [Act.put, List.setIfInBounds_toArray, List.set_cons_zero, List.set_cons_succ, i64_w, i32_w]
       rfl
      refine pv_ 11 130 (bm 23 4095) ?_
      refine pv_ 12 131 (bm 23 8191) ?_
      refine pv_ 13 132 (bm 23 16383) ?_
      refine tv_ 14 133 (bm 23 32767) ?_
      refine pv_ 15 134 (bm 23 65535) ?_
      refine pv_ 16 135 (bm 23 131071) ?_
      refine pv_ 17 136 (bm 23 262143) ?_
      refine tv_ 18 137 (bm 23 524287) ?_
      refine one_ (i := 19) (N := some 138) (bm 23 1048575) rfl rfl (one_of HT_.out (by kernel_rfl)) q125t (fun K hK => ?_)
      refine goes_ Tryd.func13 (by kernel_rfl) rfl #[.agg #[dH, eu, ev, ew, ex, ey, ez, eA, .slice cz bJ.length cA, eB, eC, .slice dF cv.length dG, .slice bz bK.length bA]] q127t rfl rfl q66t ?_
      with_reducible refine (impl_Bare.calls kj99 dH eu ev ew ex ey ez eA _ _ bJ eB eC _ _ cv _ _ bK Ab _ ?side1 ?side2 ?side3 ?side4 ?side5 ?side6 N9.out).mono ?_
      (case side1 => repeat (first | exact (Kd.R_reads' bv.out).2.2 | (with_reducible refine Kd.C_alloc ?_ _) | (with_reducible refine Kd.C_drewN ?_ _) | (with_reducible refine Kd.C_drew ?_)))
      (case side2 => exact (Kd.R_reads' bv.out).2.1)
      (case side3 => repeat (first | exact (Kd.R_reads' bw.out).2.2 | (with_reducible refine Kd.C_alloc ?_ _) | (with_reducible refine Kd.C_drewN ?_ _) | (with_reducible refine Kd.C_drew ?_)))
      (case side4 => exact (Kd.R_reads' bw.out).2.1)
      (case side5 => repeat (first | exact (Kd.R_reads' bx.out).2.2 | (with_reducible refine Kd.C_alloc ?_ _) | (with_reducible refine Kd.C_drewN ?_ _) | (with_reducible refine Kd.C_drew ?_)))
      (case side6 => exact (Kd.R_reads' bx.out).2.1)
      rintro e w159 ⟨rfl, hb⟩
      refine ⟨_, rfl, ?_⟩
      replace bv := am (Kd.R_below q72t hb)
      replace bw := am (Kd.R_below q73t hb)
      replace bx := am (Kd.R_below q74t hb)
      replace bL := am (Kd.R_below q75t hb)
      replace bM := am (Kd.R_below q76t hb)
      replace bN := am (Kd.R_below q77t hb)
      replace bO := am (Kd.R_below q78t hb)
      replace bP := am (Kd.R_below q79t hb)
      replace bQ := am (Kd.R_below q80t hb)
      replace bR := am (Kd.R_below q81t hb)
      replace bS := am (Kd.R_below q82t hb)
      replace bT := am (Kd.R_below q83t hb)
      replace ek := am (Kd.R_below q108t hb)
      replace el := am (Kd.R_below q109t hb)
      replace em := am (Kd.R_below q110t hb)
      replace fc := am (Kd.R_below q111t hb)
      replace fd := am (Kd.R_below q112t hb)
      replace fe := am (Kd.R_below q113t hb)
      replace ay := blb ay hb
      replace aw := blb aw hb
      replace az := blb az hb
      replace aA := blb aA hb
      replace aD := blb aD hb
      replace aE := blb aE hb
      replace aI := blb aI hb
      replace HB := am (below_step q47t hb)
      (try clear hb)
      (try clear hb2)
      (try clear hk)
      (try clear hi)
      refine hK.out _ _ q2t (fun hHeld => ?_)
      clear hK K
      refine norm_ (a' := ?_) ?_ ?_
      rotate_left
      ·show Act.put _ (some 138) _ = _
       simp only [Act.put, List.setIfInBounds_toArray, List.set_cons_zero, List.set_cons_succ, i64_w, i32_w]
       rfl
      refine pv_ 20 139 (bm 23 2097151) ?_
      refine pv_ 21 140 (bm 23 4194303) ?_
      refine pv_ 22 2 (bm 23 8388607) ?_
      refine done_ (done_of HT_.out (by kernel_rfl)) ?_
      try go_wp2
      go_ret
      exact ⟨q114t, q47t⟩
     replace c132 := Bool.eq_false_iff.mpr c132
     subst c132
     rw [if_neg (show ¬ (false = true) by decide)] at H
     obtain rfl := Option.some.inj H
     try go_wp2
     replace bv := am (Kd.R_drew bv.out)
     replace bw := am (Kd.R_drew bw.out)
     replace bx := am (Kd.R_drew bx.out)
     replace bL := am (Kd.R_drew bL.out)
     replace bM := am (Kd.R_drew bM.out)
     replace bN := am (Kd.R_drew bN.out)
     replace bO := am (Kd.R_drew bO.out)
     replace bP := am (Kd.R_drew bP.out)
     replace bQ := am (Kd.R_drew bQ.out)
     replace bR := am (Kd.R_drew bR.out)
     replace bS := am (Kd.R_drew bS.out)
     replace bT := am (Kd.R_drew bT.out)
     replace ay := am (blk_drew ay.out)
     replace aw := am (blk_drew aw.out)
     replace az := am (blk_drew az.out)
     replace aA := am (blk_drew aA.out)
     replace aD := am (blk_drew aD.out)
     replace aE := am (blk_drew aE.out)
     replace aI := am (blk_drew aI.out)
     replace HB := am (below_drew1 HB.out)
     refine start_ (n := 23) (S := fun w' => w'.cell? ⟨cb, 0, none⟩ = some (.int .i64 dN) ∧ w'.cell? ⟨cb, 1, none⟩ = some (.int .i64 dO) ∧ w'.cell? ⟨cb, 2, none⟩ = some (.int .i64 dP) ∧ w'.cell? ⟨cb, 3, none⟩ = some (.int .i64 dQ) ∧ w'.cell? ⟨cb, 4, none⟩ = some (.int .i64 dR) ∧ w'.cell? ⟨cb, 5, none⟩ = some (.int .i64 dS) ∧ w'.cell? ⟨bg, 0, none⟩ = some (.int .i64 dH) ∧ w'.cell? ⟨bg, 1, none⟩ = some (.int .i64 eu) ∧ w'.cell? ⟨bg, 2, none⟩ = some (.int .i64 ev) ∧ w'.cell? ⟨bg, 3, none⟩ = some (.int .i64 ew) ∧ w'.cell? ⟨bg, 4, none⟩ = some (.int .i64 ex) ∧ w'.cell? ⟨bg, 5, none⟩ = some (.int .i64 ey) ∧ w'.cell? ⟨bg, 6, none⟩ = some (.int .i64 ez) ∧ w'.cell? ⟨bg, 7, none⟩ = some (.int .i64 eA) ∧ w'.cell? ⟨bg, 8, none⟩ = some (.slice cz bJ.length cA) ∧ w'.cell? ⟨bg, 9, none⟩ = some (.int .i64 eB) ∧ w'.cell? ⟨bg, 10, none⟩ = some (.int .i64 eC) ∧ w'.cell? ⟨bg, 11, none⟩ = some (.slice dF cv.length dG) ∧ w'.cell? ⟨bg, 12, none⟩ = some (.slice bz bK.length bA)) (ds := []) (bm 23 0) (by kernel_rfl) rfl (by kernel_rfl) qst (fun hHeld => ?_); refine with_tabW laws_FnNodes.tab11 laws_FnNodes.bits11 (fun HT_ HW_ => ?_)
     generalize wc.drew = w160 at bv bw bx bL bM bN bO bP bQ bR bS bT ay aw az aA aD aE aI HB hHeld ⊢
     refine tv_ 0 119 (bm 23 1) ?_
     refine one_ (i := 1) (N := some 120) (bm 23 3) rfl rfl (one_of HT_.out (by kernel_rfl)) q125t (fun K hK => ?_)
     refine goes_ Tryd.func19 (by kernel_rfl) rfl #[.int .i64 1] q127t rfl rfl q66t ?_
     with_reducible refine (impl_NodeNew.calls 1 mN mO mP mQ mR mS mT mU mV mW mX mY mZ _ AF.out).mono ?_
     rintro e w161 ⟨v867, v872, v875, rfl, ho0, ho1, ho2, hb⟩
     refine ⟨_, rfl, ?_⟩
     have ek := am (Kd.R_lower (Kd.R_new' (Kd.R_new' (Kd.R_new' (Kd.R_new' (Kd.R_new' (Kd.R_new' (Kd.R_new' (Kd.R_new' ho0 (Kd.R_lt q72t)) (Kd.R_lt q74t)) (Kd.R_lt q75t)) (Kd.R_lt q77t)) (Kd.R_lt q78t)) (Kd.R_lt q80t)) (Kd.R_lt q81t)) (Kd.R_lt q83t)) (below_size q47t))
     have el := am (Kd.R_lower (Kd.R_newB (Kd.R_new' (Kd.R_new' (Kd.R_new' (Kd.R_new' ho1 (Kd.R_lt q73t)) (Kd.R_lt q76t)) (Kd.R_lt q79t)) (Kd.R_lt q82t)) (qbk aA)) (below_size q47t))
     replace bw := am (Kd.R_elder' q73t (Kd.R_base ho1) hb)
     replace bM := am (Kd.R_elder' q76t (Kd.R_base ho1) hb)
     replace bP := am (Kd.R_elder' q79t (Kd.R_base ho1) hb)
     replace bS := am (Kd.R_elder' q82t (Kd.R_base ho1) hb)
     have em := am (Kd.R_lower (Kd.R_new' (Kd.R_new' (Kd.R_new' (Kd.R_new' (Kd.R_new' (Kd.R_new' (Kd.R_new' (Kd.R_new' ho2 (Kd.R_lt q72t)) (Kd.R_lt q74t)) (Kd.R_lt q75t)) (Kd.R_lt q77t)) (Kd.R_lt q78t)) (Kd.R_lt q80t)) (Kd.R_lt q81t)) (Kd.R_lt q83t)) (below_size q47t))
     replace bv := am (Kd.R_mono (Kd.R_told (Kd.R_told (Kd.R_old q72t hb) (Kd.R_base ho0)) (Kd.R_base ho2)) (fun _ h_ => h_.1))
     replace bx := am (Kd.R_mono (Kd.R_told (Kd.R_told (Kd.R_old q74t hb) (Kd.R_base ho0)) (Kd.R_base ho2)) (fun _ h_ => h_.1))
     replace bL := am (Kd.R_mono (Kd.R_told (Kd.R_told (Kd.R_old q75t hb) (Kd.R_base ho0)) (Kd.R_base ho2)) (fun _ h_ => h_.1))
     replace bN := am (Kd.R_mono (Kd.R_told (Kd.R_told (Kd.R_old q77t hb) (Kd.R_base ho0)) (Kd.R_base ho2)) (fun _ h_ => h_.1))
     replace bO := am (Kd.R_mono (Kd.R_told (Kd.R_told (Kd.R_old q78t hb) (Kd.R_base ho0)) (Kd.R_base ho2)) (fun _ h_ => h_.1))
     replace bQ := am (Kd.R_mono (Kd.R_told (Kd.R_told (Kd.R_old q80t hb) (Kd.R_base ho0)) (Kd.R_base ho2)) (fun _ h_ => h_.1))
     replace bR := am (Kd.R_mono (Kd.R_told (Kd.R_told (Kd.R_old q81t hb) (Kd.R_base ho0)) (Kd.R_base ho2)) (fun _ h_ => h_.1))
     replace bT := am (Kd.R_mono (Kd.R_told (Kd.R_told (Kd.R_old q83t hb) (Kd.R_base ho0)) (Kd.R_base ho2)) (fun _ h_ => h_.1))
     replace ay := blb ay hb
     replace aw := blb aw hb
     replace az := blb az hb
     replace aA := blb aA hb
     replace aD := blb aD hb
     replace aE := blb aE hb
     replace aI := blb aI hb
     replace HB := am (below_step q47t hb)
     (try clear hb)
     (try clear hb2)
     (try clear hk)
     (try clear hi)
     (try clear ho0)
     (try clear ho1)
     (try clear ho2)
     obtain ⟨Om, On, FU⟩ := Kd.R_slice ek.out
     (first | subst FU | (injection FU with f1_ f2_ f3_; have f4_ := f1_.symm; have f5_ := f3_.symm; clear f1_ f2_ f3_; subst f4_; subst f5_))
     obtain ⟨Oo, Oq, FV⟩ := Kd.R_slice el.out
     (first | subst FV | (injection FV with f1_ f2_ f3_; have f4_ := f1_.symm; have f5_ := f3_.symm; clear f1_ f2_ f3_; subst f4_; subst f5_))
     obtain ⟨Os, Ot, FW⟩ := Kd.R_slice em.out
     (first | subst FW | (injection FW with f1_ f2_ f3_; have f4_ := f1_.symm; have f5_ := f3_.symm; clear f1_ f2_ f3_; subst f4_; subst f5_))
     refine hK.out _ _ q2t (fun hHeld => ?_)
     clear hK K
     refine norm_ (a' := ?_) ?_ ?_
     rotate_left
     ·show Act.put _ (some 120) _ = _
      simp only [Act.put, List.setIfInBounds_toArray, List.set_cons_zero, List.set_cons_succ, i64_w, i32_w]
      rfl
     refine one_ (i := 2) (N := some 121) (bm 23 7) rfl rfl (one_of HT_.out (by kernel_rfl)) q125t (fun K hK => ?_)
     refine goes_ Tryd.func9 (by kernel_rfl) rfl #[.agg #[dN, dO, dP, dQ, dR, dS], .agg #[mN, mO, mP, mQ, mR, mS, mT, mU, .slice Om mV.length On, mW, mX, .slice Oo mY.length Oq, .slice Os mZ.length Ot]] q127t rfl rfl q66t ?_
     with_reducible refine (impl_NodeOk.calls kj99 dN dO dP dQ dR dS mN mO mP mQ mR mS mT mU _ _ mV mW mX _ _ mY _ _ mZ true _ ?side1 ?side2 ?side3 ?side4 ?side5 ?side6 AG.out).mono ?_
     (case side1 => repeat (first | exact (Kd.R_reads' ek.out).2.2 | (with_reducible refine Kd.C_alloc ?_ _) | (with_reducible refine Kd.C_drewN ?_ _) | (with_reducible refine Kd.C_drew ?_)))
     (case side2 => exact (Kd.R_reads' ek.out).2.1)
     (case side3 => repeat (first | exact (Kd.R_reads' el.out).2.2 | (with_reducible refine Kd.C_alloc ?_ _) | (with_reducible refine Kd.C_drewN ?_ _) | (with_reducible refine Kd.C_drew ?_)))
     (case side4 => exact (Kd.R_reads' el.out).2.1)
     (case side5 => repeat (first | exact (Kd.R_reads' em.out).2.2 | (with_reducible refine Kd.C_alloc ?_ _) | (with_reducible refine Kd.C_drewN ?_ _) | (with_reducible refine Kd.C_drew ?_)))
     (case side6 => exact (Kd.R_reads' em.out).2.1)
     rintro e w165 ⟨rfl, hb⟩
     refine ⟨_, rfl, ?_⟩
     replace bv := am (Kd.R_below q72t hb)
     replace bw := am (Kd.R_below q73t hb)
     replace bx := am (Kd.R_below q74t hb)
     replace bL := am (Kd.R_below q75t hb)
     replace bM := am (Kd.R_below q76t hb)
     replace bN := am (Kd.R_below q77t hb)
     replace bO := am (Kd.R_below q78t hb)
     replace bP := am (Kd.R_below q79t hb)
     replace bQ := am (Kd.R_below q80t hb)
     replace bR := am (Kd.R_below q81t hb)
     replace bS := am (Kd.R_below q82t hb)
     replace bT := am (Kd.R_below q83t hb)
     replace ek := am (Kd.R_below q108t hb)
     replace el := am (Kd.R_below q109t hb)
     replace em := am (Kd.R_below q110t hb)
     replace ay := blb ay hb
     replace aw := blb aw hb
     replace az := blb az hb
     replace aA := blb aA hb
     replace aD := blb aD hb
     replace aE := blb aE hb
     replace aI := blb aI hb
     replace HB := am (below_step q47t hb)
     (try clear hb)
     (try clear hb2)
     (try clear hk)
     (try clear hi)
     refine hK.out _ _ q2t (fun hHeld => ?_)
     clear hK K
     refine norm_ (a' := ?_) ?_ ?_
     rotate_left
     ·show Act.put _ (some 121) _ = _
      simp only [Act.put, List.setIfInBounds_toArray, List.set_cons_zero, List.set_cons_succ, i64_w, i32_w]
      rfl
     refine pv_ 3 122 (bm 23 15) ?_
     refine one_ (i := 4) (N := some 123) (bm 23 31) rfl rfl (one_of HT_.out (by kernel_rfl)) q125t (fun K hK => ?_)
     refine goes_ Tryd.func19 (by kernel_rfl) rfl #[.int .i64 1] q127t rfl rfl q66t ?_
     with_reducible refine (impl_NodeNew.calls 1 m0 m2 m3 m4 m5 m6 m7 m8 m9 na nb nc nf _ AH.out).mono ?_
     rintro e w166 ⟨v887, v892, v895, rfl, ho0, ho1, ho2, hb⟩
     refine ⟨_, rfl, ?_⟩
     have fc := am (Kd.R_lower (Kd.R_new' (Kd.R_new' (Kd.R_new' (Kd.R_new' (Kd.R_new' (Kd.R_new' (Kd.R_new' (Kd.R_new' (Kd.R_new' (Kd.R_new' ho0 (Kd.R_lt q72t)) (Kd.R_lt q74t)) (Kd.R_lt q75t)) (Kd.R_lt q77t)) (Kd.R_lt q78t)) (Kd.R_lt q80t)) (Kd.R_lt q81t)) (Kd.R_lt q83t)) (Kd.R_lt q108t)) (Kd.R_lt q110t)) (below_size q47t))
     have fd := am (Kd.R_lower (Kd.R_newB (Kd.R_new' (Kd.R_new' (Kd.R_new' (Kd.R_new' (Kd.R_new' ho1 (Kd.R_lt q73t)) (Kd.R_lt q76t)) (Kd.R_lt q79t)) (Kd.R_lt q82t)) (Kd.R_lt q109t)) (qbk aA)) (below_size q47t))
     replace bw := am (Kd.R_elder' q73t (Kd.R_base ho1) hb)
     replace bM := am (Kd.R_elder' q76t (Kd.R_base ho1) hb)
     replace bP := am (Kd.R_elder' q79t (Kd.R_base ho1) hb)
     replace bS := am (Kd.R_elder' q82t (Kd.R_base ho1) hb)
     replace el := am (Kd.R_elder' q109t (Kd.R_base ho1) hb)
     have fe := am (Kd.R_lower (Kd.R_new' (Kd.R_new' (Kd.R_new' (Kd.R_new' (Kd.R_new' (Kd.R_new' (Kd.R_new' (Kd.R_new' (Kd.R_new' (Kd.R_new' ho2 (Kd.R_lt q72t)) (Kd.R_lt q74t)) (Kd.R_lt q75t)) (Kd.R_lt q77t)) (Kd.R_lt q78t)) (Kd.R_lt q80t)) (Kd.R_lt q81t)) (Kd.R_lt q83t)) (Kd.R_lt q108t)) (Kd.R_lt q110t)) (below_size q47t))
     replace bv := am (Kd.R_mono (Kd.R_told (Kd.R_told (Kd.R_old q72t hb) (Kd.R_base ho0)) (Kd.R_base ho2)) (fun _ h_ => h_.1))
     replace bx := am (Kd.R_mono (Kd.R_told (Kd.R_told (Kd.R_old q74t hb) (Kd.R_base ho0)) (Kd.R_base ho2)) (fun _ h_ => h_.1))
     replace bL := am (Kd.R_mono (Kd.R_told (Kd.R_told (Kd.R_old q75t hb) (Kd.R_base ho0)) (Kd.R_base ho2)) (fun _ h_ => h_.1))
     replace bN := am (Kd.R_mono (Kd.R_told (Kd.R_told (Kd.R_old q77t hb) (Kd.R_base ho0)) (Kd.R_base ho2)) (fun _ h_ => h_.1))
     replace bO := am (Kd.R_mono (Kd.R_told (Kd.R_told (Kd.R_old q78t hb) (Kd.R_base ho0)) (Kd.R_base ho2)) (fun _ h_ => h_.1))
     replace bQ := am (Kd.R_mono (Kd.R_told (Kd.R_told (Kd.R_old q80t hb) (Kd.R_base ho0)) (Kd.R_base ho2)) (fun _ h_ => h_.1))
     replace bR := am (Kd.R_mono (Kd.R_told (Kd.R_told (Kd.R_old q81t hb) (Kd.R_base ho0)) (Kd.R_base ho2)) (fun _ h_ => h_.1))
     replace bT := am (Kd.R_mono (Kd.R_told (Kd.R_told (Kd.R_old q83t hb) (Kd.R_base ho0)) (Kd.R_base ho2)) (fun _ h_ => h_.1))
     replace ek := am (Kd.R_mono (Kd.R_told (Kd.R_told (Kd.R_old q108t hb) (Kd.R_base ho0)) (Kd.R_base ho2)) (fun _ h_ => h_.1))
     replace em := am (Kd.R_mono (Kd.R_told (Kd.R_told (Kd.R_old q110t hb) (Kd.R_base ho0)) (Kd.R_base ho2)) (fun _ h_ => h_.1))
     replace ay := blb ay hb
     replace aw := blb aw hb
     replace az := blb az hb
     replace aA := blb aA hb
     replace aD := blb aD hb
     replace aE := blb aE hb
     replace aI := blb aI hb
     replace HB := am (below_step q47t hb)
     (try clear hb)
     (try clear hb2)
     (try clear hk)
     (try clear hi)
     (try clear ho0)
     (try clear ho1)
     (try clear ho2)
     obtain ⟨Ou, Ov, FX⟩ := Kd.R_slice fc.out
     (first | subst FX | (injection FX with f1_ f2_ f3_; have f4_ := f1_.symm; have f5_ := f3_.symm; clear f1_ f2_ f3_; subst f4_; subst f5_))
     obtain ⟨Ow, Ox, FY⟩ := Kd.R_slice fd.out
     (first | subst FY | (injection FY with f1_ f2_ f3_; have f4_ := f1_.symm; have f5_ := f3_.symm; clear f1_ f2_ f3_; subst f4_; subst f5_))
     obtain ⟨Oy, Oz, FZ⟩ := Kd.R_slice fe.out
     (first | subst FZ | (injection FZ with f1_ f2_ f3_; have f4_ := f1_.symm; have f5_ := f3_.symm; clear f1_ f2_ f3_; subst f4_; subst f5_))
     refine hK.out _ _ q2t (fun hHeld => ?_)
     clear hK K
     refine norm_ (a' := ?_) ?_ ?_
     rotate_left
     ·show Act.put _ (some 123) _ = _
      simp only [Act.put, List.setIfInBounds_toArray, List.set_cons_zero, List.set_cons_succ, i64_w, i32_w]
      rfl
     refine one_ (i := 5) (N := some 124) (bm 23 63) rfl rfl (one_of HT_.out (by kernel_rfl)) q125t (fun K hK => ?_)
     refine goes_ Tryd.func13 (by kernel_rfl) rfl #[.agg #[m0, m2, m3, m4, m5, m6, m7, m8, .slice Ou m9.length Ov, na, nb, .slice Ow nc.length Ox, .slice Oy nf.length Oz]] q127t rfl rfl q66t ?_
     with_reducible refine (impl_Bare.calls kj99 m0 m2 m3 m4 m5 m6 m7 m8 _ _ m9 na nb _ _ nc _ _ nf true _ ?side1 ?side2 ?side3 ?side4 ?side5 ?side6 AI.out).mono ?_
     (case side1 => repeat (first | exact (Kd.R_reads' fc.out).2.2 | (with_reducible refine Kd.C_alloc ?_ _) | (with_reducible refine Kd.C_drewN ?_ _) | (with_reducible refine Kd.C_drew ?_)))
     (case side2 => exact (Kd.R_reads' fc.out).2.1)
     (case side3 => repeat (first | exact (Kd.R_reads' fd.out).2.2 | (with_reducible refine Kd.C_alloc ?_ _) | (with_reducible refine Kd.C_drewN ?_ _) | (with_reducible refine Kd.C_drew ?_)))
     (case side4 => exact (Kd.R_reads' fd.out).2.1)
     (case side5 => repeat (first | exact (Kd.R_reads' fe.out).2.2 | (with_reducible refine Kd.C_alloc ?_ _) | (with_reducible refine Kd.C_drewN ?_ _) | (with_reducible refine Kd.C_drew ?_)))
     (case side6 => exact (Kd.R_reads' fe.out).2.1)
     rintro e w170 ⟨rfl, hb⟩
     refine ⟨_, rfl, ?_⟩
     replace bv := am (Kd.R_below q72t hb)
     replace bw := am (Kd.R_below q73t hb)
     replace bx := am (Kd.R_below q74t hb)
     replace bL := am (Kd.R_below q75t hb)
     replace bM := am (Kd.R_below q76t hb)
     replace bN := am (Kd.R_below q77t hb)
     replace bO := am (Kd.R_below q78t hb)
     replace bP := am (Kd.R_below q79t hb)
     replace bQ := am (Kd.R_below q80t hb)
     replace bR := am (Kd.R_below q81t hb)
     replace bS := am (Kd.R_below q82t hb)
     replace bT := am (Kd.R_below q83t hb)
     replace ek := am (Kd.R_below q108t hb)
     replace el := am (Kd.R_below q109t hb)
     replace em := am (Kd.R_below q110t hb)
     replace fc := am (Kd.R_below q111t hb)
     replace fd := am (Kd.R_below q112t hb)
     replace fe := am (Kd.R_below q113t hb)
     replace ay := blb ay hb
     replace aw := blb aw hb
     replace az := blb az hb
     replace aA := blb aA hb
     replace aD := blb aD hb
     replace aE := blb aE hb
     replace aI := blb aI hb
     replace HB := am (below_step q47t hb)
     (try clear hb)
     (try clear hb2)
     (try clear hk)
     (try clear hi)
     refine hK.out _ _ q2t (fun hHeld => ?_)
     clear hK K
     refine norm_ (a' := ?_) ?_ ?_
     rotate_left
     ·show Act.put _ (some 124) _ = _
      simp only [Act.put, List.setIfInBounds_toArray, List.set_cons_zero, List.set_cons_succ, i64_w, i32_w]
      rfl
     refine pv_ 6 125 (bm 23 127) ?_
     refine pv_ 7 126 (bm 23 255) ?_
     refine tv_ 8 127 (bm 23 511) ?_
     refine tv_ 9 128 (bm 23 1023) ?_
     refine one_ (i := 10) (N := some 129) (bm 23 2047) rfl rfl (one_of HT_.out (by kernel_rfl)) q125t (fun K hK => ?_)
     refine goes_ Tryd.func9 (by kernel_rfl) rfl #[.agg #[dN, dO, dP, dQ, dR, dS], .agg #[dH, eu, ev, ew, ex, ey, ez, eA, .slice cz bJ.length cA, eB, eC, .slice dF cv.length dG, .slice bz bK.length bA]] q127t rfl rfl q66t ?_
     with_reducible refine (impl_NodeOk.calls kj99 dN dO dP dQ dR dS dH eu ev ew ex ey ez eA _ _ bJ eB eC _ _ cv _ _ bK false _ ?side1 ?side2 ?side3 ?side4 ?side5 ?side6 AJ.out).mono ?_
     (case side1 => repeat (first | exact (Kd.R_reads' bv.out).2.2 | (with_reducible refine Kd.C_alloc ?_ _) | (with_reducible refine Kd.C_drewN ?_ _) | (with_reducible refine Kd.C_drew ?_)))
     (case side2 => exact (Kd.R_reads' bv.out).2.1)
     (case side3 => repeat (first | exact (Kd.R_reads' bw.out).2.2 | (with_reducible refine Kd.C_alloc ?_ _) | (with_reducible refine Kd.C_drewN ?_ _) | (with_reducible refine Kd.C_drew ?_)))
     (case side4 => exact (Kd.R_reads' bw.out).2.1)
     (case side5 => repeat (first | exact (Kd.R_reads' bx.out).2.2 | (with_reducible refine Kd.C_alloc ?_ _) | (with_reducible refine Kd.C_drewN ?_ _) | (with_reducible refine Kd.C_drew ?_)))
     (case side6 => exact (Kd.R_reads' bx.out).2.1)
     rintro e w171 ⟨rfl, hb⟩
     refine ⟨_, rfl, ?_⟩
     replace bv := am (Kd.R_below q72t hb)
     replace bw := am (Kd.R_below q73t hb)
     replace bx := am (Kd.R_below q74t hb)
     replace bL := am (Kd.R_below q75t hb)
     replace bM := am (Kd.R_below q76t hb)
     replace bN := am (Kd.R_below q77t hb)
     replace bO := am (Kd.R_below q78t hb)
     replace bP := am (Kd.R_below q79t hb)
     replace bQ := am (Kd.R_below q80t hb)
     replace bR := am (Kd.R_below q81t hb)
     replace bS := am (Kd.R_below q82t hb)
     replace bT := am (Kd.R_below q83t hb)
     replace ek := am (Kd.R_below q108t hb)
     replace el := am (Kd.R_below q109t hb)
     replace em := am (Kd.R_below q110t hb)
     replace fc := am (Kd.R_below q111t hb)
     replace fd := am (Kd.R_below q112t hb)
     replace fe := am (Kd.R_below q113t hb)
     replace ay := blb ay hb
     replace aw := blb aw hb
     replace az := blb az hb
     replace aA := blb aA hb
     replace aD := blb aD hb
     replace aE := blb aE hb
     replace aI := blb aI hb
     replace HB := am (below_step q47t hb)
     (try clear hb)
     (try clear hb2)
     (try clear hk)
     (try clear hi)
     refine hK.out _ _ q2t (fun hHeld => ?_)
     clear hK K
     refine norm_ (a' := ?_) ?_ ?_
     rotate_left
     ·show Act.put _ (some 129) _ = _
      simp only [Act.put, List.setIfInBounds_toArray, List.set_cons_zero, List.set_cons_succ, i64_w, i32_w]
      rfl
     refine pv_ 11 130 (bm 23 4095) ?_
     refine pv_ 12 131 (bm 23 8191) ?_
     refine pm_ 13 132 (bm 23 16383) ?_
     refine pm_ 14 133 (bm 23 32767) ?_
     refine pm_ 15 134 (bm 23 65535) ?_
     refine pv_ 16 135 (bm 23 131071) ?_
     refine pv_ 17 136 (bm 23 262143) ?_
     refine pm_ 18 137 (bm 23 524287) ?_
     refine pm_ 19 138 (bm 23 1048575) ?_
     refine pv_ 20 139 (bm 23 2097151) ?_
     refine pv_ 21 140 (bm 23 4194303) ?_
     refine pv_ 22 2 (bm 23 8388607) ?_
     refine done_ (done_of HT_.out (by kernel_rfl)) ?_
     try go_wp2
     go_ret
     exact ⟨q114t, q47t⟩

/-- THE ONE PURE STATEMENT of laws_FnNodes: yours. -/
def laws_FnNodes.Pure : Prop := ∀ (l0 : List Int), l0.length ≤ maxLen → l0.length * 1 ≤ 140737488351232 → (∀ x ∈ l0, (Lit.int .u8 x).wf = true) → ∃ k, laws_FnNodes.f k l0 = some true
theorem laws_FnNodes.walk (P : laws_FnNodes.Pure) (a0 : Option Addr) (len0 cap0 : Nat) (z0 : List Int) (w : World) (w0 : (a0 = none ∧ len0 = 0 ∧ cap0 = 0 ∧ z0 = []) ∨ ∃ x, a0 = some x ∧ len0 ≤ cap0 ∧ cap0 ≤ maxLen ∧ z0.length = cap0 ∧ (∀ i, i < z0.length → w.cell? (x.add i) = some (.int .u8 (z0.getD i 0))) ∧ ∀ n ∈ z0, (Lit.int .u8 n).wf = true) (y0 : len0 * 1 ≤ 140737488351232) (hT : Tb w) :
  Calls Tryd.prog 3 #[.slice a0 len0 cap0] w fun e w' => e = .returned (.bool true) ∧ Below w.heap.size w w' := by
 obtain ⟨l0, rfl, hr0, hm0, hw0, hc0⟩ := ReadsInt.ofRowC w0
 obtain ⟨k, h⟩ := P l0 hm0 y0 hw0
 refine (laws_FnNodes.calls k _ _ l0 true w (Kd.C_of_reads (d := (0 : Int)) (h1 := fun _ => rfl) hr0) hc0 h hT).mono ?_
 rintro e w' ⟨rfl, hd⟩
 exact ⟨rfl, hd⟩

end Go.Proofs.YtofpmdgndegalacDoor.QFnNodes
