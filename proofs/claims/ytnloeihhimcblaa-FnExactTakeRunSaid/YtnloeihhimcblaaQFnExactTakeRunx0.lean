/- What the functions that the law FnExactTakeRun reaches compute, as plain functions, and that the code computes just that (by a program of this session's; the library's functions by hand). No condition. -/
import Derived.Test.YtnloeihhimcblaaProg
import Derived.Below
import Derived.Deep.Draws
import Derived.Deep.AppendLies
import Derived.Maps.AppendAt
import Derived.OwnWalk
import Derived.Laws.BytesArg
import Derived.Laws.MakeOwn
import Derived.Laws.OwnMore
import Derived.Deep.OwnRows
import Derived.Tactics
import Derived.Lib.ConvBytes
import Derived.Laws.Slices
import Derived.WalkKit
import Derived.KernelRfl
import Derived.RowKit3
import Derived.Deep.LoopGhost
import Derived.Deep.QuietTactic
import Derived.BigQuiet
import Derived.WideLaws
import Derived.Deep.DeepCutAuto
import Derived.Deep.CutBlock
import Derived.Deep.RegionHeld3
import Derived.Laws.Rows
import Derived.Lib.AppendStr
import Derived.ArgAppend
import Derived.Laws.IdiomCopy
import Derived.OrdersHeld
import Derived.Laws.BitsLemmas
import Derived.RowKit
import Derived.Lib.SliceRun
import Derived.Laws.CopyOwn
import Derived.Test.YtnloeihhimcblaaWWords
import Derived.Test.YtnloeihhimcblaaWLast
import Derived.Test.YtnloeihhimcblaaWTab
import Derived.Test.YtnloeihhimcblaaWFour
import Derived.Test.YtnloeihhimcblaaWQPut
import Derived.Test.YtnloeihhimcblaaWApart
import Derived.Test.YtnloeihhimcblaaWArr
import Derived.Test.YtnloeihhimcblaaWZeros
import Derived.Test.YtnloeihhimcblaaWFoot
import Derived.Test.YtnloeihhimcblaaWKept
import Derived.Test.YtnloeihhimcblaaWShare
import Derived.Test.YtnloeihhimcblaaWN
import Derived.Test.YtnloeihhimcblaaWFootNe
import Derived.Test.YtnloeihhimcblaaWAt
import Derived.Test.YtnloeihhimcblaaWEqStruct
import Derived.Test.YtnloeihhimcblaaWRepsOne
import Derived.Test.YtnloeihhimcblaaWInv
import Derived.Test.YtnloeihhimcblaaWInvWords
import Derived.Test.YtnloeihhimcblaaWGuard
import Derived.Test.YtnloeihhimcblaaWNEv
import Derived.Test.YtnloeihhimcblaaWMore
namespace Go.Proofs.Ytnloeihhimcblaa.QFnExactTakeRun
open Go.RowKit Go.Proofs.YtnloeihhimcblaaW.PrintWords Go.Proofs.YtnloeihhimcblaaW.PrintLast Go.Proofs.YtnloeihhimcblaaW.PrintMore
attribute [local go_sem] max2_int min2_int max_two min_two max_three min_three max_four min_four   -- for this text's walks alone
set_option linter.unusedVariables false
set_option linter.unusedSimpArgs false



def errW : Option Int → Value
  | none => .nilIface
  | some c => .iface 0 (.int .i64 c)
theorem errW_none : errW none = .nilIface := rfl
theorem errW_some (c : Int) : errW (some c) = .iface 0 (.int .i64 c) := rfl

theorem info3 : (Try.prog.info? 3).map (fun i => (i.zero, i.size, i.bytes)) = some (some (.int .i64 0), 1, 8) := by kernel_rfl
theorem info5 : (Try.prog.info? 5).map (fun i => (i.zero, i.size, i.bytes)) = some (some (.int .u8 0), 1, 1) := by kernel_rfl
-- the values' own types

end Go.Proofs.Ytnloeihhimcblaa.QFnExactTakeRun
