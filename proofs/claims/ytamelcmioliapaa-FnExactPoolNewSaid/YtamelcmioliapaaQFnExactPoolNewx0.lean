/- What the functions that the law FnExactPoolNew reaches compute, as plain functions, and that the code computes just that (by a program of this session's; the library's functions by hand). No condition. -/
import Derived.Test.YtamelcmioliapaaProg
import Derived.Below
import Derived.Deep.Draws
import Derived.Deep.AppendLies
import Derived.Maps.AppendAt
import Derived.OwnWalk
import Derived.Laws.BytesArg
import Derived.Laws.MakeOwn
import Derived.Laws.OwnMore
import Derived.Deep.OwnRows
import Derived.Tactics
import Derived.Lib.ConvBytes
import Derived.Laws.Slices
import Derived.WalkKit
import Derived.KernelRfl
import Derived.RowKit3
import Derived.Deep.LoopGhost
import Derived.Deep.QuietTactic
import Derived.BigQuiet
import Derived.WideLaws
import Derived.Deep.DeepCutAuto
import Derived.Deep.CutBlock
import Derived.Deep.RegionHeld3
import Derived.Laws.Rows
import Derived.Lib.AppendStr
import Derived.ArgAppend
import Derived.Laws.IdiomCopy
import Derived.OrdersHeld
import Derived.Laws.BitsLemmas
import Derived.RowKit
import Derived.Lib.SliceRun
import Derived.Laws.CopyOwn
import Derived.Deep.RegionLaw
import Derived.Test.YtamelcmioliapaaWWords
import Derived.Test.YtamelcmioliapaaWLast
import Derived.Test.YtamelcmioliapaaWTab
import Derived.Test.YtamelcmioliapaaWFour
import Derived.Test.YtamelcmioliapaaWQPut
import Derived.Test.YtamelcmioliapaaWApart
import Derived.Test.YtamelcmioliapaaWArr
import Derived.Test.YtamelcmioliapaaWZeros
import Derived.Test.YtamelcmioliapaaWFoot
import Derived.Test.YtamelcmioliapaaWKept
import Derived.Test.YtamelcmioliapaaWShare
import Derived.Test.YtamelcmioliapaaWN
import Derived.Test.YtamelcmioliapaaWFootNe
import Derived.Test.YtamelcmioliapaaWAt
import Derived.Test.YtamelcmioliapaaWEqStruct
import Derived.Test.YtamelcmioliapaaWRepsOne
import Derived.Test.YtamelcmioliapaaWInv
import Derived.Test.YtamelcmioliapaaWInvWords
import Derived.Test.YtamelcmioliapaaWGuard
import Derived.Test.YtamelcmioliapaaWNEv
import Derived.Test.YtamelcmioliapaaWMore
namespace Go.Proofs.Ytamelcmioliapaa.QFnExactPoolNew
open Go.RowKit Go.Proofs.YtamelcmioliapaaW.PrintWords Go.Proofs.YtamelcmioliapaaW.PrintLast Go.Proofs.YtamelcmioliapaaW.PrintMore
attribute [local go_sem] max2_int min2_int max_two min_two max_three min_three max_four min_four   -- for this text's walks alone
set_option linter.unusedVariables false
set_option linter.unusedSimpArgs false



def errW : Option Int → Value
  | none => .nilIface
  | some c => .iface 0 (.int .i64 c)
theorem errW_none : errW none = .nilIface := rfl
theorem errW_some (c : Int) : errW (some c) = .iface 0 (.int .i64 c) := rfl

theorem info3 : (Try.prog.info? 3).map (fun i => (i.zero, i.size, i.bytes)) = some (some (.int .i64 0), 1, 8) := by kernel_rfl
theorem info5 : (Try.prog.info? 5).map (fun i => (i.zero, i.size, i.bytes)) = some (some (.int .u8 0), 1, 1) := by kernel_rfl
-- the values' own types

end Go.Proofs.Ytamelcmioliapaa.QFnExactPoolNew
