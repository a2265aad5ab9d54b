/-
  No cell of these rows narrows 'for every input' (looked for: loops, veiled, ifaces, maps, wideKeys, modest, calm, conditions, laid).
  DERIVED. THE GIVEN ROWS OF THIS SEAT. 11 by the template 'for every input the law returns true; each argument reads behind the call as it read before'; 0 by the template 'total and deterministic' (their statements: YtkllbjjcjinhpaaTotals.lean).
  GIVEN WITH THE SEED: the statements are not yours to turn. If you find one false, say at which input.
  Laid BY PROGRAM, IN A SANDBOX (cutbox-rows.mjs): the forced cells as the released guide's own fill.sh prints them over the translation b2326a2752190b92… (all of the seat's roots in one cut). By AI agents, Wed Nov 11 2026. No macro, syntax, notation, axiom, sorry.
-/
import Derived.Test.YtkllbjjcjinhpaaChecked
import GoSem.Claim
import GoSem.ClaimJoined
import GoSem.ClaimMapViews
import Derived.JoinedTies
import Derived.KernelRfl
namespace Go.Proofs.Ytkllbjjcjinhpaa
/- THE CELL 'sum', in the pinned program and in every row, IS THE sha256 OF THE DUMP (.gsa) THAT YtkllbjjcjinhpaaProg.lean LOADS. Nothing in Lean hashes anything: it is a label: what it is worth is what the hold of that sum in a sandbox is worth. -/
noncomputable def Try.pinned : Pinned := { name := "ytkllbjjcjinhpaa", sum := "b2326a2752190b9276512141dd23540e2fddc8420de16686dc741df9df9ef28e", checked := Try.checked }
namespace Rows
def none {H : Type} : Left H := { results := [], args := [] }

/-- 'laws.FnExactConstants': WHATEVER THE INPUT: true; the input reads as it did. -/
def fnExactConstantsSpec : ChangeSpec := { name := "fnExactConstants", fn := fun _ => fun
  | [] => { results := [.lit (.bool true)], args := [] }
  | _ => none }
def fnExactConstantsRow : OpenClaim := { program := "ytkllbjjcjinhpaa", sum := "b2326a2752190b9276512141dd23540e2fddc8420de16686dc741df9df9ef28e", func := "loop.example/g00499/laws.FnExactConstants", spec := "fnExactConstants", apart := false }
def FnExactConstantsSaid : Prop := fnExactConstantsRow.holds Try.pinned (OpenSpec.ofChange fnExactConstantsSpec)

/-- ITS FALSE NEIGHBOUR: 'it returns false'. Refute it at one input. -/
def fnExactConstantsWrong : ChangeSpec := { name := "fnExactConstants", fn := fun _ => fun
  | [] => { results := [.lit (.bool false)], args := [] }
  | _ => none }
def FnExactConstantsWrongFalsely : Prop := fnExactConstantsRow.holds Try.pinned (OpenSpec.ofChange fnExactConstantsWrong)

/-- 'laws.FnExactLeast': WHATEVER THE INPUT: true; the input reads as it did. -/
def fnExactLeastSpec : ChangeSpec := { name := "fnExactLeast", fn := fun _ => fun
  | [d1, d2] => { results := [.lit (.bool true)], args := [d1, d2] }
  | _ => none }
def fnExactLeastRow : OpenClaim := { program := "ytkllbjjcjinhpaa", sum := "b2326a2752190b9276512141dd23540e2fddc8420de16686dc741df9df9ef28e", func := "loop.example/g00499/laws.FnExactLeast", spec := "fnExactLeast", apart := false }
def FnExactLeastSaid : Prop := fnExactLeastRow.holds Try.pinned (OpenSpec.ofChange fnExactLeastSpec)

/-- ITS FALSE NEIGHBOUR: 'it returns false'. Refute it at one input. -/
def fnExactLeastWrong : ChangeSpec := { name := "fnExactLeast", fn := fun _ => fun
  | [d1, d2] => { results := [.lit (.bool false)], args := [d1, d2] }
  | _ => none }
def FnExactLeastWrongFalsely : Prop := fnExactLeastRow.holds Try.pinned (OpenSpec.ofChange fnExactLeastWrong)

/-- 'laws.FnExactMost': WHATEVER THE INPUT: true; the input reads as it did. -/
def fnExactMostSpec : ChangeSpec := { name := "fnExactMost", fn := fun _ => fun
  | [d1, d2] => { results := [.lit (.bool true)], args := [d1, d2] }
  | _ => none }
def fnExactMostRow : OpenClaim := { program := "ytkllbjjcjinhpaa", sum := "b2326a2752190b9276512141dd23540e2fddc8420de16686dc741df9df9ef28e", func := "loop.example/g00499/laws.FnExactMost", spec := "fnExactMost", apart := false }
def FnExactMostSaid : Prop := fnExactMostRow.holds Try.pinned (OpenSpec.ofChange fnExactMostSpec)

/-- ITS FALSE NEIGHBOUR: 'it returns false'. Refute it at one input. -/
def fnExactMostWrong : ChangeSpec := { name := "fnExactMost", fn := fun _ => fun
  | [d1, d2] => { results := [.lit (.bool false)], args := [d1, d2] }
  | _ => none }
def FnExactMostWrongFalsely : Prop := fnExactMostRow.holds Try.pinned (OpenSpec.ofChange fnExactMostWrong)

/-- 'laws.FnExactHandleOk': WHATEVER THE INPUT: true; the input reads as it did. -/
def fnExactHandleOkSpec : ChangeSpec := { name := "fnExactHandleOk", fn := fun _ => fun
  | [d] => { results := [.lit (.bool true)], args := [d] }
  | _ => none }
def fnExactHandleOkRow : OpenClaim := { program := "ytkllbjjcjinhpaa", sum := "b2326a2752190b9276512141dd23540e2fddc8420de16686dc741df9df9ef28e", func := "loop.example/g00499/laws.FnExactHandleOk", spec := "fnExactHandleOk", apart := false }
def FnExactHandleOkSaid : Prop := fnExactHandleOkRow.holds Try.pinned (OpenSpec.ofChange fnExactHandleOkSpec)

/-- ITS FALSE NEIGHBOUR: 'it returns false'. Refute it at one input. -/
def fnExactHandleOkWrong : ChangeSpec := { name := "fnExactHandleOk", fn := fun _ => fun
  | [d] => { results := [.lit (.bool false)], args := [d] }
  | _ => none }
def FnExactHandleOkWrongFalsely : Prop := fnExactHandleOkRow.holds Try.pinned (OpenSpec.ofChange fnExactHandleOkWrong)

/-- 'laws.FnExactIsLarge': WHATEVER THE INPUT: true; the input reads as it did. -/
def fnExactIsLargeSpec : ChangeSpec := { name := "fnExactIsLarge", fn := fun _ => fun
  | [d1, d2] => { results := [.lit (.bool true)], args := [d1, d2] }
  | _ => none }
def fnExactIsLargeRow : OpenClaim := { program := "ytkllbjjcjinhpaa", sum := "b2326a2752190b9276512141dd23540e2fddc8420de16686dc741df9df9ef28e", func := "loop.example/g00499/laws.FnExactIsLarge", spec := "fnExactIsLarge", apart := false }
def FnExactIsLargeSaid : Prop := fnExactIsLargeRow.holds Try.pinned (OpenSpec.ofChange fnExactIsLargeSpec)

/-- ITS FALSE NEIGHBOUR: 'it returns false'. Refute it at one input. -/
def fnExactIsLargeWrong : ChangeSpec := { name := "fnExactIsLarge", fn := fun _ => fun
  | [d1, d2] => { results := [.lit (.bool false)], args := [d1, d2] }
  | _ => none }
def FnExactIsLargeWrongFalsely : Prop := fnExactIsLargeRow.holds Try.pinned (OpenSpec.ofChange fnExactIsLargeWrong)

/-- 'laws.FnExactCeilDiv': WHATEVER THE INPUT: true; the input reads as it did. -/
def fnExactCeilDivSpec : ChangeSpec := { name := "fnExactCeilDiv", fn := fun _ => fun
  | [d1, d2] => { results := [.lit (.bool true)], args := [d1, d2] }
  | _ => none }
def fnExactCeilDivRow : OpenClaim := { program := "ytkllbjjcjinhpaa", sum := "b2326a2752190b9276512141dd23540e2fddc8420de16686dc741df9df9ef28e", func := "loop.example/g00499/laws.FnExactCeilDiv", spec := "fnExactCeilDiv", apart := false }
def FnExactCeilDivSaid : Prop := fnExactCeilDivRow.holds Try.pinned (OpenSpec.ofChange fnExactCeilDivSpec)

/-- ITS FALSE NEIGHBOUR: 'it returns false'. Refute it at one input. -/
def fnExactCeilDivWrong : ChangeSpec := { name := "fnExactCeilDiv", fn := fun _ => fun
  | [d1, d2] => { results := [.lit (.bool false)], args := [d1, d2] }
  | _ => none }
def FnExactCeilDivWrongFalsely : Prop := fnExactCeilDivRow.holds Try.pinned (OpenSpec.ofChange fnExactCeilDivWrong)

/-- 'laws.FnExactCodeName': WHATEVER THE INPUT: true; the input reads as it did. -/
def fnExactCodeNameSpec : ChangeSpec := { name := "fnExactCodeName", fn := fun _ => fun
  | [d] => { results := [.lit (.bool true)], args := [d] }
  | _ => none }
def fnExactCodeNameRow : OpenClaim := { program := "ytkllbjjcjinhpaa", sum := "b2326a2752190b9276512141dd23540e2fddc8420de16686dc741df9df9ef28e", func := "loop.example/g00499/laws.FnExactCodeName", spec := "fnExactCodeName", apart := false }
def FnExactCodeNameSaid : Prop := fnExactCodeNameRow.holds Try.pinned (OpenSpec.ofChange fnExactCodeNameSpec)

/-- ITS FALSE NEIGHBOUR: 'it returns false'. Refute it at one input. -/
def fnExactCodeNameWrong : ChangeSpec := { name := "fnExactCodeName", fn := fun _ => fun
  | [d] => { results := [.lit (.bool false)], args := [d] }
  | _ => none }
def FnExactCodeNameWrongFalsely : Prop := fnExactCodeNameRow.holds Try.pinned (OpenSpec.ofChange fnExactCodeNameWrong)

/-- 'laws.FnExactAlignUp': WHATEVER THE INPUT: true; the input reads as it did. -/
def fnExactAlignUpSpec : ChangeSpec := { name := "fnExactAlignUp", fn := fun _ => fun
  | [d1, d2] => { results := [.lit (.bool true)], args := [d1, d2] }
  | _ => none }
def fnExactAlignUpRow : OpenClaim := { program := "ytkllbjjcjinhpaa", sum := "b2326a2752190b9276512141dd23540e2fddc8420de16686dc741df9df9ef28e", func := "loop.example/g00499/laws.FnExactAlignUp", spec := "fnExactAlignUp", apart := false }
def FnExactAlignUpSaid : Prop := fnExactAlignUpRow.holds Try.pinned (OpenSpec.ofChange fnExactAlignUpSpec)

/-- ITS FALSE NEIGHBOUR: 'it returns false'. Refute it at one input. -/
def fnExactAlignUpWrong : ChangeSpec := { name := "fnExactAlignUp", fn := fun _ => fun
  | [d1, d2] => { results := [.lit (.bool false)], args := [d1, d2] }
  | _ => none }
def FnExactAlignUpWrongFalsely : Prop := fnExactAlignUpRow.holds Try.pinned (OpenSpec.ofChange fnExactAlignUpWrong)

/-- 'laws.FnExactRefOk': WHATEVER THE INPUT: true; the input reads as it did. -/
def fnExactRefOkSpec : ChangeSpec := { name := "fnExactRefOk", fn := fun _ => fun
  | [d] => { results := [.lit (.bool true)], args := [d] }
  | _ => none }
def fnExactRefOkRow : OpenClaim := { program := "ytkllbjjcjinhpaa", sum := "b2326a2752190b9276512141dd23540e2fddc8420de16686dc741df9df9ef28e", func := "loop.example/g00499/laws.FnExactRefOk", spec := "fnExactRefOk", apart := false }
def FnExactRefOkSaid : Prop := fnExactRefOkRow.holds Try.pinned (OpenSpec.ofChange fnExactRefOkSpec)

/-- ITS FALSE NEIGHBOUR: 'it returns false'. Refute it at one input. -/
def fnExactRefOkWrong : ChangeSpec := { name := "fnExactRefOk", fn := fun _ => fun
  | [d] => { results := [.lit (.bool false)], args := [d] }
  | _ => none }
def FnExactRefOkWrongFalsely : Prop := fnExactRefOkRow.holds Try.pinned (OpenSpec.ofChange fnExactRefOkWrong)

/-- 'laws.FnExactConfOk': WHATEVER THE INPUT: true; the input reads as it did. -/
def fnExactConfOkSpec : ChangeSpec := { name := "fnExactConfOk", fn := fun _ => fun
  | [d] => { results := [.lit (.bool true)], args := [d] }
  | _ => none }
def fnExactConfOkRow : OpenClaim := { program := "ytkllbjjcjinhpaa", sum := "b2326a2752190b9276512141dd23540e2fddc8420de16686dc741df9df9ef28e", func := "loop.example/g00499/laws.FnExactConfOk", spec := "fnExactConfOk", apart := false }
def FnExactConfOkSaid : Prop := fnExactConfOkRow.holds Try.pinned (OpenSpec.ofChange fnExactConfOkSpec)

/-- ITS FALSE NEIGHBOUR: 'it returns false'. Refute it at one input. -/
def fnExactConfOkWrong : ChangeSpec := { name := "fnExactConfOk", fn := fun _ => fun
  | [d] => { results := [.lit (.bool false)], args := [d] }
  | _ => none }
def FnExactConfOkWrongFalsely : Prop := fnExactConfOkRow.holds Try.pinned (OpenSpec.ofChange fnExactConfOkWrong)

/-- 'laws.FnExactConfNew': WHATEVER THE INPUT: true; the input reads as it did. -/
def fnExactConfNewSpec : ChangeSpec := { name := "fnExactConfNew", fn := fun _ => fun
  | [] => { results := [.lit (.bool true)], args := [] }
  | _ => none }
def fnExactConfNewRow : OpenClaim := { program := "ytkllbjjcjinhpaa", sum := "b2326a2752190b9276512141dd23540e2fddc8420de16686dc741df9df9ef28e", func := "loop.example/g00499/laws.FnExactConfNew", spec := "fnExactConfNew", apart := false }
def FnExactConfNewSaid : Prop := fnExactConfNewRow.holds Try.pinned (OpenSpec.ofChange fnExactConfNewSpec)

/-- ITS FALSE NEIGHBOUR: 'it returns false'. Refute it at one input. -/
def fnExactConfNewWrong : ChangeSpec := { name := "fnExactConfNew", fn := fun _ => fun
  | [] => { results := [.lit (.bool false)], args := [] }
  | _ => none }
def FnExactConfNewWrongFalsely : Prop := fnExactConfNewRow.holds Try.pinned (OpenSpec.ofChange fnExactConfNewWrong)

/- THE SECOND FORM. 'bulk': how many values and letters a reading holds, each counted each time it is reached (what is shared counts as often as it is met; a slice's spare places count too). A statement '..UptoSaid' is the law's where the arguments, and the package variables that the reading takes, are together of bulk at most 1048576: NARROWER than '..Said'. Prove '..Said' where nothing that the law and all that it calls make is longer than what came in: it says more and counts as full. Else prove '..UptoSaid'. A law counts once. -/
mutual
def uptoBulk {H : Type} : DataW H → Nat
  | .lit (.string bytes) => bytes.length + 1
  | .lit _ => 1
  | .nil => 1
  | .ptr d => uptoBulk d + 1
  | .slice elems spare => uptoBulkAll elems + uptoBulkAll spare + 1
  | .agg parts => uptoBulkAll parts + 1
  | .iface _ d => uptoBulk d + 1
  | .map entries => uptoBulkEntries entries + 1
  | .held _ => 1
def uptoBulkAll {H : Type} : List (DataW H) → Nat
  | [] => 0
  | d :: r => uptoBulk d + uptoBulkAll r
def uptoBulkEntries {H : Type} : List (Lit × DataW H) → Nat
  | [] => 0
  | x :: r => uptoBulkEntry x + uptoBulkEntries r
def uptoBulkEntry {H : Type} : Lit × DataW H → Nat
  | (.string bytes, d) => bytes.length + uptoBulk d + 1
  | (_, d) => uptoBulk d + 1
 end
def uptoSmall : (H : Type) → List (DataW H) → Bool := fun _ ds => decide (uptoBulkAll ds ≤ 1048576)
def OpenSpec.upto (s : _root_.Go.ChangeSpec) : _root_.Go.OpenSpec := { _root_.Go.OpenSpec.ofChange s with cond := some uptoSmall }

/-- 'laws.FnExactConstants', WHERE WHAT IT READS IS OF BULK AT MOST 1048576: true; the input reads as it did. -/
def fnExactConstantsUptoRow : OpenClaim := { program := "ytkllbjjcjinhpaa", sum := "b2326a2752190b9276512141dd23540e2fddc8420de16686dc741df9df9ef28e", func := "loop.example/g00499/laws.FnExactConstants", spec := "fnExactConstants", apart := false, narrowed := true }
def FnExactConstantsUptoSaid : Prop := fnExactConstantsUptoRow.holds Try.pinned (OpenSpec.upto fnExactConstantsSpec)

/-- 'laws.FnExactLeast', WHERE WHAT IT READS IS OF BULK AT MOST 1048576: true; the input reads as it did. -/
def fnExactLeastUptoRow : OpenClaim := { program := "ytkllbjjcjinhpaa", sum := "b2326a2752190b9276512141dd23540e2fddc8420de16686dc741df9df9ef28e", func := "loop.example/g00499/laws.FnExactLeast", spec := "fnExactLeast", apart := false, narrowed := true }
def FnExactLeastUptoSaid : Prop := fnExactLeastUptoRow.holds Try.pinned (OpenSpec.upto fnExactLeastSpec)

/-- 'laws.FnExactMost', WHERE WHAT IT READS IS OF BULK AT MOST 1048576: true; the input reads as it did. -/
def fnExactMostUptoRow : OpenClaim := { program := "ytkllbjjcjinhpaa", sum := "b2326a2752190b9276512141dd23540e2fddc8420de16686dc741df9df9ef28e", func := "loop.example/g00499/laws.FnExactMost", spec := "fnExactMost", apart := false, narrowed := true }
def FnExactMostUptoSaid : Prop := fnExactMostUptoRow.holds Try.pinned (OpenSpec.upto fnExactMostSpec)

/-- 'laws.FnExactHandleOk', WHERE WHAT IT READS IS OF BULK AT MOST 1048576: true; the input reads as it did. -/
def fnExactHandleOkUptoRow : OpenClaim := { program := "ytkllbjjcjinhpaa", sum := "b2326a2752190b9276512141dd23540e2fddc8420de16686dc741df9df9ef28e", func := "loop.example/g00499/laws.FnExactHandleOk", spec := "fnExactHandleOk", apart := false, narrowed := true }
def FnExactHandleOkUptoSaid : Prop := fnExactHandleOkUptoRow.holds Try.pinned (OpenSpec.upto fnExactHandleOkSpec)

/-- 'laws.FnExactIsLarge', WHERE WHAT IT READS IS OF BULK AT MOST 1048576: true; the input reads as it did. -/
def fnExactIsLargeUptoRow : OpenClaim := { program := "ytkllbjjcjinhpaa", sum := "b2326a2752190b9276512141dd23540e2fddc8420de16686dc741df9df9ef28e", func := "loop.example/g00499/laws.FnExactIsLarge", spec := "fnExactIsLarge", apart := false, narrowed := true }
def FnExactIsLargeUptoSaid : Prop := fnExactIsLargeUptoRow.holds Try.pinned (OpenSpec.upto fnExactIsLargeSpec)

/-- 'laws.FnExactCeilDiv', WHERE WHAT IT READS IS OF BULK AT MOST 1048576: true; the input reads as it did. -/
def fnExactCeilDivUptoRow : OpenClaim := { program := "ytkllbjjcjinhpaa", sum := "b2326a2752190b9276512141dd23540e2fddc8420de16686dc741df9df9ef28e", func := "loop.example/g00499/laws.FnExactCeilDiv", spec := "fnExactCeilDiv", apart := false, narrowed := true }
def FnExactCeilDivUptoSaid : Prop := fnExactCeilDivUptoRow.holds Try.pinned (OpenSpec.upto fnExactCeilDivSpec)

/-- 'laws.FnExactCodeName', WHERE WHAT IT READS IS OF BULK AT MOST 1048576: true; the input reads as it did. -/
def fnExactCodeNameUptoRow : OpenClaim := { program := "ytkllbjjcjinhpaa", sum := "b2326a2752190b9276512141dd23540e2fddc8420de16686dc741df9df9ef28e", func := "loop.example/g00499/laws.FnExactCodeName", spec := "fnExactCodeName", apart := false, narrowed := true }
def FnExactCodeNameUptoSaid : Prop := fnExactCodeNameUptoRow.holds Try.pinned (OpenSpec.upto fnExactCodeNameSpec)

/-- 'laws.FnExactAlignUp', WHERE WHAT IT READS IS OF BULK AT MOST 1048576: true; the input reads as it did. -/
def fnExactAlignUpUptoRow : OpenClaim := { program := "ytkllbjjcjinhpaa", sum := "b2326a2752190b9276512141dd23540e2fddc8420de16686dc741df9df9ef28e", func := "loop.example/g00499/laws.FnExactAlignUp", spec := "fnExactAlignUp", apart := false, narrowed := true }
def FnExactAlignUpUptoSaid : Prop := fnExactAlignUpUptoRow.holds Try.pinned (OpenSpec.upto fnExactAlignUpSpec)

/-- 'laws.FnExactRefOk', WHERE WHAT IT READS IS OF BULK AT MOST 1048576: true; the input reads as it did. -/
def fnExactRefOkUptoRow : OpenClaim := { program := "ytkllbjjcjinhpaa", sum := "b2326a2752190b9276512141dd23540e2fddc8420de16686dc741df9df9ef28e", func := "loop.example/g00499/laws.FnExactRefOk", spec := "fnExactRefOk", apart := false, narrowed := true }
def FnExactRefOkUptoSaid : Prop := fnExactRefOkUptoRow.holds Try.pinned (OpenSpec.upto fnExactRefOkSpec)

/-- 'laws.FnExactConfOk', WHERE WHAT IT READS IS OF BULK AT MOST 1048576: true; the input reads as it did. -/
def fnExactConfOkUptoRow : OpenClaim := { program := "ytkllbjjcjinhpaa", sum := "b2326a2752190b9276512141dd23540e2fddc8420de16686dc741df9df9ef28e", func := "loop.example/g00499/laws.FnExactConfOk", spec := "fnExactConfOk", apart := false, narrowed := true }
def FnExactConfOkUptoSaid : Prop := fnExactConfOkUptoRow.holds Try.pinned (OpenSpec.upto fnExactConfOkSpec)

/-- 'laws.FnExactConfNew', WHERE WHAT IT READS IS OF BULK AT MOST 1048576: true; the input reads as it did. -/
def fnExactConfNewUptoRow : OpenClaim := { program := "ytkllbjjcjinhpaa", sum := "b2326a2752190b9276512141dd23540e2fddc8420de16686dc741df9df9ef28e", func := "loop.example/g00499/laws.FnExactConfNew", spec := "fnExactConfNew", apart := false, narrowed := true }
def FnExactConfNewUptoSaid : Prop := fnExactConfNewUptoRow.holds Try.pinned (OpenSpec.upto fnExactConfNewSpec)

end Rows
end Go.Proofs.Ytkllbjjcjinhpaa
