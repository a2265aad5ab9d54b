/-
  No cell of these rows narrows 'for every input' (looked for: loops, veiled, ifaces, maps, wideKeys, modest, calm, conditions, laid).
  DERIVED. THE GIVEN ROWS OF THIS SEAT. 10 by the template 'for every input the law returns true; each argument reads behind the call as it read before'; 0 by the template 'total and deterministic' (their statements: YtamelcmioliapaaTotals.lean).
  GIVEN WITH THE SEED: the statements are not yours to turn. If you find one false, say at which input.
  Laid BY PROGRAM, IN A SANDBOX (cutbox-rows.mjs): the forced cells as the released guide's own fill.sh prints them over the translation 44b00c08f4c86255… (all of the seat's roots in one cut). By AI agents, Wed Nov 11 2026. No macro, syntax, notation, axiom, sorry.
-/
import Derived.Test.YtamelcmioliapaaChecked
import GoSem.Claim
import GoSem.ClaimJoined
import GoSem.ClaimMapViews
import Derived.JoinedTies
import Derived.KernelRfl
namespace Go.Proofs.Ytamelcmioliapaa
/- THE CELL 'sum', in the pinned program and in every row, IS THE sha256 OF THE DUMP (.gsa) THAT YtamelcmioliapaaProg.lean LOADS. Nothing in Lean hashes anything: it is a label: what it is worth is what the hold of that sum in a sandbox is worth. -/
noncomputable def Try.pinned : Pinned := { name := "ytamelcmioliapaa", sum := "44b00c08f4c86255cd3d253ab3aa78b365c482f1727302cd610d9bea6e2e5fc2", checked := Try.checked }
namespace Rows
def none {H : Type} : Left H := { results := [], args := [] }

/-- 'laws.FnExactCodeName': WHATEVER THE INPUT: true; the input reads as it did. -/
def fnExactCodeNameSpec : ChangeSpec := { name := "fnExactCodeName", fn := fun _ => fun
  | [d] => { results := [.lit (.bool true)], args := [d] }
  | _ => none }
def fnExactCodeNameRow : OpenClaim := { program := "ytamelcmioliapaa", sum := "44b00c08f4c86255cd3d253ab3aa78b365c482f1727302cd610d9bea6e2e5fc2", func := "loop.example/g00499/laws.FnExactCodeName", spec := "fnExactCodeName", apart := false }
def FnExactCodeNameSaid : Prop := fnExactCodeNameRow.holds Try.pinned (OpenSpec.ofChange fnExactCodeNameSpec)

/-- ITS FALSE NEIGHBOUR: 'it returns false'. Refute it at one input. -/
def fnExactCodeNameWrong : ChangeSpec := { name := "fnExactCodeName", fn := fun _ => fun
  | [d] => { results := [.lit (.bool false)], args := [d] }
  | _ => none }
def FnExactCodeNameWrongFalsely : Prop := fnExactCodeNameRow.holds Try.pinned (OpenSpec.ofChange fnExactCodeNameWrong)

/-- 'laws.FnExactWipe': WHATEVER THE INPUT: true; the input reads as it did. -/
def fnExactWipeSpec : ChangeSpec := { name := "fnExactWipe", fn := fun _ => fun
  | [d1, d2, d3] => { results := [.lit (.bool true)], args := [d1, d2, d3] }
  | _ => none }
def fnExactWipeRow : OpenClaim := { program := "ytamelcmioliapaa", sum := "44b00c08f4c86255cd3d253ab3aa78b365c482f1727302cd610d9bea6e2e5fc2", func := "loop.example/g00499/laws.FnExactWipe", spec := "fnExactWipe", apart := false }
def FnExactWipeSaid : Prop := fnExactWipeRow.holds Try.pinned (OpenSpec.ofChange fnExactWipeSpec)

/-- ITS FALSE NEIGHBOUR: 'it returns false'. Refute it at one input. -/
def fnExactWipeWrong : ChangeSpec := { name := "fnExactWipe", fn := fun _ => fun
  | [d1, d2, d3] => { results := [.lit (.bool false)], args := [d1, d2, d3] }
  | _ => none }
def FnExactWipeWrongFalsely : Prop := fnExactWipeRow.holds Try.pinned (OpenSpec.ofChange fnExactWipeWrong)

/-- 'laws.FnExactPutAt': WHATEVER THE INPUT: true; the input reads as it did. -/
def fnExactPutAtSpec : ChangeSpec := { name := "fnExactPutAt", fn := fun _ => fun
  | [d1, d2, d3] => { results := [.lit (.bool true)], args := [d1, d2, d3] }
  | _ => none }
def fnExactPutAtRow : OpenClaim := { program := "ytamelcmioliapaa", sum := "44b00c08f4c86255cd3d253ab3aa78b365c482f1727302cd610d9bea6e2e5fc2", func := "loop.example/g00499/laws.FnExactPutAt", spec := "fnExactPutAt", apart := false }
def FnExactPutAtSaid : Prop := fnExactPutAtRow.holds Try.pinned (OpenSpec.ofChange fnExactPutAtSpec)

/-- ITS FALSE NEIGHBOUR: 'it returns false'. Refute it at one input. -/
def fnExactPutAtWrong : ChangeSpec := { name := "fnExactPutAt", fn := fun _ => fun
  | [d1, d2, d3] => { results := [.lit (.bool false)], args := [d1, d2, d3] }
  | _ => none }
def FnExactPutAtWrongFalsely : Prop := fnExactPutAtRow.holds Try.pinned (OpenSpec.ofChange fnExactPutAtWrong)

/-- 'laws.FnExactParseHex': WHATEVER THE INPUT: true; the input reads as it did. -/
def fnExactParseHexSpec : ChangeSpec := { name := "fnExactParseHex", fn := fun _ => fun
  | [d] => { results := [.lit (.bool true)], args := [d] }
  | _ => none }
def fnExactParseHexRow : OpenClaim := { program := "ytamelcmioliapaa", sum := "44b00c08f4c86255cd3d253ab3aa78b365c482f1727302cd610d9bea6e2e5fc2", func := "loop.example/g00499/laws.FnExactParseHex", spec := "fnExactParseHex", inPlace := ["internal/bytealg.IndexByteString"], apart := false }
def FnExactParseHexSaid : Prop := fnExactParseHexRow.holds Try.pinned (OpenSpec.ofChange fnExactParseHexSpec)

/-- ITS FALSE NEIGHBOUR: 'it returns false'. Refute it at one input. -/
def fnExactParseHexWrong : ChangeSpec := { name := "fnExactParseHex", fn := fun _ => fun
  | [d] => { results := [.lit (.bool false)], args := [d] }
  | _ => none }
def FnExactParseHexWrongFalsely : Prop := fnExactParseHexRow.holds Try.pinned (OpenSpec.ofChange fnExactParseHexWrong)

/-- 'laws.FnHex': WHATEVER THE INPUT: true; the input reads as it did. -/
def fnHexSpec : ChangeSpec := { name := "fnHex", fn := fun _ => fun
  | [d] => { results := [.lit (.bool true)], args := [d] }
  | _ => none }
def fnHexRow : OpenClaim := { program := "ytamelcmioliapaa", sum := "44b00c08f4c86255cd3d253ab3aa78b365c482f1727302cd610d9bea6e2e5fc2", func := "loop.example/g00499/laws.FnHex", spec := "fnHex", inPlace := ["internal/bytealg.IndexByteString"], unfollowed := true, recurses := true, apart := false }
def FnHexSaid : Prop := fnHexRow.holds Try.pinned (OpenSpec.ofChange fnHexSpec)

/-- ITS FALSE NEIGHBOUR: 'it returns false'. Refute it at one input. -/
def fnHexWrong : ChangeSpec := { name := "fnHex", fn := fun _ => fun
  | [d] => { results := [.lit (.bool false)], args := [d] }
  | _ => none }
def FnHexWrongFalsely : Prop := fnHexRow.holds Try.pinned (OpenSpec.ofChange fnHexWrong)

/-- 'laws.FnBytes': WHATEVER THE INPUT: true; the input reads as it did. -/
def fnBytesSpec : ChangeSpec := { name := "fnBytes", fn := fun _ => fun
  | [d] => { results := [.lit (.bool true)], args := [d] }
  | _ => none }
def fnBytesRow : OpenClaim := { program := "ytamelcmioliapaa", sum := "44b00c08f4c86255cd3d253ab3aa78b365c482f1727302cd610d9bea6e2e5fc2", func := "loop.example/g00499/laws.FnBytes", spec := "fnBytes", unfollowed := true, recurses := true, apart := false }
def FnBytesSaid : Prop := fnBytesRow.holds Try.pinned (OpenSpec.ofChange fnBytesSpec)

/-- ITS FALSE NEIGHBOUR: 'it returns false'. Refute it at one input. -/
def fnBytesWrong : ChangeSpec := { name := "fnBytes", fn := fun _ => fun
  | [d] => { results := [.lit (.bool false)], args := [d] }
  | _ => none }
def FnBytesWrongFalsely : Prop := fnBytesRow.holds Try.pinned (OpenSpec.ofChange fnBytesWrong)

/-- 'laws.FnExactPoolOk': WHATEVER THE INPUT: true; the input reads as it did. -/
def fnExactPoolOkSpec : ChangeSpec := { name := "fnExactPoolOk", fn := fun _ => fun
  | [d1, d2] => { results := [.lit (.bool true)], args := [d1, d2] }
  | _ => none }
def fnExactPoolOkRow : OpenClaim := { program := "ytamelcmioliapaa", sum := "44b00c08f4c86255cd3d253ab3aa78b365c482f1727302cd610d9bea6e2e5fc2", func := "loop.example/g00499/laws.FnExactPoolOk", spec := "fnExactPoolOk", unfollowed := true, recurses := true, apart := false }
def FnExactPoolOkSaid : Prop := fnExactPoolOkRow.holds Try.pinned (OpenSpec.ofChange fnExactPoolOkSpec)

/-- ITS FALSE NEIGHBOUR: 'it returns false'. Refute it at one input. -/
def fnExactPoolOkWrong : ChangeSpec := { name := "fnExactPoolOk", fn := fun _ => fun
  | [d1, d2] => { results := [.lit (.bool false)], args := [d1, d2] }
  | _ => none }
def FnExactPoolOkWrongFalsely : Prop := fnExactPoolOkRow.holds Try.pinned (OpenSpec.ofChange fnExactPoolOkWrong)

/-- 'laws.FnExactChunkBytes': WHATEVER THE INPUT: true; the input reads as it did. -/
def fnExactChunkBytesSpec : ChangeSpec := { name := "fnExactChunkBytes", fn := fun _ => fun
  | [d1, d2, d3] => { results := [.lit (.bool true)], args := [d1, d2, d3] }
  | _ => none }
def fnExactChunkBytesRow : OpenClaim := { program := "ytamelcmioliapaa", sum := "44b00c08f4c86255cd3d253ab3aa78b365c482f1727302cd610d9bea6e2e5fc2", func := "loop.example/g00499/laws.FnExactChunkBytes", spec := "fnExactChunkBytes", unfollowed := true, recurses := true, apart := false }
def FnExactChunkBytesSaid : Prop := fnExactChunkBytesRow.holds Try.pinned (OpenSpec.ofChange fnExactChunkBytesSpec)

/-- ITS FALSE NEIGHBOUR: 'it returns false'. Refute it at one input. -/
def fnExactChunkBytesWrong : ChangeSpec := { name := "fnExactChunkBytes", fn := fun _ => fun
  | [d1, d2, d3] => { results := [.lit (.bool false)], args := [d1, d2, d3] }
  | _ => none }
def FnExactChunkBytesWrongFalsely : Prop := fnExactChunkBytesRow.holds Try.pinned (OpenSpec.ofChange fnExactChunkBytesWrong)

/-- 'laws.FnExactWipeSome': WHATEVER THE INPUT: true; the input reads as it did. -/
def fnExactWipeSomeSpec : ChangeSpec := { name := "fnExactWipeSome", fn := fun _ => fun
  | [d1, d2, d3, d4] => { results := [.lit (.bool true)], args := [d1, d2, d3, d4] }
  | _ => none }
def fnExactWipeSomeRow : OpenClaim := { program := "ytamelcmioliapaa", sum := "44b00c08f4c86255cd3d253ab3aa78b365c482f1727302cd610d9bea6e2e5fc2", func := "loop.example/g00499/laws.FnExactWipeSome", spec := "fnExactWipeSome", unfollowed := true, recurses := true, apart := false }
def FnExactWipeSomeSaid : Prop := fnExactWipeSomeRow.holds Try.pinned (OpenSpec.ofChange fnExactWipeSomeSpec)

/-- ITS FALSE NEIGHBOUR: 'it returns false'. Refute it at one input. -/
def fnExactWipeSomeWrong : ChangeSpec := { name := "fnExactWipeSome", fn := fun _ => fun
  | [d1, d2, d3, d4] => { results := [.lit (.bool false)], args := [d1, d2, d3, d4] }
  | _ => none }
def FnExactWipeSomeWrongFalsely : Prop := fnExactWipeSomeRow.holds Try.pinned (OpenSpec.ofChange fnExactWipeSomeWrong)

/-- 'laws.FnExactPoolNew': WHATEVER THE INPUT: true; the input reads as it did. -/
def fnExactPoolNewSpec : ChangeSpec := { name := "fnExactPoolNew", fn := fun _ => fun
  | [d] => { results := [.lit (.bool true)], args := [d] }
  | _ => none }
def fnExactPoolNewRow : OpenClaim := { program := "ytamelcmioliapaa", sum := "44b00c08f4c86255cd3d253ab3aa78b365c482f1727302cd610d9bea6e2e5fc2", func := "loop.example/g00499/laws.FnExactPoolNew", spec := "fnExactPoolNew", apart := false }
def FnExactPoolNewSaid : Prop := fnExactPoolNewRow.holds Try.pinned (OpenSpec.ofChange fnExactPoolNewSpec)

/-- ITS FALSE NEIGHBOUR: 'it returns false'. Refute it at one input. -/
def fnExactPoolNewWrong : ChangeSpec := { name := "fnExactPoolNew", fn := fun _ => fun
  | [d] => { results := [.lit (.bool false)], args := [d] }
  | _ => none }
def FnExactPoolNewWrongFalsely : Prop := fnExactPoolNewRow.holds Try.pinned (OpenSpec.ofChange fnExactPoolNewWrong)

/- THE SECOND FORM. 'bulk': how many values and letters a reading holds, each counted each time it is reached (what is shared counts as often as it is met; a slice's spare places count too). A statement '..UptoSaid' is the law's where the arguments, and the package variables that the reading takes, are together of bulk at most 1048576: NARROWER than '..Said'. Prove '..Said' where nothing that the law and all that it calls make is longer than what came in: it says more and counts as full. Else prove '..UptoSaid'. A law counts once. -/
mutual
def uptoBulk {H : Type} : DataW H → Nat
  | .lit (.string bytes) => bytes.length + 1
  | .lit _ => 1
  | .nil => 1
  | .ptr d => uptoBulk d + 1
  | .slice elems spare => uptoBulkAll elems + uptoBulkAll spare + 1
  | .agg parts => uptoBulkAll parts + 1
  | .iface _ d => uptoBulk d + 1
  | .map entries => uptoBulkEntries entries + 1
  | .held _ => 1
def uptoBulkAll {H : Type} : List (DataW H) → Nat
  | [] => 0
  | d :: r => uptoBulk d + uptoBulkAll r
def uptoBulkEntries {H : Type} : List (Lit × DataW H) → Nat
  | [] => 0
  | x :: r => uptoBulkEntry x + uptoBulkEntries r
def uptoBulkEntry {H : Type} : Lit × DataW H → Nat
  | (.string bytes, d) => bytes.length + uptoBulk d + 1
  | (_, d) => uptoBulk d + 1
 end
def uptoSmall : (H : Type) → List (DataW H) → Bool := fun _ ds => decide (uptoBulkAll ds ≤ 1048576)
def OpenSpec.upto (s : _root_.Go.ChangeSpec) : _root_.Go.OpenSpec := { _root_.Go.OpenSpec.ofChange s with cond := some uptoSmall }

/-- 'laws.FnExactCodeName', WHERE WHAT IT READS IS OF BULK AT MOST 1048576: true; the input reads as it did. -/
def fnExactCodeNameUptoRow : OpenClaim := { program := "ytamelcmioliapaa", sum := "44b00c08f4c86255cd3d253ab3aa78b365c482f1727302cd610d9bea6e2e5fc2", func := "loop.example/g00499/laws.FnExactCodeName", spec := "fnExactCodeName", apart := false, narrowed := true }
def FnExactCodeNameUptoSaid : Prop := fnExactCodeNameUptoRow.holds Try.pinned (OpenSpec.upto fnExactCodeNameSpec)

/-- 'laws.FnExactWipe', WHERE WHAT IT READS IS OF BULK AT MOST 1048576: true; the input reads as it did. -/
def fnExactWipeUptoRow : OpenClaim := { program := "ytamelcmioliapaa", sum := "44b00c08f4c86255cd3d253ab3aa78b365c482f1727302cd610d9bea6e2e5fc2", func := "loop.example/g00499/laws.FnExactWipe", spec := "fnExactWipe", apart := false, narrowed := true }
def FnExactWipeUptoSaid : Prop := fnExactWipeUptoRow.holds Try.pinned (OpenSpec.upto fnExactWipeSpec)

/-- 'laws.FnExactPutAt', WHERE WHAT IT READS IS OF BULK AT MOST 1048576: true; the input reads as it did. -/
def fnExactPutAtUptoRow : OpenClaim := { program := "ytamelcmioliapaa", sum := "44b00c08f4c86255cd3d253ab3aa78b365c482f1727302cd610d9bea6e2e5fc2", func := "loop.example/g00499/laws.FnExactPutAt", spec := "fnExactPutAt", apart := false, narrowed := true }
def FnExactPutAtUptoSaid : Prop := fnExactPutAtUptoRow.holds Try.pinned (OpenSpec.upto fnExactPutAtSpec)

/-- 'laws.FnExactParseHex', WHERE WHAT IT READS IS OF BULK AT MOST 1048576: true; the input reads as it did. -/
def fnExactParseHexUptoRow : OpenClaim := { program := "ytamelcmioliapaa", sum := "44b00c08f4c86255cd3d253ab3aa78b365c482f1727302cd610d9bea6e2e5fc2", func := "loop.example/g00499/laws.FnExactParseHex", spec := "fnExactParseHex", inPlace := ["internal/bytealg.IndexByteString"], apart := false, narrowed := true }
def FnExactParseHexUptoSaid : Prop := fnExactParseHexUptoRow.holds Try.pinned (OpenSpec.upto fnExactParseHexSpec)

/-- 'laws.FnHex', WHERE WHAT IT READS IS OF BULK AT MOST 1048576: true; the input reads as it did. -/
def fnHexUptoRow : OpenClaim := { program := "ytamelcmioliapaa", sum := "44b00c08f4c86255cd3d253ab3aa78b365c482f1727302cd610d9bea6e2e5fc2", func := "loop.example/g00499/laws.FnHex", spec := "fnHex", inPlace := ["internal/bytealg.IndexByteString"], unfollowed := true, recurses := true, apart := false, narrowed := true }
def FnHexUptoSaid : Prop := fnHexUptoRow.holds Try.pinned (OpenSpec.upto fnHexSpec)

/-- 'laws.FnBytes', WHERE WHAT IT READS IS OF BULK AT MOST 1048576: true; the input reads as it did. -/
def fnBytesUptoRow : OpenClaim := { program := "ytamelcmioliapaa", sum := "44b00c08f4c86255cd3d253ab3aa78b365c482f1727302cd610d9bea6e2e5fc2", func := "loop.example/g00499/laws.FnBytes", spec := "fnBytes", unfollowed := true, recurses := true, apart := false, narrowed := true }
def FnBytesUptoSaid : Prop := fnBytesUptoRow.holds Try.pinned (OpenSpec.upto fnBytesSpec)

/-- 'laws.FnExactPoolOk', WHERE WHAT IT READS IS OF BULK AT MOST 1048576: true; the input reads as it did. -/
def fnExactPoolOkUptoRow : OpenClaim := { program := "ytamelcmioliapaa", sum := "44b00c08f4c86255cd3d253ab3aa78b365c482f1727302cd610d9bea6e2e5fc2", func := "loop.example/g00499/laws.FnExactPoolOk", spec := "fnExactPoolOk", unfollowed := true, recurses := true, apart := false, narrowed := true }
def FnExactPoolOkUptoSaid : Prop := fnExactPoolOkUptoRow.holds Try.pinned (OpenSpec.upto fnExactPoolOkSpec)

/-- 'laws.FnExactChunkBytes', WHERE WHAT IT READS IS OF BULK AT MOST 1048576: true; the input reads as it did. -/
def fnExactChunkBytesUptoRow : OpenClaim := { program := "ytamelcmioliapaa", sum := "44b00c08f4c86255cd3d253ab3aa78b365c482f1727302cd610d9bea6e2e5fc2", func := "loop.example/g00499/laws.FnExactChunkBytes", spec := "fnExactChunkBytes", unfollowed := true, recurses := true, apart := false, narrowed := true }
def FnExactChunkBytesUptoSaid : Prop := fnExactChunkBytesUptoRow.holds Try.pinned (OpenSpec.upto fnExactChunkBytesSpec)

/-- 'laws.FnExactWipeSome', WHERE WHAT IT READS IS OF BULK AT MOST 1048576: true; the input reads as it did. -/
def fnExactWipeSomeUptoRow : OpenClaim := { program := "ytamelcmioliapaa", sum := "44b00c08f4c86255cd3d253ab3aa78b365c482f1727302cd610d9bea6e2e5fc2", func := "loop.example/g00499/laws.FnExactWipeSome", spec := "fnExactWipeSome", unfollowed := true, recurses := true, apart := false, narrowed := true }
def FnExactWipeSomeUptoSaid : Prop := fnExactWipeSomeUptoRow.holds Try.pinned (OpenSpec.upto fnExactWipeSomeSpec)

/-- 'laws.FnExactPoolNew', WHERE WHAT IT READS IS OF BULK AT MOST 1048576: true; the input reads as it did. -/
def fnExactPoolNewUptoRow : OpenClaim := { program := "ytamelcmioliapaa", sum := "44b00c08f4c86255cd3d253ab3aa78b365c482f1727302cd610d9bea6e2e5fc2", func := "loop.example/g00499/laws.FnExactPoolNew", spec := "fnExactPoolNew", apart := false, narrowed := true }
def FnExactPoolNewUptoSaid : Prop := fnExactPoolNewUptoRow.holds Try.pinned (OpenSpec.upto fnExactPoolNewSpec)

end Rows
end Go.Proofs.Ytamelcmioliapaa
