/-
  No cell of these rows narrows 'for every input' (looked for: loops, veiled, ifaces, maps, wideKeys, modest, calm, conditions, laid).
  DERIVED. THE GIVEN ROWS OF THIS SEAT. 12 by the template 'for every input the law returns true; each argument reads behind the call as it read before'; 0 by the template 'total and deterministic' (their statements: YteopnbonhjdfmaaTotals.lean).
  GIVEN WITH THE SEED: the statements are not yours to turn. If you find one false, say at which input.
  Laid BY PROGRAM, IN A SANDBOX (cutbox-rows.mjs): the forced cells as the released guide's own fill.sh prints them over the translation 2c91add8a6377564… (all of the seat's roots in one cut). By AI agents, Wed Nov 11 2026. No macro, syntax, notation, axiom, sorry.
-/
import Derived.Test.YteopnbonhjdfmaaChecked
import GoSem.Claim
import GoSem.ClaimJoined
import GoSem.ClaimMapViews
import Derived.JoinedTies
import Derived.KernelRfl
namespace Go.Proofs.Yteopnbonhjdfmaa
/- THE CELL 'sum', in the pinned program and in every row, IS THE sha256 OF THE DUMP (.gsa) THAT YteopnbonhjdfmaaProg.lean LOADS. Nothing in Lean hashes anything: it is a label: what it is worth is what the hold of that sum in a sandbox is worth. -/
noncomputable def Try.pinned : Pinned := { name := "yteopnbonhjdfmaa", sum := "2c91add8a6377564583c45773cf6c6d52afc76b8bbee368ee9da437912f43f51", checked := Try.checked }
namespace Rows
def none {H : Type} : Left H := { results := [], args := [] }

/-- 'laws.FnExactChunksFor': WHATEVER THE INPUT: true; the input reads as it did. -/
def fnExactChunksForSpec : ChangeSpec := { name := "fnExactChunksFor", fn := fun _ => fun
  | [d1, d2] => { results := [.lit (.bool true)], args := [d1, d2] }
  | _ => none }
def fnExactChunksForRow : OpenClaim := { program := "yteopnbonhjdfmaa", sum := "2c91add8a6377564583c45773cf6c6d52afc76b8bbee368ee9da437912f43f51", func := "loop.example/g00499/laws.FnExactChunksFor", spec := "fnExactChunksFor", apart := false }
def FnExactChunksForSaid : Prop := fnExactChunksForRow.holds Try.pinned (OpenSpec.ofChange fnExactChunksForSpec)

/-- ITS FALSE NEIGHBOUR: 'it returns false'. Refute it at one input. -/
def fnExactChunksForWrong : ChangeSpec := { name := "fnExactChunksFor", fn := fun _ => fun
  | [d1, d2] => { results := [.lit (.bool false)], args := [d1, d2] }
  | _ => none }
def FnExactChunksForWrongFalsely : Prop := fnExactChunksForRow.holds Try.pinned (OpenSpec.ofChange fnExactChunksForWrong)

/-- 'laws.FnExactSlicesOf': WHATEVER THE INPUT: true; the input reads as it did. -/
def fnExactSlicesOfSpec : ChangeSpec := { name := "fnExactSlicesOf", fn := fun _ => fun
  | [d1, d2] => { results := [.lit (.bool true)], args := [d1, d2] }
  | _ => none }
def fnExactSlicesOfRow : OpenClaim := { program := "yteopnbonhjdfmaa", sum := "2c91add8a6377564583c45773cf6c6d52afc76b8bbee368ee9da437912f43f51", func := "loop.example/g00499/laws.FnExactSlicesOf", spec := "fnExactSlicesOf", apart := false }
def FnExactSlicesOfSaid : Prop := fnExactSlicesOfRow.holds Try.pinned (OpenSpec.ofChange fnExactSlicesOfSpec)

/-- ITS FALSE NEIGHBOUR: 'it returns false'. Refute it at one input. -/
def fnExactSlicesOfWrong : ChangeSpec := { name := "fnExactSlicesOf", fn := fun _ => fun
  | [d1, d2] => { results := [.lit (.bool false)], args := [d1, d2] }
  | _ => none }
def FnExactSlicesOfWrongFalsely : Prop := fnExactSlicesOfRow.holds Try.pinned (OpenSpec.ofChange fnExactSlicesOfWrong)

/-- 'laws.FnExactBytesOf': WHATEVER THE INPUT: true; the input reads as it did. -/
def fnExactBytesOfSpec : ChangeSpec := { name := "fnExactBytesOf", fn := fun _ => fun
  | [d] => { results := [.lit (.bool true)], args := [d] }
  | _ => none }
def fnExactBytesOfRow : OpenClaim := { program := "yteopnbonhjdfmaa", sum := "2c91add8a6377564583c45773cf6c6d52afc76b8bbee368ee9da437912f43f51", func := "loop.example/g00499/laws.FnExactBytesOf", spec := "fnExactBytesOf", apart := false }
def FnExactBytesOfSaid : Prop := fnExactBytesOfRow.holds Try.pinned (OpenSpec.ofChange fnExactBytesOfSpec)

/-- ITS FALSE NEIGHBOUR: 'it returns false'. Refute it at one input. -/
def fnExactBytesOfWrong : ChangeSpec := { name := "fnExactBytesOf", fn := fun _ => fun
  | [d] => { results := [.lit (.bool false)], args := [d] }
  | _ => none }
def FnExactBytesOfWrongFalsely : Prop := fnExactBytesOfRow.holds Try.pinned (OpenSpec.ofChange fnExactBytesOfWrong)

/-- 'laws.FnExactHexText': WHATEVER THE INPUT: true; the input reads as it did. -/
def fnExactHexTextSpec : ChangeSpec := { name := "fnExactHexText", fn := fun _ => fun
  | [d] => { results := [.lit (.bool true)], args := [d] }
  | _ => none }
def fnExactHexTextRow : OpenClaim := { program := "yteopnbonhjdfmaa", sum := "2c91add8a6377564583c45773cf6c6d52afc76b8bbee368ee9da437912f43f51", func := "loop.example/g00499/laws.FnExactHexText", spec := "fnExactHexText", apart := false }
def FnExactHexTextSaid : Prop := fnExactHexTextRow.holds Try.pinned (OpenSpec.ofChange fnExactHexTextSpec)

/-- ITS FALSE NEIGHBOUR: 'it returns false'. Refute it at one input. -/
def fnExactHexTextWrong : ChangeSpec := { name := "fnExactHexText", fn := fun _ => fun
  | [d] => { results := [.lit (.bool false)], args := [d] }
  | _ => none }
def FnExactHexTextWrongFalsely : Prop := fnExactHexTextRow.holds Try.pinned (OpenSpec.ofChange fnExactHexTextWrong)

/-- 'laws.FnExactIsZero': WHATEVER THE INPUT: true; the input reads as it did. -/
def fnExactIsZeroSpec : ChangeSpec := { name := "fnExactIsZero", fn := fun _ => fun
  | [d] => { results := [.lit (.bool true)], args := [d] }
  | _ => none }
def fnExactIsZeroRow : OpenClaim := { program := "yteopnbonhjdfmaa", sum := "2c91add8a6377564583c45773cf6c6d52afc76b8bbee368ee9da437912f43f51", func := "loop.example/g00499/laws.FnExactIsZero", spec := "fnExactIsZero", unfollowed := true, recurses := true, apart := false }
def FnExactIsZeroSaid : Prop := fnExactIsZeroRow.holds Try.pinned (OpenSpec.ofChange fnExactIsZeroSpec)

/-- ITS FALSE NEIGHBOUR: 'it returns false'. Refute it at one input. -/
def fnExactIsZeroWrong : ChangeSpec := { name := "fnExactIsZero", fn := fun _ => fun
  | [d] => { results := [.lit (.bool false)], args := [d] }
  | _ => none }
def FnExactIsZeroWrongFalsely : Prop := fnExactIsZeroRow.holds Try.pinned (OpenSpec.ofChange fnExactIsZeroWrong)

/-- 'laws.FnExactZeros': WHATEVER THE INPUT: true; the input reads as it did. -/
def fnExactZerosSpec : ChangeSpec := { name := "fnExactZeros", fn := fun _ => fun
  | [d] => { results := [.lit (.bool true)], args := [d] }
  | _ => none }
def fnExactZerosRow : OpenClaim := { program := "yteopnbonhjdfmaa", sum := "2c91add8a6377564583c45773cf6c6d52afc76b8bbee368ee9da437912f43f51", func := "loop.example/g00499/laws.FnExactZeros", spec := "fnExactZeros", apart := false }
def FnExactZerosSaid : Prop := fnExactZerosRow.holds Try.pinned (OpenSpec.ofChange fnExactZerosSpec)

/-- ITS FALSE NEIGHBOUR: 'it returns false'. Refute it at one input. -/
def fnExactZerosWrong : ChangeSpec := { name := "fnExactZeros", fn := fun _ => fun
  | [d] => { results := [.lit (.bool false)], args := [d] }
  | _ => none }
def FnExactZerosWrongFalsely : Prop := fnExactZerosRow.holds Try.pinned (OpenSpec.ofChange fnExactZerosWrong)

/-- 'laws.FnExactGetAt': WHATEVER THE INPUT: true; the input reads as it did. -/
def fnExactGetAtSpec : ChangeSpec := { name := "fnExactGetAt", fn := fun _ => fun
  | [d1, d2, d3] => { results := [.lit (.bool true)], args := [d1, d2, d3] }
  | _ => none }
def fnExactGetAtRow : OpenClaim := { program := "yteopnbonhjdfmaa", sum := "2c91add8a6377564583c45773cf6c6d52afc76b8bbee368ee9da437912f43f51", func := "loop.example/g00499/laws.FnExactGetAt", spec := "fnExactGetAt", apart := false }
def FnExactGetAtSaid : Prop := fnExactGetAtRow.holds Try.pinned (OpenSpec.ofChange fnExactGetAtSpec)

/-- ITS FALSE NEIGHBOUR: 'it returns false'. Refute it at one input. -/
def fnExactGetAtWrong : ChangeSpec := { name := "fnExactGetAt", fn := fun _ => fun
  | [d1, d2, d3] => { results := [.lit (.bool false)], args := [d1, d2, d3] }
  | _ => none }
def FnExactGetAtWrongFalsely : Prop := fnExactGetAtRow.holds Try.pinned (OpenSpec.ofChange fnExactGetAtWrong)

/-- 'laws.FnExactWipe': WHATEVER THE INPUT: true; the input reads as it did. -/
def fnExactWipeSpec : ChangeSpec := { name := "fnExactWipe", fn := fun _ => fun
  | [d1, d2, d3] => { results := [.lit (.bool true)], args := [d1, d2, d3] }
  | _ => none }
def fnExactWipeRow : OpenClaim := { program := "yteopnbonhjdfmaa", sum := "2c91add8a6377564583c45773cf6c6d52afc76b8bbee368ee9da437912f43f51", func := "loop.example/g00499/laws.FnExactWipe", spec := "fnExactWipe", apart := false }
def FnExactWipeSaid : Prop := fnExactWipeRow.holds Try.pinned (OpenSpec.ofChange fnExactWipeSpec)

/-- ITS FALSE NEIGHBOUR: 'it returns false'. Refute it at one input. -/
def fnExactWipeWrong : ChangeSpec := { name := "fnExactWipe", fn := fun _ => fun
  | [d1, d2, d3] => { results := [.lit (.bool false)], args := [d1, d2, d3] }
  | _ => none }
def FnExactWipeWrongFalsely : Prop := fnExactWipeRow.holds Try.pinned (OpenSpec.ofChange fnExactWipeWrong)

/-- 'laws.FnExactPutAt': WHATEVER THE INPUT: true; the input reads as it did. -/
def fnExactPutAtSpec : ChangeSpec := { name := "fnExactPutAt", fn := fun _ => fun
  | [d1, d2, d3] => { results := [.lit (.bool true)], args := [d1, d2, d3] }
  | _ => none }
def fnExactPutAtRow : OpenClaim := { program := "yteopnbonhjdfmaa", sum := "2c91add8a6377564583c45773cf6c6d52afc76b8bbee368ee9da437912f43f51", func := "loop.example/g00499/laws.FnExactPutAt", spec := "fnExactPutAt", apart := false }
def FnExactPutAtSaid : Prop := fnExactPutAtRow.holds Try.pinned (OpenSpec.ofChange fnExactPutAtSpec)

/-- ITS FALSE NEIGHBOUR: 'it returns false'. Refute it at one input. -/
def fnExactPutAtWrong : ChangeSpec := { name := "fnExactPutAt", fn := fun _ => fun
  | [d1, d2, d3] => { results := [.lit (.bool false)], args := [d1, d2, d3] }
  | _ => none }
def FnExactPutAtWrongFalsely : Prop := fnExactPutAtRow.holds Try.pinned (OpenSpec.ofChange fnExactPutAtWrong)

/-- 'laws.FnExactParseHex': WHATEVER THE INPUT: true; the input reads as it did. -/
def fnExactParseHexSpec : ChangeSpec := { name := "fnExactParseHex", fn := fun _ => fun
  | [d] => { results := [.lit (.bool true)], args := [d] }
  | _ => none }
def fnExactParseHexRow : OpenClaim := { program := "yteopnbonhjdfmaa", sum := "2c91add8a6377564583c45773cf6c6d52afc76b8bbee368ee9da437912f43f51", func := "loop.example/g00499/laws.FnExactParseHex", spec := "fnExactParseHex", inPlace := ["internal/bytealg.IndexByteString"], apart := false }
def FnExactParseHexSaid : Prop := fnExactParseHexRow.holds Try.pinned (OpenSpec.ofChange fnExactParseHexSpec)

/-- ITS FALSE NEIGHBOUR: 'it returns false'. Refute it at one input. -/
def fnExactParseHexWrong : ChangeSpec := { name := "fnExactParseHex", fn := fun _ => fun
  | [d] => { results := [.lit (.bool false)], args := [d] }
  | _ => none }
def FnExactParseHexWrongFalsely : Prop := fnExactParseHexRow.holds Try.pinned (OpenSpec.ofChange fnExactParseHexWrong)

/-- 'laws.FnExactThingOk': WHATEVER THE INPUT: true; the input reads as it did. -/
def fnExactThingOkSpec : ChangeSpec := { name := "fnExactThingOk", fn := fun _ => fun
  | [d1, d2] => { results := [.lit (.bool true)], args := [d1, d2] }
  | _ => none }
def fnExactThingOkRow : OpenClaim := { program := "yteopnbonhjdfmaa", sum := "2c91add8a6377564583c45773cf6c6d52afc76b8bbee368ee9da437912f43f51", func := "loop.example/g00499/laws.FnExactThingOk", spec := "fnExactThingOk", apart := false }
def FnExactThingOkSaid : Prop := fnExactThingOkRow.holds Try.pinned (OpenSpec.ofChange fnExactThingOkSpec)

/-- ITS FALSE NEIGHBOUR: 'it returns false'. Refute it at one input. -/
def fnExactThingOkWrong : ChangeSpec := { name := "fnExactThingOk", fn := fun _ => fun
  | [d1, d2] => { results := [.lit (.bool false)], args := [d1, d2] }
  | _ => none }
def FnExactThingOkWrongFalsely : Prop := fnExactThingOkRow.holds Try.pinned (OpenSpec.ofChange fnExactThingOkWrong)

/-- 'laws.FnExactFirstFree': WHATEVER THE INPUT: true; the input reads as it did. -/
def fnExactFirstFreeSpec : ChangeSpec := { name := "fnExactFirstFree", fn := fun _ => fun
  | [d] => { results := [.lit (.bool true)], args := [d] }
  | _ => none }
def fnExactFirstFreeRow : OpenClaim := { program := "yteopnbonhjdfmaa", sum := "2c91add8a6377564583c45773cf6c6d52afc76b8bbee368ee9da437912f43f51", func := "loop.example/g00499/laws.FnExactFirstFree", spec := "fnExactFirstFree", apart := false }
def FnExactFirstFreeSaid : Prop := fnExactFirstFreeRow.holds Try.pinned (OpenSpec.ofChange fnExactFirstFreeSpec)

/-- ITS FALSE NEIGHBOUR: 'it returns false'. Refute it at one input. -/
def fnExactFirstFreeWrong : ChangeSpec := { name := "fnExactFirstFree", fn := fun _ => fun
  | [d] => { results := [.lit (.bool false)], args := [d] }
  | _ => none }
def FnExactFirstFreeWrongFalsely : Prop := fnExactFirstFreeRow.holds Try.pinned (OpenSpec.ofChange fnExactFirstFreeWrong)

/- THE SECOND FORM. 'bulk': how many values and letters a reading holds, each counted each time it is reached (what is shared counts as often as it is met; a slice's spare places count too). A statement '..UptoSaid' is the law's where the arguments, and the package variables that the reading takes, are together of bulk at most 1048576: NARROWER than '..Said'. Prove '..Said' where nothing that the law and all that it calls make is longer than what came in: it says more and counts as full. Else prove '..UptoSaid'. A law counts once. -/
mutual
def uptoBulk {H : Type} : DataW H → Nat
  | .lit (.string bytes) => bytes.length + 1
  | .lit _ => 1
  | .nil => 1
  | .ptr d => uptoBulk d + 1
  | .slice elems spare => uptoBulkAll elems + uptoBulkAll spare + 1
  | .agg parts => uptoBulkAll parts + 1
  | .iface _ d => uptoBulk d + 1
  | .map entries => uptoBulkEntries entries + 1
  | .held _ => 1
def uptoBulkAll {H : Type} : List (DataW H) → Nat
  | [] => 0
  | d :: r => uptoBulk d + uptoBulkAll r
def uptoBulkEntries {H : Type} : List (Lit × DataW H) → Nat
  | [] => 0
  | x :: r => uptoBulkEntry x + uptoBulkEntries r
def uptoBulkEntry {H : Type} : Lit × DataW H → Nat
  | (.string bytes, d) => bytes.length + uptoBulk d + 1
  | (_, d) => uptoBulk d + 1
 end
def uptoSmall : (H : Type) → List (DataW H) → Bool := fun _ ds => decide (uptoBulkAll ds ≤ 1048576)
def OpenSpec.upto (s : _root_.Go.ChangeSpec) : _root_.Go.OpenSpec := { _root_.Go.OpenSpec.ofChange s with cond := some uptoSmall }

/-- 'laws.FnExactChunksFor', WHERE WHAT IT READS IS OF BULK AT MOST 1048576: true; the input reads as it did. -/
def fnExactChunksForUptoRow : OpenClaim := { program := "yteopnbonhjdfmaa", sum := "2c91add8a6377564583c45773cf6c6d52afc76b8bbee368ee9da437912f43f51", func := "loop.example/g00499/laws.FnExactChunksFor", spec := "fnExactChunksFor", apart := false, narrowed := true }
def FnExactChunksForUptoSaid : Prop := fnExactChunksForUptoRow.holds Try.pinned (OpenSpec.upto fnExactChunksForSpec)

/-- 'laws.FnExactSlicesOf', WHERE WHAT IT READS IS OF BULK AT MOST 1048576: true; the input reads as it did. -/
def fnExactSlicesOfUptoRow : OpenClaim := { program := "yteopnbonhjdfmaa", sum := "2c91add8a6377564583c45773cf6c6d52afc76b8bbee368ee9da437912f43f51", func := "loop.example/g00499/laws.FnExactSlicesOf", spec := "fnExactSlicesOf", apart := false, narrowed := true }
def FnExactSlicesOfUptoSaid : Prop := fnExactSlicesOfUptoRow.holds Try.pinned (OpenSpec.upto fnExactSlicesOfSpec)

/-- 'laws.FnExactBytesOf', WHERE WHAT IT READS IS OF BULK AT MOST 1048576: true; the input reads as it did. -/
def fnExactBytesOfUptoRow : OpenClaim := { program := "yteopnbonhjdfmaa", sum := "2c91add8a6377564583c45773cf6c6d52afc76b8bbee368ee9da437912f43f51", func := "loop.example/g00499/laws.FnExactBytesOf", spec := "fnExactBytesOf", apart := false, narrowed := true }
def FnExactBytesOfUptoSaid : Prop := fnExactBytesOfUptoRow.holds Try.pinned (OpenSpec.upto fnExactBytesOfSpec)

/-- 'laws.FnExactHexText', WHERE WHAT IT READS IS OF BULK AT MOST 1048576: true; the input reads as it did. -/
def fnExactHexTextUptoRow : OpenClaim := { program := "yteopnbonhjdfmaa", sum := "2c91add8a6377564583c45773cf6c6d52afc76b8bbee368ee9da437912f43f51", func := "loop.example/g00499/laws.FnExactHexText", spec := "fnExactHexText", apart := false, narrowed := true }
def FnExactHexTextUptoSaid : Prop := fnExactHexTextUptoRow.holds Try.pinned (OpenSpec.upto fnExactHexTextSpec)

/-- 'laws.FnExactIsZero', WHERE WHAT IT READS IS OF BULK AT MOST 1048576: true; the input reads as it did. -/
def fnExactIsZeroUptoRow : OpenClaim := { program := "yteopnbonhjdfmaa", sum := "2c91add8a6377564583c45773cf6c6d52afc76b8bbee368ee9da437912f43f51", func := "loop.example/g00499/laws.FnExactIsZero", spec := "fnExactIsZero", unfollowed := true, recurses := true, apart := false, narrowed := true }
def FnExactIsZeroUptoSaid : Prop := fnExactIsZeroUptoRow.holds Try.pinned (OpenSpec.upto fnExactIsZeroSpec)

/-- 'laws.FnExactZeros', WHERE WHAT IT READS IS OF BULK AT MOST 1048576: true; the input reads as it did. -/
def fnExactZerosUptoRow : OpenClaim := { program := "yteopnbonhjdfmaa", sum := "2c91add8a6377564583c45773cf6c6d52afc76b8bbee368ee9da437912f43f51", func := "loop.example/g00499/laws.FnExactZeros", spec := "fnExactZeros", apart := false, narrowed := true }
def FnExactZerosUptoSaid : Prop := fnExactZerosUptoRow.holds Try.pinned (OpenSpec.upto fnExactZerosSpec)

/-- 'laws.FnExactGetAt', WHERE WHAT IT READS IS OF BULK AT MOST 1048576: true; the input reads as it did. -/
def fnExactGetAtUptoRow : OpenClaim := { program := "yteopnbonhjdfmaa", sum := "2c91add8a6377564583c45773cf6c6d52afc76b8bbee368ee9da437912f43f51", func := "loop.example/g00499/laws.FnExactGetAt", spec := "fnExactGetAt", apart := false, narrowed := true }
def FnExactGetAtUptoSaid : Prop := fnExactGetAtUptoRow.holds Try.pinned (OpenSpec.upto fnExactGetAtSpec)

/-- 'laws.FnExactWipe', WHERE WHAT IT READS IS OF BULK AT MOST 1048576: true; the input reads as it did. -/
def fnExactWipeUptoRow : OpenClaim := { program := "yteopnbonhjdfmaa", sum := "2c91add8a6377564583c45773cf6c6d52afc76b8bbee368ee9da437912f43f51", func := "loop.example/g00499/laws.FnExactWipe", spec := "fnExactWipe", apart := false, narrowed := true }
def FnExactWipeUptoSaid : Prop := fnExactWipeUptoRow.holds Try.pinned (OpenSpec.upto fnExactWipeSpec)

/-- 'laws.FnExactPutAt', WHERE WHAT IT READS IS OF BULK AT MOST 1048576: true; the input reads as it did. -/
def fnExactPutAtUptoRow : OpenClaim := { program := "yteopnbonhjdfmaa", sum := "2c91add8a6377564583c45773cf6c6d52afc76b8bbee368ee9da437912f43f51", func := "loop.example/g00499/laws.FnExactPutAt", spec := "fnExactPutAt", apart := false, narrowed := true }
def FnExactPutAtUptoSaid : Prop := fnExactPutAtUptoRow.holds Try.pinned (OpenSpec.upto fnExactPutAtSpec)

/-- 'laws.FnExactParseHex', WHERE WHAT IT READS IS OF BULK AT MOST 1048576: true; the input reads as it did. -/
def fnExactParseHexUptoRow : OpenClaim := { program := "yteopnbonhjdfmaa", sum := "2c91add8a6377564583c45773cf6c6d52afc76b8bbee368ee9da437912f43f51", func := "loop.example/g00499/laws.FnExactParseHex", spec := "fnExactParseHex", inPlace := ["internal/bytealg.IndexByteString"], apart := false, narrowed := true }
def FnExactParseHexUptoSaid : Prop := fnExactParseHexUptoRow.holds Try.pinned (OpenSpec.upto fnExactParseHexSpec)

/-- 'laws.FnExactThingOk', WHERE WHAT IT READS IS OF BULK AT MOST 1048576: true; the input reads as it did. -/
def fnExactThingOkUptoRow : OpenClaim := { program := "yteopnbonhjdfmaa", sum := "2c91add8a6377564583c45773cf6c6d52afc76b8bbee368ee9da437912f43f51", func := "loop.example/g00499/laws.FnExactThingOk", spec := "fnExactThingOk", apart := false, narrowed := true }
def FnExactThingOkUptoSaid : Prop := fnExactThingOkUptoRow.holds Try.pinned (OpenSpec.upto fnExactThingOkSpec)

/-- 'laws.FnExactFirstFree', WHERE WHAT IT READS IS OF BULK AT MOST 1048576: true; the input reads as it did. -/
def fnExactFirstFreeUptoRow : OpenClaim := { program := "yteopnbonhjdfmaa", sum := "2c91add8a6377564583c45773cf6c6d52afc76b8bbee368ee9da437912f43f51", func := "loop.example/g00499/laws.FnExactFirstFree", spec := "fnExactFirstFree", apart := false, narrowed := true }
def FnExactFirstFreeUptoSaid : Prop := fnExactFirstFreeUptoRow.holds Try.pinned (OpenSpec.upto fnExactFirstFreeSpec)

end Rows
end Go.Proofs.Yteopnbonhjdfmaa
