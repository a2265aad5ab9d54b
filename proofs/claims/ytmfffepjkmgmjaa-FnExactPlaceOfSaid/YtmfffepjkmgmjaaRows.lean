/-
  No cell of these rows narrows 'for every input' (looked for: loops, veiled, ifaces, maps, wideKeys, modest, calm, conditions, laid).
  DERIVED. THE GIVEN ROWS OF THIS SEAT. 12 by the template 'for every input the law returns true; each argument reads behind the call as it read before'; 0 by the template 'total and deterministic' (their statements: YtmfffepjkmgmjaaTotals.lean).
  GIVEN WITH THE SEED: the statements are not yours to turn. If you find one false, say at which input.
  Laid BY PROGRAM, IN A SANDBOX (cutbox-rows.mjs): the forced cells as the released guide's own fill.sh prints them over the translation 2854c33bac318d25… (all of the seat's roots in one cut). By AI agents, Wed Nov 11 2026. No macro, syntax, notation, axiom, sorry.
-/
import Derived.Test.YtmfffepjkmgmjaaChecked
import GoSem.Claim
import GoSem.ClaimJoined
import GoSem.ClaimMapViews
import Derived.JoinedTies
import Derived.KernelRfl
namespace Go.Proofs.Ytmfffepjkmgmjaa
/- THE CELL 'sum', in the pinned program and in every row, IS THE sha256 OF THE DUMP (.gsa) THAT YtmfffepjkmgmjaaProg.lean LOADS. Nothing in Lean hashes anything: it is a label: what it is worth is what the hold of that sum in a sandbox is worth. -/
noncomputable def Try.pinned : Pinned := { name := "ytmfffepjkmgmjaa", sum := "2854c33bac318d25a3751120b2ad5d8e2e768b0f41a36a41e66ecd4536a28673", checked := Try.checked }
namespace Rows
def none {H : Type} : Left H := { results := [], args := [] }

/-- 'laws.FnBytes': WHATEVER THE INPUT: true; the input reads as it did. -/
def fnBytesSpec : ChangeSpec := { name := "fnBytes", fn := fun _ => fun
  | [d] => { results := [.lit (.bool true)], args := [d] }
  | _ => none }
def fnBytesRow : OpenClaim := { program := "ytmfffepjkmgmjaa", sum := "2854c33bac318d25a3751120b2ad5d8e2e768b0f41a36a41e66ecd4536a28673", func := "loop.example/g00499/laws.FnBytes", spec := "fnBytes", unfollowed := true, recurses := true, apart := false }
def FnBytesSaid : Prop := fnBytesRow.holds Try.pinned (OpenSpec.ofChange fnBytesSpec)

/-- ITS FALSE NEIGHBOUR: 'it returns false'. Refute it at one input. -/
def fnBytesWrong : ChangeSpec := { name := "fnBytes", fn := fun _ => fun
  | [d] => { results := [.lit (.bool false)], args := [d] }
  | _ => none }
def FnBytesWrongFalsely : Prop := fnBytesRow.holds Try.pinned (OpenSpec.ofChange fnBytesWrong)

/-- 'laws.FnExactSameNode': WHATEVER THE INPUT: true; the input reads as it did. -/
def fnExactSameNodeSpec : ChangeSpec := { name := "fnExactSameNode", fn := fun _ => fun
  | [d1, d2] => { results := [.lit (.bool true)], args := [d1, d2] }
  | _ => none }
def fnExactSameNodeRow : OpenClaim := { program := "ytmfffepjkmgmjaa", sum := "2854c33bac318d25a3751120b2ad5d8e2e768b0f41a36a41e66ecd4536a28673", func := "loop.example/g00499/laws.FnExactSameNode", spec := "fnExactSameNode", apart := false }
def FnExactSameNodeSaid : Prop := fnExactSameNodeRow.holds Try.pinned (OpenSpec.ofChange fnExactSameNodeSpec)

/-- ITS FALSE NEIGHBOUR: 'it returns false'. Refute it at one input. -/
def fnExactSameNodeWrong : ChangeSpec := { name := "fnExactSameNode", fn := fun _ => fun
  | [d1, d2] => { results := [.lit (.bool false)], args := [d1, d2] }
  | _ => none }
def FnExactSameNodeWrongFalsely : Prop := fnExactSameNodeRow.holds Try.pinned (OpenSpec.ofChange fnExactSameNodeWrong)

/-- 'laws.FnExactFreePlace': WHATEVER THE INPUT: true; the input reads as it did. -/
def fnExactFreePlaceSpec : ChangeSpec := { name := "fnExactFreePlace", fn := fun _ => fun
  | [d] => { results := [.lit (.bool true)], args := [d] }
  | _ => none }
def fnExactFreePlaceRow : OpenClaim := { program := "ytmfffepjkmgmjaa", sum := "2854c33bac318d25a3751120b2ad5d8e2e768b0f41a36a41e66ecd4536a28673", func := "loop.example/g00499/laws.FnExactFreePlace", spec := "fnExactFreePlace", unfollowed := true, recurses := true, apart := false }
def FnExactFreePlaceSaid : Prop := fnExactFreePlaceRow.holds Try.pinned (OpenSpec.ofChange fnExactFreePlaceSpec)

/-- ITS FALSE NEIGHBOUR: 'it returns false'. Refute it at one input. -/
def fnExactFreePlaceWrong : ChangeSpec := { name := "fnExactFreePlace", fn := fun _ => fun
  | [d] => { results := [.lit (.bool false)], args := [d] }
  | _ => none }
def FnExactFreePlaceWrongFalsely : Prop := fnExactFreePlaceRow.holds Try.pinned (OpenSpec.ofChange fnExactFreePlaceWrong)

/-- 'laws.FnExactCountNodes': WHATEVER THE INPUT: true; the input reads as it did. -/
def fnExactCountNodesSpec : ChangeSpec := { name := "fnExactCountNodes", fn := fun _ => fun
  | [d1, d2] => { results := [.lit (.bool true)], args := [d1, d2] }
  | _ => none }
def fnExactCountNodesRow : OpenClaim := { program := "ytmfffepjkmgmjaa", sum := "2854c33bac318d25a3751120b2ad5d8e2e768b0f41a36a41e66ecd4536a28673", func := "loop.example/g00499/laws.FnExactCountNodes", spec := "fnExactCountNodes", apart := false }
def FnExactCountNodesSaid : Prop := fnExactCountNodesRow.holds Try.pinned (OpenSpec.ofChange fnExactCountNodesSpec)

/-- ITS FALSE NEIGHBOUR: 'it returns false'. Refute it at one input. -/
def fnExactCountNodesWrong : ChangeSpec := { name := "fnExactCountNodes", fn := fun _ => fun
  | [d1, d2] => { results := [.lit (.bool false)], args := [d1, d2] }
  | _ => none }
def FnExactCountNodesWrongFalsely : Prop := fnExactCountNodesRow.holds Try.pinned (OpenSpec.ofChange fnExactCountNodesWrong)

/-- 'laws.FnExactPoolNew': WHATEVER THE INPUT: true; the input reads as it did. -/
def fnExactPoolNewSpec : ChangeSpec := { name := "fnExactPoolNew", fn := fun _ => fun
  | [d] => { results := [.lit (.bool true)], args := [d] }
  | _ => none }
def fnExactPoolNewRow : OpenClaim := { program := "ytmfffepjkmgmjaa", sum := "2854c33bac318d25a3751120b2ad5d8e2e768b0f41a36a41e66ecd4536a28673", func := "loop.example/g00499/laws.FnExactPoolNew", spec := "fnExactPoolNew", apart := false }
def FnExactPoolNewSaid : Prop := fnExactPoolNewRow.holds Try.pinned (OpenSpec.ofChange fnExactPoolNewSpec)

/-- ITS FALSE NEIGHBOUR: 'it returns false'. Refute it at one input. -/
def fnExactPoolNewWrong : ChangeSpec := { name := "fnExactPoolNew", fn := fun _ => fun
  | [d] => { results := [.lit (.bool false)], args := [d] }
  | _ => none }
def FnExactPoolNewWrongFalsely : Prop := fnExactPoolNewRow.holds Try.pinned (OpenSpec.ofChange fnExactPoolNewWrong)

/-- 'laws.FnExactPlaceOf': WHATEVER THE INPUT: true; the input reads as it did. -/
def fnExactPlaceOfSpec : ChangeSpec := { name := "fnExactPlaceOf", fn := fun _ => fun
  | [d1, d2] => { results := [.lit (.bool true)], args := [d1, d2] }
  | _ => none }
def fnExactPlaceOfRow : OpenClaim := { program := "ytmfffepjkmgmjaa", sum := "2854c33bac318d25a3751120b2ad5d8e2e768b0f41a36a41e66ecd4536a28673", func := "loop.example/g00499/laws.FnExactPlaceOf", spec := "fnExactPlaceOf", apart := false }
def FnExactPlaceOfSaid : Prop := fnExactPlaceOfRow.holds Try.pinned (OpenSpec.ofChange fnExactPlaceOfSpec)

/-- ITS FALSE NEIGHBOUR: 'it returns false'. Refute it at one input. -/
def fnExactPlaceOfWrong : ChangeSpec := { name := "fnExactPlaceOf", fn := fun _ => fun
  | [d1, d2] => { results := [.lit (.bool false)], args := [d1, d2] }
  | _ => none }
def FnExactPlaceOfWrongFalsely : Prop := fnExactPlaceOfRow.holds Try.pinned (OpenSpec.ofChange fnExactPlaceOfWrong)

/-- 'laws.FnExactDeepOf': WHATEVER THE INPUT: true; the input reads as it did. -/
def fnExactDeepOfSpec : ChangeSpec := { name := "fnExactDeepOf", fn := fun _ => fun
  | [d1, d2] => { results := [.lit (.bool true)], args := [d1, d2] }
  | _ => none }
def fnExactDeepOfRow : OpenClaim := { program := "ytmfffepjkmgmjaa", sum := "2854c33bac318d25a3751120b2ad5d8e2e768b0f41a36a41e66ecd4536a28673", func := "loop.example/g00499/laws.FnExactDeepOf", spec := "fnExactDeepOf", apart := false }
def FnExactDeepOfSaid : Prop := fnExactDeepOfRow.holds Try.pinned (OpenSpec.ofChange fnExactDeepOfSpec)

/-- ITS FALSE NEIGHBOUR: 'it returns false'. Refute it at one input. -/
def fnExactDeepOfWrong : ChangeSpec := { name := "fnExactDeepOf", fn := fun _ => fun
  | [d1, d2] => { results := [.lit (.bool false)], args := [d1, d2] }
  | _ => none }
def FnExactDeepOfWrongFalsely : Prop := fnExactDeepOfRow.holds Try.pinned (OpenSpec.ofChange fnExactDeepOfWrong)

/-- 'laws.FnExactTakeRun': WHATEVER THE INPUT: true; the input reads as it did. -/
def fnExactTakeRunSpec : ChangeSpec := { name := "fnExactTakeRun", fn := fun _ => fun
  | [d1, d2, d3, d4] => { results := [.lit (.bool true)], args := [d1, d2, d3, d4] }
  | _ => none }
def fnExactTakeRunRow : OpenClaim := { program := "ytmfffepjkmgmjaa", sum := "2854c33bac318d25a3751120b2ad5d8e2e768b0f41a36a41e66ecd4536a28673", func := "loop.example/g00499/laws.FnExactTakeRun", spec := "fnExactTakeRun", unfollowed := true, recurses := true, apart := false }
def FnExactTakeRunSaid : Prop := fnExactTakeRunRow.holds Try.pinned (OpenSpec.ofChange fnExactTakeRunSpec)

/-- ITS FALSE NEIGHBOUR: 'it returns false'. Refute it at one input. -/
def fnExactTakeRunWrong : ChangeSpec := { name := "fnExactTakeRun", fn := fun _ => fun
  | [d1, d2, d3, d4] => { results := [.lit (.bool false)], args := [d1, d2, d3, d4] }
  | _ => none }
def FnExactTakeRunWrongFalsely : Prop := fnExactTakeRunRow.holds Try.pinned (OpenSpec.ofChange fnExactTakeRunWrong)

/-- 'laws.FnExactHandleAt': WHATEVER THE INPUT: true; the input reads as it did. -/
def fnExactHandleAtSpec : ChangeSpec := { name := "fnExactHandleAt", fn := fun _ => fun
  | [d1, d2] => { results := [.lit (.bool true)], args := [d1, d2] }
  | _ => none }
def fnExactHandleAtRow : OpenClaim := { program := "ytmfffepjkmgmjaa", sum := "2854c33bac318d25a3751120b2ad5d8e2e768b0f41a36a41e66ecd4536a28673", func := "loop.example/g00499/laws.FnExactHandleAt", spec := "fnExactHandleAt", apart := false }
def FnExactHandleAtSaid : Prop := fnExactHandleAtRow.holds Try.pinned (OpenSpec.ofChange fnExactHandleAtSpec)

/-- ITS FALSE NEIGHBOUR: 'it returns false'. Refute it at one input. -/
def fnExactHandleAtWrong : ChangeSpec := { name := "fnExactHandleAt", fn := fun _ => fun
  | [d1, d2] => { results := [.lit (.bool false)], args := [d1, d2] }
  | _ => none }
def FnExactHandleAtWrongFalsely : Prop := fnExactHandleAtRow.holds Try.pinned (OpenSpec.ofChange fnExactHandleAtWrong)

/-- 'laws.FnExactAlive': WHATEVER THE INPUT: true; the input reads as it did. -/
def fnExactAliveSpec : ChangeSpec := { name := "fnExactAlive", fn := fun _ => fun
  | [d1, d2] => { results := [.lit (.bool true)], args := [d1, d2] }
  | _ => none }
def fnExactAliveRow : OpenClaim := { program := "ytmfffepjkmgmjaa", sum := "2854c33bac318d25a3751120b2ad5d8e2e768b0f41a36a41e66ecd4536a28673", func := "loop.example/g00499/laws.FnExactAlive", spec := "fnExactAlive", apart := false }
def FnExactAliveSaid : Prop := fnExactAliveRow.holds Try.pinned (OpenSpec.ofChange fnExactAliveSpec)

/-- ITS FALSE NEIGHBOUR: 'it returns false'. Refute it at one input. -/
def fnExactAliveWrong : ChangeSpec := { name := "fnExactAlive", fn := fun _ => fun
  | [d1, d2] => { results := [.lit (.bool false)], args := [d1, d2] }
  | _ => none }
def FnExactAliveWrongFalsely : Prop := fnExactAliveRow.holds Try.pinned (OpenSpec.ofChange fnExactAliveWrong)

/-- 'laws.FnExactChunkBytes': WHATEVER THE INPUT: true; the input reads as it did. -/
def fnExactChunkBytesSpec : ChangeSpec := { name := "fnExactChunkBytes", fn := fun _ => fun
  | [d1, d2, d3] => { results := [.lit (.bool true)], args := [d1, d2, d3] }
  | _ => none }
def fnExactChunkBytesRow : OpenClaim := { program := "ytmfffepjkmgmjaa", sum := "2854c33bac318d25a3751120b2ad5d8e2e768b0f41a36a41e66ecd4536a28673", func := "loop.example/g00499/laws.FnExactChunkBytes", spec := "fnExactChunkBytes", unfollowed := true, recurses := true, apart := false }
def FnExactChunkBytesSaid : Prop := fnExactChunkBytesRow.holds Try.pinned (OpenSpec.ofChange fnExactChunkBytesSpec)

/-- ITS FALSE NEIGHBOUR: 'it returns false'. Refute it at one input. -/
def fnExactChunkBytesWrong : ChangeSpec := { name := "fnExactChunkBytes", fn := fun _ => fun
  | [d1, d2, d3] => { results := [.lit (.bool false)], args := [d1, d2, d3] }
  | _ => none }
def FnExactChunkBytesWrongFalsely : Prop := fnExactChunkBytesRow.holds Try.pinned (OpenSpec.ofChange fnExactChunkBytesWrong)

/-- 'laws.FnExactSameTable': WHATEVER THE INPUT: true; the input reads as it did. -/
def fnExactSameTableSpec : ChangeSpec := { name := "fnExactSameTable", fn := fun _ => fun
  | [d1, d2] => { results := [.lit (.bool true)], args := [d1, d2] }
  | _ => none }
def fnExactSameTableRow : OpenClaim := { program := "ytmfffepjkmgmjaa", sum := "2854c33bac318d25a3751120b2ad5d8e2e768b0f41a36a41e66ecd4536a28673", func := "loop.example/g00499/laws.FnExactSameTable", spec := "fnExactSameTable", unfollowed := true, recurses := true, apart := false }
def FnExactSameTableSaid : Prop := fnExactSameTableRow.holds Try.pinned (OpenSpec.ofChange fnExactSameTableSpec)

/-- ITS FALSE NEIGHBOUR: 'it returns false'. Refute it at one input. -/
def fnExactSameTableWrong : ChangeSpec := { name := "fnExactSameTable", fn := fun _ => fun
  | [d1, d2] => { results := [.lit (.bool false)], args := [d1, d2] }
  | _ => none }
def FnExactSameTableWrongFalsely : Prop := fnExactSameTableRow.holds Try.pinned (OpenSpec.ofChange fnExactSameTableWrong)

/- THE SECOND FORM. 'bulk': how many values and letters a reading holds, each counted each time it is reached (what is shared counts as often as it is met; a slice's spare places count too). A statement '..UptoSaid' is the law's where the arguments, and the package variables that the reading takes, are together of bulk at most 1048576: NARROWER than '..Said'. Prove '..Said' where nothing that the law and all that it calls make is longer than what came in: it says more and counts as full. Else prove '..UptoSaid'. A law counts once. -/
mutual
def uptoBulk {H : Type} : DataW H → Nat
  | .lit (.string bytes) => bytes.length + 1
  | .lit _ => 1
  | .nil => 1
  | .ptr d => uptoBulk d + 1
  | .slice elems spare => uptoBulkAll elems + uptoBulkAll spare + 1
  | .agg parts => uptoBulkAll parts + 1
  | .iface _ d => uptoBulk d + 1
  | .map entries => uptoBulkEntries entries + 1
  | .held _ => 1
def uptoBulkAll {H : Type} : List (DataW H) → Nat
  | [] => 0
  | d :: r => uptoBulk d + uptoBulkAll r
def uptoBulkEntries {H : Type} : List (Lit × DataW H) → Nat
  | [] => 0
  | x :: r => uptoBulkEntry x + uptoBulkEntries r
def uptoBulkEntry {H : Type} : Lit × DataW H → Nat
  | (.string bytes, d) => bytes.length + uptoBulk d + 1
  | (_, d) => uptoBulk d + 1
 end
def uptoSmall : (H : Type) → List (DataW H) → Bool := fun _ ds => decide (uptoBulkAll ds ≤ 1048576)
def OpenSpec.upto (s : _root_.Go.ChangeSpec) : _root_.Go.OpenSpec := { _root_.Go.OpenSpec.ofChange s with cond := some uptoSmall }

/-- 'laws.FnBytes', WHERE WHAT IT READS IS OF BULK AT MOST 1048576: true; the input reads as it did. -/
def fnBytesUptoRow : OpenClaim := { program := "ytmfffepjkmgmjaa", sum := "2854c33bac318d25a3751120b2ad5d8e2e768b0f41a36a41e66ecd4536a28673", func := "loop.example/g00499/laws.FnBytes", spec := "fnBytes", unfollowed := true, recurses := true, apart := false, narrowed := true }
def FnBytesUptoSaid : Prop := fnBytesUptoRow.holds Try.pinned (OpenSpec.upto fnBytesSpec)

/-- 'laws.FnExactSameNode', WHERE WHAT IT READS IS OF BULK AT MOST 1048576: true; the input reads as it did. -/
def fnExactSameNodeUptoRow : OpenClaim := { program := "ytmfffepjkmgmjaa", sum := "2854c33bac318d25a3751120b2ad5d8e2e768b0f41a36a41e66ecd4536a28673", func := "loop.example/g00499/laws.FnExactSameNode", spec := "fnExactSameNode", apart := false, narrowed := true }
def FnExactSameNodeUptoSaid : Prop := fnExactSameNodeUptoRow.holds Try.pinned (OpenSpec.upto fnExactSameNodeSpec)

/-- 'laws.FnExactFreePlace', WHERE WHAT IT READS IS OF BULK AT MOST 1048576: true; the input reads as it did. -/
def fnExactFreePlaceUptoRow : OpenClaim := { program := "ytmfffepjkmgmjaa", sum := "2854c33bac318d25a3751120b2ad5d8e2e768b0f41a36a41e66ecd4536a28673", func := "loop.example/g00499/laws.FnExactFreePlace", spec := "fnExactFreePlace", unfollowed := true, recurses := true, apart := false, narrowed := true }
def FnExactFreePlaceUptoSaid : Prop := fnExactFreePlaceUptoRow.holds Try.pinned (OpenSpec.upto fnExactFreePlaceSpec)

/-- 'laws.FnExactCountNodes', WHERE WHAT IT READS IS OF BULK AT MOST 1048576: true; the input reads as it did. -/
def fnExactCountNodesUptoRow : OpenClaim := { program := "ytmfffepjkmgmjaa", sum := "2854c33bac318d25a3751120b2ad5d8e2e768b0f41a36a41e66ecd4536a28673", func := "loop.example/g00499/laws.FnExactCountNodes", spec := "fnExactCountNodes", apart := false, narrowed := true }
def FnExactCountNodesUptoSaid : Prop := fnExactCountNodesUptoRow.holds Try.pinned (OpenSpec.upto fnExactCountNodesSpec)

/-- 'laws.FnExactPoolNew', WHERE WHAT IT READS IS OF BULK AT MOST 1048576: true; the input reads as it did. -/
def fnExactPoolNewUptoRow : OpenClaim := { program := "ytmfffepjkmgmjaa", sum := "2854c33bac318d25a3751120b2ad5d8e2e768b0f41a36a41e66ecd4536a28673", func := "loop.example/g00499/laws.FnExactPoolNew", spec := "fnExactPoolNew", apart := false, narrowed := true }
def FnExactPoolNewUptoSaid : Prop := fnExactPoolNewUptoRow.holds Try.pinned (OpenSpec.upto fnExactPoolNewSpec)

/-- 'laws.FnExactPlaceOf', WHERE WHAT IT READS IS OF BULK AT MOST 1048576: true; the input reads as it did. -/
def fnExactPlaceOfUptoRow : OpenClaim := { program := "ytmfffepjkmgmjaa", sum := "2854c33bac318d25a3751120b2ad5d8e2e768b0f41a36a41e66ecd4536a28673", func := "loop.example/g00499/laws.FnExactPlaceOf", spec := "fnExactPlaceOf", apart := false, narrowed := true }
def FnExactPlaceOfUptoSaid : Prop := fnExactPlaceOfUptoRow.holds Try.pinned (OpenSpec.upto fnExactPlaceOfSpec)

/-- 'laws.FnExactDeepOf', WHERE WHAT IT READS IS OF BULK AT MOST 1048576: true; the input reads as it did. -/
def fnExactDeepOfUptoRow : OpenClaim := { program := "ytmfffepjkmgmjaa", sum := "2854c33bac318d25a3751120b2ad5d8e2e768b0f41a36a41e66ecd4536a28673", func := "loop.example/g00499/laws.FnExactDeepOf", spec := "fnExactDeepOf", apart := false, narrowed := true }
def FnExactDeepOfUptoSaid : Prop := fnExactDeepOfUptoRow.holds Try.pinned (OpenSpec.upto fnExactDeepOfSpec)

/-- 'laws.FnExactTakeRun', WHERE WHAT IT READS IS OF BULK AT MOST 1048576: true; the input reads as it did. -/
def fnExactTakeRunUptoRow : OpenClaim := { program := "ytmfffepjkmgmjaa", sum := "2854c33bac318d25a3751120b2ad5d8e2e768b0f41a36a41e66ecd4536a28673", func := "loop.example/g00499/laws.FnExactTakeRun", spec := "fnExactTakeRun", unfollowed := true, recurses := true, apart := false, narrowed := true }
def FnExactTakeRunUptoSaid : Prop := fnExactTakeRunUptoRow.holds Try.pinned (OpenSpec.upto fnExactTakeRunSpec)

/-- 'laws.FnExactHandleAt', WHERE WHAT IT READS IS OF BULK AT MOST 1048576: true; the input reads as it did. -/
def fnExactHandleAtUptoRow : OpenClaim := { program := "ytmfffepjkmgmjaa", sum := "2854c33bac318d25a3751120b2ad5d8e2e768b0f41a36a41e66ecd4536a28673", func := "loop.example/g00499/laws.FnExactHandleAt", spec := "fnExactHandleAt", apart := false, narrowed := true }
def FnExactHandleAtUptoSaid : Prop := fnExactHandleAtUptoRow.holds Try.pinned (OpenSpec.upto fnExactHandleAtSpec)

/-- 'laws.FnExactAlive', WHERE WHAT IT READS IS OF BULK AT MOST 1048576: true; the input reads as it did. -/
def fnExactAliveUptoRow : OpenClaim := { program := "ytmfffepjkmgmjaa", sum := "2854c33bac318d25a3751120b2ad5d8e2e768b0f41a36a41e66ecd4536a28673", func := "loop.example/g00499/laws.FnExactAlive", spec := "fnExactAlive", apart := false, narrowed := true }
def FnExactAliveUptoSaid : Prop := fnExactAliveUptoRow.holds Try.pinned (OpenSpec.upto fnExactAliveSpec)

/-- 'laws.FnExactChunkBytes', WHERE WHAT IT READS IS OF BULK AT MOST 1048576: true; the input reads as it did. -/
def fnExactChunkBytesUptoRow : OpenClaim := { program := "ytmfffepjkmgmjaa", sum := "2854c33bac318d25a3751120b2ad5d8e2e768b0f41a36a41e66ecd4536a28673", func := "loop.example/g00499/laws.FnExactChunkBytes", spec := "fnExactChunkBytes", unfollowed := true, recurses := true, apart := false, narrowed := true }
def FnExactChunkBytesUptoSaid : Prop := fnExactChunkBytesUptoRow.holds Try.pinned (OpenSpec.upto fnExactChunkBytesSpec)

/-- 'laws.FnExactSameTable', WHERE WHAT IT READS IS OF BULK AT MOST 1048576: true; the input reads as it did. -/
def fnExactSameTableUptoRow : OpenClaim := { program := "ytmfffepjkmgmjaa", sum := "2854c33bac318d25a3751120b2ad5d8e2e768b0f41a36a41e66ecd4536a28673", func := "loop.example/g00499/laws.FnExactSameTable", spec := "fnExactSameTable", unfollowed := true, recurses := true, apart := false, narrowed := true }
def FnExactSameTableUptoSaid : Prop := fnExactSameTableUptoRow.holds Try.pinned (OpenSpec.upto fnExactSameTableSpec)

end Rows
end Go.Proofs.Ytmfffepjkmgmjaa
