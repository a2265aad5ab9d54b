/-
  No cell of these rows narrows 'for every input' (looked for: loops, veiled, ifaces, maps, wideKeys, modest, calm, conditions, laid).
  DERIVED. THE GIVEN ROWS OF THIS SEAT. 10 by the template 'for every input the law returns true; each argument reads behind the call as it read before'; 0 by the template 'total and deterministic' (their statements: YtnloeihhimcblaaTotals.lean).
  GIVEN WITH THE SEED: the statements are not yours to turn. If you find one false, say at which input.
  Laid BY PROGRAM, IN A SANDBOX (cutbox-rows.mjs): the forced cells as the released guide's own fill.sh prints them over the translation ef338b70eabde7ea… (all of the seat's roots in one cut). By AI agents, Wed Nov 11 2026. No macro, syntax, notation, axiom, sorry.
-/
import Derived.Test.YtnloeihhimcblaaChecked
import GoSem.Claim
import GoSem.ClaimJoined
import GoSem.ClaimMapViews
import Derived.JoinedTies
import Derived.KernelRfl
namespace Go.Proofs.Ytnloeihhimcblaa
/- THE CELL 'sum', in the pinned program and in every row, IS THE sha256 OF THE DUMP (.gsa) THAT YtnloeihhimcblaaProg.lean LOADS. Nothing in Lean hashes anything: it is a label: what it is worth is what the hold of that sum in a sandbox is worth. -/
noncomputable def Try.pinned : Pinned := { name := "ytnloeihhimcblaa", sum := "ef338b70eabde7eaf6f13da233cefe55aa1b353b8946b22ad6d207f29728f1ec", checked := Try.checked }
namespace Rows
def none {H : Type} : Left H := { results := [], args := [] }

/-- 'laws.FnExactAlive': WHATEVER THE INPUT: true; the input reads as it did. -/
def fnExactAliveSpec : ChangeSpec := { name := "fnExactAlive", fn := fun _ => fun
  | [d1, d2] => { results := [.lit (.bool true)], args := [d1, d2] }
  | _ => none }
def fnExactAliveRow : OpenClaim := { program := "ytnloeihhimcblaa", sum := "ef338b70eabde7eaf6f13da233cefe55aa1b353b8946b22ad6d207f29728f1ec", func := "loop.example/g00499/laws.FnExactAlive", spec := "fnExactAlive", apart := false }
def FnExactAliveSaid : Prop := fnExactAliveRow.holds Try.pinned (OpenSpec.ofChange fnExactAliveSpec)

/-- ITS FALSE NEIGHBOUR: 'it returns false'. Refute it at one input. -/
def fnExactAliveWrong : ChangeSpec := { name := "fnExactAlive", fn := fun _ => fun
  | [d1, d2] => { results := [.lit (.bool false)], args := [d1, d2] }
  | _ => none }
def FnExactAliveWrongFalsely : Prop := fnExactAliveRow.holds Try.pinned (OpenSpec.ofChange fnExactAliveWrong)

/-- 'laws.FnExactSameNode': WHATEVER THE INPUT: true; the input reads as it did. -/
def fnExactSameNodeSpec : ChangeSpec := { name := "fnExactSameNode", fn := fun _ => fun
  | [d1, d2] => { results := [.lit (.bool true)], args := [d1, d2] }
  | _ => none }
def fnExactSameNodeRow : OpenClaim := { program := "ytnloeihhimcblaa", sum := "ef338b70eabde7eaf6f13da233cefe55aa1b353b8946b22ad6d207f29728f1ec", func := "loop.example/g00499/laws.FnExactSameNode", spec := "fnExactSameNode", apart := false }
def FnExactSameNodeSaid : Prop := fnExactSameNodeRow.holds Try.pinned (OpenSpec.ofChange fnExactSameNodeSpec)

/-- ITS FALSE NEIGHBOUR: 'it returns false'. Refute it at one input. -/
def fnExactSameNodeWrong : ChangeSpec := { name := "fnExactSameNode", fn := fun _ => fun
  | [d1, d2] => { results := [.lit (.bool false)], args := [d1, d2] }
  | _ => none }
def FnExactSameNodeWrongFalsely : Prop := fnExactSameNodeRow.holds Try.pinned (OpenSpec.ofChange fnExactSameNodeWrong)

/-- 'laws.FnExactSameTable': WHATEVER THE INPUT: true; the input reads as it did. -/
def fnExactSameTableSpec : ChangeSpec := { name := "fnExactSameTable", fn := fun _ => fun
  | [d1, d2] => { results := [.lit (.bool true)], args := [d1, d2] }
  | _ => none }
def fnExactSameTableRow : OpenClaim := { program := "ytnloeihhimcblaa", sum := "ef338b70eabde7eaf6f13da233cefe55aa1b353b8946b22ad6d207f29728f1ec", func := "loop.example/g00499/laws.FnExactSameTable", spec := "fnExactSameTable", unfollowed := true, recurses := true, apart := false }
def FnExactSameTableSaid : Prop := fnExactSameTableRow.holds Try.pinned (OpenSpec.ofChange fnExactSameTableSpec)

/-- ITS FALSE NEIGHBOUR: 'it returns false'. Refute it at one input. -/
def fnExactSameTableWrong : ChangeSpec := { name := "fnExactSameTable", fn := fun _ => fun
  | [d1, d2] => { results := [.lit (.bool false)], args := [d1, d2] }
  | _ => none }
def FnExactSameTableWrongFalsely : Prop := fnExactSameTableRow.holds Try.pinned (OpenSpec.ofChange fnExactSameTableWrong)

/-- 'laws.FnExactTakeRun': WHATEVER THE INPUT: true; the input reads as it did. -/
def fnExactTakeRunSpec : ChangeSpec := { name := "fnExactTakeRun", fn := fun _ => fun
  | [d1, d2, d3, d4] => { results := [.lit (.bool true)], args := [d1, d2, d3, d4] }
  | _ => none }
def fnExactTakeRunRow : OpenClaim := { program := "ytnloeihhimcblaa", sum := "ef338b70eabde7eaf6f13da233cefe55aa1b353b8946b22ad6d207f29728f1ec", func := "loop.example/g00499/laws.FnExactTakeRun", spec := "fnExactTakeRun", unfollowed := true, recurses := true, apart := false }
def FnExactTakeRunSaid : Prop := fnExactTakeRunRow.holds Try.pinned (OpenSpec.ofChange fnExactTakeRunSpec)

/-- ITS FALSE NEIGHBOUR: 'it returns false'. Refute it at one input. -/
def fnExactTakeRunWrong : ChangeSpec := { name := "fnExactTakeRun", fn := fun _ => fun
  | [d1, d2, d3, d4] => { results := [.lit (.bool false)], args := [d1, d2, d3, d4] }
  | _ => none }
def FnExactTakeRunWrongFalsely : Prop := fnExactTakeRunRow.holds Try.pinned (OpenSpec.ofChange fnExactTakeRunWrong)

/-- 'laws.FnExactLetGo': WHATEVER THE INPUT: true; the input reads as it did. -/
def fnExactLetGoSpec : ChangeSpec := { name := "fnExactLetGo", fn := fun _ => fun
  | [d1, d2] => { results := [.lit (.bool true)], args := [d1, d2] }
  | _ => none }
def fnExactLetGoRow : OpenClaim := { program := "ytnloeihhimcblaa", sum := "ef338b70eabde7eaf6f13da233cefe55aa1b353b8946b22ad6d207f29728f1ec", func := "loop.example/g00499/laws.FnExactLetGo", spec := "fnExactLetGo", apart := false }
def FnExactLetGoSaid : Prop := fnExactLetGoRow.holds Try.pinned (OpenSpec.ofChange fnExactLetGoSpec)

/-- ITS FALSE NEIGHBOUR: 'it returns false'. Refute it at one input. -/
def fnExactLetGoWrong : ChangeSpec := { name := "fnExactLetGo", fn := fun _ => fun
  | [d1, d2] => { results := [.lit (.bool false)], args := [d1, d2] }
  | _ => none }
def FnExactLetGoWrongFalsely : Prop := fnExactLetGoRow.holds Try.pinned (OpenSpec.ofChange fnExactLetGoWrong)

/-- 'laws.FnExactKidsOf': WHATEVER THE INPUT: true; the input reads as it did. -/
def fnExactKidsOfSpec : ChangeSpec := { name := "fnExactKidsOf", fn := fun _ => fun
  | [d1, d2] => { results := [.lit (.bool true)], args := [d1, d2] }
  | _ => none }
def fnExactKidsOfRow : OpenClaim := { program := "ytnloeihhimcblaa", sum := "ef338b70eabde7eaf6f13da233cefe55aa1b353b8946b22ad6d207f29728f1ec", func := "loop.example/g00499/laws.FnExactKidsOf", spec := "fnExactKidsOf", apart := false }
def FnExactKidsOfSaid : Prop := fnExactKidsOfRow.holds Try.pinned (OpenSpec.ofChange fnExactKidsOfSpec)

/-- ITS FALSE NEIGHBOUR: 'it returns false'. Refute it at one input. -/
def fnExactKidsOfWrong : ChangeSpec := { name := "fnExactKidsOf", fn := fun _ => fun
  | [d1, d2] => { results := [.lit (.bool false)], args := [d1, d2] }
  | _ => none }
def FnExactKidsOfWrongFalsely : Prop := fnExactKidsOfRow.holds Try.pinned (OpenSpec.ofChange fnExactKidsOfWrong)

/-- 'laws.FnExactTableNew': WHATEVER THE INPUT: true; the input reads as it did. -/
def fnExactTableNewSpec : ChangeSpec := { name := "fnExactTableNew", fn := fun _ => fun
  | [d] => { results := [.lit (.bool true)], args := [d] }
  | _ => none }
def fnExactTableNewRow : OpenClaim := { program := "ytnloeihhimcblaa", sum := "ef338b70eabde7eaf6f13da233cefe55aa1b353b8946b22ad6d207f29728f1ec", func := "loop.example/g00499/laws.FnExactTableNew", spec := "fnExactTableNew", apart := false }
def FnExactTableNewSaid : Prop := fnExactTableNewRow.holds Try.pinned (OpenSpec.ofChange fnExactTableNewSpec)

/-- ITS FALSE NEIGHBOUR: 'it returns false'. Refute it at one input. -/
def fnExactTableNewWrong : ChangeSpec := { name := "fnExactTableNew", fn := fun _ => fun
  | [d] => { results := [.lit (.bool false)], args := [d] }
  | _ => none }
def FnExactTableNewWrongFalsely : Prop := fnExactTableNewRow.holds Try.pinned (OpenSpec.ofChange fnExactTableNewWrong)

/-- 'laws.FnExactClear': WHATEVER THE INPUT: true; the input reads as it did. -/
def fnExactClearSpec : ChangeSpec := { name := "fnExactClear", fn := fun _ => fun
  | [d1, d2, d3] => { results := [.lit (.bool true)], args := [d1, d2, d3] }
  | _ => none }
def fnExactClearRow : OpenClaim := { program := "ytnloeihhimcblaa", sum := "ef338b70eabde7eaf6f13da233cefe55aa1b353b8946b22ad6d207f29728f1ec", func := "loop.example/g00499/laws.FnExactClear", spec := "fnExactClear", apart := false }
def FnExactClearSaid : Prop := fnExactClearRow.holds Try.pinned (OpenSpec.ofChange fnExactClearSpec)

/-- ITS FALSE NEIGHBOUR: 'it returns false'. Refute it at one input. -/
def fnExactClearWrong : ChangeSpec := { name := "fnExactClear", fn := fun _ => fun
  | [d1, d2, d3] => { results := [.lit (.bool false)], args := [d1, d2, d3] }
  | _ => none }
def FnExactClearWrongFalsely : Prop := fnExactClearRow.holds Try.pinned (OpenSpec.ofChange fnExactClearWrong)

/-- 'laws.FnExactNodeOk': WHATEVER THE INPUT: true; the input reads as it did. -/
def fnExactNodeOkSpec : ChangeSpec := { name := "fnExactNodeOk", fn := fun _ => fun
  | [d1, d2] => { results := [.lit (.bool true)], args := [d1, d2] }
  | _ => none }
def fnExactNodeOkRow : OpenClaim := { program := "ytnloeihhimcblaa", sum := "ef338b70eabde7eaf6f13da233cefe55aa1b353b8946b22ad6d207f29728f1ec", func := "loop.example/g00499/laws.FnExactNodeOk", spec := "fnExactNodeOk", unfollowed := true, recurses := true, apart := false }
def FnExactNodeOkSaid : Prop := fnExactNodeOkRow.holds Try.pinned (OpenSpec.ofChange fnExactNodeOkSpec)

/-- ITS FALSE NEIGHBOUR: 'it returns false'. Refute it at one input. -/
def fnExactNodeOkWrong : ChangeSpec := { name := "fnExactNodeOk", fn := fun _ => fun
  | [d1, d2] => { results := [.lit (.bool false)], args := [d1, d2] }
  | _ => none }
def FnExactNodeOkWrongFalsely : Prop := fnExactNodeOkRow.holds Try.pinned (OpenSpec.ofChange fnExactNodeOkWrong)

/-- 'laws.FnTables': WHATEVER THE INPUT: true; the input reads as it did. -/
def fnTablesSpec : ChangeSpec := { name := "fnTables", fn := fun _ => fun
  | [d] => { results := [.lit (.bool true)], args := [d] }
  | _ => none }
def fnTablesRow : OpenClaim := { program := "ytnloeihhimcblaa", sum := "ef338b70eabde7eaf6f13da233cefe55aa1b353b8946b22ad6d207f29728f1ec", func := "loop.example/g00499/laws.FnTables", spec := "fnTables", unfollowed := true, recurses := true, apart := false }
def FnTablesSaid : Prop := fnTablesRow.holds Try.pinned (OpenSpec.ofChange fnTablesSpec)

/-- ITS FALSE NEIGHBOUR: 'it returns false'. Refute it at one input. -/
def fnTablesWrong : ChangeSpec := { name := "fnTables", fn := fun _ => fun
  | [d] => { results := [.lit (.bool false)], args := [d] }
  | _ => none }
def FnTablesWrongFalsely : Prop := fnTablesRow.holds Try.pinned (OpenSpec.ofChange fnTablesWrong)

/- THE SECOND FORM. 'bulk': how many values and letters a reading holds, each counted each time it is reached (what is shared counts as often as it is met; a slice's spare places count too). A statement '..UptoSaid' is the law's where the arguments, and the package variables that the reading takes, are together of bulk at most 1048576: NARROWER than '..Said'. Prove '..Said' where nothing that the law and all that it calls make is longer than what came in: it says more and counts as full. Else prove '..UptoSaid'. A law counts once. -/
mutual
def uptoBulk {H : Type} : DataW H → Nat
  | .lit (.string bytes) => bytes.length + 1
  | .lit _ => 1
  | .nil => 1
  | .ptr d => uptoBulk d + 1
  | .slice elems spare => uptoBulkAll elems + uptoBulkAll spare + 1
  | .agg parts => uptoBulkAll parts + 1
  | .iface _ d => uptoBulk d + 1
  | .map entries => uptoBulkEntries entries + 1
  | .held _ => 1
def uptoBulkAll {H : Type} : List (DataW H) → Nat
  | [] => 0
  | d :: r => uptoBulk d + uptoBulkAll r
def uptoBulkEntries {H : Type} : List (Lit × DataW H) → Nat
  | [] => 0
  | x :: r => uptoBulkEntry x + uptoBulkEntries r
def uptoBulkEntry {H : Type} : Lit × DataW H → Nat
  | (.string bytes, d) => bytes.length + uptoBulk d + 1
  | (_, d) => uptoBulk d + 1
 end
def uptoSmall : (H : Type) → List (DataW H) → Bool := fun _ ds => decide (uptoBulkAll ds ≤ 1048576)
def OpenSpec.upto (s : _root_.Go.ChangeSpec) : _root_.Go.OpenSpec := { _root_.Go.OpenSpec.ofChange s with cond := some uptoSmall }

/-- 'laws.FnExactAlive', WHERE WHAT IT READS IS OF BULK AT MOST 1048576: true; the input reads as it did. -/
def fnExactAliveUptoRow : OpenClaim := { program := "ytnloeihhimcblaa", sum := "ef338b70eabde7eaf6f13da233cefe55aa1b353b8946b22ad6d207f29728f1ec", func := "loop.example/g00499/laws.FnExactAlive", spec := "fnExactAlive", apart := false, narrowed := true }
def FnExactAliveUptoSaid : Prop := fnExactAliveUptoRow.holds Try.pinned (OpenSpec.upto fnExactAliveSpec)

/-- 'laws.FnExactSameNode', WHERE WHAT IT READS IS OF BULK AT MOST 1048576: true; the input reads as it did. -/
def fnExactSameNodeUptoRow : OpenClaim := { program := "ytnloeihhimcblaa", sum := "ef338b70eabde7eaf6f13da233cefe55aa1b353b8946b22ad6d207f29728f1ec", func := "loop.example/g00499/laws.FnExactSameNode", spec := "fnExactSameNode", apart := false, narrowed := true }
def FnExactSameNodeUptoSaid : Prop := fnExactSameNodeUptoRow.holds Try.pinned (OpenSpec.upto fnExactSameNodeSpec)

/-- 'laws.FnExactSameTable', WHERE WHAT IT READS IS OF BULK AT MOST 1048576: true; the input reads as it did. -/
def fnExactSameTableUptoRow : OpenClaim := { program := "ytnloeihhimcblaa", sum := "ef338b70eabde7eaf6f13da233cefe55aa1b353b8946b22ad6d207f29728f1ec", func := "loop.example/g00499/laws.FnExactSameTable", spec := "fnExactSameTable", unfollowed := true, recurses := true, apart := false, narrowed := true }
def FnExactSameTableUptoSaid : Prop := fnExactSameTableUptoRow.holds Try.pinned (OpenSpec.upto fnExactSameTableSpec)

/-- 'laws.FnExactTakeRun', WHERE WHAT IT READS IS OF BULK AT MOST 1048576: true; the input reads as it did. -/
def fnExactTakeRunUptoRow : OpenClaim := { program := "ytnloeihhimcblaa", sum := "ef338b70eabde7eaf6f13da233cefe55aa1b353b8946b22ad6d207f29728f1ec", func := "loop.example/g00499/laws.FnExactTakeRun", spec := "fnExactTakeRun", unfollowed := true, recurses := true, apart := false, narrowed := true }
def FnExactTakeRunUptoSaid : Prop := fnExactTakeRunUptoRow.holds Try.pinned (OpenSpec.upto fnExactTakeRunSpec)

/-- 'laws.FnExactLetGo', WHERE WHAT IT READS IS OF BULK AT MOST 1048576: true; the input reads as it did. -/
def fnExactLetGoUptoRow : OpenClaim := { program := "ytnloeihhimcblaa", sum := "ef338b70eabde7eaf6f13da233cefe55aa1b353b8946b22ad6d207f29728f1ec", func := "loop.example/g00499/laws.FnExactLetGo", spec := "fnExactLetGo", apart := false, narrowed := true }
def FnExactLetGoUptoSaid : Prop := fnExactLetGoUptoRow.holds Try.pinned (OpenSpec.upto fnExactLetGoSpec)

/-- 'laws.FnExactKidsOf', WHERE WHAT IT READS IS OF BULK AT MOST 1048576: true; the input reads as it did. -/
def fnExactKidsOfUptoRow : OpenClaim := { program := "ytnloeihhimcblaa", sum := "ef338b70eabde7eaf6f13da233cefe55aa1b353b8946b22ad6d207f29728f1ec", func := "loop.example/g00499/laws.FnExactKidsOf", spec := "fnExactKidsOf", apart := false, narrowed := true }
def FnExactKidsOfUptoSaid : Prop := fnExactKidsOfUptoRow.holds Try.pinned (OpenSpec.upto fnExactKidsOfSpec)

/-- 'laws.FnExactTableNew', WHERE WHAT IT READS IS OF BULK AT MOST 1048576: true; the input reads as it did. -/
def fnExactTableNewUptoRow : OpenClaim := { program := "ytnloeihhimcblaa", sum := "ef338b70eabde7eaf6f13da233cefe55aa1b353b8946b22ad6d207f29728f1ec", func := "loop.example/g00499/laws.FnExactTableNew", spec := "fnExactTableNew", apart := false, narrowed := true }
def FnExactTableNewUptoSaid : Prop := fnExactTableNewUptoRow.holds Try.pinned (OpenSpec.upto fnExactTableNewSpec)

/-- 'laws.FnExactClear', WHERE WHAT IT READS IS OF BULK AT MOST 1048576: true; the input reads as it did. -/
def fnExactClearUptoRow : OpenClaim := { program := "ytnloeihhimcblaa", sum := "ef338b70eabde7eaf6f13da233cefe55aa1b353b8946b22ad6d207f29728f1ec", func := "loop.example/g00499/laws.FnExactClear", spec := "fnExactClear", apart := false, narrowed := true }
def FnExactClearUptoSaid : Prop := fnExactClearUptoRow.holds Try.pinned (OpenSpec.upto fnExactClearSpec)

/-- 'laws.FnExactNodeOk', WHERE WHAT IT READS IS OF BULK AT MOST 1048576: true; the input reads as it did. -/
def fnExactNodeOkUptoRow : OpenClaim := { program := "ytnloeihhimcblaa", sum := "ef338b70eabde7eaf6f13da233cefe55aa1b353b8946b22ad6d207f29728f1ec", func := "loop.example/g00499/laws.FnExactNodeOk", spec := "fnExactNodeOk", unfollowed := true, recurses := true, apart := false, narrowed := true }
def FnExactNodeOkUptoSaid : Prop := fnExactNodeOkUptoRow.holds Try.pinned (OpenSpec.upto fnExactNodeOkSpec)

/-- 'laws.FnTables', WHERE WHAT IT READS IS OF BULK AT MOST 1048576: true; the input reads as it did. -/
def fnTablesUptoRow : OpenClaim := { program := "ytnloeihhimcblaa", sum := "ef338b70eabde7eaf6f13da233cefe55aa1b353b8946b22ad6d207f29728f1ec", func := "loop.example/g00499/laws.FnTables", spec := "fnTables", unfollowed := true, recurses := true, apart := false, narrowed := true }
def FnTablesUptoSaid : Prop := fnTablesUptoRow.holds Try.pinned (OpenSpec.upto fnTablesSpec)

end Rows
end Go.Proofs.Ytnloeihhimcblaa
