/-
  No cell of these rows narrows 'for every input' (looked for: loops, veiled, ifaces, maps, wideKeys, modest, calm, conditions, laid).
  DERIVED. THE GIVEN ROWS OF THIS SEAT. 12 by the template 'for every input the law returns true; each argument reads behind the call as it read before'; 0 by the template 'total and deterministic' (their statements: YtkcohcdhlgocgaaTotals.lean).
  GIVEN WITH THE SEED: the statements are not yours to turn. If you find one false, say at which input.
  Laid BY PROGRAM, IN A SANDBOX (cutbox-rows.mjs): the forced cells as the released guide's own fill.sh prints them over the translation 1cb3695de9c5d871… (all of the seat's roots in one cut). By AI agents, Wed Nov 11 2026. No macro, syntax, notation, axiom, sorry.
-/
import Derived.Test.YtkcohcdhlgocgaaChecked
import GoSem.Claim
import GoSem.ClaimJoined
import GoSem.ClaimMapViews
import Derived.JoinedTies
import Derived.KernelRfl
namespace Go.Proofs.Ytkcohcdhlgocgaa
/- THE CELL 'sum', in the pinned program and in every row, IS THE sha256 OF THE DUMP (.gsa) THAT YtkcohcdhlgocgaaProg.lean LOADS. Nothing in Lean hashes anything: it is a label: what it is worth is what the hold of that sum in a sandbox is worth. -/
noncomputable def Try.pinned : Pinned := { name := "ytkcohcdhlgocgaa", sum := "1cb3695de9c5d8713c7eec0fd297a7b1fa935aa0a297d92ed8e371754a4fb7b2", checked := Try.checked }
namespace Rows
def none {H : Type} : Left H := { results := [], args := [] }

/-- 'laws.FnExactCountOf': WHATEVER THE INPUT: true; the input reads as it did. -/
def fnExactCountOfSpec : ChangeSpec := { name := "fnExactCountOf", fn := fun _ => fun
  | [d1, d2] => { results := [.lit (.bool true)], args := [d1, d2] }
  | _ => none }
def fnExactCountOfRow : OpenClaim := { program := "ytkcohcdhlgocgaa", sum := "1cb3695de9c5d8713c7eec0fd297a7b1fa935aa0a297d92ed8e371754a4fb7b2", func := "loop.example/g00499/laws.FnExactCountOf", spec := "fnExactCountOf", apart := false }
def FnExactCountOfSaid : Prop := fnExactCountOfRow.holds Try.pinned (OpenSpec.ofChange fnExactCountOfSpec)

/-- ITS FALSE NEIGHBOUR: 'it returns false'. Refute it at one input. -/
def fnExactCountOfWrong : ChangeSpec := { name := "fnExactCountOf", fn := fun _ => fun
  | [d1, d2] => { results := [.lit (.bool false)], args := [d1, d2] }
  | _ => none }
def FnExactCountOfWrongFalsely : Prop := fnExactCountOfRow.holds Try.pinned (OpenSpec.ofChange fnExactCountOfWrong)

/-- 'laws.FnConfs': WHATEVER THE INPUT: true; the input reads as it did. -/
def fnConfsSpec : ChangeSpec := { name := "fnConfs", fn := fun _ => fun
  | [d] => { results := [.lit (.bool true)], args := [d] }
  | _ => none }
def fnConfsRow : OpenClaim := { program := "ytkcohcdhlgocgaa", sum := "1cb3695de9c5d8713c7eec0fd297a7b1fa935aa0a297d92ed8e371754a4fb7b2", func := "loop.example/g00499/laws.FnConfs", spec := "fnConfs", apart := false }
def FnConfsSaid : Prop := fnConfsRow.holds Try.pinned (OpenSpec.ofChange fnConfsSpec)

/-- ITS FALSE NEIGHBOUR: 'it returns false'. Refute it at one input. -/
def fnConfsWrong : ChangeSpec := { name := "fnConfs", fn := fun _ => fun
  | [d] => { results := [.lit (.bool false)], args := [d] }
  | _ => none }
def FnConfsWrongFalsely : Prop := fnConfsRow.holds Try.pinned (OpenSpec.ofChange fnConfsWrong)

/-- 'laws.FnRounds': WHATEVER THE INPUT: true; the input reads as it did. -/
def fnRoundsSpec : ChangeSpec := { name := "fnRounds", fn := fun _ => fun
  | [d] => { results := [.lit (.bool true)], args := [d] }
  | _ => none }
def fnRoundsRow : OpenClaim := { program := "ytkcohcdhlgocgaa", sum := "1cb3695de9c5d8713c7eec0fd297a7b1fa935aa0a297d92ed8e371754a4fb7b2", func := "loop.example/g00499/laws.FnRounds", spec := "fnRounds", apart := false }
def FnRoundsSaid : Prop := fnRoundsRow.holds Try.pinned (OpenSpec.ofChange fnRoundsSpec)

/-- ITS FALSE NEIGHBOUR: 'it returns false'. Refute it at one input. -/
def fnRoundsWrong : ChangeSpec := { name := "fnRounds", fn := fun _ => fun
  | [d] => { results := [.lit (.bool false)], args := [d] }
  | _ => none }
def FnRoundsWrongFalsely : Prop := fnRoundsRow.holds Try.pinned (OpenSpec.ofChange fnRoundsWrong)

/-- 'laws.FnExactFirstRun': WHATEVER THE INPUT: true; the input reads as it did. -/
def fnExactFirstRunSpec : ChangeSpec := { name := "fnExactFirstRun", fn := fun _ => fun
  | [d1, d2] => { results := [.lit (.bool true)], args := [d1, d2] }
  | _ => none }
def fnExactFirstRunRow : OpenClaim := { program := "ytkcohcdhlgocgaa", sum := "1cb3695de9c5d8713c7eec0fd297a7b1fa935aa0a297d92ed8e371754a4fb7b2", func := "loop.example/g00499/laws.FnExactFirstRun", spec := "fnExactFirstRun", apart := false }
def FnExactFirstRunSaid : Prop := fnExactFirstRunRow.holds Try.pinned (OpenSpec.ofChange fnExactFirstRunSpec)

/-- ITS FALSE NEIGHBOUR: 'it returns false'. Refute it at one input. -/
def fnExactFirstRunWrong : ChangeSpec := { name := "fnExactFirstRun", fn := fun _ => fun
  | [d1, d2] => { results := [.lit (.bool false)], args := [d1, d2] }
  | _ => none }
def FnExactFirstRunWrongFalsely : Prop := fnExactFirstRunRow.holds Try.pinned (OpenSpec.ofChange fnExactFirstRunWrong)

/-- 'laws.FnExactOwnedBy': WHATEVER THE INPUT: true; the input reads as it did. -/
def fnExactOwnedBySpec : ChangeSpec := { name := "fnExactOwnedBy", fn := fun _ => fun
  | [d1, d2] => { results := [.lit (.bool true)], args := [d1, d2] }
  | _ => none }
def fnExactOwnedByRow : OpenClaim := { program := "ytkcohcdhlgocgaa", sum := "1cb3695de9c5d8713c7eec0fd297a7b1fa935aa0a297d92ed8e371754a4fb7b2", func := "loop.example/g00499/laws.FnExactOwnedBy", spec := "fnExactOwnedBy", apart := false }
def FnExactOwnedBySaid : Prop := fnExactOwnedByRow.holds Try.pinned (OpenSpec.ofChange fnExactOwnedBySpec)

/-- ITS FALSE NEIGHBOUR: 'it returns false'. Refute it at one input. -/
def fnExactOwnedByWrong : ChangeSpec := { name := "fnExactOwnedBy", fn := fun _ => fun
  | [d1, d2] => { results := [.lit (.bool false)], args := [d1, d2] }
  | _ => none }
def FnExactOwnedByWrongFalsely : Prop := fnExactOwnedByRow.holds Try.pinned (OpenSpec.ofChange fnExactOwnedByWrong)

/-- 'laws.FnExactLongestRun': WHATEVER THE INPUT: true; the input reads as it did. -/
def fnExactLongestRunSpec : ChangeSpec := { name := "fnExactLongestRun", fn := fun _ => fun
  | [d] => { results := [.lit (.bool true)], args := [d] }
  | _ => none }
def fnExactLongestRunRow : OpenClaim := { program := "ytkcohcdhlgocgaa", sum := "1cb3695de9c5d8713c7eec0fd297a7b1fa935aa0a297d92ed8e371754a4fb7b2", func := "loop.example/g00499/laws.FnExactLongestRun", spec := "fnExactLongestRun", apart := false }
def FnExactLongestRunSaid : Prop := fnExactLongestRunRow.holds Try.pinned (OpenSpec.ofChange fnExactLongestRunSpec)

/-- ITS FALSE NEIGHBOUR: 'it returns false'. Refute it at one input. -/
def fnExactLongestRunWrong : ChangeSpec := { name := "fnExactLongestRun", fn := fun _ => fun
  | [d] => { results := [.lit (.bool false)], args := [d] }
  | _ => none }
def FnExactLongestRunWrongFalsely : Prop := fnExactLongestRunRow.holds Try.pinned (OpenSpec.ofChange fnExactLongestRunWrong)

/-- 'laws.FnExactNodeNew': WHATEVER THE INPUT: true; the input reads as it did. -/
def fnExactNodeNewSpec : ChangeSpec := { name := "fnExactNodeNew", fn := fun _ => fun
  | [d] => { results := [.lit (.bool true)], args := [d] }
  | _ => none }
def fnExactNodeNewRow : OpenClaim := { program := "ytkcohcdhlgocgaa", sum := "1cb3695de9c5d8713c7eec0fd297a7b1fa935aa0a297d92ed8e371754a4fb7b2", func := "loop.example/g00499/laws.FnExactNodeNew", spec := "fnExactNodeNew", apart := false }
def FnExactNodeNewSaid : Prop := fnExactNodeNewRow.holds Try.pinned (OpenSpec.ofChange fnExactNodeNewSpec)

/-- ITS FALSE NEIGHBOUR: 'it returns false'. Refute it at one input. -/
def fnExactNodeNewWrong : ChangeSpec := { name := "fnExactNodeNew", fn := fun _ => fun
  | [d] => { results := [.lit (.bool false)], args := [d] }
  | _ => none }
def FnExactNodeNewWrongFalsely : Prop := fnExactNodeNewRow.holds Try.pinned (OpenSpec.ofChange fnExactNodeNewWrong)

/-- 'laws.FnHex': WHATEVER THE INPUT: true; the input reads as it did. -/
def fnHexSpec : ChangeSpec := { name := "fnHex", fn := fun _ => fun
  | [d] => { results := [.lit (.bool true)], args := [d] }
  | _ => none }
def fnHexRow : OpenClaim := { program := "ytkcohcdhlgocgaa", sum := "1cb3695de9c5d8713c7eec0fd297a7b1fa935aa0a297d92ed8e371754a4fb7b2", func := "loop.example/g00499/laws.FnHex", spec := "fnHex", inPlace := ["internal/bytealg.IndexByteString"], unfollowed := true, recurses := true, apart := false }
def FnHexSaid : Prop := fnHexRow.holds Try.pinned (OpenSpec.ofChange fnHexSpec)

/-- ITS FALSE NEIGHBOUR: 'it returns false'. Refute it at one input. -/
def fnHexWrong : ChangeSpec := { name := "fnHex", fn := fun _ => fun
  | [d] => { results := [.lit (.bool false)], args := [d] }
  | _ => none }
def FnHexWrongFalsely : Prop := fnHexRow.holds Try.pinned (OpenSpec.ofChange fnHexWrong)

/-- 'laws.FnExactRuns': WHATEVER THE INPUT: true; the input reads as it did. -/
def fnExactRunsSpec : ChangeSpec := { name := "fnExactRuns", fn := fun _ => fun
  | [d] => { results := [.lit (.bool true)], args := [d] }
  | _ => none }
def fnExactRunsRow : OpenClaim := { program := "ytkcohcdhlgocgaa", sum := "1cb3695de9c5d8713c7eec0fd297a7b1fa935aa0a297d92ed8e371754a4fb7b2", func := "loop.example/g00499/laws.FnExactRuns", spec := "fnExactRuns", apart := false }
def FnExactRunsSaid : Prop := fnExactRunsRow.holds Try.pinned (OpenSpec.ofChange fnExactRunsSpec)

/-- ITS FALSE NEIGHBOUR: 'it returns false'. Refute it at one input. -/
def fnExactRunsWrong : ChangeSpec := { name := "fnExactRuns", fn := fun _ => fun
  | [d] => { results := [.lit (.bool false)], args := [d] }
  | _ => none }
def FnExactRunsWrongFalsely : Prop := fnExactRunsRow.holds Try.pinned (OpenSpec.ofChange fnExactRunsWrong)

/-- 'laws.FnExactBare': WHATEVER THE INPUT: true; the input reads as it did. -/
def fnExactBareSpec : ChangeSpec := { name := "fnExactBare", fn := fun _ => fun
  | [d] => { results := [.lit (.bool true)], args := [d] }
  | _ => none }
def fnExactBareRow : OpenClaim := { program := "ytkcohcdhlgocgaa", sum := "1cb3695de9c5d8713c7eec0fd297a7b1fa935aa0a297d92ed8e371754a4fb7b2", func := "loop.example/g00499/laws.FnExactBare", spec := "fnExactBare", apart := false }
def FnExactBareSaid : Prop := fnExactBareRow.holds Try.pinned (OpenSpec.ofChange fnExactBareSpec)

/-- ITS FALSE NEIGHBOUR: 'it returns false'. Refute it at one input. -/
def fnExactBareWrong : ChangeSpec := { name := "fnExactBare", fn := fun _ => fun
  | [d] => { results := [.lit (.bool false)], args := [d] }
  | _ => none }
def FnExactBareWrongFalsely : Prop := fnExactBareRow.holds Try.pinned (OpenSpec.ofChange fnExactBareWrong)

/-- 'laws.FnExactPoolOk': WHATEVER THE INPUT: true; the input reads as it did. -/
def fnExactPoolOkSpec : ChangeSpec := { name := "fnExactPoolOk", fn := fun _ => fun
  | [d1, d2] => { results := [.lit (.bool true)], args := [d1, d2] }
  | _ => none }
def fnExactPoolOkRow : OpenClaim := { program := "ytkcohcdhlgocgaa", sum := "1cb3695de9c5d8713c7eec0fd297a7b1fa935aa0a297d92ed8e371754a4fb7b2", func := "loop.example/g00499/laws.FnExactPoolOk", spec := "fnExactPoolOk", unfollowed := true, recurses := true, apart := false }
def FnExactPoolOkSaid : Prop := fnExactPoolOkRow.holds Try.pinned (OpenSpec.ofChange fnExactPoolOkSpec)

/-- ITS FALSE NEIGHBOUR: 'it returns false'. Refute it at one input. -/
def fnExactPoolOkWrong : ChangeSpec := { name := "fnExactPoolOk", fn := fun _ => fun
  | [d1, d2] => { results := [.lit (.bool false)], args := [d1, d2] }
  | _ => none }
def FnExactPoolOkWrongFalsely : Prop := fnExactPoolOkRow.holds Try.pinned (OpenSpec.ofChange fnExactPoolOkWrong)

/-- 'laws.FnExactLetGo': WHATEVER THE INPUT: true; the input reads as it did. -/
def fnExactLetGoSpec : ChangeSpec := { name := "fnExactLetGo", fn := fun _ => fun
  | [d1, d2] => { results := [.lit (.bool true)], args := [d1, d2] }
  | _ => none }
def fnExactLetGoRow : OpenClaim := { program := "ytkcohcdhlgocgaa", sum := "1cb3695de9c5d8713c7eec0fd297a7b1fa935aa0a297d92ed8e371754a4fb7b2", func := "loop.example/g00499/laws.FnExactLetGo", spec := "fnExactLetGo", apart := false }
def FnExactLetGoSaid : Prop := fnExactLetGoRow.holds Try.pinned (OpenSpec.ofChange fnExactLetGoSpec)

/-- ITS FALSE NEIGHBOUR: 'it returns false'. Refute it at one input. -/
def fnExactLetGoWrong : ChangeSpec := { name := "fnExactLetGo", fn := fun _ => fun
  | [d1, d2] => { results := [.lit (.bool false)], args := [d1, d2] }
  | _ => none }
def FnExactLetGoWrongFalsely : Prop := fnExactLetGoRow.holds Try.pinned (OpenSpec.ofChange fnExactLetGoWrong)

/- THE SECOND FORM. 'bulk': how many values and letters a reading holds, each counted each time it is reached (what is shared counts as often as it is met; a slice's spare places count too). A statement '..UptoSaid' is the law's where the arguments, and the package variables that the reading takes, are together of bulk at most 1048576: NARROWER than '..Said'. Prove '..Said' where nothing that the law and all that it calls make is longer than what came in: it says more and counts as full. Else prove '..UptoSaid'. A law counts once. -/
mutual
def uptoBulk {H : Type} : DataW H → Nat
  | .lit (.string bytes) => bytes.length + 1
  | .lit _ => 1
  | .nil => 1
  | .ptr d => uptoBulk d + 1
  | .slice elems spare => uptoBulkAll elems + uptoBulkAll spare + 1
  | .agg parts => uptoBulkAll parts + 1
  | .iface _ d => uptoBulk d + 1
  | .map entries => uptoBulkEntries entries + 1
  | .held _ => 1
def uptoBulkAll {H : Type} : List (DataW H) → Nat
  | [] => 0
  | d :: r => uptoBulk d + uptoBulkAll r
def uptoBulkEntries {H : Type} : List (Lit × DataW H) → Nat
  | [] => 0
  | x :: r => uptoBulkEntry x + uptoBulkEntries r
def uptoBulkEntry {H : Type} : Lit × DataW H → Nat
  | (.string bytes, d) => bytes.length + uptoBulk d + 1
  | (_, d) => uptoBulk d + 1
 end
def uptoSmall : (H : Type) → List (DataW H) → Bool := fun _ ds => decide (uptoBulkAll ds ≤ 1048576)
def OpenSpec.upto (s : _root_.Go.ChangeSpec) : _root_.Go.OpenSpec := { _root_.Go.OpenSpec.ofChange s with cond := some uptoSmall }

/-- 'laws.FnExactCountOf', WHERE WHAT IT READS IS OF BULK AT MOST 1048576: true; the input reads as it did. -/
def fnExactCountOfUptoRow : OpenClaim := { program := "ytkcohcdhlgocgaa", sum := "1cb3695de9c5d8713c7eec0fd297a7b1fa935aa0a297d92ed8e371754a4fb7b2", func := "loop.example/g00499/laws.FnExactCountOf", spec := "fnExactCountOf", apart := false, narrowed := true }
def FnExactCountOfUptoSaid : Prop := fnExactCountOfUptoRow.holds Try.pinned (OpenSpec.upto fnExactCountOfSpec)

/-- 'laws.FnConfs', WHERE WHAT IT READS IS OF BULK AT MOST 1048576: true; the input reads as it did. -/
def fnConfsUptoRow : OpenClaim := { program := "ytkcohcdhlgocgaa", sum := "1cb3695de9c5d8713c7eec0fd297a7b1fa935aa0a297d92ed8e371754a4fb7b2", func := "loop.example/g00499/laws.FnConfs", spec := "fnConfs", apart := false, narrowed := true }
def FnConfsUptoSaid : Prop := fnConfsUptoRow.holds Try.pinned (OpenSpec.upto fnConfsSpec)

/-- 'laws.FnRounds', WHERE WHAT IT READS IS OF BULK AT MOST 1048576: true; the input reads as it did. -/
def fnRoundsUptoRow : OpenClaim := { program := "ytkcohcdhlgocgaa", sum := "1cb3695de9c5d8713c7eec0fd297a7b1fa935aa0a297d92ed8e371754a4fb7b2", func := "loop.example/g00499/laws.FnRounds", spec := "fnRounds", apart := false, narrowed := true }
def FnRoundsUptoSaid : Prop := fnRoundsUptoRow.holds Try.pinned (OpenSpec.upto fnRoundsSpec)

/-- 'laws.FnExactFirstRun', WHERE WHAT IT READS IS OF BULK AT MOST 1048576: true; the input reads as it did. -/
def fnExactFirstRunUptoRow : OpenClaim := { program := "ytkcohcdhlgocgaa", sum := "1cb3695de9c5d8713c7eec0fd297a7b1fa935aa0a297d92ed8e371754a4fb7b2", func := "loop.example/g00499/laws.FnExactFirstRun", spec := "fnExactFirstRun", apart := false, narrowed := true }
def FnExactFirstRunUptoSaid : Prop := fnExactFirstRunUptoRow.holds Try.pinned (OpenSpec.upto fnExactFirstRunSpec)

/-- 'laws.FnExactOwnedBy', WHERE WHAT IT READS IS OF BULK AT MOST 1048576: true; the input reads as it did. -/
def fnExactOwnedByUptoRow : OpenClaim := { program := "ytkcohcdhlgocgaa", sum := "1cb3695de9c5d8713c7eec0fd297a7b1fa935aa0a297d92ed8e371754a4fb7b2", func := "loop.example/g00499/laws.FnExactOwnedBy", spec := "fnExactOwnedBy", apart := false, narrowed := true }
def FnExactOwnedByUptoSaid : Prop := fnExactOwnedByUptoRow.holds Try.pinned (OpenSpec.upto fnExactOwnedBySpec)

/-- 'laws.FnExactLongestRun', WHERE WHAT IT READS IS OF BULK AT MOST 1048576: true; the input reads as it did. -/
def fnExactLongestRunUptoRow : OpenClaim := { program := "ytkcohcdhlgocgaa", sum := "1cb3695de9c5d8713c7eec0fd297a7b1fa935aa0a297d92ed8e371754a4fb7b2", func := "loop.example/g00499/laws.FnExactLongestRun", spec := "fnExactLongestRun", apart := false, narrowed := true }
def FnExactLongestRunUptoSaid : Prop := fnExactLongestRunUptoRow.holds Try.pinned (OpenSpec.upto fnExactLongestRunSpec)

/-- 'laws.FnExactNodeNew', WHERE WHAT IT READS IS OF BULK AT MOST 1048576: true; the input reads as it did. -/
def fnExactNodeNewUptoRow : OpenClaim := { program := "ytkcohcdhlgocgaa", sum := "1cb3695de9c5d8713c7eec0fd297a7b1fa935aa0a297d92ed8e371754a4fb7b2", func := "loop.example/g00499/laws.FnExactNodeNew", spec := "fnExactNodeNew", apart := false, narrowed := true }
def FnExactNodeNewUptoSaid : Prop := fnExactNodeNewUptoRow.holds Try.pinned (OpenSpec.upto fnExactNodeNewSpec)

/-- 'laws.FnHex', WHERE WHAT IT READS IS OF BULK AT MOST 1048576: true; the input reads as it did. -/
def fnHexUptoRow : OpenClaim := { program := "ytkcohcdhlgocgaa", sum := "1cb3695de9c5d8713c7eec0fd297a7b1fa935aa0a297d92ed8e371754a4fb7b2", func := "loop.example/g00499/laws.FnHex", spec := "fnHex", inPlace := ["internal/bytealg.IndexByteString"], unfollowed := true, recurses := true, apart := false, narrowed := true }
def FnHexUptoSaid : Prop := fnHexUptoRow.holds Try.pinned (OpenSpec.upto fnHexSpec)

/-- 'laws.FnExactRuns', WHERE WHAT IT READS IS OF BULK AT MOST 1048576: true; the input reads as it did. -/
def fnExactRunsUptoRow : OpenClaim := { program := "ytkcohcdhlgocgaa", sum := "1cb3695de9c5d8713c7eec0fd297a7b1fa935aa0a297d92ed8e371754a4fb7b2", func := "loop.example/g00499/laws.FnExactRuns", spec := "fnExactRuns", apart := false, narrowed := true }
def FnExactRunsUptoSaid : Prop := fnExactRunsUptoRow.holds Try.pinned (OpenSpec.upto fnExactRunsSpec)

/-- 'laws.FnExactBare', WHERE WHAT IT READS IS OF BULK AT MOST 1048576: true; the input reads as it did. -/
def fnExactBareUptoRow : OpenClaim := { program := "ytkcohcdhlgocgaa", sum := "1cb3695de9c5d8713c7eec0fd297a7b1fa935aa0a297d92ed8e371754a4fb7b2", func := "loop.example/g00499/laws.FnExactBare", spec := "fnExactBare", apart := false, narrowed := true }
def FnExactBareUptoSaid : Prop := fnExactBareUptoRow.holds Try.pinned (OpenSpec.upto fnExactBareSpec)

/-- 'laws.FnExactPoolOk', WHERE WHAT IT READS IS OF BULK AT MOST 1048576: true; the input reads as it did. -/
def fnExactPoolOkUptoRow : OpenClaim := { program := "ytkcohcdhlgocgaa", sum := "1cb3695de9c5d8713c7eec0fd297a7b1fa935aa0a297d92ed8e371754a4fb7b2", func := "loop.example/g00499/laws.FnExactPoolOk", spec := "fnExactPoolOk", unfollowed := true, recurses := true, apart := false, narrowed := true }
def FnExactPoolOkUptoSaid : Prop := fnExactPoolOkUptoRow.holds Try.pinned (OpenSpec.upto fnExactPoolOkSpec)

/-- 'laws.FnExactLetGo', WHERE WHAT IT READS IS OF BULK AT MOST 1048576: true; the input reads as it did. -/
def fnExactLetGoUptoRow : OpenClaim := { program := "ytkcohcdhlgocgaa", sum := "1cb3695de9c5d8713c7eec0fd297a7b1fa935aa0a297d92ed8e371754a4fb7b2", func := "loop.example/g00499/laws.FnExactLetGo", spec := "fnExactLetGo", apart := false, narrowed := true }
def FnExactLetGoUptoSaid : Prop := fnExactLetGoUptoRow.holds Try.pinned (OpenSpec.upto fnExactLetGoSpec)

end Rows
end Go.Proofs.Ytkcohcdhlgocgaa
