/-
  DERIVED. GIVEN WITH THE SEED: THE CARDS: each row of YtofpmdgndegalacDoorRows.lean that lists a variable, with what it lists TIED to the program's text (the seventh form; the later family's looks); each row that meets fmt, with fmt's text TOLD by the authors' own Lean function (tested against real Go, not proved from fmt's source: count such statements apart). THE CARD IS WHAT COUNTS. Prove the row's statement (the work); the ties are given (YtofpmdgndegalacDoorTie.lean); close each card by the builder's one call (the guide's Derived/Test/ToyasCard.lean, 'card_holds'). Laid BY PROGRAM, IN A SANDBOX (cutbox-door.mjs). By AI agents, Wed Nov 11 2026. No macro, syntax, notation, axiom, sorry.
-/
import Derived.Test.YtofpmdgndegalacDoorRows
import GoSem.ClaimSeven
namespace Go.Proofs.YtofpmdgndegalacDoor
namespace Rows

/-- THE TIED CARD OF 'laws.FnNodes'. -/
def fnNodesCard : Claim7 := { stood := { row := fnNodesRow, standIns := [], harness := (true, "b4d72cc17dd645383c1e24825efd3807ae0011a779697d202cb861561d27b306"), looks := false }, kinds := [], alts := [], laidByText := true, laidKinds := [.data, .data, .data], laidTests := true, laidLooks := .later }
def FnNodesCardSaid : Prop := Claim7.holds Tryd.pinned (.plain (OpenSpec.ofChange fnNodesSpec)) fnNodesCard

/-- THE SECOND FORM's CARD OF 'laws.FnNodes'. -/
def fnNodesUptoCard : Claim7 := { stood := { row := fnNodesUptoRow, standIns := [], harness := (true, "b4d72cc17dd645383c1e24825efd3807ae0011a779697d202cb861561d27b306"), looks := false }, kinds := [], alts := [], laidByText := true, laidKinds := [.data, .data, .data], laidTests := true, laidLooks := .later }
def FnNodesUptoCardSaid : Prop := Claim7.holds Tryd.pinned (.plain (OpenSpec.upto fnNodesSpec)) fnNodesUptoCard
end Rows
end Go.Proofs.YtofpmdgndegalacDoor
