/-
  DERIVED. GIVEN WITH THE SEED: THE CARDS: each row of YtjnmefhohkffpaaDoorRows.lean that lists a variable, with what it lists TIED to the program's text (the seventh form; the later family's looks); each row that meets fmt, with fmt's text TOLD by the authors' own Lean function (tested against real Go, not proved from fmt's source: count such statements apart). THE CARD IS WHAT COUNTS. Prove the row's statement (the work); the ties are given (YtjnmefhohkffpaaDoorTie.lean); close each card by the builder's one call (the guide's Derived/Test/ToyasCard.lean, 'card_holds'). Laid BY PROGRAM, IN A SANDBOX (cutbox-door.mjs). By AI agents, Wed Nov 11 2026. No macro, syntax, notation, axiom, sorry.
-/
import Derived.Test.YtjnmefhohkffpaaDoorRows
import GoSem.ClaimSeven
namespace Go.Proofs.YtjnmefhohkffpaaDoor
namespace Rows

/-- THE TIED CARD OF 'laws.FnExactNumText'. -/
def fnExactNumTextCard : Claim7 := { stood := { row := fnExactNumTextRow, standIns := [], harness := (true, "5985017c55eafbd397d4e6d4283757772c10d882d894df3501c6395e5cd68671"), looks := true }, kinds := [], alts := [], laidByText := true, laidKinds := [.data, .data, .data], laidTests := true, laidLooks := .later }
def FnExactNumTextCardSaid : Prop := Claim7.holds Tryd.pinned (.plain (OpenSpec.ofChange fnExactNumTextSpec)) fnExactNumTextCard

/-- THE TIED CARD OF 'laws.FnExactHandleText'. -/
def fnExactHandleTextCard : Claim7 := { stood := { row := fnExactHandleTextRow, standIns := [], harness := (true, "5985017c55eafbd397d4e6d4283757772c10d882d894df3501c6395e5cd68671"), looks := true }, kinds := [], alts := [], laidByText := true, laidKinds := [.data, .data, .data], laidTests := true, laidLooks := .later }
def FnExactHandleTextCardSaid : Prop := Claim7.holds Tryd.pinned (.plain (OpenSpec.ofChange fnExactHandleTextSpec)) fnExactHandleTextCard

/-- THE TIED CARD OF 'laws.FnExactRefText'. -/
def fnExactRefTextCard : Claim7 := { stood := { row := fnExactRefTextRow, standIns := [], harness := (true, "5985017c55eafbd397d4e6d4283757772c10d882d894df3501c6395e5cd68671"), looks := true }, kinds := [], alts := [], laidByText := true, laidKinds := [.data, .data, .data], laidTests := true, laidLooks := .later }
def FnExactRefTextCardSaid : Prop := Claim7.holds Tryd.pinned (.plain (OpenSpec.ofChange fnExactRefTextSpec)) fnExactRefTextCard

/-- THE TIED CARD OF 'laws.FnExactTextOf'. -/
def fnExactTextOfCard : Claim7 := { stood := { row := fnExactTextOfRow, standIns := [], harness := (true, "5985017c55eafbd397d4e6d4283757772c10d882d894df3501c6395e5cd68671"), looks := true }, kinds := [], alts := [], laidByText := true, laidKinds := [.data, .data, .data], laidTests := true, laidLooks := .later }
def FnExactTextOfCardSaid : Prop := Claim7.holds Tryd.pinned (.plain (OpenSpec.ofChange fnExactTextOfSpec)) fnExactTextOfCard

/-- THE TIED CARD OF 'laws.FnExactParseNum'. -/
def fnExactParseNumCard : Claim7 := { stood := { row := fnExactParseNumRow, standIns := [], harness := (true, "5985017c55eafbd397d4e6d4283757772c10d882d894df3501c6395e5cd68671"), looks := true }, kinds := [], alts := [], laidByText := true, laidKinds := [.data, .data, .data, .sentinel, .sentinel], laidTests := true, laidLooks := .later }
def FnExactParseNumCardSaid : Prop := Claim7.holds Tryd.pinned (.plain (OpenSpec.ofChange fnExactParseNumSpec)) fnExactParseNumCard

/-- THE TIED CARD OF 'laws.FnExactParseHandle'. -/
def fnExactParseHandleCard : Claim7 := { stood := { row := fnExactParseHandleRow, standIns := [], harness := (true, "5985017c55eafbd397d4e6d4283757772c10d882d894df3501c6395e5cd68671"), looks := true }, kinds := [], alts := [], laidByText := true, laidKinds := [.data, .data, .data, .data, .sentinel, .sentinel, .pinned], laidTests := true, laidLooks := .later }
def FnExactParseHandleCardSaid : Prop := Claim7.holds Tryd.pinned (.plain (OpenSpec.ofChange fnExactParseHandleSpec)) fnExactParseHandleCard

/-- THE TIED CARD OF 'laws.FnExactParseRef'. -/
def fnExactParseRefCard : Claim7 := { stood := { row := fnExactParseRefRow, standIns := [], harness := (true, "5985017c55eafbd397d4e6d4283757772c10d882d894df3501c6395e5cd68671"), looks := true }, kinds := [], alts := [], laidByText := true, laidKinds := [.data, .data, .data, .data, .sentinel, .sentinel, .pinned], laidTests := true, laidLooks := .later }
def FnExactParseRefCardSaid : Prop := Claim7.holds Tryd.pinned (.plain (OpenSpec.ofChange fnExactParseRefSpec)) fnExactParseRefCard

/-- THE TIED CARD OF 'laws.FnDigits'. -/
def fnDigitsCard : Claim7 := { stood := { row := fnDigitsRow, standIns := [], harness := (true, "5985017c55eafbd397d4e6d4283757772c10d882d894df3501c6395e5cd68671"), looks := true }, kinds := [], alts := [], laidByText := true, laidKinds := [.data, .data, .data, .sentinel, .sentinel], laidTests := true, laidLooks := .later }
def FnDigitsCardSaid : Prop := Claim7.holds Tryd.pinned (.plain (OpenSpec.ofChange fnDigitsSpec)) fnDigitsCard

/-- THE TIED CARD OF 'laws.FnNames'. -/
def fnNamesCard : Claim7 := { stood := { row := fnNamesRow, standIns := [], harness := (true, "5985017c55eafbd397d4e6d4283757772c10d882d894df3501c6395e5cd68671"), looks := true }, kinds := [], alts := [], laidByText := true, laidKinds := [.data, .data, .data, .data, .sentinel, .sentinel, .pinned], laidTests := true, laidLooks := .later }
def FnNamesCardSaid : Prop := Claim7.holds Tryd.pinned (.plain (OpenSpec.ofChange fnNamesSpec)) fnNamesCard

/-- THE TIED CARD OF 'laws.FnNodes'. -/
def fnNodesCard : Claim7 := { stood := { row := fnNodesRow, standIns := [], harness := (true, "5985017c55eafbd397d4e6d4283757772c10d882d894df3501c6395e5cd68671"), looks := true }, kinds := [], alts := [], laidByText := true, laidKinds := [.data, .data, .data], laidTests := true, laidLooks := .later }
def FnNodesCardSaid : Prop := Claim7.holds Tryd.pinned (.plain (OpenSpec.ofChange fnNodesSpec)) fnNodesCard

/-- THE SECOND FORM's CARD OF 'laws.FnExactNumText'. -/
def fnExactNumTextUptoCard : Claim7 := { stood := { row := fnExactNumTextUptoRow, standIns := [], harness := (true, "5985017c55eafbd397d4e6d4283757772c10d882d894df3501c6395e5cd68671"), looks := true }, kinds := [], alts := [], laidByText := true, laidKinds := [.data, .data, .data], laidTests := true, laidLooks := .later }
def FnExactNumTextUptoCardSaid : Prop := Claim7.holds Tryd.pinned (.plain (OpenSpec.upto fnExactNumTextSpec)) fnExactNumTextUptoCard

/-- THE SECOND FORM's CARD OF 'laws.FnExactHandleText'. -/
def fnExactHandleTextUptoCard : Claim7 := { stood := { row := fnExactHandleTextUptoRow, standIns := [], harness := (true, "5985017c55eafbd397d4e6d4283757772c10d882d894df3501c6395e5cd68671"), looks := true }, kinds := [], alts := [], laidByText := true, laidKinds := [.data, .data, .data], laidTests := true, laidLooks := .later }
def FnExactHandleTextUptoCardSaid : Prop := Claim7.holds Tryd.pinned (.plain (OpenSpec.upto fnExactHandleTextSpec)) fnExactHandleTextUptoCard

/-- THE SECOND FORM's CARD OF 'laws.FnExactRefText'. -/
def fnExactRefTextUptoCard : Claim7 := { stood := { row := fnExactRefTextUptoRow, standIns := [], harness := (true, "5985017c55eafbd397d4e6d4283757772c10d882d894df3501c6395e5cd68671"), looks := true }, kinds := [], alts := [], laidByText := true, laidKinds := [.data, .data, .data], laidTests := true, laidLooks := .later }
def FnExactRefTextUptoCardSaid : Prop := Claim7.holds Tryd.pinned (.plain (OpenSpec.upto fnExactRefTextSpec)) fnExactRefTextUptoCard

/-- THE SECOND FORM's CARD OF 'laws.FnExactTextOf'. -/
def fnExactTextOfUptoCard : Claim7 := { stood := { row := fnExactTextOfUptoRow, standIns := [], harness := (true, "5985017c55eafbd397d4e6d4283757772c10d882d894df3501c6395e5cd68671"), looks := true }, kinds := [], alts := [], laidByText := true, laidKinds := [.data, .data, .data], laidTests := true, laidLooks := .later }
def FnExactTextOfUptoCardSaid : Prop := Claim7.holds Tryd.pinned (.plain (OpenSpec.upto fnExactTextOfSpec)) fnExactTextOfUptoCard

/-- THE SECOND FORM's CARD OF 'laws.FnExactParseNum'. -/
def fnExactParseNumUptoCard : Claim7 := { stood := { row := fnExactParseNumUptoRow, standIns := [], harness := (true, "5985017c55eafbd397d4e6d4283757772c10d882d894df3501c6395e5cd68671"), looks := true }, kinds := [], alts := [], laidByText := true, laidKinds := [.data, .data, .data, .sentinel, .sentinel], laidTests := true, laidLooks := .later }
def FnExactParseNumUptoCardSaid : Prop := Claim7.holds Tryd.pinned (.plain (OpenSpec.upto fnExactParseNumSpec)) fnExactParseNumUptoCard

/-- THE SECOND FORM's CARD OF 'laws.FnExactParseHandle'. -/
def fnExactParseHandleUptoCard : Claim7 := { stood := { row := fnExactParseHandleUptoRow, standIns := [], harness := (true, "5985017c55eafbd397d4e6d4283757772c10d882d894df3501c6395e5cd68671"), looks := true }, kinds := [], alts := [], laidByText := true, laidKinds := [.data, .data, .data, .data, .sentinel, .sentinel, .pinned], laidTests := true, laidLooks := .later }
def FnExactParseHandleUptoCardSaid : Prop := Claim7.holds Tryd.pinned (.plain (OpenSpec.upto fnExactParseHandleSpec)) fnExactParseHandleUptoCard

/-- THE SECOND FORM's CARD OF 'laws.FnExactParseRef'. -/
def fnExactParseRefUptoCard : Claim7 := { stood := { row := fnExactParseRefUptoRow, standIns := [], harness := (true, "5985017c55eafbd397d4e6d4283757772c10d882d894df3501c6395e5cd68671"), looks := true }, kinds := [], alts := [], laidByText := true, laidKinds := [.data, .data, .data, .data, .sentinel, .sentinel, .pinned], laidTests := true, laidLooks := .later }
def FnExactParseRefUptoCardSaid : Prop := Claim7.holds Tryd.pinned (.plain (OpenSpec.upto fnExactParseRefSpec)) fnExactParseRefUptoCard

/-- THE SECOND FORM's CARD OF 'laws.FnDigits'. -/
def fnDigitsUptoCard : Claim7 := { stood := { row := fnDigitsUptoRow, standIns := [], harness := (true, "5985017c55eafbd397d4e6d4283757772c10d882d894df3501c6395e5cd68671"), looks := true }, kinds := [], alts := [], laidByText := true, laidKinds := [.data, .data, .data, .sentinel, .sentinel], laidTests := true, laidLooks := .later }
def FnDigitsUptoCardSaid : Prop := Claim7.holds Tryd.pinned (.plain (OpenSpec.upto fnDigitsSpec)) fnDigitsUptoCard

/-- THE SECOND FORM's CARD OF 'laws.FnNames'. -/
def fnNamesUptoCard : Claim7 := { stood := { row := fnNamesUptoRow, standIns := [], harness := (true, "5985017c55eafbd397d4e6d4283757772c10d882d894df3501c6395e5cd68671"), looks := true }, kinds := [], alts := [], laidByText := true, laidKinds := [.data, .data, .data, .data, .sentinel, .sentinel, .pinned], laidTests := true, laidLooks := .later }
def FnNamesUptoCardSaid : Prop := Claim7.holds Tryd.pinned (.plain (OpenSpec.upto fnNamesSpec)) fnNamesUptoCard

/-- THE SECOND FORM's CARD OF 'laws.FnNodes'. -/
def fnNodesUptoCard : Claim7 := { stood := { row := fnNodesUptoRow, standIns := [], harness := (true, "5985017c55eafbd397d4e6d4283757772c10d882d894df3501c6395e5cd68671"), looks := true }, kinds := [], alts := [], laidByText := true, laidKinds := [.data, .data, .data], laidTests := true, laidLooks := .later }
def FnNodesUptoCardSaid : Prop := Claim7.holds Tryd.pinned (.plain (OpenSpec.upto fnNodesSpec)) fnNodesUptoCard
end Rows
end Go.Proofs.YtjnmefhohkffpaaDoor
