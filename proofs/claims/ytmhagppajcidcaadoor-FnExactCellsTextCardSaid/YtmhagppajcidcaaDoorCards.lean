/-
  DERIVED. GIVEN WITH THE SEED: THE CARDS: each row of YtmhagppajcidcaaDoorRows.lean that lists a variable, with what it lists TIED to the program's text (the seventh form; the later family's looks); each row that meets fmt, with fmt's text TOLD by the authors' own Lean function (tested against real Go, not proved from fmt's source: count such statements apart). THE CARD IS WHAT COUNTS. Prove the row's statement (the work); the ties are given (YtmhagppajcidcaaDoorTie.lean); close each card by the builder's one call (the guide's Derived/Test/ToyasCard.lean, 'card_holds'). Laid BY PROGRAM, IN A SANDBOX (cutbox-door.mjs). By AI agents, Wed Nov 11 2026. No macro, syntax, notation, axiom, sorry.
-/
import Derived.Test.YtmhagppajcidcaaDoorRows
import GoSem.ClaimSeven
namespace Go.Proofs.YtmhagppajcidcaaDoor
namespace Rows

/-- THE TIED CARD OF 'laws.FnExactCountStack'. -/
def fnExactCountStackCard : Claim7 := { stood := { row := fnExactCountStackRow, standIns := [], harness := (true, "6d02f8d1636789c5141caed4032661d7e1cf6f1608329bf43ea9ed70ba6de183"), looks := true }, kinds := [], alts := [], laidByText := true, laidKinds := [.data, .data, .data, .data, .sentinel, .sentinel, .pinned], laidTests := true, laidLooks := .later }
def FnExactCountStackCardSaid : Prop := Claim7.holds Tryd.pinned (.plain (OpenSpec.ofChange fnExactCountStackSpec)) fnExactCountStackCard

/-- THE TIED CARD OF 'laws.FnExactCountCells'. -/
def fnExactCountCellsCard : Claim7 := { stood := { row := fnExactCountCellsRow, standIns := [], harness := (true, "6d02f8d1636789c5141caed4032661d7e1cf6f1608329bf43ea9ed70ba6de183"), looks := true }, kinds := [], alts := [], laidByText := true, laidKinds := [.data, .data, .data, .data, .sentinel, .sentinel, .pinned], laidTests := true, laidLooks := .later }
def FnExactCountCellsCardSaid : Prop := Claim7.holds Tryd.pinned (.plain (OpenSpec.ofChange fnExactCountCellsSpec)) fnExactCountCellsCard

/-- THE TIED CARD OF 'laws.FnExactCellsFit'. -/
def fnExactCellsFitCard : Claim7 := { stood := { row := fnExactCellsFitRow, standIns := [], harness := (true, "6d02f8d1636789c5141caed4032661d7e1cf6f1608329bf43ea9ed70ba6de183"), looks := true }, kinds := [], alts := [], laidByText := true, laidKinds := [.data, .data, .data, .data, .sentinel, .sentinel, .pinned], laidTests := true, laidLooks := .later }
def FnExactCellsFitCardSaid : Prop := Claim7.holds Tryd.pinned (.plain (OpenSpec.ofChange fnExactCellsFitSpec)) fnExactCellsFitCard

/-- THE TIED CARD OF 'laws.FnExactCellsFor'. -/
def fnExactCellsForCard : Claim7 := { stood := { row := fnExactCellsForRow, standIns := [], harness := (true, "6d02f8d1636789c5141caed4032661d7e1cf6f1608329bf43ea9ed70ba6de183"), looks := true }, kinds := [], alts := [], laidByText := true, laidKinds := [.data, .data, .data, .data, .sentinel, .sentinel, .pinned], laidTests := true, laidLooks := .later }
def FnExactCellsForCardSaid : Prop := Claim7.holds Tryd.pinned (.plain (OpenSpec.ofChange fnExactCellsForSpec)) fnExactCellsForCard

/-- THE TIED CARD OF 'laws.FnExactStackCells'. -/
def fnExactStackCellsCard : Claim7 := { stood := { row := fnExactStackCellsRow, standIns := [], harness := (true, "6d02f8d1636789c5141caed4032661d7e1cf6f1608329bf43ea9ed70ba6de183"), looks := true }, kinds := [], alts := [], laidByText := true, laidKinds := [.data, .data, .data, .data, .sentinel, .sentinel, .pinned], laidTests := true, laidLooks := .later }
def FnExactStackCellsCardSaid : Prop := Claim7.holds Tryd.pinned (.plain (OpenSpec.ofChange fnExactStackCellsSpec)) fnExactStackCellsCard

/-- THE TIED CARD OF 'laws.FnExactEarlyEvents'. -/
def fnExactEarlyEventsCard : Claim7 := { stood := { row := fnExactEarlyEventsRow, standIns := [], harness := (true, "6d02f8d1636789c5141caed4032661d7e1cf6f1608329bf43ea9ed70ba6de183"), looks := true }, kinds := [], alts := [], laidByText := true, laidKinds := [.data, .data, .data, .data, .sentinel, .sentinel, .pinned], laidTests := true, laidLooks := .later }
def FnExactEarlyEventsCardSaid : Prop := Claim7.holds Tryd.pinned (.plain (OpenSpec.ofChange fnExactEarlyEventsSpec)) fnExactEarlyEventsCard

/-- THE TIED CARD OF 'laws.FnExactCellsText'. -/
def fnExactCellsTextCard : Claim7 := { stood := { row := fnExactCellsTextRow, standIns := [], harness := (true, "6d02f8d1636789c5141caed4032661d7e1cf6f1608329bf43ea9ed70ba6de183"), looks := true }, kinds := [], alts := [], laidByText := true, laidKinds := [.data, .data, .data, .data, .sentinel, .sentinel, .pinned], laidTests := true, laidLooks := .later }
def FnExactCellsTextCardSaid : Prop := Claim7.holds Tryd.pinned (.plain (OpenSpec.ofChange fnExactCellsTextSpec)) fnExactCellsTextCard

/-- THE SECOND FORM's CARD OF 'laws.FnExactCountStack'. -/
def fnExactCountStackUptoCard : Claim7 := { stood := { row := fnExactCountStackUptoRow, standIns := [], harness := (true, "6d02f8d1636789c5141caed4032661d7e1cf6f1608329bf43ea9ed70ba6de183"), looks := true }, kinds := [], alts := [], laidByText := true, laidKinds := [.data, .data, .data, .data, .sentinel, .sentinel, .pinned], laidTests := true, laidLooks := .later }
def FnExactCountStackUptoCardSaid : Prop := Claim7.holds Tryd.pinned (.plain (OpenSpec.upto fnExactCountStackSpec)) fnExactCountStackUptoCard

/-- THE SECOND FORM's CARD OF 'laws.FnExactCountCells'. -/
def fnExactCountCellsUptoCard : Claim7 := { stood := { row := fnExactCountCellsUptoRow, standIns := [], harness := (true, "6d02f8d1636789c5141caed4032661d7e1cf6f1608329bf43ea9ed70ba6de183"), looks := true }, kinds := [], alts := [], laidByText := true, laidKinds := [.data, .data, .data, .data, .sentinel, .sentinel, .pinned], laidTests := true, laidLooks := .later }
def FnExactCountCellsUptoCardSaid : Prop := Claim7.holds Tryd.pinned (.plain (OpenSpec.upto fnExactCountCellsSpec)) fnExactCountCellsUptoCard

/-- THE SECOND FORM's CARD OF 'laws.FnExactCellsFit'. -/
def fnExactCellsFitUptoCard : Claim7 := { stood := { row := fnExactCellsFitUptoRow, standIns := [], harness := (true, "6d02f8d1636789c5141caed4032661d7e1cf6f1608329bf43ea9ed70ba6de183"), looks := true }, kinds := [], alts := [], laidByText := true, laidKinds := [.data, .data, .data, .data, .sentinel, .sentinel, .pinned], laidTests := true, laidLooks := .later }
def FnExactCellsFitUptoCardSaid : Prop := Claim7.holds Tryd.pinned (.plain (OpenSpec.upto fnExactCellsFitSpec)) fnExactCellsFitUptoCard

/-- THE SECOND FORM's CARD OF 'laws.FnExactCellsFor'. -/
def fnExactCellsForUptoCard : Claim7 := { stood := { row := fnExactCellsForUptoRow, standIns := [], harness := (true, "6d02f8d1636789c5141caed4032661d7e1cf6f1608329bf43ea9ed70ba6de183"), looks := true }, kinds := [], alts := [], laidByText := true, laidKinds := [.data, .data, .data, .data, .sentinel, .sentinel, .pinned], laidTests := true, laidLooks := .later }
def FnExactCellsForUptoCardSaid : Prop := Claim7.holds Tryd.pinned (.plain (OpenSpec.upto fnExactCellsForSpec)) fnExactCellsForUptoCard

/-- THE SECOND FORM's CARD OF 'laws.FnExactStackCells'. -/
def fnExactStackCellsUptoCard : Claim7 := { stood := { row := fnExactStackCellsUptoRow, standIns := [], harness := (true, "6d02f8d1636789c5141caed4032661d7e1cf6f1608329bf43ea9ed70ba6de183"), looks := true }, kinds := [], alts := [], laidByText := true, laidKinds := [.data, .data, .data, .data, .sentinel, .sentinel, .pinned], laidTests := true, laidLooks := .later }
def FnExactStackCellsUptoCardSaid : Prop := Claim7.holds Tryd.pinned (.plain (OpenSpec.upto fnExactStackCellsSpec)) fnExactStackCellsUptoCard

/-- THE SECOND FORM's CARD OF 'laws.FnExactEarlyEvents'. -/
def fnExactEarlyEventsUptoCard : Claim7 := { stood := { row := fnExactEarlyEventsUptoRow, standIns := [], harness := (true, "6d02f8d1636789c5141caed4032661d7e1cf6f1608329bf43ea9ed70ba6de183"), looks := true }, kinds := [], alts := [], laidByText := true, laidKinds := [.data, .data, .data, .data, .sentinel, .sentinel, .pinned], laidTests := true, laidLooks := .later }
def FnExactEarlyEventsUptoCardSaid : Prop := Claim7.holds Tryd.pinned (.plain (OpenSpec.upto fnExactEarlyEventsSpec)) fnExactEarlyEventsUptoCard

/-- THE SECOND FORM's CARD OF 'laws.FnExactCellsText'. -/
def fnExactCellsTextUptoCard : Claim7 := { stood := { row := fnExactCellsTextUptoRow, standIns := [], harness := (true, "6d02f8d1636789c5141caed4032661d7e1cf6f1608329bf43ea9ed70ba6de183"), looks := true }, kinds := [], alts := [], laidByText := true, laidKinds := [.data, .data, .data, .data, .sentinel, .sentinel, .pinned], laidTests := true, laidLooks := .later }
def FnExactCellsTextUptoCardSaid : Prop := Claim7.holds Tryd.pinned (.plain (OpenSpec.upto fnExactCellsTextSpec)) fnExactCellsTextUptoCard
end Rows
end Go.Proofs.YtmhagppajcidcaaDoor
