/-
  DERIVED. GIVEN WITH THE SEED: THE CARDS: each row of YtndjbnkmhpbnpaaGreatDoorRows.lean that lists a variable, with what it lists TIED to the program's text (the seventh form; the later family's looks); each row that meets fmt, with fmt's text TOLD by the authors' own Lean function (tested against real Go, not proved from fmt's source: count such statements apart). THE CARD IS WHAT COUNTS. Prove the row's statement (the work); the ties are given (YtndjbnkmhpbnpaaGreatDoorTie.lean); close each card by the builder's one call (the guide's Derived/Test/ToyasCard.lean, 'card_holds'). Laid BY PROGRAM, IN A SANDBOX (cutbox-door.mjs). By AI agents, Wed Nov 11 2026. No macro, syntax, notation, axiom, sorry.
-/
import Derived.Test.YtndjbnkmhpbnpaaGreatDoorRows
import GoSem.ClaimSeven
namespace Go.Proofs.YtndjbnkmhpbnpaaGreatDoor
namespace Rows

/-- THE TIED CARD OF 'laws.FnEarly'. -/
def fnEarlyCard : Claim7 := { stood := { row := fnEarlyRow, standIns := [], harness := (true, "466ca1ba1c801cbab931fb8a26ec360ce50b1d404891e5c57720eb46a2d97bac"), looks := true }, kinds := [], alts := [], laidByText := true, laidKinds := [.data, .data, .data, .data, .sentinel, .sentinel, .pinned], laidTests := true, laidLooks := .later }
def FnEarlyCardSaid : Prop := Claim7.holds Tryz.pinned (.plain (OpenSpec.ofChange fnEarlySpec)) fnEarlyCard

/-- THE TIED CARD OF 'laws.FnCells'. -/
def fnCellsCard : Claim7 := { stood := { row := fnCellsRow, standIns := [], harness := (true, "466ca1ba1c801cbab931fb8a26ec360ce50b1d404891e5c57720eb46a2d97bac"), looks := true }, kinds := [], alts := [], laidByText := true, laidKinds := [.data, .data, .data, .data, .sentinel, .sentinel, .pinned], laidTests := true, laidLooks := .later }
def FnCellsCardSaid : Prop := Claim7.holds Tryz.pinned (.plain (OpenSpec.ofChange fnCellsSpec)) fnCellsCard

/-- THE TIED CARD OF 'laws.FnReuses'. -/
def fnReusesCard : Claim7 := { stood := { row := fnReusesRow, standIns := [], harness := (true, "466ca1ba1c801cbab931fb8a26ec360ce50b1d404891e5c57720eb46a2d97bac"), looks := true }, kinds := [], alts := [], laidByText := true, laidKinds := [.data, .data, .data, .data, .sentinel, .sentinel, .pinned], laidTests := true, laidLooks := .later }
def FnReusesCardSaid : Prop := Claim7.holds Tryz.pinned (.plain (OpenSpec.ofChange fnReusesSpec)) fnReusesCard

/-- THE TIED CARD OF 'laws.FnLives'. -/
def fnLivesCard : Claim7 := { stood := { row := fnLivesRow, standIns := [], harness := (true, "466ca1ba1c801cbab931fb8a26ec360ce50b1d404891e5c57720eb46a2d97bac"), looks := true }, kinds := [], alts := [], laidByText := true, laidKinds := [.data, .data, .data, .data, .sentinel, .sentinel, .pinned], laidTests := true, laidLooks := .later }
def FnLivesCardSaid : Prop := Claim7.holds Tryz.pinned (.plain (OpenSpec.ofChange fnLivesSpec)) fnLivesCard

/-- THE TIED CARD OF 'laws.FnAlive'. -/
def fnAliveCard : Claim7 := { stood := { row := fnAliveRow, standIns := [], harness := (true, "466ca1ba1c801cbab931fb8a26ec360ce50b1d404891e5c57720eb46a2d97bac"), looks := true }, kinds := [], alts := [], laidByText := true, laidKinds := [.data, .data, .data, .data, .sentinel, .sentinel, .pinned], laidTests := true, laidLooks := .later }
def FnAliveCardSaid : Prop := Claim7.holds Tryz.pinned (.plain (OpenSpec.ofChange fnAliveSpec)) fnAliveCard

/-- THE TIED CARD OF 'laws.FnFit'. -/
def fnFitCard : Claim7 := { stood := { row := fnFitRow, standIns := [], harness := (true, "466ca1ba1c801cbab931fb8a26ec360ce50b1d404891e5c57720eb46a2d97bac"), looks := true }, kinds := [], alts := [], laidByText := true, laidKinds := [.data, .data, .data, .data, .sentinel, .sentinel, .pinned], laidTests := true, laidLooks := .later }
def FnFitCardSaid : Prop := Claim7.holds Tryz.pinned (.plain (OpenSpec.ofChange fnFitSpec)) fnFitCard

/-- THE SECOND FORM's CARD OF 'laws.FnEarly'. -/
def fnEarlyUptoCard : Claim7 := { stood := { row := fnEarlyUptoRow, standIns := [], harness := (true, "466ca1ba1c801cbab931fb8a26ec360ce50b1d404891e5c57720eb46a2d97bac"), looks := true }, kinds := [], alts := [], laidByText := true, laidKinds := [.data, .data, .data, .data, .sentinel, .sentinel, .pinned], laidTests := true, laidLooks := .later }
def FnEarlyUptoCardSaid : Prop := Claim7.holds Tryz.pinned (.plain (OpenSpec.upto fnEarlySpec)) fnEarlyUptoCard

/-- THE SECOND FORM's CARD OF 'laws.FnCells'. -/
def fnCellsUptoCard : Claim7 := { stood := { row := fnCellsUptoRow, standIns := [], harness := (true, "466ca1ba1c801cbab931fb8a26ec360ce50b1d404891e5c57720eb46a2d97bac"), looks := true }, kinds := [], alts := [], laidByText := true, laidKinds := [.data, .data, .data, .data, .sentinel, .sentinel, .pinned], laidTests := true, laidLooks := .later }
def FnCellsUptoCardSaid : Prop := Claim7.holds Tryz.pinned (.plain (OpenSpec.upto fnCellsSpec)) fnCellsUptoCard

/-- THE SECOND FORM's CARD OF 'laws.FnReuses'. -/
def fnReusesUptoCard : Claim7 := { stood := { row := fnReusesUptoRow, standIns := [], harness := (true, "466ca1ba1c801cbab931fb8a26ec360ce50b1d404891e5c57720eb46a2d97bac"), looks := true }, kinds := [], alts := [], laidByText := true, laidKinds := [.data, .data, .data, .data, .sentinel, .sentinel, .pinned], laidTests := true, laidLooks := .later }
def FnReusesUptoCardSaid : Prop := Claim7.holds Tryz.pinned (.plain (OpenSpec.upto fnReusesSpec)) fnReusesUptoCard

/-- THE SECOND FORM's CARD OF 'laws.FnLives'. -/
def fnLivesUptoCard : Claim7 := { stood := { row := fnLivesUptoRow, standIns := [], harness := (true, "466ca1ba1c801cbab931fb8a26ec360ce50b1d404891e5c57720eb46a2d97bac"), looks := true }, kinds := [], alts := [], laidByText := true, laidKinds := [.data, .data, .data, .data, .sentinel, .sentinel, .pinned], laidTests := true, laidLooks := .later }
def FnLivesUptoCardSaid : Prop := Claim7.holds Tryz.pinned (.plain (OpenSpec.upto fnLivesSpec)) fnLivesUptoCard

/-- THE SECOND FORM's CARD OF 'laws.FnAlive'. -/
def fnAliveUptoCard : Claim7 := { stood := { row := fnAliveUptoRow, standIns := [], harness := (true, "466ca1ba1c801cbab931fb8a26ec360ce50b1d404891e5c57720eb46a2d97bac"), looks := true }, kinds := [], alts := [], laidByText := true, laidKinds := [.data, .data, .data, .data, .sentinel, .sentinel, .pinned], laidTests := true, laidLooks := .later }
def FnAliveUptoCardSaid : Prop := Claim7.holds Tryz.pinned (.plain (OpenSpec.upto fnAliveSpec)) fnAliveUptoCard

/-- THE SECOND FORM's CARD OF 'laws.FnFit'. -/
def fnFitUptoCard : Claim7 := { stood := { row := fnFitUptoRow, standIns := [], harness := (true, "466ca1ba1c801cbab931fb8a26ec360ce50b1d404891e5c57720eb46a2d97bac"), looks := true }, kinds := [], alts := [], laidByText := true, laidKinds := [.data, .data, .data, .data, .sentinel, .sentinel, .pinned], laidTests := true, laidLooks := .later }
def FnFitUptoCardSaid : Prop := Claim7.holds Tryz.pinned (.plain (OpenSpec.upto fnFitSpec)) fnFitUptoCard
end Rows
end Go.Proofs.YtndjbnkmhpbnpaaGreatDoor
