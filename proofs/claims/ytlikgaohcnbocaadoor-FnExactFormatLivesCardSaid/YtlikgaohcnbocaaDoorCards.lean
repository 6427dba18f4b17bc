/-
  DERIVED. GIVEN WITH THE SEED: THE CARDS: each row of YtlikgaohcnbocaaDoorRows.lean that lists a variable, with what it lists TIED to the program's text (the seventh form; the later family's looks); each row that meets fmt, with fmt's text TOLD by the authors' own Lean function (tested against real Go, not proved from fmt's source: count such statements apart). THE CARD IS WHAT COUNTS. Prove the row's statement (the work); the ties are given (YtlikgaohcnbocaaDoorTie.lean); close each card by the builder's one call (the guide's Derived/Test/ToyasCard.lean, 'card_holds'). Laid BY PROGRAM, IN A SANDBOX (cutbox-door.mjs). By AI agents, Wed Nov 11 2026. No macro, syntax, notation, axiom, sorry.
-/
import Derived.Test.YtlikgaohcnbocaaDoorRows
import GoSem.ClaimSeven
namespace Go.Proofs.YtlikgaohcnbocaaDoor
namespace Rows

/-- THE TIED CARD OF 'laws.FnExactFormatNumbers'. -/
def fnExactFormatNumbersCard : Claim7 := { stood := { row := fnExactFormatNumbersRow, standIns := [], harness := (true, "b98fbf529969e3e3cc94628afd55f3215b9a1d99389fff1b90dfa0c5931fe26f"), looks := true }, kinds := [], alts := [], laidByText := true, laidKinds := [.data, .data, .data], laidTests := true, laidLooks := .later }
def FnExactFormatNumbersCardSaid : Prop := Claim7.holds Tryd.pinned (.plain (OpenSpec.ofChange fnExactFormatNumbersSpec)) fnExactFormatNumbersCard

/-- THE TIED CARD OF 'laws.FnExactFormatLives'. -/
def fnExactFormatLivesCard : Claim7 := { stood := { row := fnExactFormatLivesRow, standIns := [], harness := (true, "b98fbf529969e3e3cc94628afd55f3215b9a1d99389fff1b90dfa0c5931fe26f"), looks := true }, kinds := [], alts := [], laidByText := true, laidKinds := [.data, .data, .data], laidTests := true, laidLooks := .later }
def FnExactFormatLivesCardSaid : Prop := Claim7.holds Tryd.pinned (.plain (OpenSpec.ofChange fnExactFormatLivesSpec)) fnExactFormatLivesCard

/-- THE TIED CARD OF 'laws.FnExactEventsValid'. -/
def fnExactEventsValidCard : Claim7 := { stood := { row := fnExactEventsValidRow, standIns := [], harness := (true, "b98fbf529969e3e3cc94628afd55f3215b9a1d99389fff1b90dfa0c5931fe26f"), looks := true }, kinds := [], alts := [], laidByText := true, laidKinds := [.data, .data, .data, .data, .sentinel, .sentinel, .pinned], laidTests := true, laidLooks := .later }
def FnExactEventsValidCardSaid : Prop := Claim7.holds Tryd.pinned (.plain (OpenSpec.ofChange fnExactEventsValidSpec)) fnExactEventsValidCard

/-- THE TIED CARD OF 'laws.FnExactAreNested'. -/
def fnExactAreNestedCard : Claim7 := { stood := { row := fnExactAreNestedRow, standIns := [], harness := (true, "b98fbf529969e3e3cc94628afd55f3215b9a1d99389fff1b90dfa0c5931fe26f"), looks := true }, kinds := [], alts := [], laidByText := true, laidKinds := [.data, .data, .data, .data, .sentinel, .sentinel, .pinned], laidTests := true, laidLooks := .later }
def FnExactAreNestedCardSaid : Prop := Claim7.holds Tryd.pinned (.plain (OpenSpec.ofChange fnExactAreNestedSpec)) fnExactAreNestedCard

/-- THE TIED CARD OF 'laws.FnExactReusesOf'. -/
def fnExactReusesOfCard : Claim7 := { stood := { row := fnExactReusesOfRow, standIns := [], harness := (true, "b98fbf529969e3e3cc94628afd55f3215b9a1d99389fff1b90dfa0c5931fe26f"), looks := true }, kinds := [], alts := [], laidByText := true, laidKinds := [.data, .data, .data, .data, .sentinel, .sentinel, .pinned], laidTests := true, laidLooks := .later }
def FnExactReusesOfCardSaid : Prop := Claim7.holds Tryd.pinned (.plain (OpenSpec.ofChange fnExactReusesOfSpec)) fnExactReusesOfCard

/-- THE TIED CARD OF 'laws.FnExactIdleOf'. -/
def fnExactIdleOfCard : Claim7 := { stood := { row := fnExactIdleOfRow, standIns := [], harness := (true, "b98fbf529969e3e3cc94628afd55f3215b9a1d99389fff1b90dfa0c5931fe26f"), looks := true }, kinds := [], alts := [], laidByText := true, laidKinds := [.data, .data, .data, .data, .sentinel, .sentinel, .pinned], laidTests := true, laidLooks := .later }
def FnExactIdleOfCardSaid : Prop := Claim7.holds Tryd.pinned (.plain (OpenSpec.ofChange fnExactIdleOfSpec)) fnExactIdleOfCard

/-- THE TIED CARD OF 'laws.FnExactMostAlive'. -/
def fnExactMostAliveCard : Claim7 := { stood := { row := fnExactMostAliveRow, standIns := [], harness := (true, "b98fbf529969e3e3cc94628afd55f3215b9a1d99389fff1b90dfa0c5931fe26f"), looks := true }, kinds := [], alts := [], laidByText := true, laidKinds := [.data, .data, .data, .data, .sentinel, .sentinel, .pinned], laidTests := true, laidLooks := .later }
def FnExactMostAliveCardSaid : Prop := Claim7.holds Tryd.pinned (.plain (OpenSpec.ofChange fnExactMostAliveSpec)) fnExactMostAliveCard

/-- THE TIED CARD OF 'laws.FnExactLeftOver'. -/
def fnExactLeftOverCard : Claim7 := { stood := { row := fnExactLeftOverRow, standIns := [], harness := (true, "b98fbf529969e3e3cc94628afd55f3215b9a1d99389fff1b90dfa0c5931fe26f"), looks := true }, kinds := [], alts := [], laidByText := true, laidKinds := [.data, .data, .data, .data, .sentinel, .sentinel, .pinned], laidTests := true, laidLooks := .later }
def FnExactLeftOverCardSaid : Prop := Claim7.holds Tryd.pinned (.plain (OpenSpec.ofChange fnExactLeftOverSpec)) fnExactLeftOverCard

/-- THE TIED CARD OF 'laws.FnExactAliveAt'. -/
def fnExactAliveAtCard : Claim7 := { stood := { row := fnExactAliveAtRow, standIns := [], harness := (true, "b98fbf529969e3e3cc94628afd55f3215b9a1d99389fff1b90dfa0c5931fe26f"), looks := true }, kinds := [], alts := [], laidByText := true, laidKinds := [.data, .data, .data, .data, .sentinel, .sentinel, .pinned], laidTests := true, laidLooks := .later }
def FnExactAliveAtCardSaid : Prop := Claim7.holds Tryd.pinned (.plain (OpenSpec.ofChange fnExactAliveAtSpec)) fnExactAliveAtCard

/-- THE TIED CARD OF 'laws.FnExactLivesOf'. -/
def fnExactLivesOfCard : Claim7 := { stood := { row := fnExactLivesOfRow, standIns := [], harness := (true, "b98fbf529969e3e3cc94628afd55f3215b9a1d99389fff1b90dfa0c5931fe26f"), looks := true }, kinds := [], alts := [], laidByText := true, laidKinds := [.data, .data, .data, .data, .sentinel, .sentinel, .pinned], laidTests := true, laidLooks := .later }
def FnExactLivesOfCardSaid : Prop := Claim7.holds Tryd.pinned (.plain (OpenSpec.ofChange fnExactLivesOfSpec)) fnExactLivesOfCard

/-- THE SECOND FORM's CARD OF 'laws.FnExactFormatNumbers'. -/
def fnExactFormatNumbersUptoCard : Claim7 := { stood := { row := fnExactFormatNumbersUptoRow, standIns := [], harness := (true, "b98fbf529969e3e3cc94628afd55f3215b9a1d99389fff1b90dfa0c5931fe26f"), looks := true }, kinds := [], alts := [], laidByText := true, laidKinds := [.data, .data, .data], laidTests := true, laidLooks := .later }
def FnExactFormatNumbersUptoCardSaid : Prop := Claim7.holds Tryd.pinned (.plain (OpenSpec.upto fnExactFormatNumbersSpec)) fnExactFormatNumbersUptoCard

/-- THE SECOND FORM's CARD OF 'laws.FnExactFormatLives'. -/
def fnExactFormatLivesUptoCard : Claim7 := { stood := { row := fnExactFormatLivesUptoRow, standIns := [], harness := (true, "b98fbf529969e3e3cc94628afd55f3215b9a1d99389fff1b90dfa0c5931fe26f"), looks := true }, kinds := [], alts := [], laidByText := true, laidKinds := [.data, .data, .data], laidTests := true, laidLooks := .later }
def FnExactFormatLivesUptoCardSaid : Prop := Claim7.holds Tryd.pinned (.plain (OpenSpec.upto fnExactFormatLivesSpec)) fnExactFormatLivesUptoCard

/-- THE SECOND FORM's CARD OF 'laws.FnExactEventsValid'. -/
def fnExactEventsValidUptoCard : Claim7 := { stood := { row := fnExactEventsValidUptoRow, standIns := [], harness := (true, "b98fbf529969e3e3cc94628afd55f3215b9a1d99389fff1b90dfa0c5931fe26f"), looks := true }, kinds := [], alts := [], laidByText := true, laidKinds := [.data, .data, .data, .data, .sentinel, .sentinel, .pinned], laidTests := true, laidLooks := .later }
def FnExactEventsValidUptoCardSaid : Prop := Claim7.holds Tryd.pinned (.plain (OpenSpec.upto fnExactEventsValidSpec)) fnExactEventsValidUptoCard

/-- THE SECOND FORM's CARD OF 'laws.FnExactAreNested'. -/
def fnExactAreNestedUptoCard : Claim7 := { stood := { row := fnExactAreNestedUptoRow, standIns := [], harness := (true, "b98fbf529969e3e3cc94628afd55f3215b9a1d99389fff1b90dfa0c5931fe26f"), looks := true }, kinds := [], alts := [], laidByText := true, laidKinds := [.data, .data, .data, .data, .sentinel, .sentinel, .pinned], laidTests := true, laidLooks := .later }
def FnExactAreNestedUptoCardSaid : Prop := Claim7.holds Tryd.pinned (.plain (OpenSpec.upto fnExactAreNestedSpec)) fnExactAreNestedUptoCard

/-- THE SECOND FORM's CARD OF 'laws.FnExactReusesOf'. -/
def fnExactReusesOfUptoCard : Claim7 := { stood := { row := fnExactReusesOfUptoRow, standIns := [], harness := (true, "b98fbf529969e3e3cc94628afd55f3215b9a1d99389fff1b90dfa0c5931fe26f"), looks := true }, kinds := [], alts := [], laidByText := true, laidKinds := [.data, .data, .data, .data, .sentinel, .sentinel, .pinned], laidTests := true, laidLooks := .later }
def FnExactReusesOfUptoCardSaid : Prop := Claim7.holds Tryd.pinned (.plain (OpenSpec.upto fnExactReusesOfSpec)) fnExactReusesOfUptoCard

/-- THE SECOND FORM's CARD OF 'laws.FnExactIdleOf'. -/
def fnExactIdleOfUptoCard : Claim7 := { stood := { row := fnExactIdleOfUptoRow, standIns := [], harness := (true, "b98fbf529969e3e3cc94628afd55f3215b9a1d99389fff1b90dfa0c5931fe26f"), looks := true }, kinds := [], alts := [], laidByText := true, laidKinds := [.data, .data, .data, .data, .sentinel, .sentinel, .pinned], laidTests := true, laidLooks := .later }
def FnExactIdleOfUptoCardSaid : Prop := Claim7.holds Tryd.pinned (.plain (OpenSpec.upto fnExactIdleOfSpec)) fnExactIdleOfUptoCard

/-- THE SECOND FORM's CARD OF 'laws.FnExactMostAlive'. -/
def fnExactMostAliveUptoCard : Claim7 := { stood := { row := fnExactMostAliveUptoRow, standIns := [], harness := (true, "b98fbf529969e3e3cc94628afd55f3215b9a1d99389fff1b90dfa0c5931fe26f"), looks := true }, kinds := [], alts := [], laidByText := true, laidKinds := [.data, .data, .data, .data, .sentinel, .sentinel, .pinned], laidTests := true, laidLooks := .later }
def FnExactMostAliveUptoCardSaid : Prop := Claim7.holds Tryd.pinned (.plain (OpenSpec.upto fnExactMostAliveSpec)) fnExactMostAliveUptoCard

/-- THE SECOND FORM's CARD OF 'laws.FnExactLeftOver'. -/
def fnExactLeftOverUptoCard : Claim7 := { stood := { row := fnExactLeftOverUptoRow, standIns := [], harness := (true, "b98fbf529969e3e3cc94628afd55f3215b9a1d99389fff1b90dfa0c5931fe26f"), looks := true }, kinds := [], alts := [], laidByText := true, laidKinds := [.data, .data, .data, .data, .sentinel, .sentinel, .pinned], laidTests := true, laidLooks := .later }
def FnExactLeftOverUptoCardSaid : Prop := Claim7.holds Tryd.pinned (.plain (OpenSpec.upto fnExactLeftOverSpec)) fnExactLeftOverUptoCard

/-- THE SECOND FORM's CARD OF 'laws.FnExactAliveAt'. -/
def fnExactAliveAtUptoCard : Claim7 := { stood := { row := fnExactAliveAtUptoRow, standIns := [], harness := (true, "b98fbf529969e3e3cc94628afd55f3215b9a1d99389fff1b90dfa0c5931fe26f"), looks := true }, kinds := [], alts := [], laidByText := true, laidKinds := [.data, .data, .data, .data, .sentinel, .sentinel, .pinned], laidTests := true, laidLooks := .later }
def FnExactAliveAtUptoCardSaid : Prop := Claim7.holds Tryd.pinned (.plain (OpenSpec.upto fnExactAliveAtSpec)) fnExactAliveAtUptoCard

/-- THE SECOND FORM's CARD OF 'laws.FnExactLivesOf'. -/
def fnExactLivesOfUptoCard : Claim7 := { stood := { row := fnExactLivesOfUptoRow, standIns := [], harness := (true, "b98fbf529969e3e3cc94628afd55f3215b9a1d99389fff1b90dfa0c5931fe26f"), looks := true }, kinds := [], alts := [], laidByText := true, laidKinds := [.data, .data, .data, .data, .sentinel, .sentinel, .pinned], laidTests := true, laidLooks := .later }
def FnExactLivesOfUptoCardSaid : Prop := Claim7.holds Tryd.pinned (.plain (OpenSpec.upto fnExactLivesOfSpec)) fnExactLivesOfUptoCard
end Rows
end Go.Proofs.YtlikgaohcnbocaaDoor
