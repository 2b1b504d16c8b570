/-
  DERIVED. GIVEN WITH THE SEED: THE CARDS: each row of YtocfkfhdcnjklaaGreatDoorRows.lean that lists a variable, with what it lists TIED to the program's text (the seventh form; the later family's looks); each row that meets fmt, with fmt's text TOLD by the authors' own Lean function (tested against real Go, not proved from fmt's source: count such statements apart). THE CARD IS WHAT COUNTS. Prove the row's statement (the work); the ties are given (YtocfkfhdcnjklaaGreatDoorTie.lean); close each card by the builder's one call (the guide's Derived/Test/ToyasCard.lean, 'card_holds'). Laid BY PROGRAM, IN A SANDBOX (cutbox-door.mjs). By AI agents, Wed Nov 11 2026. No macro, syntax, notation, axiom, sorry.
-/
import Derived.Test.YtocfkfhdcnjklaaGreatDoorRows
import GoSem.ClaimSeven
namespace Go.Proofs.YtocfkfhdcnjklaaGreatDoor
namespace Rows

/-- THE TIED CARD OF 'ropewalklaw13.ReteDoes'. -/
def reteDoesCard : Claim7 := { stood := { row := reteDoesRow, standIns := [], harness := (true, "ee92048d643bc1be72006fc38120d827e112d8b7b666b90b7b572fefd3d13a0a"), looks := true }, kinds := [], alts := [], laidByText := true, laidKinds := [.data, .data, .data, .data, .pinned], laidTests := true, laidLooks := .later }
def ReteDoesCardSaid : Prop := Claim7.holds Tryz.pinned (.plain (OpenSpec.ofChange reteDoesSpec)) reteDoesCard

/-- THE TIED CARD OF 'ropewalklaw13.ReteMany'. -/
def reteManyCard : Claim7 := { stood := { row := reteManyRow, standIns := [], harness := (true, "ee92048d643bc1be72006fc38120d827e112d8b7b666b90b7b572fefd3d13a0a"), looks := true }, kinds := [], alts := [], laidByText := true, laidKinds := [.data, .data, .data, .data, .pinned], laidTests := true, laidLooks := .later }
def ReteManyCardSaid : Prop := Claim7.holds Tryz.pinned (.plain (OpenSpec.ofChange reteManySpec)) reteManyCard

/-- THE TIED CARD OF 'ropewalklaw13.ReteNone'. -/
def reteNoneCard : Claim7 := { stood := { row := reteNoneRow, standIns := [], harness := (true, "ee92048d643bc1be72006fc38120d827e112d8b7b666b90b7b572fefd3d13a0a"), looks := true }, kinds := [], alts := [], laidByText := true, laidKinds := [.data, .data, .data, .data, .pinned], laidTests := true, laidLooks := .later }
def ReteNoneCardSaid : Prop := Claim7.holds Tryz.pinned (.plain (OpenSpec.ofChange reteNoneSpec)) reteNoneCard

/-- THE TIED CARD OF 'ropewalklaw13.ReteOrders'. -/
def reteOrdersCard : Claim7 := { stood := { row := reteOrdersRow, standIns := [], harness := (true, "ee92048d643bc1be72006fc38120d827e112d8b7b666b90b7b572fefd3d13a0a"), looks := true }, kinds := [], alts := [], laidByText := true, laidKinds := [.data, .data, .data, .data, .pinned], laidTests := true, laidLooks := .later }
def ReteOrdersCardSaid : Prop := Claim7.holds Tryz.pinned (.plain (OpenSpec.ofChange reteOrdersSpec)) reteOrdersCard

/-- THE TIED CARD OF 'ropewalklaw13.ReteApart'. -/
def reteApartCard : Claim7 := { stood := { row := reteApartRow, standIns := [], harness := (true, "ee92048d643bc1be72006fc38120d827e112d8b7b666b90b7b572fefd3d13a0a"), looks := true }, kinds := [], alts := [], laidByText := true, laidKinds := [.data, .data, .data, .data, .pinned], laidTests := true, laidLooks := .later }
def ReteApartCardSaid : Prop := Claim7.holds Tryz.pinned (.plain (OpenSpec.ofChange reteApartSpec)) reteApartCard

/-- THE TIED CARD OF 'ropewalklaw13.ReteNaive'. -/
def reteNaiveCard : Claim7 := { stood := { row := reteNaiveRow, standIns := [], harness := (true, "ee92048d643bc1be72006fc38120d827e112d8b7b666b90b7b572fefd3d13a0a"), looks := true }, kinds := [], alts := [], laidByText := true, laidKinds := [.data, .data, .data, .data, .pinned], laidTests := true, laidLooks := .later }
def ReteNaiveCardSaid : Prop := Claim7.holds Tryz.pinned (.plain (OpenSpec.ofChange reteNaiveSpec)) reteNaiveCard

/-- THE SECOND FORM's CARD OF 'ropewalklaw13.ReteDoes'. -/
def reteDoesUptoCard : Claim7 := { stood := { row := reteDoesUptoRow, standIns := [], harness := (true, "ee92048d643bc1be72006fc38120d827e112d8b7b666b90b7b572fefd3d13a0a"), looks := true }, kinds := [], alts := [], laidByText := true, laidKinds := [.data, .data, .data, .data, .pinned], laidTests := true, laidLooks := .later }
def ReteDoesUptoCardSaid : Prop := Claim7.holds Tryz.pinned (.plain (OpenSpec.upto reteDoesSpec)) reteDoesUptoCard

/-- THE SECOND FORM's CARD OF 'ropewalklaw13.ReteMany'. -/
def reteManyUptoCard : Claim7 := { stood := { row := reteManyUptoRow, standIns := [], harness := (true, "ee92048d643bc1be72006fc38120d827e112d8b7b666b90b7b572fefd3d13a0a"), looks := true }, kinds := [], alts := [], laidByText := true, laidKinds := [.data, .data, .data, .data, .pinned], laidTests := true, laidLooks := .later }
def ReteManyUptoCardSaid : Prop := Claim7.holds Tryz.pinned (.plain (OpenSpec.upto reteManySpec)) reteManyUptoCard

/-- THE SECOND FORM's CARD OF 'ropewalklaw13.ReteNone'. -/
def reteNoneUptoCard : Claim7 := { stood := { row := reteNoneUptoRow, standIns := [], harness := (true, "ee92048d643bc1be72006fc38120d827e112d8b7b666b90b7b572fefd3d13a0a"), looks := true }, kinds := [], alts := [], laidByText := true, laidKinds := [.data, .data, .data, .data, .pinned], laidTests := true, laidLooks := .later }
def ReteNoneUptoCardSaid : Prop := Claim7.holds Tryz.pinned (.plain (OpenSpec.upto reteNoneSpec)) reteNoneUptoCard

/-- THE SECOND FORM's CARD OF 'ropewalklaw13.ReteOrders'. -/
def reteOrdersUptoCard : Claim7 := { stood := { row := reteOrdersUptoRow, standIns := [], harness := (true, "ee92048d643bc1be72006fc38120d827e112d8b7b666b90b7b572fefd3d13a0a"), looks := true }, kinds := [], alts := [], laidByText := true, laidKinds := [.data, .data, .data, .data, .pinned], laidTests := true, laidLooks := .later }
def ReteOrdersUptoCardSaid : Prop := Claim7.holds Tryz.pinned (.plain (OpenSpec.upto reteOrdersSpec)) reteOrdersUptoCard

/-- THE SECOND FORM's CARD OF 'ropewalklaw13.ReteApart'. -/
def reteApartUptoCard : Claim7 := { stood := { row := reteApartUptoRow, standIns := [], harness := (true, "ee92048d643bc1be72006fc38120d827e112d8b7b666b90b7b572fefd3d13a0a"), looks := true }, kinds := [], alts := [], laidByText := true, laidKinds := [.data, .data, .data, .data, .pinned], laidTests := true, laidLooks := .later }
def ReteApartUptoCardSaid : Prop := Claim7.holds Tryz.pinned (.plain (OpenSpec.upto reteApartSpec)) reteApartUptoCard

/-- THE SECOND FORM's CARD OF 'ropewalklaw13.ReteNaive'. -/
def reteNaiveUptoCard : Claim7 := { stood := { row := reteNaiveUptoRow, standIns := [], harness := (true, "ee92048d643bc1be72006fc38120d827e112d8b7b666b90b7b572fefd3d13a0a"), looks := true }, kinds := [], alts := [], laidByText := true, laidKinds := [.data, .data, .data, .data, .pinned], laidTests := true, laidLooks := .later }
def ReteNaiveUptoCardSaid : Prop := Claim7.holds Tryz.pinned (.plain (OpenSpec.upto reteNaiveSpec)) reteNaiveUptoCard
end Rows
end Go.Proofs.YtocfkfhdcnjklaaGreatDoor
