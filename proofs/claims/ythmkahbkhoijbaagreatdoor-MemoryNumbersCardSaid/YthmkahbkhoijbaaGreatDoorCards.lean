/-
  DERIVED. GIVEN WITH THE SEED: THE CARDS: each row of YthmkahbkhoijbaaGreatDoorRows.lean that lists a variable, with what it lists TIED to the program's text (the seventh form; the later family's looks); each row that meets fmt, with fmt's text TOLD by the authors' own Lean function (tested against real Go, not proved from fmt's source: count such statements apart). THE CARD IS WHAT COUNTS. Prove the row's statement (the work); the ties are given (YthmkahbkhoijbaaGreatDoorTie.lean); close each card by the builder's one call (the guide's Derived/Test/ToyasCard.lean, 'card_holds'). Laid BY PROGRAM, IN A SANDBOX (cutbox-door.mjs). By AI agents, Wed Nov 11 2026. No macro, syntax, notation, axiom, sorry.
-/
import Derived.Test.YthmkahbkhoijbaaGreatDoorRows
import GoSem.ClaimSeven
namespace Go.Proofs.YthmkahbkhoijbaaGreatDoor
namespace Rows

/-- THE TIED CARD OF 'ropewalklaw11.MemoryLives'. -/
def memoryLivesCard : Claim7 := { stood := { row := memoryLivesRow, standIns := [], harness := (true, "80a507464c51df976735a9b44ac335e0534b2a856f35aecd9ad8c8579fc9490a"), looks := false }, kinds := [], alts := [], laidByText := true, laidKinds := [.data, .pinned], laidTests := true, laidLooks := .later }
def MemoryLivesCardSaid : Prop := Claim7.holds Tryz.pinned (.plain (OpenSpec.ofChange memoryLivesSpec)) memoryLivesCard

/-- THE TIED CARD OF 'ropewalklaw11.MemoryNumbers'. -/
def memoryNumbersCard : Claim7 := { stood := { row := memoryNumbersRow, standIns := [], harness := (true, "80a507464c51df976735a9b44ac335e0534b2a856f35aecd9ad8c8579fc9490a"), looks := false }, kinds := [], alts := [], laidByText := true, laidKinds := [.data, .pinned], laidTests := true, laidLooks := .later }
def MemoryNumbersCardSaid : Prop := Claim7.holds Tryz.pinned (.plain (OpenSpec.ofChange memoryNumbersSpec)) memoryNumbersCard

/-- THE SECOND FORM's CARD OF 'ropewalklaw11.MemoryLives'. -/
def memoryLivesUptoCard : Claim7 := { stood := { row := memoryLivesUptoRow, standIns := [], harness := (true, "80a507464c51df976735a9b44ac335e0534b2a856f35aecd9ad8c8579fc9490a"), looks := false }, kinds := [], alts := [], laidByText := true, laidKinds := [.data, .pinned], laidTests := true, laidLooks := .later }
def MemoryLivesUptoCardSaid : Prop := Claim7.holds Tryz.pinned (.plain (OpenSpec.upto memoryLivesSpec)) memoryLivesUptoCard

/-- THE SECOND FORM's CARD OF 'ropewalklaw11.MemoryNumbers'. -/
def memoryNumbersUptoCard : Claim7 := { stood := { row := memoryNumbersUptoRow, standIns := [], harness := (true, "80a507464c51df976735a9b44ac335e0534b2a856f35aecd9ad8c8579fc9490a"), looks := false }, kinds := [], alts := [], laidByText := true, laidKinds := [.data, .pinned], laidTests := true, laidLooks := .later }
def MemoryNumbersUptoCardSaid : Prop := Claim7.holds Tryz.pinned (.plain (OpenSpec.upto memoryNumbersSpec)) memoryNumbersUptoCard
end Rows
end Go.Proofs.YthmkahbkhoijbaaGreatDoor
