/-
  DERIVED. GIVEN WITH THE SEED: THE CARDS: each row of YtdnolbmbmncefaaDoorRows.lean that lists a variable, with what it lists TIED to the program's text (the seventh form; the later family's looks); each row that meets fmt, with fmt's text TOLD by the authors' own Lean function (tested against real Go, not proved from fmt's source: count such statements apart). THE CARD IS WHAT COUNTS. Prove the row's statement (the work); the ties are given (YtdnolbmbmncefaaDoorTie.lean); close each card by the builder's one call (the guide's Derived/Test/ToyasCard.lean, 'card_holds'). Laid BY PROGRAM, IN A SANDBOX (cutbox-door.mjs). By AI agents, Wed Nov 11 2026. No macro, syntax, notation, axiom, sorry.
-/
import Derived.Test.YtdnolbmbmncefaaDoorRows
import GoSem.ClaimSeven
namespace Go.Proofs.YtdnolbmbmncefaaDoor
namespace Rows

/-- THE TIED CARD OF 'ropewalklaw11.MemoryOf'. -/
def memoryOfCard : Claim7 := { stood := { row := memoryOfRow, standIns := [], harness := (true, "7b8cca6de2ee16aead80e841fc8e536dbeaf184e13ea1be73a57318b43024b62"), looks := false }, kinds := [], alts := [], laidByText := true, laidKinds := [.data, .pinned], laidTests := true, laidLooks := .later }
def MemoryOfCardSaid : Prop := Claim7.holds Tryd.pinned (.plain (OpenSpec.ofChange memoryOfSpec)) memoryOfCard

/-- THE TIED CARD OF 'ropewalklaw11.MemoryKeeps'. -/
def memoryKeepsCard : Claim7 := { stood := { row := memoryKeepsRow, standIns := [], harness := (true, "7b8cca6de2ee16aead80e841fc8e536dbeaf184e13ea1be73a57318b43024b62"), looks := false }, kinds := [], alts := [], laidByText := true, laidKinds := [.data, .pinned], laidTests := true, laidLooks := .later }
def MemoryKeepsCardSaid : Prop := Claim7.holds Tryd.pinned (.plain (OpenSpec.ofChange memoryKeepsSpec)) memoryKeepsCard

/-- THE SECOND FORM's CARD OF 'ropewalklaw11.MemoryOf'. -/
def memoryOfUptoCard : Claim7 := { stood := { row := memoryOfUptoRow, standIns := [], harness := (true, "7b8cca6de2ee16aead80e841fc8e536dbeaf184e13ea1be73a57318b43024b62"), looks := false }, kinds := [], alts := [], laidByText := true, laidKinds := [.data, .pinned], laidTests := true, laidLooks := .later }
def MemoryOfUptoCardSaid : Prop := Claim7.holds Tryd.pinned (.plain (OpenSpec.upto memoryOfSpec)) memoryOfUptoCard

/-- THE SECOND FORM's CARD OF 'ropewalklaw11.MemoryKeeps'. -/
def memoryKeepsUptoCard : Claim7 := { stood := { row := memoryKeepsUptoRow, standIns := [], harness := (true, "7b8cca6de2ee16aead80e841fc8e536dbeaf184e13ea1be73a57318b43024b62"), looks := false }, kinds := [], alts := [], laidByText := true, laidKinds := [.data, .pinned], laidTests := true, laidLooks := .later }
def MemoryKeepsUptoCardSaid : Prop := Claim7.holds Tryd.pinned (.plain (OpenSpec.upto memoryKeepsSpec)) memoryKeepsUptoCard
end Rows
end Go.Proofs.YtdnolbmbmncefaaDoor
