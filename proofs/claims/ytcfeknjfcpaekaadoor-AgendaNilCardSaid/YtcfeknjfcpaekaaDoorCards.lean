/-
  DERIVED. GIVEN WITH THE SEED: THE CARDS: each row of YtcfeknjfcpaekaaDoorRows.lean that lists a variable, with what it lists TIED to the program's text (the seventh form; the later family's looks); each row that meets fmt, with fmt's text TOLD by the authors' own Lean function (tested against real Go, not proved from fmt's source: count such statements apart). THE CARD IS WHAT COUNTS. Prove the row's statement (the work); the ties are given (YtcfeknjfcpaekaaDoorTie.lean); close each card by the builder's one call (the guide's Derived/Test/ToyasCard.lean, 'card_holds'). Laid BY PROGRAM, IN A SANDBOX (cutbox-door.mjs). By AI agents, Wed Nov 11 2026. No macro, syntax, notation, axiom, sorry.
-/
import Derived.Test.YtcfeknjfcpaekaaDoorRows
import GoSem.ClaimSeven
namespace Go.Proofs.YtcfeknjfcpaekaaDoor
namespace Rows

/-- THE TIED CARD OF 'ropewalklaw11.MemoryNil'. -/
def memoryNilCard : Claim7 := { stood := { row := memoryNilRow, standIns := [], harness := (true, "3b6291d68831547240d2f92d0f90e5ea9540c19b51e0cc3fc633d3bafe3d6c89"), looks := false }, kinds := [], alts := [], laidByText := true, laidKinds := [.data, .pinned], laidTests := true, laidLooks := .later }
def MemoryNilCardSaid : Prop := Claim7.holds Tryd.pinned (.plain (OpenSpec.ofChange memoryNilSpec)) memoryNilCard

/-- THE TIED CARD OF 'ropewalklaw14.AgendaNil'. -/
def agendaNilCard : Claim7 := { stood := { row := agendaNilRow, standIns := [], harness := (true, "3b6291d68831547240d2f92d0f90e5ea9540c19b51e0cc3fc633d3bafe3d6c89"), looks := false }, kinds := [], alts := [], laidByText := true, laidKinds := [.data, .data, .data], laidTests := true, laidLooks := .later }
def AgendaNilCardSaid : Prop := Claim7.holds Tryd.pinned (.plain (OpenSpec.ofChange agendaNilSpec)) agendaNilCard

/-- THE SECOND FORM's CARD OF 'ropewalklaw11.MemoryNil'. -/
def memoryNilUptoCard : Claim7 := { stood := { row := memoryNilUptoRow, standIns := [], harness := (true, "3b6291d68831547240d2f92d0f90e5ea9540c19b51e0cc3fc633d3bafe3d6c89"), looks := false }, kinds := [], alts := [], laidByText := true, laidKinds := [.data, .pinned], laidTests := true, laidLooks := .later }
def MemoryNilUptoCardSaid : Prop := Claim7.holds Tryd.pinned (.plain (OpenSpec.upto memoryNilSpec)) memoryNilUptoCard

/-- THE SECOND FORM's CARD OF 'ropewalklaw14.AgendaNil'. -/
def agendaNilUptoCard : Claim7 := { stood := { row := agendaNilUptoRow, standIns := [], harness := (true, "3b6291d68831547240d2f92d0f90e5ea9540c19b51e0cc3fc633d3bafe3d6c89"), looks := false }, kinds := [], alts := [], laidByText := true, laidKinds := [.data, .data, .data], laidTests := true, laidLooks := .later }
def AgendaNilUptoCardSaid : Prop := Claim7.holds Tryd.pinned (.plain (OpenSpec.upto agendaNilSpec)) agendaNilUptoCard
end Rows
end Go.Proofs.YtcfeknjfcpaekaaDoor
