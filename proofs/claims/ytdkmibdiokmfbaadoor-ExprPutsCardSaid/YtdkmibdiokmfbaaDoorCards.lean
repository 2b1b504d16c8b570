/-
  DERIVED. GIVEN WITH THE SEED: THE CARDS: each row of YtdkmibdiokmfbaaDoorRows.lean that lists a variable, with what it lists TIED to the program's text (the seventh form; the later family's looks); each row that meets fmt, with fmt's text TOLD by the authors' own Lean function (tested against real Go, not proved from fmt's source: count such statements apart). THE CARD IS WHAT COUNTS. Prove the row's statement (the work); the ties are given (YtdkmibdiokmfbaaDoorTie.lean); close each card by the builder's one call (the guide's Derived/Test/ToyasCard.lean, 'card_holds'). Laid BY PROGRAM, IN A SANDBOX (cutbox-door.mjs). By AI agents, Wed Nov 11 2026. No macro, syntax, notation, axiom, sorry.
-/
import Derived.Test.YtdkmibdiokmfbaaDoorRows
import GoSem.ClaimSeven
namespace Go.Proofs.YtdkmibdiokmfbaaDoor
namespace Rows

/-- THE TIED CARD OF 'ropewalklaw09.ExprSays'. -/
def exprSaysCard : Claim7 := { stood := { row := exprSaysRow, standIns := [], harness := (true, "baa3039306ffb81d69afea0dbd0b7ec7bcf8782413b0a782f0cef52c128a0325"), looks := false }, kinds := [], alts := [], laidByText := true, laidKinds := [.data, .pinned], laidTests := true, laidLooks := .later }
def ExprSaysCardSaid : Prop := Claim7.holds Tryd.pinned (.plain (OpenSpec.ofChange exprSaysSpec)) exprSaysCard

/-- THE TIED CARD OF 'ropewalklaw09.ExprAll'. -/
def exprAllCard : Claim7 := { stood := { row := exprAllRow, standIns := [], harness := (true, "baa3039306ffb81d69afea0dbd0b7ec7bcf8782413b0a782f0cef52c128a0325"), looks := false }, kinds := [], alts := [], laidByText := true, laidKinds := [.data, .pinned], laidTests := true, laidLooks := .later }
def ExprAllCardSaid : Prop := Claim7.holds Tryd.pinned (.plain (OpenSpec.ofChange exprAllSpec)) exprAllCard

/-- THE TIED CARD OF 'ropewalklaw09.ExprPuts'. -/
def exprPutsCard : Claim7 := { stood := { row := exprPutsRow, standIns := [], harness := (true, "baa3039306ffb81d69afea0dbd0b7ec7bcf8782413b0a782f0cef52c128a0325"), looks := false }, kinds := [], alts := [], laidByText := true, laidKinds := [.data, .pinned], laidTests := true, laidLooks := .later }
def ExprPutsCardSaid : Prop := Claim7.holds Tryd.pinned (.plain (OpenSpec.ofChange exprPutsSpec)) exprPutsCard

/-- THE SECOND FORM's CARD OF 'ropewalklaw09.ExprSays'. -/
def exprSaysUptoCard : Claim7 := { stood := { row := exprSaysUptoRow, standIns := [], harness := (true, "baa3039306ffb81d69afea0dbd0b7ec7bcf8782413b0a782f0cef52c128a0325"), looks := false }, kinds := [], alts := [], laidByText := true, laidKinds := [.data, .pinned], laidTests := true, laidLooks := .later }
def ExprSaysUptoCardSaid : Prop := Claim7.holds Tryd.pinned (.plain (OpenSpec.upto exprSaysSpec)) exprSaysUptoCard

/-- THE SECOND FORM's CARD OF 'ropewalklaw09.ExprAll'. -/
def exprAllUptoCard : Claim7 := { stood := { row := exprAllUptoRow, standIns := [], harness := (true, "baa3039306ffb81d69afea0dbd0b7ec7bcf8782413b0a782f0cef52c128a0325"), looks := false }, kinds := [], alts := [], laidByText := true, laidKinds := [.data, .pinned], laidTests := true, laidLooks := .later }
def ExprAllUptoCardSaid : Prop := Claim7.holds Tryd.pinned (.plain (OpenSpec.upto exprAllSpec)) exprAllUptoCard

/-- THE SECOND FORM's CARD OF 'ropewalklaw09.ExprPuts'. -/
def exprPutsUptoCard : Claim7 := { stood := { row := exprPutsUptoRow, standIns := [], harness := (true, "baa3039306ffb81d69afea0dbd0b7ec7bcf8782413b0a782f0cef52c128a0325"), looks := false }, kinds := [], alts := [], laidByText := true, laidKinds := [.data, .pinned], laidTests := true, laidLooks := .later }
def ExprPutsUptoCardSaid : Prop := Claim7.holds Tryd.pinned (.plain (OpenSpec.upto exprPutsSpec)) exprPutsUptoCard
end Rows
end Go.Proofs.YtdkmibdiokmfbaaDoor
