/-
  DERIVED. GIVEN WITH THE SEED: THE CARDS: each row of YtohkfpobgjkpdaaDoorRows.lean that lists a variable, with what it lists TIED to the program's text (the seventh form; the later family's looks); each row that meets fmt, with fmt's text TOLD by the authors' own Lean function (tested against real Go, not proved from fmt's source: count such statements apart). THE CARD IS WHAT COUNTS. Prove the row's statement (the work); the ties are given (YtohkfpobgjkpdaaDoorTie.lean); close each card by the builder's one call (the guide's Derived/Test/ToyasCard.lean, 'card_holds'). Laid BY PROGRAM, IN A SANDBOX (cutbox-door.mjs). By AI agents, Wed Nov 11 2026. No macro, syntax, notation, axiom, sorry.
-/
import Derived.Test.YtohkfpobgjkpdaaDoorRows
import GoSem.ClaimSeven
namespace Go.Proofs.YtohkfpobgjkpdaaDoor
namespace Rows

/-- THE TIED CARD OF 'ropewalklaw09.ExprSays'. -/
def exprSaysCard : Claim7 := { stood := { row := exprSaysRow, standIns := [], harness := (true, "70d45d478c9cfa3b619bb17d7eb65ebd6ae6370d6de0eede6dea96d2b66a6dab"), looks := false }, kinds := [], alts := [], laidByText := true, laidKinds := [.data, .pinned], laidTests := true, laidLooks := .later }
def ExprSaysCardSaid : Prop := Claim7.holds Tryd.pinned (.plain (OpenSpec.ofChange exprSaysSpec)) exprSaysCard

/-- THE SECOND FORM's CARD OF 'ropewalklaw09.ExprSays'. -/
def exprSaysUptoCard : Claim7 := { stood := { row := exprSaysUptoRow, standIns := [], harness := (true, "70d45d478c9cfa3b619bb17d7eb65ebd6ae6370d6de0eede6dea96d2b66a6dab"), looks := false }, kinds := [], alts := [], laidByText := true, laidKinds := [.data, .pinned], laidTests := true, laidLooks := .later }
def ExprSaysUptoCardSaid : Prop := Claim7.holds Tryd.pinned (.plain (OpenSpec.upto exprSaysSpec)) exprSaysUptoCard
end Rows
end Go.Proofs.YtohkfpobgjkpdaaDoor
