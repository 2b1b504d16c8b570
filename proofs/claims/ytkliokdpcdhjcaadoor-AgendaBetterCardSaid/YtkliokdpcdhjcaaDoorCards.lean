/-
  DERIVED. GIVEN WITH THE SEED: THE CARDS: each row of YtkliokdpcdhjcaaDoorRows.lean that lists a variable, with what it lists TIED to the program's text (the seventh form; the later family's looks); each row that meets fmt, with fmt's text TOLD by the authors' own Lean function (tested against real Go, not proved from fmt's source: count such statements apart). THE CARD IS WHAT COUNTS. Prove the row's statement (the work); the ties are given (YtkliokdpcdhjcaaDoorTie.lean); close each card by the builder's one call (the guide's Derived/Test/ToyasCard.lean, 'card_holds'). Laid BY PROGRAM, IN A SANDBOX (cutbox-door.mjs). By AI agents, Wed Nov 11 2026. No macro, syntax, notation, axiom, sorry.
-/
import Derived.Test.YtkliokdpcdhjcaaDoorRows
import GoSem.ClaimSeven
namespace Go.Proofs.YtkliokdpcdhjcaaDoor
namespace Rows

/-- THE TIED CARD OF 'ropewalklaw14.AgendaBetter'. -/
def agendaBetterCard : Claim7 := { stood := { row := agendaBetterRow, standIns := [], harness := (true, "22a6cefba99f5f3db637a6b092abb5a74461b91fb571e2012b4470af5290f417"), looks := false }, kinds := [], alts := [], laidByText := true, laidKinds := [.data, .data, .data], laidTests := true, laidLooks := .later }
def AgendaBetterCardSaid : Prop := Claim7.holds Tryd.pinned (.plain (OpenSpec.ofChange agendaBetterSpec)) agendaBetterCard

/-- THE SECOND FORM's CARD OF 'ropewalklaw14.AgendaBetter'. -/
def agendaBetterUptoCard : Claim7 := { stood := { row := agendaBetterUptoRow, standIns := [], harness := (true, "22a6cefba99f5f3db637a6b092abb5a74461b91fb571e2012b4470af5290f417"), looks := false }, kinds := [], alts := [], laidByText := true, laidKinds := [.data, .data, .data], laidTests := true, laidLooks := .later }
def AgendaBetterUptoCardSaid : Prop := Claim7.holds Tryd.pinned (.plain (OpenSpec.upto agendaBetterSpec)) agendaBetterUptoCard
end Rows
end Go.Proofs.YtkliokdpcdhjcaaDoor
