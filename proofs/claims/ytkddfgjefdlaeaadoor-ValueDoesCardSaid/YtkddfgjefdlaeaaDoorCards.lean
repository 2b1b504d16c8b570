/-
  DERIVED. GIVEN WITH THE SEED: THE CARDS: each row of YtkddfgjefdlaeaaDoorRows.lean that lists a variable, with what it lists TIED to the program's text (the seventh form; the later family's looks); each row that meets fmt, with fmt's text TOLD by the authors' own Lean function (tested against real Go, not proved from fmt's source: count such statements apart). THE CARD IS WHAT COUNTS. Prove the row's statement (the work); the ties are given (YtkddfgjefdlaeaaDoorTie.lean); close each card by the builder's one call (the guide's Derived/Test/ToyasCard.lean, 'card_holds'). Laid BY PROGRAM, IN A SANDBOX (cutbox-door.mjs). By AI agents, Wed Nov 11 2026. No macro, syntax, notation, axiom, sorry.
-/
import Derived.Test.YtkddfgjefdlaeaaDoorRows
import GoSem.ClaimSeven
namespace Go.Proofs.YtkddfgjefdlaeaaDoor
namespace Rows

/-- THE TIED CARD OF 'ropewalklaw01.ValueDoes'. -/
def valueDoesCard : Claim7 := { stood := { row := valueDoesRow, standIns := [], harness := (true, "d2bad50c0c8b898b1feecddb406fcfce5b69e13a00be2c424d217b2023a3907d"), looks := false }, kinds := [], alts := [], laidByText := true, laidKinds := [.data, .data, .data, .data, .pinned], laidTests := true, laidLooks := .later }
def ValueDoesCardSaid : Prop := Claim7.holds Tryd.pinned (.plain (OpenSpec.ofChange valueDoesSpec)) valueDoesCard

/-- THE TIED CARD OF 'ropewalklaw01.ValueNumbers'. -/
def valueNumbersCard : Claim7 := { stood := { row := valueNumbersRow, standIns := [], harness := (true, "d2bad50c0c8b898b1feecddb406fcfce5b69e13a00be2c424d217b2023a3907d"), looks := false }, kinds := [], alts := [], laidByText := true, laidKinds := [.data, .data, .data, .data, .pinned], laidTests := true, laidLooks := .later }
def ValueNumbersCardSaid : Prop := Claim7.holds Tryd.pinned (.plain (OpenSpec.ofChange valueNumbersSpec)) valueNumbersCard

/-- THE TIED CARD OF 'ropewalklaw01.ValueLaws'. -/
def valueLawsCard : Claim7 := { stood := { row := valueLawsRow, standIns := [], harness := (true, "d2bad50c0c8b898b1feecddb406fcfce5b69e13a00be2c424d217b2023a3907d"), looks := false }, kinds := [], alts := [], laidByText := true, laidKinds := [.data, .data, .data, .data, .pinned], laidTests := true, laidLooks := .later }
def ValueLawsCardSaid : Prop := Claim7.holds Tryd.pinned (.plain (OpenSpec.ofChange valueLawsSpec)) valueLawsCard

/-- THE TIED CARD OF 'ropewalklaw01.ValueTells'. -/
def valueTellsCard : Claim7 := { stood := { row := valueTellsRow, standIns := [], harness := (true, "d2bad50c0c8b898b1feecddb406fcfce5b69e13a00be2c424d217b2023a3907d"), looks := false }, kinds := [], alts := [], laidByText := true, laidKinds := [.data, .data, .data, .data, .pinned], laidTests := true, laidLooks := .later }
def ValueTellsCardSaid : Prop := Claim7.holds Tryd.pinned (.plain (OpenSpec.ofChange valueTellsSpec)) valueTellsCard

/-- THE TIED CARD OF 'ropewalklaw01.ValueTexts'. -/
def valueTextsCard : Claim7 := { stood := { row := valueTextsRow, standIns := [], harness := (true, "d2bad50c0c8b898b1feecddb406fcfce5b69e13a00be2c424d217b2023a3907d"), looks := false }, kinds := [], alts := [], laidByText := true, laidKinds := [.data, .data, .data, .data, .pinned], laidTests := true, laidLooks := .later }
def ValueTextsCardSaid : Prop := Claim7.holds Tryd.pinned (.plain (OpenSpec.ofChange valueTextsSpec)) valueTextsCard

/-- THE SECOND FORM's CARD OF 'ropewalklaw01.ValueDoes'. -/
def valueDoesUptoCard : Claim7 := { stood := { row := valueDoesUptoRow, standIns := [], harness := (true, "d2bad50c0c8b898b1feecddb406fcfce5b69e13a00be2c424d217b2023a3907d"), looks := false }, kinds := [], alts := [], laidByText := true, laidKinds := [.data, .data, .data, .data, .pinned], laidTests := true, laidLooks := .later }
def ValueDoesUptoCardSaid : Prop := Claim7.holds Tryd.pinned (.plain (OpenSpec.upto valueDoesSpec)) valueDoesUptoCard

/-- THE SECOND FORM's CARD OF 'ropewalklaw01.ValueNumbers'. -/
def valueNumbersUptoCard : Claim7 := { stood := { row := valueNumbersUptoRow, standIns := [], harness := (true, "d2bad50c0c8b898b1feecddb406fcfce5b69e13a00be2c424d217b2023a3907d"), looks := false }, kinds := [], alts := [], laidByText := true, laidKinds := [.data, .data, .data, .data, .pinned], laidTests := true, laidLooks := .later }
def ValueNumbersUptoCardSaid : Prop := Claim7.holds Tryd.pinned (.plain (OpenSpec.upto valueNumbersSpec)) valueNumbersUptoCard

/-- THE SECOND FORM's CARD OF 'ropewalklaw01.ValueLaws'. -/
def valueLawsUptoCard : Claim7 := { stood := { row := valueLawsUptoRow, standIns := [], harness := (true, "d2bad50c0c8b898b1feecddb406fcfce5b69e13a00be2c424d217b2023a3907d"), looks := false }, kinds := [], alts := [], laidByText := true, laidKinds := [.data, .data, .data, .data, .pinned], laidTests := true, laidLooks := .later }
def ValueLawsUptoCardSaid : Prop := Claim7.holds Tryd.pinned (.plain (OpenSpec.upto valueLawsSpec)) valueLawsUptoCard

/-- THE SECOND FORM's CARD OF 'ropewalklaw01.ValueTells'. -/
def valueTellsUptoCard : Claim7 := { stood := { row := valueTellsUptoRow, standIns := [], harness := (true, "d2bad50c0c8b898b1feecddb406fcfce5b69e13a00be2c424d217b2023a3907d"), looks := false }, kinds := [], alts := [], laidByText := true, laidKinds := [.data, .data, .data, .data, .pinned], laidTests := true, laidLooks := .later }
def ValueTellsUptoCardSaid : Prop := Claim7.holds Tryd.pinned (.plain (OpenSpec.upto valueTellsSpec)) valueTellsUptoCard

/-- THE SECOND FORM's CARD OF 'ropewalklaw01.ValueTexts'. -/
def valueTextsUptoCard : Claim7 := { stood := { row := valueTextsUptoRow, standIns := [], harness := (true, "d2bad50c0c8b898b1feecddb406fcfce5b69e13a00be2c424d217b2023a3907d"), looks := false }, kinds := [], alts := [], laidByText := true, laidKinds := [.data, .data, .data, .data, .pinned], laidTests := true, laidLooks := .later }
def ValueTextsUptoCardSaid : Prop := Claim7.holds Tryd.pinned (.plain (OpenSpec.upto valueTextsSpec)) valueTextsUptoCard
end Rows
end Go.Proofs.YtkddfgjefdlaeaaDoor
