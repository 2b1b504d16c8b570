/-
  DERIVED. GIVEN WITH THE SEED: THE CARDS: each row of YtbgodclhmgmcgaaGreatDoorRows.lean that lists a variable, with what it lists TIED to the program's text (the seventh form; the later family's looks); each row that meets fmt, with fmt's text TOLD by the authors' own Lean function (tested against real Go, not proved from fmt's source: count such statements apart). THE CARD IS WHAT COUNTS. Prove the row's statement (the work); the ties are given (YtbgodclhmgmcgaaGreatDoorTie.lean); close each card by the builder's one call (the guide's Derived/Test/ToyasCard.lean, 'card_holds'). Laid BY PROGRAM, IN A SANDBOX (cutbox-door.mjs). By AI agents, Wed Nov 11 2026. No macro, syntax, notation, axiom, sorry.
-/
import Derived.Test.YtbgodclhmgmcgaaGreatDoorRows
import GoSem.ClaimSeven
namespace Go.Proofs.YtbgodclhmgmcgaaGreatDoor
namespace Rows

/-- THE TIED CARD OF 'ropewalklaw12.NaiveTokens'. -/
def naiveTokensCard : Claim7 := { stood := { row := naiveTokensRow, standIns := [], harness := (true, "33eaeb7a1da3363ff42a25bc84914ba91457d6427959cb463ee6324a42d66590"), looks := true }, kinds := [], alts := [], laidByText := true, laidKinds := [.data, .pinned], laidTests := true, laidLooks := .later }
def NaiveTokensCardSaid : Prop := Claim7.holds Tryz.pinned (.plain (OpenSpec.ofChange naiveTokensSpec)) naiveTokensCard

/-- THE TIED CARD OF 'ropewalklaw12.NaiveVars'. -/
def naiveVarsCard : Claim7 := { stood := { row := naiveVarsRow, standIns := [], harness := (true, "33eaeb7a1da3363ff42a25bc84914ba91457d6427959cb463ee6324a42d66590"), looks := true }, kinds := [], alts := [], laidByText := true, laidKinds := [.data, .pinned], laidTests := true, laidLooks := .later }
def NaiveVarsCardSaid : Prop := Claim7.holds Tryz.pinned (.plain (OpenSpec.ofChange naiveVarsSpec)) naiveVarsCard

/-- THE TIED CARD OF 'ropewalklaw12.NaiveMany'. -/
def naiveManyCard : Claim7 := { stood := { row := naiveManyRow, standIns := [], harness := (true, "33eaeb7a1da3363ff42a25bc84914ba91457d6427959cb463ee6324a42d66590"), looks := true }, kinds := [], alts := [], laidByText := true, laidKinds := [.data, .pinned], laidTests := true, laidLooks := .later }
def NaiveManyCardSaid : Prop := Claim7.holds Tryz.pinned (.plain (OpenSpec.ofChange naiveManySpec)) naiveManyCard

/-- THE TIED CARD OF 'ropewalklaw12.NaiveLess'. -/
def naiveLessCard : Claim7 := { stood := { row := naiveLessRow, standIns := [], harness := (true, "33eaeb7a1da3363ff42a25bc84914ba91457d6427959cb463ee6324a42d66590"), looks := true }, kinds := [], alts := [], laidByText := true, laidKinds := [.data, .pinned], laidTests := true, laidLooks := .later }
def NaiveLessCardSaid : Prop := Claim7.holds Tryz.pinned (.plain (OpenSpec.ofChange naiveLessSpec)) naiveLessCard

/-- THE TIED CARD OF 'ropewalklaw12.NaiveRules'. -/
def naiveRulesCard : Claim7 := { stood := { row := naiveRulesRow, standIns := [], harness := (true, "33eaeb7a1da3363ff42a25bc84914ba91457d6427959cb463ee6324a42d66590"), looks := true }, kinds := [], alts := [], laidByText := true, laidKinds := [.data, .pinned], laidTests := true, laidLooks := .later }
def NaiveRulesCardSaid : Prop := Claim7.holds Tryz.pinned (.plain (OpenSpec.ofChange naiveRulesSpec)) naiveRulesCard

/-- THE SECOND FORM's CARD OF 'ropewalklaw12.NaiveTokens'. -/
def naiveTokensUptoCard : Claim7 := { stood := { row := naiveTokensUptoRow, standIns := [], harness := (true, "33eaeb7a1da3363ff42a25bc84914ba91457d6427959cb463ee6324a42d66590"), looks := true }, kinds := [], alts := [], laidByText := true, laidKinds := [.data, .pinned], laidTests := true, laidLooks := .later }
def NaiveTokensUptoCardSaid : Prop := Claim7.holds Tryz.pinned (.plain (OpenSpec.upto naiveTokensSpec)) naiveTokensUptoCard

/-- THE SECOND FORM's CARD OF 'ropewalklaw12.NaiveVars'. -/
def naiveVarsUptoCard : Claim7 := { stood := { row := naiveVarsUptoRow, standIns := [], harness := (true, "33eaeb7a1da3363ff42a25bc84914ba91457d6427959cb463ee6324a42d66590"), looks := true }, kinds := [], alts := [], laidByText := true, laidKinds := [.data, .pinned], laidTests := true, laidLooks := .later }
def NaiveVarsUptoCardSaid : Prop := Claim7.holds Tryz.pinned (.plain (OpenSpec.upto naiveVarsSpec)) naiveVarsUptoCard

/-- THE SECOND FORM's CARD OF 'ropewalklaw12.NaiveMany'. -/
def naiveManyUptoCard : Claim7 := { stood := { row := naiveManyUptoRow, standIns := [], harness := (true, "33eaeb7a1da3363ff42a25bc84914ba91457d6427959cb463ee6324a42d66590"), looks := true }, kinds := [], alts := [], laidByText := true, laidKinds := [.data, .pinned], laidTests := true, laidLooks := .later }
def NaiveManyUptoCardSaid : Prop := Claim7.holds Tryz.pinned (.plain (OpenSpec.upto naiveManySpec)) naiveManyUptoCard

/-- THE SECOND FORM's CARD OF 'ropewalklaw12.NaiveLess'. -/
def naiveLessUptoCard : Claim7 := { stood := { row := naiveLessUptoRow, standIns := [], harness := (true, "33eaeb7a1da3363ff42a25bc84914ba91457d6427959cb463ee6324a42d66590"), looks := true }, kinds := [], alts := [], laidByText := true, laidKinds := [.data, .pinned], laidTests := true, laidLooks := .later }
def NaiveLessUptoCardSaid : Prop := Claim7.holds Tryz.pinned (.plain (OpenSpec.upto naiveLessSpec)) naiveLessUptoCard

/-- THE SECOND FORM's CARD OF 'ropewalklaw12.NaiveRules'. -/
def naiveRulesUptoCard : Claim7 := { stood := { row := naiveRulesUptoRow, standIns := [], harness := (true, "33eaeb7a1da3363ff42a25bc84914ba91457d6427959cb463ee6324a42d66590"), looks := true }, kinds := [], alts := [], laidByText := true, laidKinds := [.data, .pinned], laidTests := true, laidLooks := .later }
def NaiveRulesUptoCardSaid : Prop := Claim7.holds Tryz.pinned (.plain (OpenSpec.upto naiveRulesSpec)) naiveRulesUptoCard
end Rows
end Go.Proofs.YtbgodclhmgmcgaaGreatDoor
