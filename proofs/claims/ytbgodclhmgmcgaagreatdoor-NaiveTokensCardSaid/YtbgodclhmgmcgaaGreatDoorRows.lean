/-
  NARROWER THAN 'FOR EVERY INPUT', by the rows' own cells (each row's printed sentence says how): NaiveTokens: loops, laid · NaiveVars: loops, laid · NaiveMany: laid · NaiveLess: loops, laid · NaiveRules: loops, laid.
  DERIVED. THE GIVEN ROWS OF THIS SEAT. 5 by the template 'for every input the law returns true; each argument reads behind the call as it read before'; 0 by the template 'total and deterministic' (their statements: YtbgodclhmgmcgaaGreatDoorTotals.lean).
  GIVEN WITH THE SEED: the statements are not yours to turn. If you find one false, say at which input.
  Laid BY PROGRAM, IN A SANDBOX (cutbox-rows.mjs): the forced cells as the released guide's own fill.sh prints them over the translation 744c92a25e0eb40a… (all of the seat's roots in one cut). By AI agents, Wed Nov 11 2026. No macro, syntax, notation, axiom, sorry.
-/
import Derived.Test.YtbgodclhmgmcgaaGreatDoorChecked
import GoSem.PinnedTables
import GoSem.Claim
import GoSem.ClaimJoined
import GoSem.ClaimMapViews
import Derived.JoinedTies
import Derived.KernelRfl
namespace Go.Proofs.YtbgodclhmgmcgaaGreatDoor
/- THE CELL 'sum', in the pinned program and in every row, IS THE sha256 OF THE DUMP (.gsa) THAT YtbgodclhmgmcgaaGreatDoorProg.lean LOADS. Nothing in Lean hashes anything: it is a label: what it is worth is what the hold of that sum in a sandbox is worth. -/
noncomputable def Tryz.pinned : Pinned := { name := "ytbgodclhmgmcgaagreatdoor", sum := "744c92a25e0eb40a3a79210de98e9143f27c4e07612474a6fa51949765e0ea40", checked := Tryz.checked }
namespace Rows
def none {H : Type} : Left H := { results := [], args := [] }

/- WHAT THE LISTED PACKAGE-LEVEL VARIABLES READ AS WHEN THE CALL BEGINS. Each datum BY PROGRAM (the guide's laid-datum.mjs) off the statement by which the dump's own 'gosem.cut.vars' lays the variable. In a bare row this is a premise. The card (YtbgodclhmgmcgaaGreatDoorCards.lean) ties it to the program's text. -/
def laid_unicode_utf8_acceptRanges {H : Type} : DataW H := .agg [.agg [.lit (.int .u8 128), .lit (.int .u8 191)], .agg [.lit (.int .u8 160), .lit (.int .u8 191)], .agg [.lit (.int .u8 128), .lit (.int .u8 159)], .agg [.lit (.int .u8 144), .lit (.int .u8 191)], .agg [.lit (.int .u8 128), .lit (.int .u8 143)], .agg [.lit (.int .u8 0), .lit (.int .u8 0)], .agg [.lit (.int .u8 0), .lit (.int .u8 0)], .agg [.lit (.int .u8 0), .lit (.int .u8 0)], .agg [.lit (.int .u8 0), .lit (.int .u8 0)], .agg [.lit (.int .u8 0), .lit (.int .u8 0)], .agg [.lit (.int .u8 0), .lit (.int .u8 0)], .agg [.lit (.int .u8 0), .lit (.int .u8 0)], .agg [.lit (.int .u8 0), .lit (.int .u8 0)], .agg [.lit (.int .u8 0), .lit (.int .u8 0)], .agg [.lit (.int .u8 0), .lit (.int .u8 0)], .agg [.lit (.int .u8 0), .lit (.int .u8 0)]]
/-- One of Go's own tables, pinned by name: the form's constant. -/
def laid_unicode_utf8_first : DataW Unit := Go.Pinned.utf8First

/-- 'ropewalklaw12.NaiveTokens': WHATEVER THE INPUT: true; the input reads as it did. -/
def naiveTokensSpec : ChangeSpec := { name := "naiveTokens", fn := fun _ => fun
  | [d1, d2] => { results := [.lit (.bool true)], args := [d1, d2] }
  | _ => none }
def naiveTokensRow : OpenClaim := { program := "ytbgodclhmgmcgaagreatdoor", sum := "744c92a25e0eb40a3a79210de98e9143f27c4e07612474a6fa51949765e0ea40", func := "ropewalk/ropewalklaw12.NaiveTokens", spec := "naiveTokens", inPlace := ["internal/bytealg.IndexByteString", "internal/bytealg.IndexString"], unfollowed := true, recurses := true, named := ["unicode/utf8.first", "unicode/utf8.acceptRanges", "internal/bytealg.MaxLen"], loops := true, apart := false, laid := [("unicode/utf8.acceptRanges", laid_unicode_utf8_acceptRanges), ("unicode/utf8.first", laid_unicode_utf8_first)] }
def NaiveTokensSaid : Prop := naiveTokensRow.holds Tryz.pinned (OpenSpec.ofChange naiveTokensSpec)

/-- ITS FALSE NEIGHBOUR: 'it returns false'. Refute it at one input. -/
def naiveTokensWrong : ChangeSpec := { name := "naiveTokens", fn := fun _ => fun
  | [d1, d2] => { results := [.lit (.bool false)], args := [d1, d2] }
  | _ => none }
def NaiveTokensWrongFalsely : Prop := naiveTokensRow.holds Tryz.pinned (OpenSpec.ofChange naiveTokensWrong)

/-- 'ropewalklaw12.NaiveVars': WHATEVER THE INPUT: true; the input reads as it did. -/
def naiveVarsSpec : ChangeSpec := { name := "naiveVars", fn := fun _ => fun
  | [d1, d2, d3, d4] => { results := [.lit (.bool true)], args := [d1, d2, d3, d4] }
  | _ => none }
def naiveVarsRow : OpenClaim := { program := "ytbgodclhmgmcgaagreatdoor", sum := "744c92a25e0eb40a3a79210de98e9143f27c4e07612474a6fa51949765e0ea40", func := "ropewalk/ropewalklaw12.NaiveVars", spec := "naiveVars", inPlace := ["internal/bytealg.IndexByteString", "internal/bytealg.IndexString"], unfollowed := true, recurses := true, named := ["unicode/utf8.first", "unicode/utf8.acceptRanges", "internal/bytealg.MaxLen"], loops := true, apart := false, laid := [("unicode/utf8.acceptRanges", laid_unicode_utf8_acceptRanges), ("unicode/utf8.first", laid_unicode_utf8_first)] }
def NaiveVarsSaid : Prop := naiveVarsRow.holds Tryz.pinned (OpenSpec.ofChange naiveVarsSpec)

/-- ITS FALSE NEIGHBOUR: 'it returns false'. Refute it at one input. -/
def naiveVarsWrong : ChangeSpec := { name := "naiveVars", fn := fun _ => fun
  | [d1, d2, d3, d4] => { results := [.lit (.bool false)], args := [d1, d2, d3, d4] }
  | _ => none }
def NaiveVarsWrongFalsely : Prop := naiveVarsRow.holds Tryz.pinned (OpenSpec.ofChange naiveVarsWrong)

/-- 'ropewalklaw12.NaiveMany': WHATEVER THE INPUT: true; the input reads as it did. -/
def naiveManySpec : ChangeSpec := { name := "naiveMany", fn := fun _ => fun
  | [d1, d2] => { results := [.lit (.bool true)], args := [d1, d2] }
  | _ => none }
def naiveManyRow : OpenClaim := { program := "ytbgodclhmgmcgaagreatdoor", sum := "744c92a25e0eb40a3a79210de98e9143f27c4e07612474a6fa51949765e0ea40", func := "ropewalk/ropewalklaw12.NaiveMany", spec := "naiveMany", inPlace := ["internal/bytealg.IndexByteString", "internal/bytealg.IndexString"], unfollowed := true, recurses := true, named := ["unicode/utf8.first", "unicode/utf8.acceptRanges", "internal/bytealg.MaxLen"], apart := false, laid := [("unicode/utf8.acceptRanges", laid_unicode_utf8_acceptRanges), ("unicode/utf8.first", laid_unicode_utf8_first)] }
def NaiveManySaid : Prop := naiveManyRow.holds Tryz.pinned (OpenSpec.ofChange naiveManySpec)

/-- ITS FALSE NEIGHBOUR: 'it returns false'. Refute it at one input. -/
def naiveManyWrong : ChangeSpec := { name := "naiveMany", fn := fun _ => fun
  | [d1, d2] => { results := [.lit (.bool false)], args := [d1, d2] }
  | _ => none }
def NaiveManyWrongFalsely : Prop := naiveManyRow.holds Tryz.pinned (OpenSpec.ofChange naiveManyWrong)

/-- 'ropewalklaw12.NaiveLess': WHATEVER THE INPUT: true; the input reads as it did. -/
def naiveLessSpec : ChangeSpec := { name := "naiveLess", fn := fun _ => fun
  | [d1, d2, d3] => { results := [.lit (.bool true)], args := [d1, d2, d3] }
  | _ => none }
def naiveLessRow : OpenClaim := { program := "ytbgodclhmgmcgaagreatdoor", sum := "744c92a25e0eb40a3a79210de98e9143f27c4e07612474a6fa51949765e0ea40", func := "ropewalk/ropewalklaw12.NaiveLess", spec := "naiveLess", inPlace := ["internal/bytealg.IndexByteString", "internal/bytealg.IndexString"], unfollowed := true, recurses := true, named := ["unicode/utf8.first", "unicode/utf8.acceptRanges", "internal/bytealg.MaxLen"], loops := true, apart := false, laid := [("unicode/utf8.acceptRanges", laid_unicode_utf8_acceptRanges), ("unicode/utf8.first", laid_unicode_utf8_first)] }
def NaiveLessSaid : Prop := naiveLessRow.holds Tryz.pinned (OpenSpec.ofChange naiveLessSpec)

/-- ITS FALSE NEIGHBOUR: 'it returns false'. Refute it at one input. -/
def naiveLessWrong : ChangeSpec := { name := "naiveLess", fn := fun _ => fun
  | [d1, d2, d3] => { results := [.lit (.bool false)], args := [d1, d2, d3] }
  | _ => none }
def NaiveLessWrongFalsely : Prop := naiveLessRow.holds Tryz.pinned (OpenSpec.ofChange naiveLessWrong)

/-- 'ropewalklaw12.NaiveRules': WHATEVER THE INPUT: true; the input reads as it did. -/
def naiveRulesSpec : ChangeSpec := { name := "naiveRules", fn := fun _ => fun
  | [d1, d2, d3] => { results := [.lit (.bool true)], args := [d1, d2, d3] }
  | _ => none }
def naiveRulesRow : OpenClaim := { program := "ytbgodclhmgmcgaagreatdoor", sum := "744c92a25e0eb40a3a79210de98e9143f27c4e07612474a6fa51949765e0ea40", func := "ropewalk/ropewalklaw12.NaiveRules", spec := "naiveRules", inPlace := ["internal/bytealg.IndexByteString", "internal/bytealg.IndexString"], unfollowed := true, recurses := true, named := ["unicode/utf8.first", "unicode/utf8.acceptRanges", "internal/bytealg.MaxLen"], loops := true, apart := false, laid := [("unicode/utf8.acceptRanges", laid_unicode_utf8_acceptRanges), ("unicode/utf8.first", laid_unicode_utf8_first)] }
def NaiveRulesSaid : Prop := naiveRulesRow.holds Tryz.pinned (OpenSpec.ofChange naiveRulesSpec)

/-- ITS FALSE NEIGHBOUR: 'it returns false'. Refute it at one input. -/
def naiveRulesWrong : ChangeSpec := { name := "naiveRules", fn := fun _ => fun
  | [d1, d2, d3] => { results := [.lit (.bool false)], args := [d1, d2, d3] }
  | _ => none }
def NaiveRulesWrongFalsely : Prop := naiveRulesRow.holds Tryz.pinned (OpenSpec.ofChange naiveRulesWrong)

/- THE SECOND FORM. 'bulk': how many values and letters a reading holds, each counted each time it is reached (what is shared counts as often as it is met; a slice's spare places count too). A statement '..UptoSaid' is the law's where the arguments, and the package variables that the reading takes, are together of bulk at most 1048576: NARROWER than '..Said'. Prove '..Said' where nothing that the law and all that it calls make is longer than what came in: it says more and counts as full. Else prove '..UptoSaid'. A law counts once. -/
mutual
def uptoBulk {H : Type} : DataW H → Nat
  | .lit (.string bytes) => bytes.length + 1
  | .lit _ => 1
  | .nil => 1
  | .ptr d => uptoBulk d + 1
  | .slice elems spare => uptoBulkAll elems + uptoBulkAll spare + 1
  | .agg parts => uptoBulkAll parts + 1
  | .iface _ d => uptoBulk d + 1
  | .map entries => uptoBulkEntries entries + 1
  | .held _ => 1
def uptoBulkAll {H : Type} : List (DataW H) → Nat
  | [] => 0
  | d :: r => uptoBulk d + uptoBulkAll r
def uptoBulkEntries {H : Type} : List (Lit × DataW H) → Nat
  | [] => 0
  | x :: r => uptoBulkEntry x + uptoBulkEntries r
def uptoBulkEntry {H : Type} : Lit × DataW H → Nat
  | (.string bytes, d) => bytes.length + uptoBulk d + 1
  | (_, d) => uptoBulk d + 1
 end
def uptoSmall : (H : Type) → List (DataW H) → Bool := fun _ ds => decide (uptoBulkAll ds ≤ 1048576)
def OpenSpec.upto (s : _root_.Go.ChangeSpec) : _root_.Go.OpenSpec := { _root_.Go.OpenSpec.ofChange s with cond := some uptoSmall }

/-- 'ropewalklaw12.NaiveTokens', WHERE WHAT IT READS IS OF BULK AT MOST 1048576: true; the input reads as it did. -/
def naiveTokensUptoRow : OpenClaim := { program := "ytbgodclhmgmcgaagreatdoor", sum := "744c92a25e0eb40a3a79210de98e9143f27c4e07612474a6fa51949765e0ea40", func := "ropewalk/ropewalklaw12.NaiveTokens", spec := "naiveTokens", inPlace := ["internal/bytealg.IndexByteString", "internal/bytealg.IndexString"], unfollowed := true, recurses := true, named := ["unicode/utf8.first", "unicode/utf8.acceptRanges", "internal/bytealg.MaxLen"], loops := true, apart := false, laid := [("unicode/utf8.acceptRanges", laid_unicode_utf8_acceptRanges), ("unicode/utf8.first", laid_unicode_utf8_first)], narrowed := true }
def NaiveTokensUptoSaid : Prop := naiveTokensUptoRow.holds Tryz.pinned (OpenSpec.upto naiveTokensSpec)

/-- 'ropewalklaw12.NaiveVars', WHERE WHAT IT READS IS OF BULK AT MOST 1048576: true; the input reads as it did. -/
def naiveVarsUptoRow : OpenClaim := { program := "ytbgodclhmgmcgaagreatdoor", sum := "744c92a25e0eb40a3a79210de98e9143f27c4e07612474a6fa51949765e0ea40", func := "ropewalk/ropewalklaw12.NaiveVars", spec := "naiveVars", inPlace := ["internal/bytealg.IndexByteString", "internal/bytealg.IndexString"], unfollowed := true, recurses := true, named := ["unicode/utf8.first", "unicode/utf8.acceptRanges", "internal/bytealg.MaxLen"], loops := true, apart := false, laid := [("unicode/utf8.acceptRanges", laid_unicode_utf8_acceptRanges), ("unicode/utf8.first", laid_unicode_utf8_first)], narrowed := true }
def NaiveVarsUptoSaid : Prop := naiveVarsUptoRow.holds Tryz.pinned (OpenSpec.upto naiveVarsSpec)

/-- 'ropewalklaw12.NaiveMany', WHERE WHAT IT READS IS OF BULK AT MOST 1048576: true; the input reads as it did. -/
def naiveManyUptoRow : OpenClaim := { program := "ytbgodclhmgmcgaagreatdoor", sum := "744c92a25e0eb40a3a79210de98e9143f27c4e07612474a6fa51949765e0ea40", func := "ropewalk/ropewalklaw12.NaiveMany", spec := "naiveMany", inPlace := ["internal/bytealg.IndexByteString", "internal/bytealg.IndexString"], unfollowed := true, recurses := true, named := ["unicode/utf8.first", "unicode/utf8.acceptRanges", "internal/bytealg.MaxLen"], apart := false, laid := [("unicode/utf8.acceptRanges", laid_unicode_utf8_acceptRanges), ("unicode/utf8.first", laid_unicode_utf8_first)], narrowed := true }
def NaiveManyUptoSaid : Prop := naiveManyUptoRow.holds Tryz.pinned (OpenSpec.upto naiveManySpec)

/-- 'ropewalklaw12.NaiveLess', WHERE WHAT IT READS IS OF BULK AT MOST 1048576: true; the input reads as it did. -/
def naiveLessUptoRow : OpenClaim := { program := "ytbgodclhmgmcgaagreatdoor", sum := "744c92a25e0eb40a3a79210de98e9143f27c4e07612474a6fa51949765e0ea40", func := "ropewalk/ropewalklaw12.NaiveLess", spec := "naiveLess", inPlace := ["internal/bytealg.IndexByteString", "internal/bytealg.IndexString"], unfollowed := true, recurses := true, named := ["unicode/utf8.first", "unicode/utf8.acceptRanges", "internal/bytealg.MaxLen"], loops := true, apart := false, laid := [("unicode/utf8.acceptRanges", laid_unicode_utf8_acceptRanges), ("unicode/utf8.first", laid_unicode_utf8_first)], narrowed := true }
def NaiveLessUptoSaid : Prop := naiveLessUptoRow.holds Tryz.pinned (OpenSpec.upto naiveLessSpec)

/-- 'ropewalklaw12.NaiveRules', WHERE WHAT IT READS IS OF BULK AT MOST 1048576: true; the input reads as it did. -/
def naiveRulesUptoRow : OpenClaim := { program := "ytbgodclhmgmcgaagreatdoor", sum := "744c92a25e0eb40a3a79210de98e9143f27c4e07612474a6fa51949765e0ea40", func := "ropewalk/ropewalklaw12.NaiveRules", spec := "naiveRules", inPlace := ["internal/bytealg.IndexByteString", "internal/bytealg.IndexString"], unfollowed := true, recurses := true, named := ["unicode/utf8.first", "unicode/utf8.acceptRanges", "internal/bytealg.MaxLen"], loops := true, apart := false, laid := [("unicode/utf8.acceptRanges", laid_unicode_utf8_acceptRanges), ("unicode/utf8.first", laid_unicode_utf8_first)], narrowed := true }
def NaiveRulesUptoSaid : Prop := naiveRulesUptoRow.holds Tryz.pinned (OpenSpec.upto naiveRulesSpec)

end Rows
end Go.Proofs.YtbgodclhmgmcgaaGreatDoor
