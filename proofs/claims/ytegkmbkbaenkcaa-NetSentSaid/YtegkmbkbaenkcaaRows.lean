/-
  No cell of these rows narrows 'for every input' (looked for: loops, veiled, ifaces, maps, wideKeys, modest, calm, conditions, laid).
  DERIVED. THE GIVEN ROWS OF THIS SEAT. 3 by the template 'for every input the law returns true; each argument reads behind the call as it read before'; 0 by the template 'total and deterministic' (their statements: YtegkmbkbaenkcaaTotals.lean).
  GIVEN WITH THE SEED: the statements are not yours to turn. If you find one false, say at which input.
  Laid BY PROGRAM, IN A SANDBOX (cutbox-rows.mjs): the forced cells as the released guide's own fill.sh prints them over the translation 245109a18d97f2c1… (all of the seat's roots in one cut). By AI agents, Wed Nov 11 2026. No macro, syntax, notation, axiom, sorry.
-/
import Derived.Test.YtegkmbkbaenkcaaChecked
import GoSem.Claim
import GoSem.ClaimJoined
import GoSem.ClaimMapViews
import Derived.JoinedTies
import Derived.KernelRfl
namespace Go.Proofs.Ytegkmbkbaenkcaa
/- THE CELL 'sum', in the pinned program and in every row, IS THE sha256 OF THE DUMP (.gsa) THAT YtegkmbkbaenkcaaProg.lean LOADS. Nothing in Lean hashes anything: it is a label: what it is worth is what the hold of that sum in a sandbox is worth. -/
noncomputable def Try.pinned : Pinned := { name := "ytegkmbkbaenkcaa", sum := "245109a18d97f2c1eacd5e5fb612c92265cf815ddd24be04ddcab5ef4b441f7e", checked := Try.checked }
namespace Rows
def none {H : Type} : Left H := { results := [], args := [] }

/-- 'ropewalklaw20.NetSent': WHATEVER THE INPUT: true; the input reads as it did. -/
def netSentSpec : ChangeSpec := { name := "netSent", fn := fun _ => fun
  | [d] => { results := [.lit (.bool true)], args := [d] }
  | _ => none }
def netSentRow : OpenClaim := { program := "ytegkmbkbaenkcaa", sum := "245109a18d97f2c1eacd5e5fb612c92265cf815ddd24be04ddcab5ef4b441f7e", func := "ropewalk/ropewalklaw20.NetSent", spec := "netSent", unfollowed := true, recurses := true, plainKeys := false, apart := false }
def NetSentSaid : Prop := netSentRow.holds Try.pinned (OpenSpec.ofChange netSentSpec)

/-- ITS FALSE NEIGHBOUR: 'it returns false'. Refute it at one input. -/
def netSentWrong : ChangeSpec := { name := "netSent", fn := fun _ => fun
  | [d] => { results := [.lit (.bool false)], args := [d] }
  | _ => none }
def NetSentWrongFalsely : Prop := netSentRow.holds Try.pinned (OpenSpec.ofChange netSentWrong)

/-- 'ropewalklaw20.NetLives': WHATEVER THE INPUT: true; the input reads as it did. -/
def netLivesSpec : ChangeSpec := { name := "netLives", fn := fun _ => fun
  | [d] => { results := [.lit (.bool true)], args := [d] }
  | _ => none }
def netLivesRow : OpenClaim := { program := "ytegkmbkbaenkcaa", sum := "245109a18d97f2c1eacd5e5fb612c92265cf815ddd24be04ddcab5ef4b441f7e", func := "ropewalk/ropewalklaw20.NetLives", spec := "netLives", unfollowed := true, recurses := true, plainKeys := false, apart := false }
def NetLivesSaid : Prop := netLivesRow.holds Try.pinned (OpenSpec.ofChange netLivesSpec)

/-- ITS FALSE NEIGHBOUR: 'it returns false'. Refute it at one input. -/
def netLivesWrong : ChangeSpec := { name := "netLives", fn := fun _ => fun
  | [d] => { results := [.lit (.bool false)], args := [d] }
  | _ => none }
def NetLivesWrongFalsely : Prop := netLivesRow.holds Try.pinned (OpenSpec.ofChange netLivesWrong)

/-- 'ropewalklaw20.NetNumbers': WHATEVER THE INPUT: true; the input reads as it did. -/
def netNumbersSpec : ChangeSpec := { name := "netNumbers", fn := fun _ => fun
  | [] => { results := [.lit (.bool true)], args := [] }
  | _ => none }
def netNumbersRow : OpenClaim := { program := "ytegkmbkbaenkcaa", sum := "245109a18d97f2c1eacd5e5fb612c92265cf815ddd24be04ddcab5ef4b441f7e", func := "ropewalk/ropewalklaw20.NetNumbers", spec := "netNumbers", unfollowed := true, recurses := true, plainKeys := false, apart := false }
def NetNumbersSaid : Prop := netNumbersRow.holds Try.pinned (OpenSpec.ofChange netNumbersSpec)

/-- ITS FALSE NEIGHBOUR: 'it returns false'. Refute it at one input. -/
def netNumbersWrong : ChangeSpec := { name := "netNumbers", fn := fun _ => fun
  | [] => { results := [.lit (.bool false)], args := [] }
  | _ => none }
def NetNumbersWrongFalsely : Prop := netNumbersRow.holds Try.pinned (OpenSpec.ofChange netNumbersWrong)

/- THE SECOND FORM. 'bulk': how many values and letters a reading holds, each counted each time it is reached (what is shared counts as often as it is met; a slice's spare places count too). A statement '..UptoSaid' is the law's where the arguments, and the package variables that the reading takes, are together of bulk at most 1048576: NARROWER than '..Said'. Prove '..Said' where nothing that the law and all that it calls make is longer than what came in: it says more and counts as full. Else prove '..UptoSaid'. A law counts once. -/
mutual
def uptoBulk {H : Type} : DataW H → Nat
  | .lit (.string bytes) => bytes.length + 1
  | .lit _ => 1
  | .nil => 1
  | .ptr d => uptoBulk d + 1
  | .slice elems spare => uptoBulkAll elems + uptoBulkAll spare + 1
  | .agg parts => uptoBulkAll parts + 1
  | .iface _ d => uptoBulk d + 1
  | .map entries => uptoBulkEntries entries + 1
  | .held _ => 1
def uptoBulkAll {H : Type} : List (DataW H) → Nat
  | [] => 0
  | d :: r => uptoBulk d + uptoBulkAll r
def uptoBulkEntries {H : Type} : List (Lit × DataW H) → Nat
  | [] => 0
  | x :: r => uptoBulkEntry x + uptoBulkEntries r
def uptoBulkEntry {H : Type} : Lit × DataW H → Nat
  | (.string bytes, d) => bytes.length + uptoBulk d + 1
  | (_, d) => uptoBulk d + 1
 end
def uptoSmall : (H : Type) → List (DataW H) → Bool := fun _ ds => decide (uptoBulkAll ds ≤ 1048576)
def OpenSpec.upto (s : _root_.Go.ChangeSpec) : _root_.Go.OpenSpec := { _root_.Go.OpenSpec.ofChange s with cond := some uptoSmall }

/-- 'ropewalklaw20.NetSent', WHERE WHAT IT READS IS OF BULK AT MOST 1048576: true; the input reads as it did. -/
def netSentUptoRow : OpenClaim := { program := "ytegkmbkbaenkcaa", sum := "245109a18d97f2c1eacd5e5fb612c92265cf815ddd24be04ddcab5ef4b441f7e", func := "ropewalk/ropewalklaw20.NetSent", spec := "netSent", unfollowed := true, recurses := true, plainKeys := false, apart := false, narrowed := true }
def NetSentUptoSaid : Prop := netSentUptoRow.holds Try.pinned (OpenSpec.upto netSentSpec)

/-- 'ropewalklaw20.NetLives', WHERE WHAT IT READS IS OF BULK AT MOST 1048576: true; the input reads as it did. -/
def netLivesUptoRow : OpenClaim := { program := "ytegkmbkbaenkcaa", sum := "245109a18d97f2c1eacd5e5fb612c92265cf815ddd24be04ddcab5ef4b441f7e", func := "ropewalk/ropewalklaw20.NetLives", spec := "netLives", unfollowed := true, recurses := true, plainKeys := false, apart := false, narrowed := true }
def NetLivesUptoSaid : Prop := netLivesUptoRow.holds Try.pinned (OpenSpec.upto netLivesSpec)

/-- 'ropewalklaw20.NetNumbers', WHERE WHAT IT READS IS OF BULK AT MOST 1048576: true; the input reads as it did. -/
def netNumbersUptoRow : OpenClaim := { program := "ytegkmbkbaenkcaa", sum := "245109a18d97f2c1eacd5e5fb612c92265cf815ddd24be04ddcab5ef4b441f7e", func := "ropewalk/ropewalklaw20.NetNumbers", spec := "netNumbers", unfollowed := true, recurses := true, plainKeys := false, apart := false, narrowed := true }
def NetNumbersUptoSaid : Prop := netNumbersUptoRow.holds Try.pinned (OpenSpec.upto netNumbersSpec)

end Rows
end Go.Proofs.Ytegkmbkbaenkcaa
