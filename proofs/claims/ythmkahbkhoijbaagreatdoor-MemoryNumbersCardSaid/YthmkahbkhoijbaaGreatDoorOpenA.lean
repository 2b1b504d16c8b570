import Derived.Test.YthmkahbkhoijbaaGreatDoorOpen
import Derived.Test.YthmkahbkhoijbaaGreatDoorLight
import Derived.Deep.Strs
import Derived.Lib.SmallJoins
import Derived.Test.YthmkahbkhoijbaaGreatDoorAuto
import Derived.SizedLaws
namespace Go.Proofs.YthmkahbkhoijbaaGreatDoor
open Go.RowKit Go.Deep
theorem spec_calls {P : Program} {f : FuncId} {args : List Value} {Φ : List Fact} {v : Value} {w : World} (h : Spec P f args Φ [] (fun u Φr Hr => u = v ∧ Φr = [] ∧ Hr = [])) (hΦ : ∀ φ ∈ Φ, φ.p (fun k => k < w.heap.size) w) :
    Calls P f args.toArray w fun e w' => e = .returned v ∧ Mod (fun _ => False) w w' := by
  refine Calls.mono (h (fun k => k < w.heap.size) (fun _ _ => False) w (fun _ h => h) hΦ (fun i x hx => by simp at hx) (fun i k hi => by simp at hi) (fun i j k hi => by simp at hi)) fun e w' he => ?_
  obtain ⟨u, Φr, Hr, rfl, ⟨rfl, _⟩, F, N, hm⟩ := he
  exact ⟨rfl, hm.mod.mono fun k _ hk => by obtain ⟨i, hi, _⟩ := hk; simp at hi⟩
end Go.Proofs.YthmkahbkhoijbaaGreatDoor
namespace Go.Proofs.YthmkahbkhoijbaaGreatDoor
open Go Go.RowKit Go.Deep
section
variable {H : Type} {enc : TypeId × Value → H} {P : Program} {w : World} {base : Nat} {spare : Nat → Bool} {held : Bool} {fuel : Nat} {cs : List Value} {y : DataW H × List MemPlace}
theorem Chunks.pure {α : Type} {sz : Nat} {R : List Value → α → Prop} {q : α → Prop} : ∀ {l : List α} {xs : List Value}, Chunks sz (fun cs x => R cs x ∧ q x) xs l → Chunks sz R xs l ∧ ∀ x ∈ l, q x
  | [], xs, h => ⟨h, by simp⟩
  | x :: l, xs, ⟨cs, rest, h1, h2, h3, h4⟩ => by
    obtain ⟨h5, h6⟩ := Chunks.pure h4
    refine ⟨⟨cs, rest, h1, h2, h3.1, h5⟩, fun z hz => ?_⟩
    rcases List.mem_cons.1 hz with rfl | hz
    · exact h3.2
    · exact h6 z hz
end
end Go.Proofs.YthmkahbkhoijbaaGreatDoor
