import Derived.Test.YtegkmbkbaenkcaaLawG
import Derived.Test.YtegkmbkbaenkcaaAuto
import Derived.SizedLaws
namespace Go.Proofs.Ytegkmbkbaenkcaa
open Go Go.RowKit Go.Deep
section
variable {H : Type} {enc : TypeId × Value → H} {P : Program} {w : World} {base : Nat} {spare : Nat → Bool} {held : Bool} {fuel : Nat} {cs : List Value} {y : DataW H × List MemPlace}
theorem Chunks.pure {α : Type} {sz : Nat} {R : List Value → α → Prop} {q : α → Prop} : ∀ {l : List α} {xs : List Value}, Chunks sz (fun cs x => R cs x ∧ q x) xs l → Chunks sz R xs l ∧ ∀ x ∈ l, q x
  | [], xs, h => ⟨h, by simp⟩
  | x :: l, xs, ⟨cs, rest, h1, h2, h3, h4⟩ => by
    obtain ⟨h5, h6⟩ := Chunks.pure h4
    refine ⟨⟨cs, rest, h1, h2, h3.1, h5⟩, fun z hz => ?_⟩
    rcases List.mem_cons.1 hz with rfl | hz
    · exact h3.2
    · exact h6 z hz
end
end Go.Proofs.Ytegkmbkbaenkcaa
