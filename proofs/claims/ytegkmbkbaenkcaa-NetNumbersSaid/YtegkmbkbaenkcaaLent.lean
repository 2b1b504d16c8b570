import Derived.Test.YtegkmbkbaenkcaaMap
namespace Go.Proofs.Ytegkmbkbaenkcaa
open Go.RowKit
theorem sli_none {α : Type} {sz : Nat} {R : Rep α} {F : Foot} {w : World} : (Fact.sli sz R none 0 ([] : List α)).p F w := ⟨none, 0, 0, [], rfl, rfl, Nat.le_refl _, by omega, rfl, fun h => absurd h (by omega)⟩
end Go.Proofs.Ytegkmbkbaenkcaa
