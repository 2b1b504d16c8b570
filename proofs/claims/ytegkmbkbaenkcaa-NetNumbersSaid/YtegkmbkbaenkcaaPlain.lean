import Derived.Test.YtegkmbkbaenkcaaAuto
namespace Go.Proofs.Ytegkmbkbaenkcaa
open Go Go.RowKit
def Says (m : Option Bool) (p : Prop) : Prop := ∃ b, m = some b ∧ (b = true ↔ p)
theorem Says.bind {m : Option Bool} {k : Bool → Option Bool} {p q : Prop} (h : Says m p) (hk : ∀ b, (b = true ↔ p) → Says (k b) q) : Says (bindO m k) q := by
  obtain ⟨b, h1, h2⟩ := h
  rw [h1, bindO_pure]; exact hk b h2
theorem Says.id {m : Option Bool} {p : Prop} (h : Says m p) : Says (bindO m fun v => some v) p := by
  obtain ⟨b, h1, h2⟩ := h
  rw [h1]; exact ⟨b, rfl, h2⟩
end Go.Proofs.Ytegkmbkbaenkcaa
