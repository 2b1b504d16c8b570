import Derived.Test.YtkakbckmajdggaaGreatAuto
namespace Go.Proofs.YtkakbckmajdggaaGreat
open Go Go.RowKit
def Says (m : Option Bool) (p : Prop) : Prop := ∃ b, m = some b ∧ (b = true ↔ p)
theorem Says.and {m : Option Bool} {c : Bool} {p q : Prop} (h : Says m p) (hc : c = true ↔ q) : Says (if c = true then m else some false) (q ∧ p) := by
  obtain ⟨b, h1, h2⟩ := h
  cases c with
  | true => exact ⟨b, by rw [if_pos rfl]; exact h1, by simp [hc.1 rfl, h2]⟩
  | false => exact ⟨false, by simp, by simp; intro hq; exact absurd (hc.2 hq) (by simp)⟩
theorem Says.bind {m : Option Bool} {k : Bool → Option Bool} {p q : Prop} (h : Says m p) (hk : ∀ b, (b = true ↔ p) → Says (k b) q) : Says (bindO m k) q := by
  obtain ⟨b, h1, h2⟩ := h
  rw [h1, bindO_pure]; exact hk b h2
theorem Says.id {m : Option Bool} {p : Prop} (h : Says m p) : Says (bindO m fun v => some v) p := by
  obtain ⟨b, h1, h2⟩ := h
  rw [h1]; exact ⟨b, rfl, h2⟩
end Go.Proofs.YtkakbckmajdggaaGreat
