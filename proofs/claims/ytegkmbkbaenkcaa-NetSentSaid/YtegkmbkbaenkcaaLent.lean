import Derived.Test.YtegkmbkbaenkcaaMap
namespace Go.Proofs.Ytegkmbkbaenkcaa
open Go.RowKit
theorem sli_none {α : Type} {sz : Nat} {R : Rep α} {F : Foot} {w : World} : (Fact.sli sz R none 0 ([] : List α)).p F w := ⟨none, 0, 0, [], rfl, rfl, Nat.le_refl _, by omega, rfl, fun h => absurd h (by omega)⟩
theorem sli_to {α : Type} {sz c : Nat} {R : Rep α} {p : Option Addr} {l : List α} {F : Foot} {w : World} (k : Nat) (h : (Fact.sli sz R p c l).p F w) : (Fact.sli sz R p c (l.take k)).p F w := by
  obtain ⟨p', n', c', xs, e1, e2, h1, h2, h3, h4⟩ := h
  cases e1
  refine ⟨p, _, c, xs.take (k * sz), rfl, rfl, by simp only [List.length_take]; omega, h2, h3.take k, fun h0 => ?_⟩
  obtain ⟨b, o, e3, h5, h6⟩ := h4 (by simp only [List.length_take] at h0; omega)
  refine ⟨b, o, e3, h5, fun j u hu => h6 j u ?_⟩
  rw [List.getElem?_take] at hu
  split at hu
  · exact hu
  · cases hu
end Go.Proofs.Ytegkmbkbaenkcaa
