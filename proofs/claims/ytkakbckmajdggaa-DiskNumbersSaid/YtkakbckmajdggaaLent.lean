import Derived.Test.YtkakbckmajdggaaMap
namespace Go.Proofs.Ytkakbckmajdggaa
open Go.RowKit
theorem Holds.rowCap {α : Type} {C : Ctx} {Φ H : List Fact} {w : World} {g e sz m : Nat} {cs : List Value} (R : Rep α) (h : Holds C Φ (.blk g cs e :: H) w) (hcs : cs.length = m * sz) (hle : m ≤ 9223372036854775807) : Holds C Φ (.own e sz R (.slice (some ⟨g, 0, none⟩) 0 m) [] :: H) w := by
  obtain ⟨F, N, hi⟩ := h
  have hop := hi.owns 0 _ rfl
  have := hi.set 0 (by simp) (Mod.refl _ _) (.own e sz R (.slice (some ⟨g, 0, none⟩) 0 m) []) ⟨fun i hi' => by cases hi'; exact hop.1, [], ⟨by simp, .inr ⟨g, m, cs.toArray, rfl, Nat.zero_le _, hop.2, Nat.zero_le _, hle, by simpa using hcs, by simp⟩⟩, rfl⟩
  exact ⟨F, N, this⟩
theorem sli_none {α : Type} {sz : Nat} {R : Rep α} {F : Foot} {w : World} : (Fact.sli sz R none 0 ([] : List α)).p F w := ⟨none, 0, 0, [], rfl, rfl, Nat.le_refl _, by omega, rfl, fun h => absurd h (by omega)⟩
theorem sli_to {α : Type} {sz c : Nat} {R : Rep α} {p : Option Addr} {l : List α} {F : Foot} {w : World} (k : Nat) (h : (Fact.sli sz R p c l).p F w) : (Fact.sli sz R p c (l.take k)).p F w := by
  obtain ⟨p', n', c', xs, e1, e2, h1, h2, h3, h4⟩ := h
  cases e1
  refine ⟨p, _, c, xs.take (k * sz), rfl, rfl, by simp only [List.length_take]; omega, h2, h3.take k, fun h0 => ?_⟩
  obtain ⟨b, o, e3, h5, h6⟩ := h4 (by simp only [List.length_take] at h0; omega)
  refine ⟨b, o, e3, h5, fun j u hu => h6 j u ?_⟩
  rw [List.getElem?_take] at hu
  split at hu
  · exact hu
  · cases hu
end Go.Proofs.Ytkakbckmajdggaa
