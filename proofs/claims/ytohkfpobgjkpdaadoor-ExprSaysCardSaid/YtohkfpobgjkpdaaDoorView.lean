import Derived.Test.YtohkfpobgjkpdaaDoorAuto
namespace Go.Proofs.YtohkfpobgjkpdaaDoor
open Go Go.RowKit
theorem sli_cut {α : Type} {sz c i h : Nat} {R : Rep α} {p p' : Option Addr} {l : List α} {F : Foot} {w : World} (hs : (Fact.sli sz R p c l).p F w) (hi : i ≤ h) (hl : h ≤ l.length) (hp : i < h → ∀ b o, p = some ⟨b, o, none⟩ → p' = some ⟨b, o + i * sz, none⟩) : (Fact.sli sz R p' (c - i) ((l.take h).drop i)).p F w := by
  obtain ⟨p0, n0, c0, xs, e1, e2, h1, h2, h3, h4⟩ := sli_to h hs
  cases e1
  refine ⟨p', _, c - i, xs.drop (i * sz), rfl, rfl, by simp only [List.length_drop, List.length_take] at h1 ⊢; omega, by omega, h3.drop i, fun h0 => ?_⟩
  simp only [List.length_drop, List.length_take] at h0
  obtain ⟨b, o, e3, h5, h6⟩ := h4 (by simp only [List.length_take]; omega)
  refine ⟨b, o + i * sz, hp (by omega) b o e3, h5, fun j u hu => ?_⟩
  rw [List.getElem?_drop] at hu
  have := h6 (i * sz + j) u hu
  rw [Nat.add_assoc]; exact this
section
variable {P : Program} {C : Ctx} {n : Nat} {Q : Exit → Act → World → Prop} {Φ : List Fact} {H : List Fact} {S S' : List (Nat × Value)} {ops : Array Oper} {rest : List Oper} {o : Oper} {d : Nat}
theorem cut_at {b o sz i c : Nat} (hc : i < c) : (if c = i then (some ⟨b, o, none⟩ : Option Addr) else (some ⟨b, o, none⟩ : Option Addr).map (·.add (i * sz))) = some ⟨b, o + i * sz, none⟩ := by
  rw [if_neg (by omega)]; simp [addr_add]
end
theorem view_to {α : Type} {sz c : Nat} {R : Rep α} {p : Option Addr} {l : List α} {F : Foot} {w : World} (h : (Fact.sli sz R p c l).p F w) (k : Nat) : (Fact.sli sz R p c (l.take k)).p F w := sli_to k h
end Go.Proofs.YtohkfpobgjkpdaaDoor
