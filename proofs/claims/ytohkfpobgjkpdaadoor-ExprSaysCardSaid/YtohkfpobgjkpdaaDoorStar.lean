import Derived.Test.YtohkfpobgjkpdaaDoorMapE
namespace Go.Proofs.YtohkfpobgjkpdaaDoor
open Go Go.RowKit
section
variable {C : Ctx} {Φ H : List Fact} {F : Foot} {N : Nat → Foot} {w : World}
theorem MInv.shrink (h : MInv C Φ H F N w) (k : Nat) {φ1 : Fact} (hk : k < H.length) (B : Foot) (hB : ∀ q, B q → N k q) (h1 : φ1.op B F w) : MInv C Φ (H.set k φ1) F (fun i => if i = k then B else N i) w := by
  have hsub : ∀ i q, (if i = k then B else N i) q → N i q := fun i q hq => by
    by_cases e : i = k
    · subst e; rw [if_pos rfl] at hq; exact hB q hq
    · rw [if_neg e] at hq; exact hq
  refine { h with owns := fun i ψ hi => ?_, nlt := fun i q hi hq => h.nlt i q (by simpa using hi) (hsub i q hq), apart := fun i j q hi hj hne hq hq' => h.apart i j q (by simpa using hi) (by simpa using hj) hne (hsub i q hq) (hsub j q hq') }
  by_cases e : i = k
  · subst e
    rw [List.getElem?_set_self hk] at hi
    cases hi
    rw [if_pos rfl]; exact h1
  · rw [List.getElem?_set_ne (Ne.symm e)] at hi
    rw [if_neg e]; exact h.owns i ψ hi
theorem Holds.split {Λ : Type} (h : Holds C Φ H w) (k : Nat) {φ : Fact} {φ1 φ2 : Λ → Fact} (hk : H[k]? = some φ)
    (hs : ∀ N F, φ.op N F w → ∃ (r : Λ) (A B : Foot), (∀ q, A q → N q) ∧ (∀ q, B q → N q ∧ ¬ A q) ∧ (φ1 r).op B F w ∧ (φ2 r).op A F w) : ∃ r, Holds C Φ (φ2 r :: H.set k (φ1 r)) w := by
  obtain ⟨F, N, hi⟩ := h
  have hlt := (List.getElem?_eq_some_iff.1 hk).1
  obtain ⟨r, A, B, hA, hB, h1, h2⟩ := hs (N k) F (hi.owns k φ hk)
  refine ⟨r, F, _, (hi.shrink k hlt B (fun q hq => (hB q hq).1) h1).push (φ2 r) A h2 (fun q hq => hi.nlt k q hlt (hA q hq)) (fun i q hil hq hq' => ?_)⟩
  by_cases e : i = k
  · subst e
    simp only [if_true] at hq'
    exact (hB q hq').2 hq
  · simp only [if_neg e] at hq'
    exact hi.apart k i q hlt (by simpa using hil) (Ne.symm e) (hA q hq) hq'
end
end Go.Proofs.YtohkfpobgjkpdaaDoor
