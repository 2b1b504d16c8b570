import Derived.Test.YtegkmbkbaenkcaaGreatTree
namespace Go.Proofs.YtegkmbkbaenkcaaGreat
open Go Go.RowKit
section
variable {α Λ : Type} (T : Tre α Λ) (R : Rep α)
def Later (zs : List (α × Λ)) (k : Nat) (F : Foot) (w : World) : Prop := ∀ (j : Nat) (z : α × Λ), zs[j]? = some z → k ≤ j → R.p F w (T.C z.1 z.2) z.1
def ShellP (e sz : Nat) (v : Value) (xs : List α) (k : Nat) (N F : Foot) (w : World) : Prop :=
  ∃ (zs : List (α × Λ)) (A B : Foot), zs.map (·.1) = xs ∧ (∀ q, A q → N q) ∧ (∀ q, B q → N q ∧ ¬ A q) ∧ (Fact.own e sz T.pair v zs).op A F w ∧ (bagF T (zs.take k) none).op B F w ∧ Later T R zs k F w
theorem ShellP.good {T : Tre α Λ} {R : Rep α} {e sz : Nat} {v : Value} {xs : List α} {k : Nat} {N N' F G : Foot} {w w' : World} (hN : ∀ k, N k → N' k) (ha : Agree N w w') (hF : ∀ k, F k → G k) (hb : Agree F w w') (h : ShellP T R e sz v xs k N F w) : ShellP T R e sz v xs k N' G w' := by
  obtain ⟨zs, A, B, h0, h1, h2, h3, h4, h5⟩ := h
  exact ⟨zs, A, B, h0, fun q hq => hN q (h1 q hq), fun q hq => ⟨hN q (h2 q hq).1, (h2 q hq).2⟩, Fact.opgood _ (fun _ h => h) (fun q hq => ha q (h1 q hq)) hF hb h3, Fact.opgood _ (fun _ h => h) (fun q hq => ha q (h2 q hq).1) hF hb h4, fun j z hz hk => R.good hF hb (h5 j z hz hk)⟩
end
end Go.Proofs.YtegkmbkbaenkcaaGreat
