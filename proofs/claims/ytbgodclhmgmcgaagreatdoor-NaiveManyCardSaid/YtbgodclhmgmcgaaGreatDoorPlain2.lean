import Derived.Test.YtbgodclhmgmcgaaGreatDoorAuto
namespace Go.Proofs.YtbgodclhmgmcgaaGreatDoor
open Go Go.RowKit
theorem iter_push {β:Type} {f:Nat × List β → Option ((Nat × List β) ⊕ List β)} (n:Nat) (g:Nat → β) (l0:List β)
  (step : ∀ i,i < n → f (i,l0 ++ (List.range i).map g) = some (.inl (i + 1,l0 ++ (List.range i).map g ++ [g i])))
  (stop:f (n,l0 ++ (List.range n).map g) = some (.inr (l0 ++ (List.range n).map g))) {N:Nat} (hN:n < N):Q1M f N (0,l0) = some (l0 ++ (List.range n).map g):=by
 obtain ⟨o,h1,h2⟩:=iter_inv (f:=f) (fun s=>s.1 ≤ n ∧ s.2 = l0 ++ (List.range s.1).map g) (fun s=>n - s.1) (fun o=>o = l0 ++ (List.range n).map g) (fun s hs=>by
  obtain ⟨i,m⟩:=s
  obtain ⟨hi,hm⟩:=hs
  simp only at hi hm
  subst hm
  by_cases h:i < n
  ·left
   exact ⟨_,step i h,⟨by simp only; omega,by simp [List.range_succ]⟩,by simp only; omega⟩
  ·right
   obtain rfl:i = n:=by omega
   exact ⟨_,stop,rfl⟩) N (0,l0) ⟨Nat.zero_le _,by simp⟩ (by simp only; omega)
 rw [h1,h2]
end Go.Proofs.YtbgodclhmgmcgaaGreatDoor
