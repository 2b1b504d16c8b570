import Derived.Test.YtbgodclhmgmcgaaGreatDoorAuto
namespace Go.Proofs.YtbgodclhmgmcgaaGreatDoor
open Go Go.RowKit
theorem spec_pure {P:Program} {f:FuncId} {args:List Value} {v:Value} (h : ∀ w,Calls P f args.toArray w fun e w'=>e = .returned v ∧ Below w.heap.size w w'):Q1o P f args [] [] (fun u Φr Hr=>u = v ∧ Φr = [] ∧ Hr = []):=by
 intro F N w hF _ _ _ _
 refine (h w).mono fun e w' ⟨he,hb⟩=>⟨v,[],[],he,⟨rfl,rfl,rfl⟩,?_⟩
 have h0:Q1j ⟨w,fun k=>∃ i,i < ([] : List Fact).length ∧ N i k,F⟩ [] [] w :=
  ⟨F,N,hF,fun _ h=>h,fun _ h=>.inl h,fun φ hφ=>(by cases hφ),fun i φ h=>(by simp at h),fun i k hi=>(by simp at hi),fun i j k hi=>(by simp at hi),Mod.refl _ _⟩
 exact h0.drew' hb
theorem spec_same {P:Program} {f:FuncId} {args:List Value} {v:Value} (h : ∀ w,Calls P f args.toArray w fun e w'=>e = .returned v ∧ w' = w):Q1o P f args [] [] (fun u Φr Hr=>u = v ∧ Φr = [] ∧ Hr = []) :=
 spec_pure fun w=>(h w).mono fun e w' ⟨he,hw⟩=>⟨he,hw ▸ Below.refl _ _⟩
end Go.Proofs.YtbgodclhmgmcgaaGreatDoor
