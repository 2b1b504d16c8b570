import Derived.Test.YtbgodclhmgmcgaaGreatDoorOpen
import Derived.Test.YtbgodclhmgmcgaaGreatDoorLight
import Derived.Deep.Strs
import Derived.Lib.SmallJoins
namespace Go.Proofs.YtbgodclhmgmcgaaGreatDoor
open Go.RowKit Go.Deep
theorem spec_calls {P : Program} {f : FuncId} {args : List Value} {Φ : List Fact} {v : Value} {w : World} (h : Q1o P f args Φ [] (fun u Φr Hr => u = v ∧ Φr = [] ∧ Hr = [])) (hΦ : ∀ φ ∈ Φ, φ.p (fun k => k < w.heap.size) w) :
  Calls P f args.toArray w fun e w'=>e = .returned v ∧ Mod (fun _=>False) w w':=by
 refine Calls.mono (h (fun k=>k < w.heap.size) (fun _ _=>False) w (fun _ h=>h) hΦ (fun i x hx=>by simp at hx) (fun i k hi=>by simp at hi) (fun i j k hi=>by simp at hi)) fun e w' he=>?_
 obtain ⟨u,Φr,Hr,rfl,⟨rfl,_⟩,F,N,hm⟩:=he
 exact ⟨rfl,hm.mod.mono fun k _ hk=>by obtain ⟨i,hi,_⟩:=hk; simp at hi⟩
end Go.Proofs.YtbgodclhmgmcgaaGreatDoor
