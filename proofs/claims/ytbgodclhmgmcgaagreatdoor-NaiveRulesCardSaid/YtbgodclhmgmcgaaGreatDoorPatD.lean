import Derived.Test.YtbgodclhmgmcgaaGreatDoorLend
import Derived.Maps.Own
import Derived.Maps.OwnSet
import Derived.Maps.Views
import Derived.Test.YtbgodclhmgmcgaaGreatDoorRep
namespace Go.Proofs.YtbgodclhmgmcgaaGreatDoor
open Go.RowKit
theorem Q9Y {α:Type} {sz:Nat} {R:Rep α} {F:Q2p} {w:World}:(Fact.sli sz R none 0 ([] : List α)).p F w:=⟨none,0,0,[],rfl,rfl,Nat.le_refl _,by omega,rfl,fun h=>absurd h (by omega)⟩
theorem sli_to {α:Type} {sz c:Nat} {R:Rep α} {p:Option Addr} {l:List α} {F:Q2p} {w:World} (k:Nat) (h:(Fact.sli sz R p c l).p F w):(Fact.sli sz R p c (l.take k)).p F w:=by
 obtain ⟨p',n',c',xs,e1,e2,h1,h2,h3,h4⟩:=h
 cases e1
 refine ⟨p,_,c,xs.take (k * sz),rfl,rfl,by simp only [List.length_take]; omega,h2,h3.take k,fun h0=>?_⟩
 obtain ⟨b,o,e3,h5,h6⟩:=h4 (by simp only [List.length_take] at h0; omega)
 refine ⟨b,o,e3,h5,fun j u hu=>h6 j u ?_⟩
 rw [List.getElem?_take] at hu
 split at hu
 · exact hu
 · cases hu
theorem sli_rel {α:Type} {sz c:Nat} {R R' : Rep α} {p:Option Addr} {l:List α} {F:Q2p} {w:World} (h:(Fact.sli sz R p c l).p F w) (hR : ∀ cs x,R.p F w cs x → R'.p F w cs x):(Fact.sli sz R' p c l).p F w:=by
 obtain ⟨p',n',c',xs,e1,e2,h1,h2,h3,h4⟩:=h
 exact ⟨p',n',c',xs,e1,e2,h1,h2,h3.mono fun cs x _=>hR cs x,h4⟩
end Go.Proofs.YtbgodclhmgmcgaaGreatDoor
namespace Go.Proofs.YtbgodclhmgmcgaaGreatDoor
open Go.RowKit
def Q9P (a:Q4D) (v:V) (has:List Bool) (vals:List V):Option (List Bool × List V) :=
 if a.k = 1 then some (has,vals)
 else if a.k = 4 then if a.v = v then some (has,vals) else none
 else if a.k = 3 then if 0 ≤ a.var ∧ a.var < has.length ∧ has[a.var.toNat]? = some true ∧ vals[a.var.toNat]? = some v then some (has,vals) else none
 else if a.k = 2 then if 0 ≤ a.var ∧ a.var < has.length then some (has.set a.var.toNat true,vals.set a.var.toNat v) else none
 else none
theorem fitOne_len {a:Q4D} {v:V} {h:List Bool} {vs:List V} {h' : List Bool} {vs' : List V} (e:Q9P a v h vs = some (h',vs')):h'.length = h.length ∧ vs'.length = vs.length:=by
 unfold Q9P at e
 repeat' split at e
 all_goals first | (cases e; done) | (simp at e; obtain ⟨rfl,rfl⟩:=e; simp)
end Go.Proofs.YtbgodclhmgmcgaaGreatDoor
