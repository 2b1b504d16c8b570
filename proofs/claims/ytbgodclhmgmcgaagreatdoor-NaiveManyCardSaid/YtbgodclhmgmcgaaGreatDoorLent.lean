import Derived.Test.YtbgodclhmgmcgaaGreatDoorLend
import Derived.Maps.Own
import Derived.Maps.OwnSet
import Derived.Maps.Views
namespace Go.Proofs.YtbgodclhmgmcgaaGreatDoor
open Go.RowKit
theorem Q3Q {α:Type} {sz:Nat} {R:Rep α} {F:Q2n} {w:World}:(Fact.sli sz R none 0 ([] : List α)).p F w:=⟨none,0,0,[],rfl,rfl,Nat.le_refl _,by omega,rfl,fun h=>absurd h (by omega)⟩
theorem sli_to {α:Type} {sz c:Nat} {R:Rep α} {p:Option Addr} {l:List α} {F:Q2n} {w:World} (k:Nat) (h:(Fact.sli sz R p c l).p F w):(Fact.sli sz R p c (l.take k)).p F w:=by
 obtain ⟨p',n',c',xs,e1,e2,h1,h2,h3,h4⟩:=h
 cases e1
 refine ⟨p,_,c,xs.take (k * sz),rfl,rfl,by simp only [List.length_take]; omega,h2,h3.take k,fun h0=>?_⟩
 obtain ⟨b,o,e3,h5,h6⟩:=h4 (by simp only [List.length_take] at h0; omega)
 refine ⟨b,o,e3,h5,fun j u hu=>h6 j u ?_⟩
 rw [List.getElem?_take] at hu
 split at hu
 · exact hu
 · cases hu
theorem sli_rel {α:Type} {sz c:Nat} {R R' : Rep α} {p:Option Addr} {l:List α} {F:Q2n} {w:World} (h:(Fact.sli sz R p c l).p F w) (hR : ∀ cs x,R.p F w cs x → R'.p F w cs x):(Fact.sli sz R' p c l).p F w:=by
 obtain ⟨p',n',c',xs,e1,e2,h1,h2,h3,h4⟩:=h
 exact ⟨p',n',c',xs,e1,e2,h1,h2,h3.mono fun cs x _=>hR cs x,h4⟩
end Go.Proofs.YtbgodclhmgmcgaaGreatDoor
