import Derived.Test.YtbgodclhmgmcgaaGreatDoorDyn
import Derived.Deep.DeepAppendRoom
namespace Go.Proofs.YtbgodclhmgmcgaaGreatDoor
open Go Go.RowKit
section
variable {P:Program} {C:Ctx} {n:FD} {Q:Exit → Act → World → Prop} {Φ Φ' : List Fact} {H H' : List Fact} {S S' : List (Nat × Value)} {ops:Array Oper} {rest:List Oper} {o:Oper} {d:Nat}
theorem Q7w {α:Type} {t e e2 sz by_ m2:Nat} {s x:Operand} {R:Rep α} {v z:Value} {l l2:List α} {p:Option Addr} {cp:Nat} (k j:Nat) (hg:Q1W ops S o = some true) (hd:o.dst = some d) (hn:Nat.blt d n = true) (hS:Q2M d S = S')
  (ho:o.op = .call { callee:=.builtin .append,args:=#[s,x],argTypes:=#[t,t] }) (hφ:H[k]? = some (.own e sz R v l)) (hs:evS S s = some v) (hψ:H[j]? = some (.own e2 sz R (.slice p m2 cp) l2)) (hx:evS S x = some (.slice p l2.length cp))
  (he:Q2X P t = some e) (hr:tRow P e = some (z,sz,by_)) (hzs:Nat.beq z.cells.size sz = true) (hsz:Nat.blt 0 sz = true) (h63:l.length + l2.length ≤ 9223372036854775807) (hby:(l.length + l2.length) * by_ ≤ 140737488355328)
  {H2:Option Addr → Nat → List Fact} (hH : ∀ p' c',H.set k (.own e sz R (.slice p' (l ++ l2).length c') (l ++ l2)) = H2 p' c') (next : ∀ p' c',WL P C n Q Φ (H2 p' c') ((d,.slice p' (l ++ l2).length c') :: S') ops rest):WL P C n Q Φ H S ops (o :: rest) :=
 Qbi k hg hd hn hS ho hφ hs hx (fun F N w hi=>by
  obtain ⟨_,xs,ho,hch⟩:=hi.owns j _ hψ
  rcases ho.2 with ⟨h0,h00⟩ | ⟨g,cap,cur,hv,_⟩
  · exact ⟨xs,hch,fun h=>absurd h (by omega)⟩
  ·cases hv
   refine ⟨xs,hch,fun _=>⟨g,0,rfl,fun q u hq=>?_⟩⟩
   have:=ho.cells (g:=g) rfl q u hq
   rwa [Q75] at this) he hr hzs hsz h63 hby hH next
end
theorem set_get {α:Type} {l:List α} {k:Nat} {x : α} (h:l[k]? = some x):l.set k x = l:=by
 obtain ⟨h1,rfl⟩:=List.getElem?_eq_some_iff.1 h
 exact List.set_getElem_self h1
end Go.Proofs.YtbgodclhmgmcgaaGreatDoor
