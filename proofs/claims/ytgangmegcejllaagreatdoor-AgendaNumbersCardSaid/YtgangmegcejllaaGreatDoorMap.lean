import Derived.Test.YtgangmegcejllaaGreatDoorLend
import Derived.Maps.Own
import Derived.Maps.OwnSet
import Derived.Maps.Views
namespace Go.Proofs.YtgangmegcejllaaGreatDoor
open Go.RowKit
section rules
variable {P:Program} {C:Ctx} {n:Nat} {Q:Exit → Act → World → Prop} {Φ Φ' : List Fact} {H H' : List Fact} {S S' : List (Nat × Value)} {ops:Array Oper} {rest:List Oper} {o:Oper} {d:Nat}
theorem Q82 {t e sz c m h:Nat} {x y:Operand} {p:Option Addr} {z:Int} (hg:Q1L ops S o = some true) (hd:o.dst = some d) (hn:Nat.blt d n = true) (hS:Q2r d S = S') (ho:o.op = .slice t x none (some y) none)
  (hx:evS S x = some (.slice p m c)) (hy:evS S y = some (.int .i64 z)) (hz:z = (h:Int)) (ht:Q2E P t = some e) (hs:Q1G P e = some sz) (hc:h ≤ c) (hp : ∀ a,p = some a → a.spot = none)
  (next:WL P C n Q Φ H ((d,.slice p h c) :: S') ops rest):WL P C n Q Φ H S ops (o :: rest):=by
 subst hz
 refine Q8l hg hd hn hS (fun a w hf hw=>?_) next
 have hadd:(if c = 0 then p else p.map (·.add (0 * sz))) = p:=by
  split
  · rfl
  ·cases p with
   | none=>rfl
   | some q => 
     rcases q with ⟨b,o,s⟩
     have:=hp _ rfl
     simp only at this
     subst this
     simp [Q5u]
 simp [execOp,ho,hf.eval hx,hf.eval hy,Instr.sliceAt,Instr.slice,run_underlying (Q29 ht),Instr.sliceBounds,Instr.sliceBound,asIntOf,hc,Q2L hs]
 intro h0
 rw [if_neg h0] at hadd
 simpa using hadd
theorem Q9t {α:Type} {e sz m:Nat} {R:Rep α} {p:Option Addr} {cp:Nat} {l:List α} {rest:List Oper} (k:Nat) (hφ:H[k]? = some (.own e sz R (.slice p m cp) l)) (next:(∀ a,p = some a → a.spot = none) → m ≤ cp ∧ m = l.length → WL P C n Q Φ H S ops rest):WL P C n Q Φ H S ops rest:=by
 intro a w hf hw
 obtain ⟨F,N,hi⟩:=hw
 have h1:=hi.owns k _ hφ
 obtain ⟨h2,h3⟩:=h1
 have hm:=h3.len
 refine next ?_ ?_ a w hf ⟨F,N,hi⟩
 ·obtain ⟨xs,ho,hch⟩:=h3
  rcases ho.2 with ⟨h0,h00⟩ | ⟨g,cap,cur,hv,_⟩
  · cases h0; intro a ha; cases ha
  · cases hv; intro a ha; cases ha; rfl
 ·refine ⟨?_,hm⟩
  obtain ⟨xs,ho,hch⟩:=h3
  rcases ho.2 with ⟨h0,h00⟩ | ⟨g,cap,cur,hv,_,hg,hnc,_⟩
  · cases h0; exact Nat.le_refl _
  · cases hv; exact hnc
end rules
end Go.Proofs.YtgangmegcejllaaGreatDoor
