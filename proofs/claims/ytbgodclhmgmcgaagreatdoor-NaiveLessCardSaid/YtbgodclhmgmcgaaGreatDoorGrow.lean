import Derived.Test.YtbgodclhmgmcgaaGreatDoorView
import Derived.Test.YtbgodclhmgmcgaaGreatDoorStr
import Derived.Laws.BytesArg
import Derived.Laws.BytesString
import Derived.Laws.IdiomStrings
import Derived.Lib.LaidTab
import Derived.Lib.ItoaNum
import Derived.LaidSub
import Derived.Test.YtbgodclhmgmcgaaGreatDoorPart
import Derived.Test.YtbgodclhmgmcgaaGreatDoorMapE
import Derived.Lib.AppendZeros
namespace Go.Proofs.YtbgodclhmgmcgaaGreatDoor
open Go Go.RowKit
section
variable {P:Program} {C:Ctx} {n:FD} {Q:Exit → Act → World → Prop} {Φ:List Fact} {H:List Fact} {S S' : List (Nat × Value)} {ops:Array Oper} {rest:List Oper} {o:Oper} {d:Nat}
theorem Qcp {α:Type} {t e sz c h m:Nat} {x y y2:Operand} {R:Rep α} {p:Option Addr} {l:List α} {z z2:Int} (k:Nat) (hg:Q1O ops S o = some true) (hd:o.dst = some d) (hn:Nat.blt d n = true) (hS:Q37 d S = S') (ho:o.op = .slice t x none (some y) (some y2))
  (hx:evS S x = some (.slice p l.length c)) (hk : Φ[k]? = some (.sli sz R p c l)) (hy:evS S y = some (.int .i64 z)) (hz:z = (h:Int)) (hy2:evS S y2 = some (.int .i64 z2)) (hz2:z2 = (m:Int)) (ht:Q3f P t = some e) (hs:Q1Q P e = some sz) (hh:h ≤ m) (hm:m ≤ l.length)
  (next : ∀ p',WL P C n Q (.sli sz R p' m (l.take h) :: Φ) H ((d,.slice p' (l.take h).length m) :: S') ops rest):WL P C n Q Φ H S ops (o :: rest):=by
 subst hz; subst hz2
 refine Q8a hg hd hn hS fun a w hf hw=>?_
 obtain ⟨F,N,hi⟩:=hw
 have h1:=hi.facts _ (Q12 hk)
 have hcap:=sli_cap h1
 have e1:(l.take h).length = h:=by simp only [List.length_take]; omega
 have key : ∀ F' : Q2t,(Fact.sli sz R p c l).p F' w → (Fact.sli sz R (if m = 0 then p else p.map (·.add (0 * sz))) m (l.take h)).p F' w:=fun F' hF'=>by
  have h3:=sli_cut (i:=0) (h:=h) (p':=if m = 0 then p else p.map (·.add (0 * sz))) hF' (Nat.zero_le _) (Nat.le_trans hh hm) (fun hlt b o e=>by subst e; exact cut_at (by omega))
  simp only [List.drop_zero,Nat.sub_zero] at h3
  obtain ⟨p1,n1,c1,xs,e2,h4,h5,h6,h7,h8⟩:=h3
  cases e2
  exact ⟨_,_,_,xs,rfl,h4,by omega,by omega,h7,h8⟩
 refine ⟨.slice (if m = 0 then p else p.map (·.add (0 * sz))) (l.take h).length m,w,?_,_,H,Q16.fact (φ:=.sli sz R (if m = 0 then p else p.map (·.add (0 * sz))) m (l.take h)) ⟨F,N,hi⟩ (fun F' hF'=>key F' (hF' _ (Q12 hk))),next _⟩
 rw [e1]
 simp [execOp,ho,hf.eval hx,hf.eval hy,hf.eval hy2,Instr.sliceAt,Instr.slice,run_underlying (Q3T ht),Instr.sliceBounds,Instr.sliceBound,asIntOf,hh,Nat.le_trans hm hcap.1,Q4K hs]
end
end Go.Proofs.YtbgodclhmgmcgaaGreatDoor
