import Derived.Test.YtbgodclhmgmcgaaGreatDoorOpenA
import Derived.Test.YtbgodclhmgmcgaaGreatDoorTree
import Derived.Test.YtbgodclhmgmcgaaGreatDoorStar
import Derived.Test.YtbgodclhmgmcgaaGreatDoorStr
import Derived.Laws.BytesArg
import Derived.Laws.BytesString
import Derived.Laws.IdiomStrings
import Derived.Lib.LaidTab
import Derived.Lib.ItoaNum
import Derived.LaidSub
import Derived.Test.YtbgodclhmgmcgaaGreatDoorPtr
import Derived.Test.YtbgodclhmgmcgaaGreatDoorMapE
import Derived.Lib.AppendZeros
namespace Go.Proofs.YtbgodclhmgmcgaaGreatDoor
open Go Go.RowKit Go.Deep
section
variable {α Λ:Type} (C : α → Option Addr × Nat → List Value) (kids : α → List α) (sz:Nat) (one : ∀ x r,∀ u ∈ C x r,u.oneCell' = true)
def recN:Nat→Rep α
 | 0=>⟨fun _ _ _ _=>False,fun _ _ h=>h,fun h=>h.elim⟩
 | n+1=>Q9n C (fun x r=>[.sli sz (recN n) r.1 r.2 (kids x)]) one
def recR:Rep α:=⟨fun F w cs x=>∃ n,(recN C kids sz one n).p F w cs x,fun hF ha ⟨n,h⟩=>⟨n,(recN C kids sz one n).good hF ha h⟩,fun ⟨n,h⟩=>(recN C kids sz one n).one h⟩
end
section
variable {α:Type} {C : α → Option Addr × Nat → List Value} {kids : α → List α} {sz:Nat} {one : ∀ x r,∀ u ∈ C x r,u.oneCell' = true}
theorem recN_mono : ∀ {n m:Nat} {F:Q1O} {w:World} {cs:List Value} {x : α},n≤m→(recN C kids sz one n).p F w cs x→(recN C kids sz one m).p F w cs x
 | 0,_,_,_,_,_,_,h=>h.elim
 | n+1,0,_,_,_,_,hm,_=>by omega
 | n + 1,m + 1,F,w,cs,x,hm,⟨r,h1,h2⟩=>⟨r,h1,fun φ hφ=>by
     simp only [List.mem_cons,List.not_mem_nil,or_false] at hφ
     subst hφ
     exact sli_rel (R:=recN C kids sz one n) (h2 _ (List.mem_cons_self)) (fun cs x hr=>recN_mono (by omega) hr)⟩
theorem rec_opens:Q8B (recR C kids sz one) C (fun _ _=>True) (fun x r=>[.sli sz (recR C kids sz one) r.1 r.2 (kids x)]):=fun F w cs x ⟨n,h⟩=>by
 cases n with
 | zero=>exact h.elim
 | succ n =>
   obtain ⟨r,h1,h2⟩:=h
   exact ⟨r,h1,trivial,Q10 (sli_rel (R:=recN C kids sz one n) (h2 _ (List.mem_cons_self)) (fun cs x hr=>⟨n,hr⟩)) Q16⟩
theorem chunks_rec {F:Q1O} {w:World} : ∀ {l:List α} {ys:List Value},Q1h sz ((recR C kids sz one).p F w) ys l→∃ n,Q1h sz ((recN C kids sz one n).p F w) ys l
 | [],ys,h=>⟨0,h⟩
 | x :: l,ys,⟨cs,rest,e1,e2,⟨n,e3⟩,e4⟩=>by
   obtain ⟨m,hm⟩:=chunks_rec e4
   exact ⟨max n m,cs,rest,e1,e2,recN_mono (Nat.le_max_left _ _) e3,hm.mono fun cs x _ hr=>recN_mono (Nat.le_max_right _ _) hr⟩
theorem Qd1 {F:Q1O} {w:World} {x : α} {cs:List Value} (r:Option Addr×Nat)(hcs:cs=C x r)(h : ∀ φ∈([.sli sz (recR C kids sz one) r.1 r.2 (kids x)] : List Fact),φ.p F w):(recR C kids sz one).p F w cs x:=by
 obtain ⟨p,n,c,xs,hv,hn,hc,hm,hx,hrow⟩:=(h (.sli sz (recR C kids sz one) r.1 r.2 (kids x)) List.mem_cons_self:Sli F w sz ((recR C kids sz one).p F w) (.slice r.1 (kids x).length r.2) (kids x))
 obtain ⟨m,hx⟩:=chunks_rec hx
 exact ⟨m+1,r,hcs,Q10 (⟨p,n,c,xs,hv,hn,hc,hm,hx,hrow⟩ : Sli F w sz ((recN C kids sz one m).p F w) (.slice r.1 (kids x).length r.2) (kids x)) Q16⟩
end
section
variable {H:Type} {enc:TypeId × Value → H} {P:Program} {w:World} {base:Nat} {spare:Nat → Bool} {held:Bool} {fuel:Nat} {cs:List Value} {y:DataW H × List MemPlace}
theorem trod_fieldsN {t:TypeId} {fs:Array Field} (ht:P.underlying t=some (.struct fs))(h:DataW.trod enc P w base spare held fuel t cs=some y)(hw:Q41 P t y.1) :
  ∃ n,fuel=n+1∧cs.length=P.cellsOf t∧∀ (i:Nat) (f:Field),fs[i]? =some f→∃ z,DataW.trod enc P w base spare held n f.type ((cs.drop f.offset).take (P.cellsOf f.type))=some z∧Q41 P f.type z.1:=by
 obtain ⟨xs,n,hn,rfl,hl,hlen,hf⟩:=DataW.trod_struct ht h
 refine ⟨n,hn,hl,fun i f hi=>?_⟩
 have hlt:i < xs.length:=by rw [hlen];exact (Array.getElem?_eq_some_iff.1 hi).1
 refine ⟨xs[i],by have:=hf i f hi;simpa [List.getElem?_eq_getElem hlt] using this,fun k hk=>hw k ?_⟩
 simp only [DataW.weights,ht]
 refine DataW.weights_mem_each (j:=i) (t:=f.type) (d:=xs[i].1) ?_ ?_ k hk
 · rw [List.getElem?_map,Array.getElem?_toList,hi];rfl
 · rw [List.getElem?_map,List.getElem?_eq_getElem hlt];rfl
theorem open_sliR {α:Type} {t e sz:Nat} {R:List Value→α→Prop} (ht:P.underlying t=some (.slice e))(hC:P.cellsOf e=sz)(hz : 0 < sz)
  (hel : ∀ n,n < fuel→∀ cs y,DataW.trod enc P w base spare held n e cs=some y→Q41 P e y.1→∃ a,R cs a) (h:DataW.trod enc P w base spare held fuel t cs=some y) (hw:Q41 P t y.1) :
  ∃ v l,cs=[v]∧Sli (fun k=>k < w.heap.size) w sz R v l∧l.length * P.bytesOf e≤reachBytes:=by
 rcases DataW.trod_slice ht h with ⟨rfl,_⟩ | ⟨a,len,cap,elems,rest,n,hfu,rfl,rfl,hb,hl,hm,hlen,hi,_,_⟩
 · exact ⟨_,[],rfl,Sli.nil,by simp⟩
 ·subst hC
  have hD : ∀ d∈elems,Q41 P e d.1:=fun d hd k hk=>hw k (by
   simp only [DataW.weights,ht,List.mem_cons,List.mem_append]
   exact .inr (.inl (QbF (d:=d.1) (List.mem_map.2 ⟨d,hd,rfl⟩) hk)))
  have hsz:len * P.bytesOf e≤reachBytes:=by
   have:=hw _ (by simp only [DataW.weights,ht];exact List.mem_cons_self)
   simp only [List.length_map] at this
   exact Nat.le_trans (Nat.mul_le_mul_right _ (by omega)) this
  have key : ∀ k,k≤len→∃ xs l,l.length=k∧Q1h (P.cellsOf e) R xs l∧∀ j u,xs[j]? =some u→w.cell? (a.add j)=some u:=by
   intro k
   induction k with
   | zero=>intro _;exact ⟨[],[],rfl,rfl,by simp⟩
   | succ k ih =>
     intro hk
     obtain ⟨xs,l,hl',hx,hc⟩:=ih (by omega)
     have hki:=hi k (by omega)
     rw [List.getElem?_eq_getElem (by omega:k < elems.length)] at hki
     obtain ⟨cs',h1,h2⟩:=Option.bind_eq_some_iff.1 hki
     obtain ⟨_,hlen2,hat⟩:=World.cells?_some h1
     obtain ⟨y,hy⟩:=hel n (by omega) _ _ h2 (hD _ (List.getElem_mem _))
     refine ⟨xs++cs',l++[y],by simp [hl'],hx.append (Q1h.one hy hlen2),fun j u hj=>?_⟩
     have hxl:=hx.length
     rw [hl'] at hxl
     by_cases hjl:j < xs.length
     · rw [List.getElem?_append_left hjl] at hj;exact hc j u hj
     ·rw [List.getElem?_append_right (by omega)] at hj
      have h3:=(List.getElem?_eq_some_iff.1 hj).1
      have:=hat (j - xs.length) (by omega)
      rw [hj,Go.Deep.add_add] at this
      rw [← this];congr 2;omega
  obtain ⟨xs,l,hl',hx,hc⟩:=key len (Nat.le_refl _)
  refine ⟨_,l,rfl,⟨some a,len,cap,xs,rfl,hl'.symm,hl,hm,hx,fun h0=>?_⟩,by rw [hl'];exact hsz⟩
  have h1 : 0 < xs.length:=by rw [hx.length,hl'];exact Nat.mul_pos h0 hz
  have h2:=hc 0 _ (List.getElem?_eq_getElem h1)
  have h3:a.add 0=a:=rfl
  rw [h3] at h2
  have hsp:a=⟨a.block,a.off,none⟩:=by
   rcases a with ⟨b,o,s⟩
   cases s with
   | none=>rfl
   | some s =>
     exfalso
     simp only [World.cell?] at h2
     split at h2 <;> simp at h2
  have hlt:=World.block_lt_of_cell? w a h2
  refine ⟨a.block,a.off,by rw [← hsp],hlt,fun j u hj=>?_⟩
  have:=hc j u hj
  rw [hsp,Q4R] at this
  exact this
theorem open_listR {α:Type} {t e sz:Nat} {R:Rep α} {q : α→Prop} (ht:P.underlying t=some (.slice e))(hC:P.cellsOf e=sz)(hz : 0 < sz)
  (hel : ∀ n,n < fuel→∀ cs y,DataW.trod enc P w base spare held n e cs=some y→Q41 P e y.1→∃ a,R.p (fun k=>k < w.heap.size) w cs a∧q a) {us:List Value} (h:DataW.trod enc P w base spare held fuel t us=some y) (hw:Q41 P t y.1) :
  ∃ (p:Option Addr) (c:Nat) (l:List α),us=[.slice p l.length c]∧(Fact.sli sz R p c l).p (fun k=>k < w.heap.size) w∧l.length * P.bytesOf e≤reachBytes∧∀ x∈l,q x:=by
 obtain ⟨v,l,e1,hs,hsz⟩:=open_sliR (R:=fun cs x=>R.p (fun k=>k < w.heap.size) w cs x∧q x) ht hC hz hel h hw
 subst e1
 obtain ⟨p,n,c,xs,e2,hn,hc,hm,hch,hrow⟩:=hs
 subst hn;subst e2
 obtain ⟨h1,h2⟩:=Q1h.pure hch
 exact ⟨p,c,l,rfl,⟨p,l.length,c,xs,rfl,rfl,hc,hm,h1,hrow⟩,hsz,h2⟩
end
end Go.Proofs.YtbgodclhmgmcgaaGreatDoor
namespace Go.Proofs.YtbgodclhmgmcgaaGreatDoor
open Go Go.RowKit Go.Deep
theorem Q1h.mapTo {α β:Type} {sz:Nat} {R:List Value→α→Prop} {R' : List Value→β→Prop} (f : α→β)(hR : ∀ cs x,R cs x→R' cs (f x)) : ∀ {l:List α} {xs:List Value},Q1h sz R xs l→Q1h sz R' xs (l.map f)
 | [],_,h=>h
 | _ :: _,_,⟨cs,rest,e1,e2,e3,e4⟩=>⟨cs,rest,e1,e2,hR cs _ e3,Q1h.mapTo f hR e4⟩
theorem Qbu {α β:Type} {sz c:Nat} {R:Rep α} {R' : Rep β} {p:Option Addr} {l:List α} {F:Q1O} {w:World} (f : α→β)(h:(Fact.sli sz R p c l).p F w)(hR : ∀ cs x,R.p F w cs x→R'.p F w cs (f x)):(Fact.sli sz R' p c (l.map f)).p F w:=by
 obtain ⟨p',n',c',xs,e1,e2,h1,h2,h3,h4⟩:=h
 exact ⟨p',n',c',xs,by rw [List.length_map];exact e1,by rw [List.length_map];exact e2,h1,h2,h3.mapTo f hR,h4⟩
section
variable {α β:Type} {C : α → Option Addr × Nat → List Value} {kids : α → List α} {C' : β → Option Addr × Nat → List Value} {kids' : β → List β} {sz:Nat} {one : ∀ x r,∀ u ∈ C x r,u.oneCell' = true} {one' : ∀ x r,∀ u ∈ C' x r,u.oneCell' = true} {f : α → β} {main : α → List α}
theorem recN_short (hC : ∀ x r,C x r=C' (f x) r)(hk : ∀ x,kids' (f x)=(main x).map f)(hm : ∀ x,∃ t,kids x=main x++t) : ∀ {n:Nat} {F:Q1O} {w:World} {cs:List Value} {x : α},(recN C kids sz one n).p F w cs x→(recN C' kids' sz one' n).p F w cs (f x)
 | 0,_,_,_,_,h=>h.elim
 | n + 1,F,w,cs,x,⟨r,h1,h2⟩=>⟨r,h1.trans (hC x r),fun φ hφ=>by
     simp only [List.mem_cons,List.not_mem_nil,or_false] at hφ
     subst hφ
     obtain ⟨t,ht⟩:=hm x
     have h3:(Fact.sli sz (recN C kids sz one n) r.1 r.2 (kids x)).p F w:=h2 _ List.mem_cons_self
     rw [ht] at h3
     rw [hk]
     exact Qbu f (QbK h3) (fun cs x hr=>recN_short hC hk hm hr)⟩
theorem rec_lendS (hC : ∀ x r,C x r=C' (f x) r)(hk : ∀ x,kids' (f x)=(main x).map f)(hm : ∀ x,∃ t,kids x=main x++t) {F:Q1O} {w:World} {cs:List Value} {x : α}:(recR C kids sz one).p F w cs x→(recR C' kids' sz one').p F w cs (f x):=fun ⟨n,h⟩=>⟨n,recN_short hC hk hm h⟩
end
theorem QC.rowKind {α β:Type} {C:Ctx} {Φ H:List Fact} {w:World} {e sz:Nat} {v:Value} {R:Rep α} (R' : Rep β)(h:QC C Φ H w)(j:Nat)(hj:H[j]? =some (.own e sz R v [])):QC C Φ (H.set j (.own e sz R' v [])) w :=
 h.as_ j hj (fun N F ⟨h3,ys,ho,hc⟩=>⟨h3,ys,ho,hc⟩)
end Go.Proofs.YtbgodclhmgmcgaaGreatDoor
namespace Go.Proofs.YtbgodclhmgmcgaaGreatDoor
open Go Go.RowKit
section
variable {P:Program} {C:Ctx} {n:FD} {Q:Exit → Act → World → Prop} {Φ:List Fact} {H:List Fact} {S S' : List (Nat × Value)} {ops:Array Oper} {rest:List Oper} {o:Oper} {d:Nat}
theorem wl_sliTo3 {α:Type} {t e sz c h m:Nat} {x y y2:Operand} {R:Rep α} {p:Option Addr} {l:List α} {z z2:Int} (k:Nat)(hg:Q18 ops S o=some true)(hd:o.dst=some d)(hn:Nat.blt d n=true)(hS:Q4p d S=S')(ho:o.op=.slice t x none (some y) (some y2))
  (hx:evS S x=some (.slice p l.length c)) (hk : Φ[k]? =some (.sli sz R p c l)) (hy:evS S y=some (.int .i64 z)) (hz:z=(h:Int)) (hy2:evS S y2=some (.int .i64 z2)) (hz2:z2=(m:Int)) (ht:Q2d P t=some e) (hs:Q1m P e=some sz) (hh:h≤m) (hm:m≤l.length)
  (next : ∀ p',WL P C n Q (.sli sz R p' m (l.take h) :: Φ) H ((d,.slice p' (l.take h).length m) :: S') ops rest):WL P C n Q Φ H S ops (o :: rest):=by
 subst hz;subst hz2
 refine Qaq hg hd hn hS fun a w hf hw=>?_
 obtain ⟨F,N,hi⟩:=hw
 have h1:=hi.facts _ (Q1f hk)
 have hcap:=sli_cap h1
 have e1:(l.take h).length=h:=by simp only [List.length_take];omega
 have key : ∀ F' : Q1O,(Fact.sli sz R p c l).p F' w→(Fact.sli sz R (if m=0 then p else p.map (·.add (0 * sz))) m (l.take h)).p F' w:=fun F' hF'=>by
  have h3:=sli_cut (i:=0) (h:=h) (p':=if m=0 then p else p.map (·.add (0 * sz))) hF' (Nat.zero_le _) (Nat.le_trans hh hm) (fun hlt b o e=>by subst e;exact cut_at (by omega))
  simp only [List.drop_zero,Nat.sub_zero] at h3
  obtain ⟨p1,n1,c1,xs,e2,h4,h5,h6,h7,h8⟩:=h3
  cases e2
  exact ⟨_,_,_,xs,rfl,h4,by omega,by omega,h7,h8⟩
 refine ⟨.slice (if m=0 then p else p.map (·.add (0 * sz))) (l.take h).length m,w,?_,_,H,QC.fact (φ:=.sli sz R (if m=0 then p else p.map (·.add (0 * sz))) m (l.take h)) ⟨F,N,hi⟩ (fun F' hF'=>key F' (hF' _ (Q1f hk))),next _⟩
 rw [e1]
 simp [execOp,ho,hf.eval hx,hf.eval hy,hf.eval hy2,Instr.sliceAt,Instr.slice,run_underlying (Q1A ht),Instr.sliceBounds,Instr.sliceBound,asIntOf,hh,Nat.le_trans hm hcap.1,Q3f hs]
end
end Go.Proofs.YtbgodclhmgmcgaaGreatDoor
