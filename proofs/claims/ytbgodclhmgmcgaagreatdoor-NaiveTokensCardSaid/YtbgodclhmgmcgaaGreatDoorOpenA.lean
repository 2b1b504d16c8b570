import Derived.Test.YtbgodclhmgmcgaaGreatDoorTree
import Derived.Test.YtbgodclhmgmcgaaGreatDoorLawG
import Derived.Test.YtbgodclhmgmcgaaGreatDoorAuto
import Derived.SizedLaws
namespace Go.Proofs.YtbgodclhmgmcgaaGreatDoor
open Go Go.RowKit
section
variable {P:Program} {C:Ctx} {n:FD} {Q:Exit → Act → World → Prop} {Φ:List Fact} {H:List Fact} {S S' : List (Nat × Value)} {ops:Array Oper} {rest:List Oper} {o:Oper} {d:Nat}
theorem Q98 {α:Type} {t e sz c h m:Nat} {x y:Operand} {R:Rep α} {p:Option Addr} {l:List α} {z:Int} (k:Nat)(hg:Q18 ops S o=some true)(hd:o.dst=some d)(hn:Nat.blt d n=true)(hS:Q4p d S=S')(ho:o.op=.slice t x none (some y) none)
  (hx:evS S x=some (.slice p m c)) (hk : Φ[k]? =some (.sli sz R p c l)) (hy:evS S y=some (.int .i64 z)) (hz:z=(h:Int)) (ht:Q2d P t=some e) (hs:Q1m P e=some sz) (hh:h≤l.length)
  (next : ∀ p',WL P C n Q (.sli sz R p' c (l.take h) :: Φ) H ((d,.slice p' (l.take h).length c) :: S') ops rest):WL P C n Q Φ H S ops (o :: rest):=by
 subst hz
 refine Qaq hg hd hn hS fun a w hf hw=>?_
 obtain ⟨F,N,hi⟩:=hw
 have h1:=hi.facts _ (Q1f hk)
 have hcap:=sli_cap h1
 refine ⟨.slice (if c=0 then p else p.map (·.add (0 * sz))) (l.take h).length c,w,?_,_,H,QC.fact (φ:=.sli sz R (if c=0 then p else p.map (·.add (0 * sz))) c (l.take h)) ⟨F,N,hi⟩ (fun F' hF'=>?_),next _⟩
 ·have e1:(l.take h).length=h:=by simp only [List.length_take];omega
  rw [e1]
  simp [execOp,ho,hf.eval hx,hf.eval hy,Instr.sliceAt,Instr.slice,run_underlying (Q1A ht),Instr.sliceBounds,Instr.sliceBound,asIntOf,Nat.le_trans hh hcap.1,Q3f hs]
 ·have h3:=sli_cut (i:=0) (h:=h) (p':=if c=0 then p else p.map (·.add (0 * sz))) (hF' _ (Q1f hk)) (Nat.zero_le _) hh (fun hlt b o e=>by subst e;exact cut_at (by omega))
  simp only [List.drop_zero,Nat.sub_zero] at h3
  exact h3
end
section lights
variable {P:Program} {C:Ctx} {n:FD} {Q:Exit → Act → World → Prop} {ops:Array Oper} {lights L:List Nat} {D:List (Nat × Fact)} {Φ H:List Fact} {S S' : List (Nat × Value)}
theorem Q9J {α:Type} (hok:Q22 ops lights=true)(i:Nat) {o:Oper} {d t e sz m:Nat} {x y:Operand} {R:Rep α} {p:Option Addr} {cp:Nat} {l:List α} {ik:IntKind} {z:Int} {u : α} (k j:Nat)(hi:ops[i]? =some o)(hd:o.dst=some d)(hl:Q4L ops lights L i n d o=true)(hS:Q4p d S=S')(hg:Q18 ops S o=some true)
  (ho:o.op=.indexAddr t x y) (hφ : Φ[k]? =some (.sli sz R p cp l)) (hx:evS S x=some (.slice p m cp)) (hy:evS S y=some (.int ik z)) (hz:z=(j:Int)) (hm:j < m) (hu:l[j]? =some u) (he:Q2d P t=some e) (hs:Q1m P e=some sz)
  (next : ∀ b q cs,cs.length=sz→WX P C n Q ops lights (i :: L) D (.cells b q cs :: .rep R cs u :: Φ) H ((d,.pointer (some ⟨b,q,none⟩)) :: S')):WX P C n Q ops lights L D Φ H S:=by
 have hj:=Q9P hu
 subst hz
 refine wx_open (Λ:=Nat×Nat×List Value) (pure:=fun r=>p=some ⟨r.1,r.2.1,none⟩∧r.2.2.length=sz) (facts:=fun r=>[.cells r.1 (r.2.1+j * sz) r.2.2,.rep R r.2.2 u]) (fun F w hΦ=>?_) ?_
 ·obtain ⟨p',n',c',xs,he',hn',hc,_,hch,hrow⟩:=(hΦ _ (Q1f hφ):Sli F w sz (R.p F w) (.slice p l.length cp) l)
  cases he'
  obtain ⟨b,off,hp,hF,hcell⟩:=hrow (by omega)
  obtain ⟨cs,hcl,hr,hu2⟩:=hch.at hu
  refine ⟨(b,off,cs),⟨hp,hcl⟩,fun φ hφ'=>?_⟩
  simp only [List.mem_cons,List.not_mem_nil,or_false] at hφ'
  rcases hφ' with rfl | rfl
  ·refine ⟨hF,fun i v hi2=>?_⟩
   rw [Nat.add_assoc];exact hcell _ v (hu2 i v hi2)
  · exact hr
 ·rintro ⟨b,off,cs⟩ ⟨rfl,hcl⟩
  refine Qc6 hok i [] [] hi hd hl hS rfl hg (fun a w hf _=>?_) (next b (off+j * sz) cs hcl)
  have h1:(0:Int)≤j∧(j:Int) < m:=by omega
  simp [execOp,ho,hf.eval hx,hf.eval hy,Instr.indexAt,asIntOf,run_underlying (Q1A he),h1,Q3f hs,Addr.add,hm]
end lights
end Go.Proofs.YtbgodclhmgmcgaaGreatDoor
namespace Go.Proofs.YtbgodclhmgmcgaaGreatDoor
open Go Go.RowKit Go.Deep
theorem wf_inK {k:IntKind} {n:Int} (h:(Lit.int k n).wf=true):inK k n:=by
 simp only [Lit.wf,Bool.and_eq_true,decide_eq_true_eq] at h
 exact h
theorem inK_i64 {x:Int} (h:inK .i64 x) : -9223372036854775808≤x∧x≤9223372036854775807:=by
 have e1:IntKind.min .i64=-9223372036854775808:=by decide
 have e2:IntKind.max .i64=9223372036854775807:=by decide
 unfold inK at h;rwa [e1,e2] at h
section
variable {H:Type} {enc:TypeId × Value → H} {P:Program} {w:World} {base:Nat} {spare:Nat → Bool} {held:Bool} {fuel:Nat} {cs:List Value} {y:DataW H × List MemPlace}
def Q41 (P:Program)(t:TypeId)(d:DataW H):Prop:=∀ n∈d.weights P t,n≤reachBytes
theorem QbF {e:TypeId} {n:Nat} : ∀ {ds:List (DataW H)} {d:DataW H},d∈ds→n∈d.weights P e→n∈DataW.weightsAll P e ds
 | d0 :: ds,d,hd,hn=>by
   simp only [DataW.weightsAll,List.mem_append]
   rcases List.mem_cons.1 hd with rfl | hd
   · exact .inl hn
   · exact .inr (QbF hd hn)
theorem Q8b {t:TypeId} {fs:Array Field} (ht:P.underlying t=some (.struct fs))(h:DataW.trod enc P w base spare held fuel t cs=some y)(hw:Q41 P t y.1) :
  ∃ n,cs.length=P.cellsOf t∧∀ (i:Nat) (f:Field),fs[i]? =some f→∃ z,DataW.trod enc P w base spare held n f.type ((cs.drop f.offset).take (P.cellsOf f.type))=some z∧Q41 P f.type z.1:=by
 obtain ⟨xs,n,_,rfl,hl,hlen,hf⟩:=DataW.trod_struct ht h
 refine ⟨n,hl,fun i f hi=>?_⟩
 have hlt:i < xs.length:=by rw [hlen];exact (Array.getElem?_eq_some_iff.1 hi).1
 refine ⟨xs[i],by have:=hf i f hi;simpa [List.getElem?_eq_getElem hlt] using this,fun k hk=>hw k ?_⟩
 simp only [DataW.weights,ht]
 refine DataW.weights_mem_each (j:=i) (t:=f.type) (d:=xs[i].1) ?_ ?_ k hk
 · rw [List.getElem?_map,Array.getElem?_toList,hi];rfl
 · rw [List.getElem?_map,List.getElem?_eq_getElem hlt];rfl
theorem Q1h.pure {α : Type} {sz : Nat} {R : List Value→α→Prop} {q : α→Prop} : ∀ {l : List α} {xs : List Value},Q1h sz (fun cs x=> R cs x∧q x) xs l→Q1h sz R xs l∧∀ x∈l,q x
 | [],xs,h=>⟨h,by simp⟩
 | x :: l,xs,⟨cs,rest,h1,h2,h3,h4⟩=>by
   obtain ⟨h5,h6⟩:=Q1h.pure h4
   refine ⟨⟨cs,rest,h1,h2,h3.1,h5⟩,fun z hz=>?_⟩
   rcases List.mem_cons.1 hz with rfl | hz
   · exact h3.2
   · exact h6 z hz
theorem open_sliW {α:Type} {t e sz:Nat} {R:List Value→α→Prop} (ht:P.underlying t=some (.slice e))(hC:P.cellsOf e=sz)(hz : 0 < sz)
  (hel : ∀ n cs y,DataW.trod enc P w base spare held n e cs=some y→Q41 P e y.1→∃ a,R cs a) (h:DataW.trod enc P w base spare held fuel t cs=some y) (hw:Q41 P t y.1) :
  ∃ v l,cs=[v]∧Sli (fun k=>k < w.heap.size) w sz R v l∧l.length * P.bytesOf e≤reachBytes:=by
 rcases open_slice ht h with ⟨rfl,_⟩ | ⟨a,len,cap,m,n,D,Pl,rfl,hb,hl,hm,hmm,rfl,hi⟩
 · exact ⟨_,[],rfl,Sli.nil,by simp⟩
 ·subst hC
  have hle:len≤m:=by rw [hmm];split <;> omega
  have hD : ∀ i,i < len→Q41 P e (D i):=fun i hlt k hk=>hw k (by
   simp only [DataW.weights,ht,List.mem_cons,List.mem_append]
   exact .inr (.inl (QbF (d:=D i) (List.mem_map.2 ⟨i,List.mem_range.2 hlt,rfl⟩) hk)))
  have hsz:len * P.bytesOf e≤reachBytes:=by
   have:=hw _ (by simp only [DataW.weights,ht];exact List.mem_cons_self)
   simp only [List.length_map,List.length_range] at this
   exact Nat.le_trans (Nat.mul_le_mul_right _ (by omega)) this
  have key : ∀ k,k≤len→∃ xs l,l.length=k∧Q1h (P.cellsOf e) R xs l∧∀ j u,xs[j]? =some u→w.cell? (a.add j)=some u:=by
   intro k
   induction k with
   | zero=>intro _;exact ⟨[],[],rfl,rfl,by simp⟩
   | succ k ih =>
     intro hk
     obtain ⟨xs,l,hl',hx,hc⟩:=ih (by omega)
     obtain ⟨cs',h1,h2⟩:=hi k (by omega)
     obtain ⟨_,hlen,hat⟩:=World.cells?_some h1
     obtain ⟨y,hy⟩:=hel _ _ _ h2 (hD k (by omega))
     refine ⟨xs++cs',l++[y],by simp [hl'],hx.append (Q1h.one hy hlen),fun j u hj=>?_⟩
     have hxl:=hx.length
     rw [hl'] at hxl
     by_cases hjl:j < xs.length
     · rw [List.getElem?_append_left hjl] at hj;exact hc j u hj
     ·rw [List.getElem?_append_right (by omega)] at hj
      have h3:=(List.getElem?_eq_some_iff.1 hj).1
      have:=hat (j - xs.length) (by omega)
      rw [hj,Go.Deep.add_add] at this
      rw [← this];congr 2;omega
  obtain ⟨xs,l,hl',hx,hc⟩:=key len (Nat.le_refl _)
  refine ⟨_,l,rfl,⟨some a,len,cap,xs,rfl,hl'.symm,hl,hm,hx,fun h0=>?_⟩,by rw [hl'];exact hsz⟩
  have h1 : 0 < xs.length:=by rw [hx.length,hl'];exact Nat.mul_pos h0 hz
  have h2:=hc 0 _ (List.getElem?_eq_getElem h1)
  have h3:a.add 0=a:=rfl
  rw [h3] at h2
  have hsp:a=⟨a.block,a.off,none⟩:=by
   rcases a with ⟨b,o,s⟩
   cases s with
   | none=>rfl
   | some s =>
     exfalso
     simp only [World.cell?] at h2
     split at h2 <;> simp at h2
  have hlt:=World.block_lt_of_cell? w a h2
  refine ⟨a.block,a.off,by rw [← hsp],hlt,fun j u hj=>?_⟩
  have:=hc j u hj
  rw [hsp,Q4R] at this
  exact this
theorem Q8S {α:Type} {t e sz:Nat} {R:Rep α} {q : α→Prop} (ht:P.underlying t=some (.slice e))(hC:P.cellsOf e=sz)(hz : 0 < sz)
  (hel : ∀ n cs y,DataW.trod enc P w base spare held n e cs=some y→Q41 P e y.1→∃ a,R.p (fun k=>k < w.heap.size) w cs a∧q a) {us:List Value} (h:DataW.trod enc P w base spare held fuel t us=some y) (hw:Q41 P t y.1) :
  ∃ (p:Option Addr) (c:Nat) (l:List α),us=[.slice p l.length c]∧(Fact.sli sz R p c l).p (fun k=>k < w.heap.size) w∧l.length * P.bytesOf e≤reachBytes∧∀ x∈l,q x:=by
 obtain ⟨v,l,e1,hs,hsz⟩:=open_sliW (R:=fun cs x=>R.p (fun k=>k < w.heap.size) w cs x∧q x) ht hC hz hel h hw
 subst e1
 obtain ⟨p,n,c,xs,e2,hn,hc,hm,hch,hrow⟩:=hs
 subst hn;subst e2
 obtain ⟨h1,h2⟩:=Q1h.pure hch
 exact ⟨p,c,l,rfl,⟨p,l.length,c,xs,rfl,rfl,hc,hm,h1,hrow⟩,hsz,h2⟩
theorem Q7q {n b k r m:Nat} (h:n * b≤r)(hb:b=k)(hr:r=140737488351232)(hk : 0 < k)(hm : 140737488351232 / k=m):n≤m:=by
 subst hb;subst hr;subst hm
 exact (Nat.le_div_iff_mul_le hk).2 h
theorem fits_arg {ts:List TypeId} {ds:List (DataW H)} (h:(DataW.weightsEach P ts ds).all (· ≤reachBytes)=true)(j:Nat) {t:TypeId} {d:DataW H} (ht:ts[j]? =some t)(hd:ds[j]? =some d):Q41 P t d:=fun n hn=>by
 have:=List.all_eq_true.1 h n (DataW.weights_mem_each ht hd n hn)
 simpa using this
theorem fits_str {t:TypeId} {s:ByteArray} (h:Q41 P t (.lit (.string s.data.toList):DataW H)):s.size≤reachBytes:=by
 have:=h s.data.toList.length (by simp [DataW.weights])
 simpa using this
end
end Go.Proofs.YtbgodclhmgmcgaaGreatDoor
