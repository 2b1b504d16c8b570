import Derived.Test.YtbgodclhmgmcgaaGreatDoorLight
import Derived.Maps.Own
import Derived.Maps.OwnSet
import Derived.Maps.Views
import Derived.Test.YtbgodclhmgmcgaaGreatDoorRep
import Derived.Deep.DeepAppendRoom
namespace Go.Proofs.YtbgodclhmgmcgaaGreatDoor
open Go.RowKit
def LFree (h:Fact):Prop:=∀ N F G w,h.op N F w→h.op N G w
def RFree {α:Type} (R:Rep α):Prop:=∀ F G w cs x,R.p F w cs x→R.p G w cs x
theorem own_free {α:Type} {e sz:Nat} {R:Rep α} {v:Value} {l:List α} (h:RFree R):LFree (.own e sz R v l):=fun N F G w ⟨h1,h2⟩=>⟨h1,h2.rel fun cs x hr=>h F G w cs x hr⟩
theorem Q3g {α:Type} {e sz m c:Nat} {R:Rep α} {p:Option Addr} {l:List α} {F:Q1O} {w:World} (h:(Fact.own e sz R (.slice p m c) l).p F w):(Fact.sli sz R p c l).p F w:=by
 obtain ⟨h1,h2⟩:=h
 have hm:=h2.len
 subst hm
 obtain ⟨xs,ho,hch⟩:=h2
 rcases ho.2 with ⟨h0,h00⟩ | ⟨g,cap,cur,hv,_,hg,hnc,hcm,hcs,htake⟩
 ·obtain rfl:l=[]:=List.eq_nil_of_length_eq_zero h00
  cases h0
  exact ⟨none,_,0,xs,rfl,rfl,Nat.le_refl _,by omega,hch,fun h=>absurd h (by omega)⟩
 ·cases hv
  refine ⟨_,_,_,xs,rfl,rfl,hnc,hcm,hch,fun _=>⟨g,0,rfl,h1 g rfl,fun j u hj=>?_⟩⟩
  have:=ho.cells (g:=g) rfl j u hj
  rwa [Q4R] at this
def subB (q m:List Nat):Bool:=q.all fun i=>m.any (Nat.beq i)
theorem subB_spec {q m:List Nat} (h:subB q m=true) : ∀ i∈q,i∈m:=fun i hi=>by
 have:=List.all_eq_true.1 h i hi
 obtain ⟨j,hj,hb⟩:=List.any_eq_true.1 this
 rw [Nat.eq_of_beq_eq_true hb];exact hj
theorem MInv.afterLend {C:Ctx} {Φ H:List Fact} {F:Q1O} {N:Nat→Q1O} {w w' : World} (h:MInv C Φ H F N w) {l m q:List Nat} (hl:Q2o (l++m) H.length=true)(hq:subB q m=true) {Hr:List Fact} (hfree : ∀ x∈Hr,LFree x)
  (hr:QC ⟨w,fun k=>∃ i,i < (Q1d H l).length∧N (l.getD i 0) k,fun k=>F k∨∃ j,j∈q∧N j k⟩ [] Hr w'):QC C Φ (Hr++Q1d H m) w':=by
 obtain ⟨F',N',hr⟩:=hr
 obtain ⟨h1,h2⟩:=QbG hl
 have hqm:=subB_spec hq
 have hm1:Q2o m H.length=true:=by
  have : ∀ (l:List Nat),Q2o (l++m) H.length=true→Q2o m H.length=true:=by
   intro l
   induction l with
   | nil=>exact id
   | cons i l ih=>intro h;simp only [List.cons_append,Q2o,Bool.and_eq_true] at h;exact ih h.2
  exact this l hl
 have hS : ∀ k,(∃ i,i < (Q1d H l).length∧N (l.getD i 0) k)→∃ j,j∈l∧j < H.length∧N j k:=by
  rintro k ⟨i,hi,hk⟩
  rw [(Qaj H l fun i hi=>h1 i (by simp [hi])).1] at hi
  refine ⟨l[i],List.getElem_mem hi,h1 _ (by simp [List.getElem_mem hi]),?_⟩
  simpa [List.getD,hi] using hk
 have hql : ∀ j,j∈q→j ∉ l:=fun j hj hjl=>(List.nodup_append.1 h2).2.2 j hjl j (hqm j hj) rfl
 have hnew : ∀ i k,i < Hr.length→N' i k→¬ F k∧(∀ j,j∈m→¬ N j k):=by
  intro i k hi hk
  obtain ⟨_,b,c⟩:=hr.nlt i k hi hk
  refine ⟨fun hf=>c (hr.fold k (.inl hf)),fun j hj hn=>?_⟩
  rcases b with b | b
  · have:=(h.nlt j k (h1 j (by simp [hj])) hn).1;simp at b;omega
  ·obtain ⟨j',hj',hlt,hn'⟩:=hS k b
   exact h.apart j j' k (h1 j (by simp [hj])) hlt (fun e=>by subst e;exact (List.nodup_append.1 h2).2.2 _ hj' _ hj rfl) hn hn'
 have hr2:QC ⟨w,fun k=>∃ i,i < (Q1d H l).length∧N (l.getD i 0) k,F⟩ [] Hr w':=by
  refine ⟨F,N',fun k hk=>Nat.lt_of_lt_of_le (h.flt k hk) hr.mod.size,fun _ h=>h,fun _ h=>.inl h,by simp,fun i x hx=>hfree x (List.mem_of_getElem? hx) _ _ _ _ (hr.owns i x hx),fun i k hi hk=>⟨(hr.nlt i k hi hk).1,(hr.nlt i k hi hk).2.1,(hnew i k hi hk).1⟩,hr.apart,hr.mod⟩
 exact h.after hl hr2
section
variable {P:Program} {C:Ctx} {n:FD} {Q:Exit → Act → World → Prop} {Φ Φ' : List Fact} {H H' : List Fact} {S S' : List (Nat × Value)} {ops:Array Oper} {rest:List Oper} {o:Oper} {d:Nat} {c x y:Code}
theorem lend_core {f:FuncId} {xs:Array Operand} {ts:Array TypeId} {args:List Value} {Φf Hf:List Fact} {R:Value→List Fact→List Fact→Prop} (l m q:List Nat)(hg:Q18 ops S o=some true)
  (ho:o.op=.call { callee:=.value (.func f),args:=xs,argTypes:=ts }) (hx:evL S xs.toList=some args) (hfn:Q15 P f=true)
  (hH:Q1d H l=Hf) (spec:QY P f args Φf Hf R) (hΦ : ∀ F w,(∀ ψ∈Φ,ψ.p F w)→(∀ ψ∈Q1d H q,ψ.p F w)→∀ φ∈Φf,φ.p F w) (hfree : ∀ v Φr Hr,R v Φr Hr→Φr=[]∧∀ x∈Hr,LFree x) (hl:Q2o (l++m) H.length=true) (hq:subB q m=true) (hm:Q1d H m=H')
  (next : ∀ v Φr Hr,R v Φr Hr→∀ a w,Frm n S a→QC C (Φr++Φ) (Hr++H') w→wpList P ops Q rest (a.put o.dst v) w):WL P C n Q Φ H S ops (o :: rest):=by
 subst hH;subst hm
 intro a w hf ⟨F,N,hi⟩
 obtain ⟨i1,i2⟩:=QbG hl
 have hqm:=subB_spec hq
 have hl1:Q2o l H.length=true:=by
  clear spec next
  have : ∀ (l:List Nat),Q2o (l++m) H.length=true→Q2o l H.length=true:=by
   intro l
   induction l with
   | nil=>intro _;rfl
   | cons i l ih =>
     intro h
     simp only [List.cons_append,Q2o,Bool.and_eq_true,Bool.not_eq_true',List.any_append,Bool.or_eq_false_iff] at h ⊢
     exact ⟨⟨h.1.1,h.1.2.1⟩,ih h.2⟩
  exact this l hl
 have hp:=hi.pick l hl1
 have hsub : ∀ k,F k→(F k∨∃ j,j∈q∧N j k):=fun _ h=>.inl h
 have hcall:=spec (fun k=>F k∨∃ j,j∈q∧N j k) _ w (fun k hk=>by
   rcases hk with hk | ⟨j,hj,hk⟩
   · exact hi.flt k hk
   · exact (hi.nlt j k (i1 j (by simp [hqm j hj])) hk).1)
  (hΦ _ w (fun ψ hψ=>ψ.good hsub (Q2W.refl _ _) (hi.facts ψ hψ)) (fun ψ hψ=>by
   obtain ⟨j,hj,hψ'⟩:=List.mem_filterMap.1 hψ
   exact ψ.opgood (fun k hk=>.inr ⟨j,hj,hk⟩) (Q2W.refl _ _) hsub (Q2W.refl _ _) (hi.owns j ψ hψ')))
  (fun i x hx=>x.opgood (fun _ h=>h) (Q2W.refl _ _) hsub (Q2W.refl _ _) (hp.owns i x hx))
  (fun i k hik hk=>⟨(hp.nlt i k hik hk).1,fun hf=>by
   rcases hf with hf | ⟨j,hj,hf⟩
   · exact (hp.nlt i k hik hk).2.2 hf
   · have hil:i < l.length:=by rw [(Qaj H l fun i hi=>i1 i (by simp [hi])).1] at hik; exact hik
     have e:l.getD i 0=l[i]:=by simp [hil]
     rw [e] at hk
     exact hi.apart l[i] j k (i1 _ (by simp [List.getElem_mem hil])) (i1 j (by simp [hqm j hj])) (fun e=>(List.nodup_append.1 i2).2.2 _ (List.getElem_mem hil) _ (hqm j hj) e) hk hf⟩) hp.apart
 refine wpList_step fun K hK=>?_
 rw [Q5J hf hg,if_pos rfl]
 unfold Oper.wp
 have hargs:xs.map a.eval=args.toArray:=by
  have:=hf.evalL hx
  have h0:xs=xs.toList.toArray:=by simp
  rw [← this,h0,List.map_toArray]
 have hrun:(execOp a.eval o).run P w=.ok (.enter f args.toArray) w:=by
  have hev:a.eval (.func f)=.func (.func f) #[] #[]:=rfl
  have h2:(resolve a.eval { callee:=.value (.func f),args:=xs,argTypes:=ts } o.type).run P w=.ok { target:=.fn (.func f) #[],args:=args.toArray } w:=by
   simp [resolve,hev,Deferred.ofValue,hargs]
  unfold execOp
  simp only [ho,Sem.run_bind,h2,Result.andThen_ok]
  simp [invoke,QbA hfn]
 rw [hrun,Oper.upon_enter]
 refine hcall.mono ?_
 rintro e w' ⟨v,Φr,Hr,rfl,hR,hh⟩
 obtain ⟨rfl,hfr⟩:=hfree v Φr Hr hR
 exact hK _ _ (next v [] Hr hR a w' hf (hi.afterLend hl hq hfr hh))
theorem QdI {f:FuncId} {xs:Array Operand} {ts:Array TypeId} {args:List Value} {Φf Hf:List Fact} {R:Value→List Fact→List Fact→Prop} (l m q:List Nat)(hg:Q18 ops S o=some true)(hd:o.dst=some d)(hn:Nat.blt d n=true)(hS:Q4p d S=S')
  (ho:o.op=.call { callee:=.value (.func f),args:=xs,argTypes:=ts }) (hx:evL S xs.toList=some args) (hfn:Q15 P f=true)
  (hH:Q1d H l=Hf) (spec:QY P f args Φf Hf R) (hΦ : ∀ F w,(∀ ψ∈Φ,ψ.p F w)→(∀ ψ∈Q1d H q,ψ.p F w)→∀ φ∈Φf,φ.p F w) (hfree : ∀ v Φr Hr,R v Φr Hr→Φr=[]∧∀ x∈Hr,LFree x) (hl:Q2o (l++m) H.length=true) (hq:subB q m=true) (hm:Q1d H m=H')
  (next : ∀ v Φr Hr,R v Φr Hr→WL P C n Q (Φr++Φ) (Hr++H') ((d,v) :: S') ops rest):WL P C n Q Φ H S ops (o :: rest) :=
 lend_core l m q hg ho hx hfn hH spec hΦ hfree hl hq hm fun v Φr Hr hR a w hf hw=>by rw [hd];exact next v Φr Hr hR _ w (hf.put (Nat.le_of_ble_eq_true hn) hS) hw
end
theorem Q10 {φ:Fact} {Φ' : List Fact} {F:Q1O} {w:World} (h : φ.p F w)(h' : ∀ ψ∈Φ',ψ.p F w) : ∀ ψ∈φ :: Φ',ψ.p F w:=fun ψ hψ=>by
 rcases List.mem_cons.1 hψ with rfl | hψ
 · exact h
 · exact h' ψ hψ
theorem Q16 {F:Q1O} {w:World} : ∀ ψ∈([] : List Fact),ψ.p F w:=by simp
theorem Qbz {x:Fact} (h:x∈([] : List Fact)):LFree x:=by cases h
end Go.Proofs.YtbgodclhmgmcgaaGreatDoor
namespace Go.Proofs.YtbgodclhmgmcgaaGreatDoor
open Go.RowKit
section rules
variable {P:Program} {C:Ctx} {n:FD} {Q:Exit → Act → World → Prop} {Φ Φ' : List Fact} {H H' : List Fact} {S S' : List (Nat × Value)} {ops:Array Oper} {rest:List Oper} {o:Oper} {d:Nat}
theorem Q8k {t e sz c m h:Nat} {x y:Operand} {p:Option Addr} {z:Int} (hg:Q18 ops S o=some true)(hd:o.dst=some d)(hn:Nat.blt d n=true)(hS:Q4p d S=S')(ho:o.op=.slice t x none (some y) none)
  (hx:evS S x=some (.slice p m c)) (hy:evS S y=some (.int .i64 z)) (hz:z=(h:Int)) (ht:Q2d P t=some e) (hs:Q1m P e=some sz) (hc:h≤c) (hp : ∀ a,p=some a→a.spot=none)
  (next:WL P C n Q Φ H ((d,.slice p h c) :: S') ops rest):WL P C n Q Φ H S ops (o :: rest):=by
 subst hz
 refine Qc5 hg hd hn hS (fun a w hf hw=>?_) next
 have hadd:(if c=0 then p else p.map (·.add (0 * sz)))=p:=by
  split
  · rfl
  ·cases p with
   | none=>rfl
   | some q => 
     rcases q with ⟨b,o,s⟩
     have:=hp _ rfl
     simp only at this
     subst this
     simp [Q4R]
 simp [execOp,ho,hf.eval hx,hf.eval hy,Instr.sliceAt,Instr.slice,run_underlying (Q1A ht),Instr.sliceBounds,Instr.sliceBound,asIntOf,hc,Q3f hs]
 intro h0
 rw [if_neg h0] at hadd
 simpa using hadd
theorem Q8j {α:Type} {e sz m:Nat} {R:Rep α} {p:Option Addr} {cp:Nat} {l:List α} {rest:List Oper} (k:Nat)(hφ:H[k]? =some (.own e sz R (.slice p m cp) l))(next:(∀ a,p=some a→a.spot=none)→m≤cp∧m=l.length→WL P C n Q Φ H S ops rest):WL P C n Q Φ H S ops rest:=by
 intro a w hf hw
 obtain ⟨F,N,hi⟩:=hw
 have h1:=hi.owns k _ hφ
 obtain ⟨h2,h3⟩:=h1
 have hm:=h3.len
 refine next ?_ ?_ a w hf ⟨F,N,hi⟩
 ·obtain ⟨xs,ho,hch⟩:=h3
  rcases ho.2 with ⟨h0,h00⟩ | ⟨g,cap,cur,hv,_⟩
  · cases h0;intro a ha;cases ha
  · cases hv;intro a ha;cases ha;rfl
 ·refine ⟨?_,hm⟩
  obtain ⟨xs,ho,hch⟩:=h3
  rcases ho.2 with ⟨h0,h00⟩ | ⟨g,cap,cur,hv,_,hg,hnc,_⟩
  · cases h0;exact Nat.le_refl _
  · cases hv;exact hnc
end rules
end Go.Proofs.YtbgodclhmgmcgaaGreatDoor
namespace Go.Proofs.YtbgodclhmgmcgaaGreatDoor
open Go.RowKit
theorem zeros_len {z:List Value} {sz:Nat} (hz:z.length=sz) : ∀ m,(zeros z m).length=m * sz
 | 0=>by simp [zeros]
 | m+1=>by simp only [zeros,List.length_append,zeros_len hz m,hz,Nat.succ_mul];omega
theorem QC.rowCap {α:Type} {C:Ctx} {Φ H:List Fact} {w:World} {g e sz m:Nat} {cs:List Value} (R:Rep α)(h:QC C Φ (.blk g cs e :: H) w)(hcs:cs.length=m * sz)(hle:m≤9223372036854775807):QC C Φ (.own e sz R (.slice (some ⟨g,0,none⟩) 0 m) [] :: H) w:=by
 obtain ⟨F,N,hi⟩:=h
 have hop:=hi.owns 0 _ rfl
 have:=hi.set 0 (by simp) (Mod.refl _ _) (.own e sz R (.slice (some ⟨g,0,none⟩) 0 m) []) ⟨fun i hi'=>by cases hi';exact hop.1,[],⟨by simp,.inr ⟨g,m,cs.toArray,rfl,Nat.zero_le _,hop.2,Nat.zero_le _,hle,by simpa using hcs,by simp⟩⟩,rfl⟩
 exact ⟨F,N,this⟩
section rules
variable {P:Program} {C:Ctx} {n:FD} {Q:Exit → Act → World → Prop} {Φ Φ' : List Fact} {H H' : List Fact} {S S' : List (Nat × Value)} {ops:Array Oper} {rest:List Oper} {o:Oper} {d:Nat}
theorem Q8i {α:Type} {t e sz by_ m:Nat} {x y:Operand} {z:Value} {kx ky:IntKind} {ey:Int} (R:Rep α)(hg:Q18 ops S o=some true)(hd:o.dst=some d)(hn:Nat.blt d n=true)(hS:Q4p d S=S')(ho:o.op=.makeSlice t x y)
  (hx:evS S x=some (.int kx 0)) (hy:evS S y=some (.int ky ey)) (hey:ey=(m:Int)) (he:Q2d P t=some e) (hr:tRow P e=some (z,sz,by_)) (hzs:Nat.beq z.cells.size sz=true) (hsz:Nat.blt 0 sz=true)
  (hby:by_ * m≤281474976710656) (h63:m≤9223372036854775807)
  (next : ∀ g,WL P C n Q Φ (.own e sz R (.slice (some ⟨g,0,none⟩) 0 m) [] :: H) ((d,.slice (some ⟨g,0,none⟩) 0 m) :: S') ops rest):WL P C n Q Φ H S ops (o :: rest):=by
 subst hey
 refine Qaq hg hd hn hS fun a w hf hw=>?_
 obtain ⟨i,hinfo,hz,hsize,hbytes⟩:=Q9D hr
 have hzs':=Nat.eq_of_beq_eq_true hzs
 have hsz':=Nat.le_of_ble_eq_true hsz
 subst hbytes
 have hb:(i.bytes:Int) * (m:Int)≤281474976710656:=by
  have h:((i.bytes * m:Nat):Int)≤281474976710656:=by omega
  rwa [Int.natCast_mul] at h
 have hrun:=run_make (P:=P) (w:=w) t e i z (Q1A he) hinfo hz kx ky 0 (m:Int) (by omega) (by omega) hb (by omega)
 simp only [Int.toNat_natCast,hsize] at hrun
 refine ⟨_,_,by simp [execOp,ho,hf.eval hx,hf.eval hy,hrun];try exact ⟨rfl,rfl⟩,Φ,_,((hw.alloc (madeCells z.cells (m * sz)) e).rowCap R (m:=m) (sz:=sz) ?_ h63),next _⟩
 rw [Qdn _ sz m hzs' hsz']
 exact zeros_len (by simpa using hzs') m
end rules
theorem Q2n {α:Type} {sz:Nat} {R:Rep α} {F:Q1O} {w:World}:(Fact.sli sz R none 0 ([] : List α)).p F w:=⟨none,0,0,[],rfl,rfl,Nat.le_refl _,by omega,rfl,fun h=>absurd h (by omega)⟩
theorem sli_to {α:Type} {sz c:Nat} {R:Rep α} {p:Option Addr} {l:List α} {F:Q1O} {w:World} (k:Nat)(h:(Fact.sli sz R p c l).p F w):(Fact.sli sz R p c (l.take k)).p F w:=by
 obtain ⟨p',n',c',xs,e1,e2,h1,h2,h3,h4⟩:=h
 cases e1
 refine ⟨p,_,c,xs.take (k * sz),rfl,rfl,by simp only [List.length_take];omega,h2,h3.take k,fun h0=>?_⟩
 obtain ⟨b,o,e3,h5,h6⟩:=h4 (by simp only [List.length_take] at h0;omega)
 refine ⟨b,o,e3,h5,fun j u hu=>h6 j u ?_⟩
 rw [List.getElem?_take] at hu
 split at hu
 · exact hu
 · cases hu
theorem sli_rel {α:Type} {sz c:Nat} {R R' : Rep α} {p:Option Addr} {l:List α} {F:Q1O} {w:World} (h:(Fact.sli sz R p c l).p F w)(hR : ∀ cs x,R.p F w cs x→R'.p F w cs x):(Fact.sli sz R' p c l).p F w:=by
 obtain ⟨p',n',c',xs,e1,e2,h1,h2,h3,h4⟩:=h
 exact ⟨p',n',c',xs,e1,e2,h1,h2,h3.mono fun cs x _=>hR cs x,h4⟩
end Go.Proofs.YtbgodclhmgmcgaaGreatDoor
namespace Go.Proofs.YtbgodclhmgmcgaaGreatDoor
open Go.RowKit
def Qag (a:Q1n)(v:V)(has:List Bool)(vals:List V):Option (List Bool×List V) :=
 if a.k=1 then some (has,vals)
 else if a.k=4 then if a.v=v then some (has,vals) else none
 else if a.k=3 then if 0≤a.var∧a.var < has.length∧has[a.var.toNat]? =some true∧vals[a.var.toNat]? =some v then some (has,vals) else none
 else if a.k=2 then if 0≤a.var∧a.var < has.length then some (has.set a.var.toNat true,vals.set a.var.toNat v) else none
 else none
theorem fitOne_len {a:Q1n} {v:V} {h:List Bool} {vs:List V} {h' : List Bool} {vs' : List V} (e:Qag a v h vs=some (h',vs')):h'.length=h.length∧vs'.length=vs.length:=by
 unfold Qag at e
 repeat' split at e
 all_goals first | (cases e;done) | (simp at e;obtain ⟨rfl,rfl⟩:=e;simp)
end Go.Proofs.YtbgodclhmgmcgaaGreatDoor
namespace Go.Proofs.YtbgodclhmgmcgaaGreatDoor
open Go.RowKit
section
variable {P:Program} {C:Ctx} {n:FD} {Q:Exit → Act → World → Prop} {Φ Φ' : List Fact} {H H' : List Fact} {S S' : List (Nat × Value)} {ops:Array Oper} {rest:List Oper} {o:Oper} {d:Nat}
theorem call_any {f:FuncId} {args:List Value} {Φf Hf:List Fact} {R:Value→List Fact→List Fact→Prop} (l m:List Nat)(hg:Q18 ops S o=some true)
  (hrun : ∀ a w,Frm n S a→(execOp a.eval o).run P w=.ok (.enter f args.toArray) w)
  (hH:Q1d H l=Hf) (spec:QY P f args Φf Hf R) (hΦ : ∀ F w,(∀ ψ∈Φ,ψ.p F w)→∀ φ∈Φf,φ.p F w) (hl:Q2o (l++m) H.length=true) (hm:Q1d H m=H')
  (next : ∀ v Φr Hr,R v Φr Hr→∀ a w,Frm n S a→QC C (Φr++Φ) (Hr++H') w→wpList P ops Q rest (a.put o.dst v) w):WL P C n Q Φ H S ops (o :: rest):=by
 subst hH;subst hm
 intro a w hf ⟨F,N,hi⟩
 have hl1:Q2o l H.length=true:=by
  clear spec next
  have : ∀ (l:List Nat),Q2o (l++m) H.length=true→Q2o l H.length=true:=by
   intro l
   induction l with
   | nil=>intro _;rfl
   | cons i l ih =>
     intro h
     simp only [List.cons_append,Q2o,Bool.and_eq_true,Bool.not_eq_true',List.any_append,Bool.or_eq_false_iff] at h ⊢
     exact ⟨⟨h.1.1,h.1.2.1⟩,ih h.2⟩
  exact this l hl
 have hp:=hi.pick l hl1
 have hcall:=spec F _ w hi.flt (fun φ hφ=>hΦ F w hi.facts φ hφ) hp.owns (fun i k hik hk=>⟨(hp.nlt i k hik hk).1,(hp.nlt i k hik hk).2.2⟩) hp.apart
 refine wpList_step fun K hK=>?_
 rw [Q5J hf hg,if_pos rfl]
 unfold Oper.wp
 rw [hrun a w hf,Oper.upon_enter]
 refine hcall.mono ?_
 rintro e w' ⟨v,Φr,Hr,rfl,hR,hh⟩
 exact hK _ _ (next v Φr Hr hR a w' hf (hi.after hl hh))
theorem dyn_run {f:FuncId} {y:Operand} {xs:Array Operand} {ts:Array TypeId} {args0 args:List Value} {caps:Array Value} (ho:o.op=.call { callee:=.value y,args:=xs,argTypes:=ts })(hy:evS S y=some (.func (.func f) #[] caps))(hx:evL S xs.toList=some args0)
  (hfn:Q15 P f=true) (ha:args0++caps.toList=args) : ∀ a w,Frm n S a→(execOp a.eval o).run P w=.ok (.enter f args.toArray) w:=by
 intro a w hf
 have hargs:xs.map a.eval=args0.toArray:=by
  have:=hf.evalL hx
  have h0:xs=xs.toList.toArray:=by simp
  rw [← this,h0,List.map_toArray]
 have h2:(resolve a.eval { callee:=.value y,args:=xs,argTypes:=ts } o.type).run P w=.ok { target:=.fn (.func f) caps,args:=args0.toArray } w:=by
  simp [resolve,hf.eval hy,Deferred.ofValue,hargs]
 have h3:args0.toArray++caps=args.toArray:=by rw [← ha];simp
 unfold execOp
 simp only [ho,Sem.run_bind,h2,Result.andThen_ok]
 simp [invoke,QbA hfn,h3]
theorem Q1B {f:FuncId} {y:Operand} {xs:Array Operand} {ts:Array TypeId} {args0 args:List Value} {caps:Array Value} {Φf Hf:List Fact} {R:Value→List Fact→List Fact→Prop} (l m:List Nat)(hg:Q18 ops S o=some true)(hd:o.dst=some d)(hn:Nat.blt d n=true)(hS:Q4p d S=S')
  (ho:o.op=.call { callee:=.value y,args:=xs,argTypes:=ts }) (hy:evS S y=some (.func (.func f) #[] caps)) (hx:evL S xs.toList=some args0) (hfn:Q15 P f=true) (ha:args0++caps.toList=args)
  (hH:Q1d H l=Hf) (spec:QY P f args Φf Hf R) (hΦ : ∀ F w,(∀ ψ∈Φ,ψ.p F w)→∀ φ∈Φf,φ.p F w) (hl:Q2o (l++m) H.length=true) (hm:Q1d H m=H')
  (next : ∀ v Φr Hr,R v Φr Hr→WL P C n Q (Φr++Φ) (Hr++H') ((d,v) :: S') ops rest):WL P C n Q Φ H S ops (o :: rest) :=
 call_any l m hg (dyn_run ho hy hx hfn ha) hH spec hΦ hl hm fun v Φr Hr hR a w hf hw=>by rw [hd];exact next v Φr Hr hR _ w (hf.put (Nat.le_of_ble_eq_true hn) hS) hw
theorem Q26 {f:FuncId} {xs:Array Operand} {caps:List Value} (hg:Q18 ops S o=some true)(hd:o.dst=some d)(hn:Nat.blt d n=true)(hS:Q4p d S=S')(ho:o.op=.makeFunc (.func f) #[] xs)(hx:evL S xs.toList=some caps)
  (next:WL P C n Q Φ H ((d,.func (.func f) #[] caps.toArray) :: S') ops rest):WL P C n Q Φ H S ops (o :: rest) :=
 Qc5 hg hd hn hS (fun a w hf _=>by
  have hargs:xs.map a.eval=caps.toArray:=by
   have:=hf.evalL hx
   have h0:xs=xs.toList.toArray:=by simp
   rw [← this,h0,List.map_toArray]
  simp [execOp,ho,Instr.makeFunc,hargs]) next
end
end Go.Proofs.YtbgodclhmgmcgaaGreatDoor
namespace Go.Proofs.YtbgodclhmgmcgaaGreatDoor
open Go Go.RowKit
theorem set_get {α:Type} {l:List α} {k:Nat} {x : α} (h:l[k]? =some x):l.set k x=l:=by
 obtain ⟨h1,rfl⟩:=List.getElem?_eq_some_iff.1 h
 exact List.set_getElem_self h1
end Go.Proofs.YtbgodclhmgmcgaaGreatDoor
namespace Go.Proofs.YtbgodclhmgmcgaaGreatDoor
open Go.RowKit
def tPtr (P:Program)(t:Nat):Option Nat:=match P.underlying t with
 | some (.pointer e)=>some e
 | _=>none
theorem tPtr_run {P:Program} {t e:Nat} (h:tPtr P t=some e):P.underlying t=some (.pointer e):=by
 unfold tPtr at h
 split at h
 · rename_i hu;cases h;exact hu
 · cases h
theorem eqPtr {P:Program} {t e:Nat} (ht:tPtr P t=some e)(n:Nat)(a:Option Addr)(w:World):(Op.equalIn (n+1) t (.pointer a) (.pointer none)).run P w=.ok a.isNone w:=by
 cases a <;> simp [Op.equalIn,run_underlying (tPtr_run ht)]
theorem neqP {P:Program} {t e:Nat} (ht:tPtr P t=some e)(x y:Operand)(a:Option Addr)(w:World):(do eqGuard .neq t x y (.pointer a) (.pointer none);binOp .neq t (.pointer a) (.pointer none):Sem Value).run P w=.ok (.bool (!a.isNone)) w:=by
 rw [Sem.run_bind,show (eqGuard .neq t x y (.pointer a) (.pointer none)).run P w=.ok () w from rfl,Result.andThen_ok]
 have h:=eqPtr ht 9999 a w
 simp only [binOp]
 simp [Op.equal,Op.maxDepth,h]
theorem eqlP {P:Program} {t e:Nat} (ht:tPtr P t=some e)(x y:Operand)(a:Option Addr)(w:World):(do eqGuard .eql t x y (.pointer a) (.pointer none);binOp .eql t (.pointer a) (.pointer none):Sem Value).run P w=.ok (.bool a.isNone) w:=by
 rw [Sem.run_bind,show (eqGuard .eql t x y (.pointer a) (.pointer none)).run P w=.ok () w from rfl,Result.andThen_ok]
 have h:=eqPtr ht 9999 a w
 simp only [binOp]
 simp [Op.equal,Op.maxDepth,h]
end Go.Proofs.YtbgodclhmgmcgaaGreatDoor
