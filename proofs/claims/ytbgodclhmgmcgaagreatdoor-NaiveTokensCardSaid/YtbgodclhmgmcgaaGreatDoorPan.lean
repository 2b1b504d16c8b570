import Derived.Test.YtbgodclhmgmcgaaGreatDoorAuto
import Derived.Test.YtbgodclhmgmcgaaGreatDoorPtr
import Derived.Test.YtbgodclhmgmcgaaGreatDoorIdx
import Derived.Defers
import Derived.Recover
namespace Go.Proofs.YtbgodclhmgmcgaaGreatDoor
open Go Go.RowKit
def oneP (u:Value):List PanicEntry:=[{ v:=u,recovered:=false }]
def RetX (C:Ctx)(u:Value)(e:Ending)(w:World):Prop:=e=.panicked (oneP u)∧QC C [] [] w
def SpecX (P:Program)(f:FuncId)(args:List Value)(Φ Hin:List Fact)(u:Value):Prop :=
 ∀ (F:Q1O) (N:Nat → Q1O) (w:World),(∀ k,F k → k < w.heap.size) → (∀ φ ∈ Φ,φ.p F w) → (∀ (i:Nat) (h:Fact),Hin[i]? = some h → h.op (N i) F w) →
   (∀ i k,i < Hin.length→N i k→k < w.heap.size∧¬ F k)→(∀ i j k,i < Hin.length→j < Hin.length→i≠j→N i k→¬ N j k)→
   Calls P f args.toArray w (RetX ⟨w,fun k=>∃ i,i < Hin.length∧N i k,F⟩ u)
theorem spec_ofD {P:Program} {f:FuncId} {fn:Func} {body:Code} {n:Nat} {args:List Value} {S:List (Nat×Value)} {Φ Hin:List Fact} {R:Value→List Fact→List Fact→Prop}
  (hf:P.funcs[f]? =some fn) (hb:fn.body=some body) (hn:fn.ntmps=n) (hle:Nat.ble args.length n=true) (hS:zipS 0 args=S) (h : ∀ C,WC P C ⟨n,[]⟩ (bodyPostD P fn (Ret C R)) Φ Hin S body):QY P f args Φ Hin R:=by
 intro F N w hF hΦ hH hlt hap
 refine calls_of_wp_defers hf hb (h ⟨w,fun k=>∃ i,i < Hin.length∧N i k,F⟩ _ w ⟨?_,rfl,?_⟩ ⟨F,N,hF,fun _ h=>h,fun _ h=>.inl h,hΦ,hH,fun i k hi hk=>⟨(hlt i k hi hk).1,.inr ⟨i,hi,hk⟩,(hlt i k hi hk).2⟩,hap,Mod.refl _ _⟩)
 ·have:=Nat.le_of_ble_eq_true hle
  simp [hn];try omega
 ·intro x hx
  rw [← hS] at hx
  obtain ⟨_,h2⟩:=zipS_mem hx
  rw [Nat.sub_zero] at h2
  have hl:=(List.getElem?_eq_some_iff.1 h2).1
  rw [Array.getElem?_append_left (by simpa using hl)]
  simpa using h2
section
variable {P:Program} {C:Ctx} {n:FD} {Q:Exit → Act → World → Prop} {Φ Φ' : List Fact} {H H' : List Fact} {S S' : List (Nat × Value)} {ops:Array Oper} {rest:List Oper} {o:Oper} {d:Nat}
theorem Q3A {ch:List PanicEntry} {K:Act→World→Prop} (h:WE C n Q Φ H S (.panic ch)):WE C n (Exit.then K Q) Φ H S (.panic ch):=h
theorem Q5b {ch:List PanicEntry} {id:Nat} (h:WE C n Q Φ H S (.panic ch)):WE C n (Exit.inBlock id Q) Φ H S (.panic ch):=h
theorem QC.nada {w:World} (h:QC C Φ H w):QC C [] [] w:=by
 have h1:=h.pick [] rfl
 exact (h1:QC C Φ (Q1d H []) w).sub fun φ hφ=>by cases hφ
theorem QC.blk1 {w:World} (h:QC C Φ H w)(k:Nat) {g t:Nat} {a:Value} (hk:H[k]? =some (.blk g [a] t)) : ∃ a t,w.heap[g]? =some (.cells #[a] t):=by
 obtain ⟨F,N,hi⟩:=h
 exact ⟨a,t,(hi.owns k _ hk).2⟩
theorem Qeq {fn:Func} {m:Nat} {u:Value}:WE C ⟨m,[]⟩ (bodyPost P fn (RetX C u)) Φ H S (.panic (oneP u)):=fun _ _ hf hw=>⟨hf.defers,rfl,hw.nada⟩
theorem we_row {α:Type} {e' : Exit} {g e sz m:Nat} {cs:List Value} (R:Rep α)(l:List α)(k:Nat)(hk:H[k]? =some (.blk g cs e))(hch : ∀ F w,(∀ ψ∈Φ,ψ.p F w)→Q1h sz (R.p F w) cs l)(hm:m=l.length)(hle:m≤9223372036854775807)
 (hH:H.set k (.own e sz R (.slice (some ⟨g,0,none⟩) m m) l)=H') (next:WE C n Q Φ H' S e'):WE C n Q Φ H S e':=fun a w hf hw=>next a w hf (hw.row k hk (fun F=>hch F w) hm hle hH)
def plainT (P:Program)(t:TypeId):Bool:=match P.underlying t with
 | some (.interface _)=>false
 | some _=>true
 | none=>false
theorem wl_makeIface {t:TypeId} {x:Operand} {v:Value} (hg:Q18 ops S o=some true)(hd:o.dst=some d)(hn:Nat.blt d n=true)(hS:Q4p d S=S')(ho:o.op=.makeInterface t x)(hx:evS S x=some v)(ht:plainT P t=true)
  (next:WL P C n Q Φ H ((d,.iface t v) :: S') ops rest):WL P C n Q Φ H S ops (o :: rest) :=
 Qc5 hg hd hn hS (fun a w hf _=>by
  unfold plainT at ht
  unfold execOp
  simp only [ho,hf.eval hx,Instr.makeInterface,Sem.run_bind]
  split at ht
  · cases ht
  ·rename_i u hne hu
   simp only [run_underlying hu,Result.andThen_ok]
   rfl
  · cases ht) next
theorem wl_panic {x:Operand} {t:TypeId} {v:Value} (hg:Q18 ops S o=some true)(ho:o.op=.panic x)(hx:evS S x=some (.iface t v))
  (next:WE C n Q Φ H S (.panic (oneP (.iface t v)))):WL P C n Q Φ H S ops (o :: rest):=by
 intro a w hf hw
 refine wpList_step fun K hK=>?_
 rw [Q5J hf hg,if_pos rfl]
 unfold Oper.wp
 have hrun:(execOp a.eval o).run P w=.halt (.panic (.iface t v)) w:=by
  unfold execOp
  simp only [ho,hf.eval hx,Instr.panic]
  rfl
 rw [hrun,Oper.upon_panic]
 exact next a w hf hw
theorem callX {f:FuncId} {args:List Value} {Φf Hf:List Fact} {u:Value} (l m:List Nat)(hg:Q18 ops S o=some true)
  (hr : ∀ a w,Frm n S a→(execOp a.eval o).run P w=.ok (.enter f args.toArray) w)
  (hH:Q1d H l=Hf) (spec:SpecX P f args Φf Hf u) (hΦ : ∀ F w,(∀ ψ∈Φ,ψ.p F w)→∀ φ∈Φf,φ.p F w) (hl:Q2o (l++m) H.length=true) (hm:Q1d H m=H')
  (next:WE C n Q Φ H' S (.panic (oneP u))):WL P C n Q Φ H S ops (o :: rest):=by
 subst hH;subst hm
 intro a w hf ⟨F,N,hi⟩
 have hl1:Q2o l H.length=true:=by
  clear spec next
  have : ∀ (l:List Nat),Q2o (l++m) H.length=true→Q2o l H.length=true:=by
   intro l
   induction l with
   | nil=>intro _;rfl
   | cons i l ih =>
     intro h
     simp only [List.cons_append,Q2o,Bool.and_eq_true,Bool.not_eq_true',List.any_append,Bool.or_eq_false_iff] at h ⊢
     exact ⟨⟨h.1.1,h.1.2.1⟩,ih h.2⟩
  exact this l hl
 have hp:=hi.pick l hl1
 have hcall:=spec F _ w hi.flt (fun φ hφ=>hΦ F w hi.facts φ hφ) hp.owns (fun i k hik hk=>⟨(hp.nlt i k hik hk).1,(hp.nlt i k hik hk).2.2⟩) hp.apart
 refine wpList_step fun K hK=>?_
 rw [Q5J hf hg,if_pos rfl]
 unfold Oper.wp
 rw [hr a w hf,Oper.upon_enter]
 refine hcall.mono ?_
 rintro e w' ⟨rfl,hh⟩
 have h2:=hi.after hl hh
 simp only [List.nil_append] at h2
 exact next a w' hf h2
theorem Qef {f:FuncId} {xs:Array Operand} {ts:Array TypeId} {args:List Value} {Φf Hf:List Fact} {u:Value} (l m:List Nat)(hg:Q18 ops S o=some true)
  (ho:o.op=.call { callee:=.value (.func f),args:=xs,argTypes:=ts }) (hx:evL S xs.toList=some args) (hfn:Q15 P f=true)
  (hH:Q1d H l=Hf) (spec:SpecX P f args Φf Hf u) (hΦ : ∀ F w,(∀ ψ∈Φ,ψ.p F w)→∀ φ∈Φf,φ.p F w) (hl:Q2o (l++m) H.length=true) (hm:Q1d H m=H')
  (next:WE C n Q Φ H' S (.panic (oneP u))):WL P C n Q Φ H S ops (o :: rest) :=
 callX l m hg (fun a w hf=>by
  have hargs:xs.map a.eval=args.toArray:=by
   have:=hf.evalL hx
   have h0:xs=xs.toList.toArray:=by simp
   rw [← this,h0,List.map_toArray]
  have hev:a.eval (.func f)=.func (.func f) #[] #[]:=rfl
  have h2:(resolve a.eval { callee:=.value (.func f),args:=xs,argTypes:=ts } o.type).run P w=.ok { target:=.fn (.func f) #[],args:=args.toArray } w:=by
   simp [resolve,hev,Deferred.ofValue,hargs]
  unfold execOp
  simp only [ho,Sem.run_bind,h2,Result.andThen_ok]
  simp [invoke,QbA hfn]) hH spec hΦ hl hm next
theorem wl_defer {k:Nat} {f:FuncId} {y:Operand} {ts:Array TypeId} {caps:Array Value} (hg:Q18 ops S o=some true)(ho:o.op=.defer { callee:=.value y,args:=#[],argTypes:=ts })(hd:o.dst=none)
  (hy:evS S y=some (.func (.func f) #[] caps)) (next:WL P C ⟨k,[{ target:=.fn (.func f) caps,args:=#[] }]⟩ Q Φ H S ops rest):WL P C ⟨k,[]⟩ Q Φ H S ops (o :: rest):=by
 intro a w hf hw
 refine wpList_step fun K hK=>?_
 rw [Q5J hf hg,if_pos rfl]
 unfold Oper.wp
 have hrun:(execOp a.eval o).run P w=.ok (.defer { target:=.fn (.func f) caps,args:=#[] }) w:=by
  unfold execOp
  simp [ho,resolve,hf.eval hy,Deferred.ofValue]
 rw [hrun,Oper.upon_defer,hd]
 exact hK _ _ (next _ w ⟨hf.size,by simp [Act.put,hf.defers],hf.at_⟩ hw)
def Idle (P:Program)(f:FuncId)(args:Array Value):Prop:=∀ w,CallsD P f args .returning w fun e u' w'=>e=.returned (.tuple #[])∧u' =.returning∧w' =w
theorem we_idle {fn:Func} {m:Nat} {f:FuncId} {caps:Array Value} {R:Ending→World→Prop} {e:Exit} (hfn:Q15 P f=true)(hI:Idle P f caps)(he:e=.ret∨e=.normal)
  (h:WE C ⟨m,[]⟩ (bodyPost P fn R) Φ H S e):WE C ⟨m,[{ target:=.fn (.func f) caps,args:=#[] }]⟩ (bodyPostD P fn R) Φ H S e:=by
 intro a w hf hw
 have h1:bodyPost P fn R .ret { a with defers:=[] } w:=by
  have:=h { a with defers:=[] } w ⟨hf.size,rfl,hf.at_⟩ hw
  rcases he with rfl | rfl <;> exact this
 have h2:Leaves P fn a.tmps R a.defers .returning w:=by
  rw [hf.defers]
  refine leaves_cons (f:=f) (args:=caps) (by simp) (by simp [invoke,QbA hfn]) ?_
  refine (hI w).mono ?_
  rintro e u' w' ⟨rfl,rfl,rfl⟩
  obtain ⟨_,v,hv,hR⟩:=h1
  exact ⟨v,hv,hR⟩
 rcases he with rfl | rfl <;> exact h2
def Recovers (P:Program)(f:FuncId)(args:Array Value)(u:Value)(W:World→World→Prop):Prop :=
 ∀ w w1,W w w1→CallsD P f args (.panicking (oneP u)) w fun e u' w'=>e=.returned (.tuple #[])∧u' =.panicking [{ v:=u,recovered:=true }]∧w' =w1
theorem we_recover {fn:Func} {m:Nat} {f:FuncId} {caps:Array Value} {R:Ending→World→Prop} {u:Value} {W:World→World→Prop} (hfn:Q15 P f=true)(hI:Recovers P f caps u W)
  (hW : ∀ w,QC C Φ H w→∃ w1,W w w1∧QC C Φ' H' w1)
  (h:WE C ⟨m,[]⟩ (bodyPost P fn R) Φ' H' S .ret):WE C ⟨m,[{ target:=.fn (.func f) caps,args:=#[] }]⟩ (bodyPostD P fn R) Φ H S (.panic (oneP u)):=by
 intro a w hf hw
 obtain ⟨w1,h1,h2⟩:=hW w hw
 have h3:bodyPost P fn R .ret { a with defers:=[] } w1:=h { a with defers:=[] } w1 ⟨hf.size,rfl,hf.at_⟩ h2
 show Leaves P fn a.tmps R a.defers (.panicking (oneP u)) w
 rw [hf.defers]
 refine leaves_cons (f:=f) (args:=caps) (by simp) (by simp [invoke,QbA hfn]) ?_
 refine (hI w w1 h1).mono ?_
 rintro e u' w' ⟨rfl,rfl,rfl⟩
 obtain ⟨_,v,hv,hR⟩:=h3
 exact ⟨v,hv,hR⟩
theorem wl_appendF {α:Type} {t e sz by_ g tb:Nat} {s x:Operand} {R:Rep α} {p:Option Addr} {z:Value} {l:List α} {cs:List Value} {c cp cc:Nat} (l2:List α)(k j:Nat)(hg:Q18 ops S o=some true)(hd:o.dst=some d)(hn:Nat.blt d n=true)(hS:Q4p d S=S')
  (ho:o.op=.call { callee:=.builtin .append,args:=#[s,x],argTypes:=#[t,t] }) (hφ : Φ[k]? =some (.sli sz R p c l)) (hs:evS S s=some (.slice p l.length cc)) (hcc:cc≤l.length) (hψ:H[j]? =some (.blk g cs tb)) (hx:evS S x=some (.slice (some ⟨g,0,none⟩) l2.length cp))
  (hch : ∀ F w,(∀ ψ∈Φ,ψ.p F w)→Q1h sz (R.p F w) cs l2) (hpos : 0 < l2.length)
  (he:Q2d P t=some e) (hr:tRow P e=some (z,sz,by_)) (hzs:Nat.beq z.cells.size sz=true) (hsz:Nat.blt 0 sz=true) (h63:l.length+l2.length≤9223372036854775807) (hby:(l.length+l2.length) * by_≤140737488355328)
  (next : ∀ p' c',WL P C n Q Φ (.own e sz R (.slice p' (l++l2).length c') (l++l2) :: H) ((d,.slice p' (l++l2).length c') :: S') ops rest):WL P C n Q Φ H S ops (o :: rest):=by
 refine Qaq hg hd hn hS fun a w hf hw=>?_
 obtain ⟨F,N,hi⟩:=hw
 obtain ⟨p1,n1,c1,xs,e1,e2,_,_,hch0,hrow⟩:=(hi.facts _ (Q1f hφ):Sli F w sz (R.p F w) (.slice p l.length c) l)
 cases e1
 have hys:=hch F w hi.facts
 have hcell:=Qbr (hi.owns j _ hψ).2
 obtain ⟨i,hinfo,hz,hsize,hbytes⟩:=Q9D hr
 have hzs':=Nat.eq_of_beq_eq_true hzs
 have hsz':=Nat.le_of_ble_eq_true hsz
 subst hsize;subst hbytes
 have hnews : ∀ j u,cs[j]? =some u→w.cell? ((⟨g,0,none⟩ : Addr).add j)=some u:=fun j u hj=>by rw [Q4R];exact hcell j u hj
 have hxl:xs.length=l.length * i.size:=hch0.length
 have hcl:cs.length=l2.length * i.size:=hys.length
 have hM:l.length+l2.length≤maxLen:=by unfold maxLen;exact h63
 have grown : ∀ (old:Nat),old < l.length+l2.length→
    (w.drew.alloc (.cells (xs.toArray ++ cs.toArray ++ Builtin.zeroCells z.cells (grownCap w (l.length + l2.length) old e - (l.length + l2.length))) e)).ownsRow 0 e i.size
     (.slice (some ⟨w.heap.size,0,none⟩) (l.length+l2.length) (grownCap w (l.length+l2.length) old e)) (l.length+l2.length) (xs++cs)∧
    w.grownBy (w.drew.alloc (.cells (xs.toArray++cs.toArray++Builtin.zeroCells z.cells (grownCap w (l.length+l2.length) old e - (l.length+l2.length))) e)) none:=by
  intro old hold
  have hge:=grownCap_ge w (l.length+l2.length) old e
  have hcm:grownCap w (l.length+l2.length) old e≤maxLen:=grownCap_le_maxLen w (l.length+l2.length) old e hM
  have hlen:(xs++cs).length=(l.length+l2.length) * i.size:=by rw [List.length_append,hxl,hcl,Nat.add_mul]
  refine ⟨⟨hlen,.inr ⟨w.heap.size,_,_,rfl,Nat.zero_le _,heap_alloc_new w.drew _,hge,hcm,?_,?_⟩⟩,⟨rfl,rfl,rfl,by simp,fun k hk _=>Go.heap_alloc_old w.drew _ (show k < w.drew.heap.size from hk)⟩⟩
  · simp only [Array.size_append,List.size_toArray,size_zeroCells,hzs',hxl,hcl,← Nat.add_mul]
    congr 1
    omega
  · simp only [Array.toList_append,List.append_assoc]
    rw [← List.append_assoc,← hlen]
    exact List.take_left
 have hrun : ∃ v' w',(Builtin.append_ #[t,t] o.type #[.slice p l.length cc,.slice (some ⟨g,0,none⟩) l2.length cp]).run P w = .ok v' w' ∧ w'.ownsRow 0 e i.size v' (l.length + l2.length) (xs ++ cs) ∧ v'.ownBlock = some w.heap.size ∧ w.grownBy w' none:=by
  cases p with
  | none =>
    have h0:l.length=0:=Nat.eq_zero_of_not_pos fun h=>by obtain ⟨b,off,hb,_⟩:=hrow h;cases hb
    have hx0:xs=[]:=List.eq_nil_of_length_eq_zero (by rw [hxl,h0,Nat.zero_mul])
    have hr:=run_append_nil (P:=P) w t o.type e i z (Q1A he) hinfo hz ⟨g,0,none⟩ l2.length cp cs hcl hnews (by omega) (by omega) (by have hb:=hby;rw [h0,Nat.zero_add] at hb;omega)
    have hgr:=grown 0 (by omega)
    obtain rfl:cc=0:=by omega
    rw [hx0,h0] at hgr ⊢
    simp only [Nat.zero_add,List.nil_append,Array.empty_append] at hgr ⊢
    exact ⟨_,_,hr,hgr.1,rfl,hgr.2⟩
  | some b =>
    have holds : ∀ j u,xs[j]? =some u→w.cell? (b.add j)=some u:=fun j u hj=>by
     have hpos' : 0 < l.length:=Nat.pos_of_ne_zero fun h0=>by
      have:=(List.getElem?_eq_some_iff.1 hj).1
      rw [hxl,h0,Nat.zero_mul] at this
      exact absurd this (Nat.not_lt_zero _)
     obtain ⟨b',off,hb,_,hc⟩:=hrow hpos'
     cases hb
     rw [Q4R];exact hc j u hj
    have hr:=run_append_grow (P:=P) w t o.type e i z (Q1A he) hinfo hz b l.length cc xs hxl holds ⟨g,0,none⟩ l2.length cp cs hcl hnews (by omega) (by omega) (growslice_fits (by omega) hby)
    have hgr:=grown cc (by omega)
    exact ⟨_,_,hr,hgr.1,rfl,hgr.2⟩
 obtain ⟨v',w',hrun,hown',hb,hgrow⟩:=hrun
 have hB:Below w.heap.size w w':=⟨hgrow.os,hgrow.tape,hgrow.output,hgrow.size,fun k hk=>hgrow.block k hk (by simp)⟩
 have hF:Q2W F w w':=fun q hq=>hB.block q (hi.flt q hq)
 have hOL:OwnL 0 e i.size (R.p F w') (l++l2) v' w':=⟨xs++cs,by simpa using hown',(hch0.append hys).mono fun cs y _ h=>R.good (fun _ h=>h) hF h⟩
 have hlt':=hOL.lt
 obtain ⟨p',n',c',rfl⟩:=hOL.shape
 obtain rfl:=hOL.len
 refine ⟨_,w',by simp [execOp,ho,resolve,invoke,builtin,hf.eval hs,hf.eval hx,hrun],Φ,_,⟨F,_,(hi.grow hB).push (.own e i.size R (.slice p' (l++l2).length c') (l++l2)) (fun q=>q=w.heap.size) ⟨fun q hq=>?_,hOL⟩ ?_ ?_⟩,next p' c'⟩
 · rw [hb] at hq;exact (Option.some.inj hq).symm
 ·rintro q rfl
  exact ⟨(hlt' _ hb).2,.inl hi.mod.size,fun hf=>Nat.lt_irrefl _ (hi.flt _ hf)⟩
 ·rintro i q hl rfl hn
  exact Nat.lt_irrefl _ (hi.nlt i _ hl hn).1
end
theorem run_store1 {P:Program} {ρ:Operand→Value} {o:Oper} {t t0 g:Nat} {x y:Operand} {a0 v:Value} {w:World} (ho:o.op=.store t x y)(hx : ρ x=.pointer (some ⟨g,0,none⟩))(hy : ρ y=v)(hv:v.cells.toList=[v])(hs:Q1m P t=some 1)(h1:v.oneCell' =true)
  (hc:w.heap[g]? =some (.cells #[a0] t0)):(execOp ρ o).run P w=.ok .skip (Q6D w g 0 [v]):=by
 have:=Q5H (P:=P) [v] [a0] 0 0 w hc (by simp) (fun u hu=>by obtain rfl:=List.mem_singleton.1 hu;exact h1)
 have hsz:v.cells.size=1:=by rw [← Array.length_toList,hv];rfl
 simp only [execOp,ho,hx,hy,Instr.storeAt,Instr.sureAddr,storeVar,Sem.run_bind,Sem.run_pure,Result.andThen_ok,Q3f hs,hsz,hv]
 simp [this]
theorem wpS_store {P:Program} {Q:Exit→Act→List Frame→World→Prop} {a:Act} {cs:List Frame} {id:Nat} {o:Oper} {t t0 g:Nat} {x y:Operand} {a0 v:Value} {w:World} (hg:o.guard=none)(hd:o.dst=none)(ho:o.op=.store t x y)(hx:a.eval x=.pointer (some ⟨g,0,none⟩))(hy:a.eval y=v)(hv:v.cells.toList=[v])(hs:Q1m P t=some 1)(h1:v.oneCell' =true)
  (hc:w.heap[g]? =some (.cells #[a0] t0)) (h:Q .normal a cs (Q6D w g 0 [v])):(Code.region id #[o] false).wpS P Q a cs w:=by
 apply wpS_region
 have hrun:=run_store1 (P:=P) ho hx hy hv hs h1 hc
 have hw:Region.wanted o (yielded #[o] a.tmps)=true:=by simp [Region.wanted,hg]
 show wpOpsS P #[o] Q [0] a cs w
 simp only [wpOpsS,List.getElem?_toArray,List.getElem?_cons_zero,hw,if_true,hrun,Oper.upon,hd]
 exact h
end Go.Proofs.YtbgodclhmgmcgaaGreatDoor
