import Derived.Test.YtbgodclhmgmcgaaGreatDoorFun
import Derived.Maps.AppendAt
namespace Go.Proofs.YtbgodclhmgmcgaaGreatDoor
open Go.RowKit
def Q8B {α Λ:Type} (R:Rep α)(cells : α→Λ→List Value)(pure : α→Λ→Prop)(facts : α→Λ→List Fact):Prop :=
 ∀ F w cs x,R.p F w cs x→∃ r : Λ,cs=cells x r∧pure x r∧∀ φ∈facts x r,φ.p F w
def tRow (P:Program)(e:Nat):Option (Value×Nat×Nat):=match P.info? e with
 | some i=>i.zero.map fun z=>(z,i.size,i.bytes)
 | none=>none
theorem Q9D {P:Program} {e:Nat} {z:Value} {sz by_:Nat} (h:tRow P e=some (z,sz,by_)) : ∃ i,P.info? e=some i∧i.zero=some z∧i.size=sz∧i.bytes=by_:=by
 unfold tRow at h
 split at h
 ·rename_i i hi
  cases hz:i.zero with
  | none=>simp [hz] at h
  | some z'=>simp [hz] at h;exact ⟨i,hi,by rw [hz,h.1],h.2.1,h.2.2⟩
 · cases h
section idx
variable {P:Program} {C:Ctx} {n:FD} {Q:Exit → Act → World → Prop} {Φ Φ' : List Fact} {H H' : List Fact} {S S' : List (Nat × Value)} {ops:Array Oper} {rest:List Oper} {o:Oper} {d:Nat} {c:Code}
theorem open_core {Λ:Type} {pure : Λ→Prop} {facts : Λ→List Fact} {w:World} (h:QC C Φ H w)(hop : ∀ F,(∀ ψ∈Φ,ψ.p F w)→∃ r : Λ,pure r∧∀ φ∈facts r,φ.p F w) : ∃ r,pure r∧QC C (facts r++Φ) H w:=by
 obtain ⟨F,N,hi⟩:=h
 obtain ⟨r,h1,h2⟩:=hop F hi.facts
 refine ⟨r,h1,F,N,{ hi with facts:=fun φ hφ=>?_ }⟩
 rcases List.mem_append.1 hφ with hφ | hφ
 · exact h2 φ hφ
 · exact hi.facts φ hφ
theorem Q1i {α Λ:Type} {R:Rep α} {cells : α→Λ→List Value} {pure : α→Λ→Prop} {facts : α→Λ→List Fact} {cs:List Value} {x : α} (op:Q8B R cells pure facts)(k:Nat)(hk : Φ[k]? =some (.rep R cs x))
  (next : ∀ r : Λ,cs=cells x r→pure x r→WL P C n Q (facts x r++Φ) H S ops rest):WL P C n Q Φ H S ops rest:=fun a w hf hw=>by
 obtain ⟨r,⟨h1,h2⟩,h3⟩:=open_core (pure:=fun r=>cs=cells x r∧pure x r) (facts:=facts x) hw fun F hΦ=>by
  obtain ⟨r,h1,h2,h3⟩:=op F w cs x (hΦ _ (Q1f hk));exact ⟨r,⟨h1,h2⟩,h3⟩
 exact next r h1 h2 a w hf h3
theorem wc_know {p:Prop} (hp : ∀ F w,(∀ ψ∈Φ,ψ.p F w)→p)(next:p→WC P C n Q Φ H S c):WC P C n Q Φ H S c:=fun a w hf hw=>by
 have:p:=by obtain ⟨F,N,hi⟩:=hw;exact hp F w hi.facts
 exact next this a w hf hw
theorem sli_cap {α:Type} {sz:Nat} {R:Rep α} {p:Option Addr} {c:Nat} {l:List α} {F:Q1O} {w:World} (h:(Fact.sli sz R p c l).p F w):l.length≤c∧c≤9223372036854775807:=by
 obtain ⟨p',n',c',xs,e,hn,hc,hm,_⟩:=h
 cases e;exact ⟨hc,hm⟩
theorem wl_index {α:Type} {t e sz:Nat} {x i:Operand} {R:Rep α} {p:Option Addr} {cp:Nat} {l:List α} {ik:IntKind} {z:Int} (k j:Nat)(hg:Q18 ops S o=some true)(hd:o.dst=some d)(hn:Nat.blt d n=true)(hS:Q4p d S=S')(ho:o.op=.indexAddr t x i)
  (hφ : Φ[k]? =some (.sli sz R p cp l)) (hx:evS S x=some (.slice p l.length cp)) (hi:evS S i=some (.int ik z)) (hz:z=(j:Int)) (hj:j < l.length) (he:Q2d P t=some e) (hs:Q1m P e=some sz)
  (next : ∀ b q cs y,l[j]? =some y→cs.length=sz→WL P C n Q (.cells b q cs :: .rep R cs y :: Φ) H ((d,.pointer (some ⟨b,q,none⟩)) :: S') ops rest):WL P C n Q Φ H S ops (o :: rest):=by
 refine Qaq hg hd hn hS fun a w hf hw=>?_
 obtain ⟨F,N,hi'⟩:=hw
 obtain ⟨p',n',c',xs,he',hn',hc,hm,hch,hrow⟩:=(hi'.facts _ (Q1f hφ):Sli F w sz (R.p F w) (.slice p l.length cp) l)
 cases he'
 obtain ⟨b,off,hp,hF,hcell⟩:=hrow (by omega)
 obtain ⟨cs,hl,hr,hu⟩:=hch.at (List.getElem?_eq_getElem hj)
 subst hp;subst hz
 have hrun:=run_indexAt_sl (P:=P) (c:=cp) (Q1A he) (Q3f hs) rfl hj w (p:=some ⟨b,off,none⟩) (b:=b) (off:=off)
 refine ⟨.pointer (some ⟨b,off+j * sz,none⟩),w,?_,.cells b (off+j * sz) cs :: .rep R cs l[j] :: Φ,H,⟨F,N,{ hi' with facts:=fun φ hφ'=>?_ }⟩,next b _ cs _ (List.getElem?_eq_getElem hj) hl⟩
 ·have h0:(Instr.indexAt t (.slice (some ⟨b,off,none⟩) l.length cp) (.int ik (j:Int))).run P w=.ok (.pointer (some ⟨b,off+j * sz,none⟩)) w:=by
   have h1:(0:Int)≤j∧(j:Int) < l.length:=by omega
   simp [Instr.indexAt,asIntOf,run_underlying (Q1A he),h1,Q3f hs,Addr.add,hj]
  simp [execOp,ho,hf.eval hx,hf.eval hi,h0]
 ·rcases List.mem_cons.1 hφ' with rfl | hφ'
  ·refine ⟨hF,fun i u hi2=>?_⟩
   rw [Nat.add_assoc];exact hcell _ u (hu i u hi2)
  ·rcases List.mem_cons.1 hφ' with rfl | hφ'
   · exact hr
   · exact hi'.facts φ hφ'
theorem QcE {α:Type} {t e sz m g:Nat} {x y:Operand} {R:Rep α} {cp:Nat} {l:List α} {cs:List Value} {v:Value} {u : α} (k j:Nat)
  (hg:Q18 ops S o=some true) (hd:o.dst=none) (ho:o.op=.store t x y)
  (hφ:H[k]? =some (.own e sz R (.slice (some ⟨g,0,none⟩) m cp) l)) (hx:evS S x=some (.pointer (some ⟨g,j * sz,none⟩))) (hj:j < l.length) (hy:evS S y=some v) (hv:v.cells.toList=cs) (hs:Q1m P t=some sz) (hl:Nat.beq cs.length sz=true)
  (hr : ∀ F w,(∀ ψ∈Φ,ψ.p F w)→R.p F w cs u) (hH:H.set k (.own e sz R (.slice (some ⟨g,0,none⟩) m cp) (l.set j u))=H') (next:WL P C n Q Φ H' S ops rest):WL P C n Q Φ H S ops (o :: rest):=by
 have hl':=Nat.eq_of_beq_eq_true hl
 subst hH
 refine wl_do hg hd (fun a w hf hw=>?_) next
 obtain ⟨F,N,hi⟩:=hw
 have hlt:=(List.getElem?_eq_some_iff.1 hφ).1
 obtain ⟨hN,hown⟩:=hi.owns k _ hφ
 have hlen:m=l.length:=hown.len
 have hR:=hr F w hi.facts
 obtain ⟨h1,h2⟩:=hown.put hlen j hR hl' hj
 have hM:Mod (N k) w (Q6D w g (j * sz) cs):=h2.mono fun i _ e=>by rw [e];exact hN g rfl
 refine ⟨Q6D w g (j * sz) cs,?_,⟨F,N,hi.set k hlt hM _ ⟨hN,h1.rel fun cs' x' h=>R.good (fun _ h=>h) (fun q hq=>hM.block q (hi.flt q hq) fun hn=>(hi.nlt k q hlt hn).2.2 hq) h⟩⟩⟩
 have hsz:v.cells.size=sz:=by rw [← hl',← hv];simp
 obtain ⟨xs,ho',hch⟩:=hown
 rcases ho'.2 with ⟨h0,_⟩ | ⟨g',cap,cur,hv',_,hh,hnc,_,hcs,_⟩
 · cases h0
 ·cases hv'
  have hh' : w.heap[g]? =some (.cells cur.toList.toArray e):=by simpa using hh
  have hle:j * sz+sz≤l.length * sz:=by rw [← Nat.succ_mul];exact Nat.mul_le_mul_right _ hj
  have hle2:l.length * sz≤cp * sz:=Nat.mul_le_mul_right _ hnc
  have:=Q5H (P:=P) cs cur.toList (j * sz) 0 w hh' (by simp [hcs,hl'];omega) (fun u hu=>R.one hR u hu)
  simp only [execOp,ho,hf.eval hx,hf.eval hy,Instr.storeAt,Instr.sureAddr,storeVar,Sem.run_bind,Sem.run_pure,Result.andThen_ok,Q3f hs,hsz,hv]
  simp [this]
end idx
def fillG (place:Nat→Option (Nat×Nat)):List Value→List (Nat×Value)→Option (List Value)
 | cs,[]=>some cs
 | cs,(i,v) :: r=>match place i with
   | none=>none
   | some (off,sz)=>match Nat.beq v.cells.size sz && Nat.ble (off + sz) cs.length with
     | true=>fillG place (putL cs off v.cells.toList) r
     | false=>none
theorem foldl_set (off : Nat) : ∀ (l : List Value)(k : Nat)(A : List Value),(l.zipIdx k).foldl (fun (cs : Array Value)(x : Value×Nat)=> cs.setIfInBounds (off+x.2) x.1) A.toArray=(QaQ A (off+k) l).toArray
 | [],_,_=>rfl
 | v :: l,k,A=>by
   rw [List.zipIdx_cons,List.foldl_cons,QaQ]
   have:=foldl_set off l (k+1) (A.set (off+k) v)
   rw [List.setIfInBounds_toArray]
   exact this
theorem fillG_eq {place:Nat→Option (Nat×Nat)} : ∀ {parts:List (Nat×Value)} {cs out:List Value},fillG place cs parts=some out→Instr.fill place cs.toArray parts=some out.toArray
 | [],cs,out,h=>by cases h;rfl
 | (i,v) :: r,cs,out,h=>by
   unfold fillG at h
   unfold Instr.fill
   split at h
   · cases h
   ·rename_i off sz hp
    split at h
    ·rename_i hb
     simp only [Bool.and_eq_true] at hb
     have h1:=Nat.eq_of_beq_eq_true hb.1
     have h2:=Nat.le_of_ble_eq_true hb.2
     have h3:v.cells.toList.length=sz:=by simpa using h1
     have h4:v.cells.zipIdx.foldl (fun cs (x:Value×Nat)=>match x with | (c,j)=>cs.setIfInBounds (off+j) c) cs.toArray=(putL cs off v.cells.toList).toArray:=by
      rw [← Qcv _ _ _ (by omega)]
      have:=foldl_set off v.cells.toList 0 cs
      rw [Nat.add_zero] at this
      rw [← this,← Array.foldl_toList]
      simp [Array.toList_zipIdx]
     simp only [hp,h1]
     have h5 : ¬ (sz≠sz || off+sz > cs.length)=true:=by simp;omega
     simp only [List.size_toArray]
     rw [if_neg h5,h4]
     exact fillG_eq h
    · cases h
def Qd0 (l:List (Nat×Nat))(i:Nat):Option (Nat×Nat):=l[i]?
def Q62 (P:Program)(t:Nat):Option (List (Nat×Nat)):=match P.underlying t with
 | some (.struct fs)=>fs.toList.mapM fun f=>(P.info? f.type).map fun i=>(f.offset,i.size)
 | _=>none
theorem mapM_places {P : Program} (w : World) : ∀ {fs : List Field} {l : List (Nat×Nat)},fs.mapM (fun f=> (P.info? f.type).map fun i=> (f.offset,i.size))=some l→
   (fs.mapM (fun (f:Field)=>do pure (f.offset,← sizeOf f.type):Field→Sem (Nat×Nat))).run P w=.ok l w
 | [],l,h=>by simp at h;subst h;rfl
 | f :: fs,l,h=>by
   rw [List.mapM_cons] at h
   cases hi:P.info? f.type with
   | none=>simp [hi] at h
   | some i =>
     cases hr:fs.mapM (fun f=>(P.info? f.type).map fun i=>(f.offset,i.size)) with
     | none=>simp [hi,hr] at h
     | some r =>
       simp [hi,hr] at h
       subst h
       have:=mapM_places (P:=P) w hr
       simp [sizeOf,typeInfo,hi] at this ⊢
       simp [this]
theorem run_build {P:Program} {t:Nat} {z:Value} {pl:List (Nat×Nat)} {parts:List (Nat×Value)} {out:List Value} (hz:Q4P P t=some z)(hp:Q62 P t=some pl)(hf:fillG (Qd0 pl) z.cells.toList parts=some out)(w:World) :
  (Instr.build t parts.toArray).run P w=.ok (.agg out.toArray) w:=by
 unfold Q62 at hp
 split at hp
 ·rename_i fs hu
  have h1:=mapM_places w hp
  have h2:=fillG_eq hf
  have h3:(fs.mapM (fun (f:Field)=>do pure (f.offset,← sizeOf f.type):Field→Sem (Nat×Nat))).run P w=.ok pl.toArray w:=by
   rw [Array.mapM_eq_mapM_toList]
   simp at h1 ⊢
   simp [h1]
  unfold Instr.build
  simp only [Sem.run_bind,Q9E hz,Result.andThen_ok,run_underlying hu,Sem.run_pure] at h3 ⊢
  simp only [h3,Result.andThen_ok]
  have h4:(fun i=>pl.toArray[i]?)=Qd0 pl:=by funext i;simp [Qd0]
  have h5:z.cells=z.cells.toList.toArray:=by simp
  simp only [h4,List.toList_toArray]
  rw [h5,h2]
  rfl
 · cases hp
def evP (S:List (Nat×Value)):List (Nat×Operand)→Option (List (Nat×Value))
 | []=>some []
 | (i,x) :: l=>match evS S x,evP S l with
   | some v,some vs=>some ((i,v) :: vs)
   | _,_=>none
theorem Frm.evalP {n : FD} {S : List (Nat×Value)} {a : Act} (h : Frm n S a) : ∀ {l : List (Nat×Operand)} {vs : List (Nat×Value)},evP S l=some vs→l.map (fun x=> (x.1,a.eval x.2))=vs
 | [],_,e=>by cases e;rfl
 | (i,x) :: l,vs,e=>by
   unfold evP at e
   split at e
   · rename_i v vs' hv hvs;cases e;simp [h.eval hv,h.evalP hvs]
   · cases e
def zeros (z:List Value):Nat→List Value
 | 0=>[]
 | m+1=>z++zeros z m
section lit
variable {P:Program} {C:Ctx} {n:FD} {Q:Exit → Act → World → Prop} {Φ Φ' : List Fact} {H H' : List Fact} {S S' : List (Nat × Value)} {ops:Array Oper} {rest:List Oper} {o:Oper} {d:Nat} {c:Code}
theorem Q1v {t:Nat} {ps:Array (Nat×Operand)} {z:Value} {pl:List (Nat×Nat)} {parts:List (Nat×Value)} {out:List Value} (hg:Q18 ops S o=some true)(hd:o.dst=some d)(hn:Nat.blt d n=true)(hS:Q4p d S=S')(ho:o.op=.build t ps)
  (hz:Q4P P t=some z) (hp:Q62 P t=some pl) (he:evP S ps.toList=some parts) (hf:fillG (Qd0 pl) z.cells.toList parts=some out) (next:WL P C n Q Φ H ((d,.agg out.toArray) :: S') ops rest):WL P C n Q Φ H S ops (o :: rest) :=
 Qc5 hg hd hn hS (fun a w hfr _=>by
  have h0:ps.map (fun x=>(x.1,a.eval x.2))=parts.toArray:=by
   rw [← hfr.evalP he,← List.map_toArray]
  have h1:=run_build hz hp hf w
  rw [← h0] at h1
  simp only [execOp,ho,Sem.run_bind]
  rw [show (ps.map fun x=>match x with | (i,x)=>(i,a.eval x))=ps.map (fun x=>(x.1,a.eval x.2)) from rfl,h1]
  rfl) next
def bsZero (len sz:Nat)(z:Value):List Value:=((Array.range (len * sz)).map (fun i=>z.cells[i % z.cells.size]!)).toList
def Qe2 (sz i:Nat):Option (Nat×Nat):=some (i * sz,sz)
theorem Qe5 {P:Program} {t e len sz:Nat} {z:Value} {parts:List (Nat×Value)} {zs out:List Value} (he:Q2d P t=some e)(hs:Q1m P e=some sz)(hz:Q4P P e=some z)(hle:Nat.ble (len * sz) 16777216=true)(hzs:bsZero len sz z=zs)
  (hf:fillG (Qe2 sz) zs parts=some out) (w:World):(Instr.buildSlice t len parts.toArray).run P w=.ok (.slice (some ⟨w.heap.size,0,none⟩) len len) (w.alloc (.cells out.toArray e)):=by
 have hle':=Nat.le_of_ble_eq_true hle
 have hgt : ¬ len * sz > 2 ^ 24:=by omega
 have h2:=fillG_eq hf
 unfold Instr.buildSlice
 simp only [Sem.run_bind,run_underlying (Q1A he),Result.andThen_ok,Q3f hs,if_neg hgt,Sem.run_pure]
 by_cases h0:len * sz=0
 ·have hz0:zs=[]:=by rw [← hzs];simp [bsZero,h0]
  subst hz0
  rw [if_pos h0]
  have e1:(fun i=>some (i * sz,sz))=Qe2 sz:=rfl
  have e3 : ∀ f:Nat→Value,(Array.range (len * sz)).map f=([] : List Value).toArray:=fun f=>by apply Array.ext';simp [h0]
  simp only [Sem.run_pure,Result.andThen_ok,e1,e3]
  try simp only [List.toList_toArray]
  rw [h2]
  simp [Qam]
 ·rw [if_neg h0]
  simp only [Sem.run_bind,Q9E hz,Result.andThen_ok,Sem.run_pure]
  have e1:(fun i=>some (i * sz,sz))=Qe2 sz:=rfl
  have e2:(Array.range (len * sz)).map (fun i=>z.cells[i % z.cells.size]!)=zs.toArray:=by rw [← hzs];exact Array.toArray_toList.symm
  rw [e1,e2]
  try simp only [List.toList_toArray]
  rw [h2]
  simp [Qam]
theorem QR {t e len sz:Nat} {ps:Array (Nat×Operand)} {z:Value} {parts:List (Nat×Value)} {zs out:List Value} (hg:Q18 ops S o=some true)(hd:o.dst=some d)(hn:Nat.blt d n=true)(hS:Q4p d S=S')(ho:o.op=.buildSlice t len ps)
  (hE:Q2d P t=some e) (hs:Q1m P e=some sz) (hz:Q4P P e=some z) (hle:Nat.ble (len * sz) 16777216=true) (hzs:bsZero len sz z=zs) (he:evP S ps.toList=some parts) (hf:fillG (Qe2 sz) zs parts=some out)
  (next : ∀ g,WL P C n Q Φ (.blk g out e :: H) ((d,.slice (some ⟨g,0,none⟩) len len) :: S') ops rest):WL P C n Q Φ H S ops (o :: rest) :=
 Qaq hg hd hn hS fun a w hfr hw=>⟨_,_,by
  have h0:ps.map (fun x=>(x.1,a.eval x.2))=parts.toArray:=by
   rw [← hfr.evalP he,← List.map_toArray]
  have h1:=Qe5 hE hs hz hle hzs hf w
  rw [← h0] at h1
  simp only [execOp,ho,Sem.run_bind]
  rw [show (ps.map fun x=>match x with | (i,x)=>(i,a.eval x))=ps.map (fun x=>(x.1,a.eval x.2)) from rfl,h1]
  exact rfl,_,_,hw.alloc _ _,by simpa using next _⟩
theorem QC.row {α:Type} {w:World} {g e sz m:Nat} {cs:List Value} {R:Rep α} {l:List α} (h:QC C Φ H w)(k:Nat)(hk:H[k]? =some (.blk g cs e))(hch : ∀ F,(∀ ψ∈Φ,ψ.p F w)→Q1h sz (R.p F w) cs l)(hm:m=l.length)(hle:m≤9223372036854775807)
  (hH:H.set k (.own e sz R (.slice (some ⟨g,0,none⟩) m m) l)=H'):QC C Φ H' w:=by
 subst hH
 obtain ⟨F,N,hi⟩:=h
 have hlt:=(List.getElem?_eq_some_iff.1 hk).1
 have hop:=hi.owns k _ hk
 refine ⟨F,N,hi.set k hlt (Mod.refl _ _) _ ⟨fun i hi'=>by cases hi';exact hop.1,?_⟩⟩
 exact OwnL.of_block hop.2 (Nat.zero_le _) (by simpa using hch F hi.facts) hm hle
theorem wl_row {α:Type} {g e sz m:Nat} {cs:List Value} (R:Rep α)(l:List α)(k:Nat)(hk:H[k]? =some (.blk g cs e))(hch : ∀ F w,(∀ ψ∈Φ,ψ.p F w)→Q1h sz (R.p F w) cs l)(hm:m=l.length)(hle:m≤9223372036854775807)
 (hH:H.set k (.own e sz R (.slice (some ⟨g,0,none⟩) m m) l)=H') (next:WL P C n Q Φ H' S ops rest):WL P C n Q Φ H S ops rest:=fun a w hf hw=>next a w hf (hw.row k hk (fun F=>hch F w) hm hle hH)
theorem QC.rowNil {α:Type} {w:World} (e sz:Nat)(R:Rep α)(h:QC C Φ H w):QC C Φ (.own e sz R (.slice none 0 0) [] :: H) w:=by
 obtain ⟨F,N,hi⟩:=h
 exact ⟨F,_,hi.push (.own e sz R (.slice none 0 0) []) (fun _=>False) ⟨fun k hk=>(by cases hk),OwnL.nil⟩ (fun k hk=>hk.elim) (fun _ k _ hk=>hk.elim)⟩
theorem wl_rowNil {α:Type} (e sz:Nat)(R:Rep α)(next:WL P C n Q Φ (.own e sz R (.slice none 0 0) [] :: H) S ops rest):WL P C n Q Φ H S ops rest:=fun a w hf hw=>next a w hf (hw.rowNil e sz R)
theorem Q97 {α:Type} (e sz:Nat)(R:Rep α)(next:WC P C n Q Φ (.own e sz R (.slice none 0 0) [] :: H) S c):WC P C n Q Φ H S c:=fun a w hf hw=>next a w hf (hw.rowNil e sz R)
theorem Qe4 {P:Program} {w:World} (t ty:TypeId)(e:TypeId)(i:TypeInfo)(z:Value)(size bytes:Nat)(ht:P.underlying t=some (.slice e))(hi:P.info? e=some i)(hz:i.zero=some z)
  (hsize:i.size=size) (hby:i.bytes=bytes) (hzs:z.cells.size=size) (hsz : 0 < size)
  (v:Value) (n:Nat) (xs:List Value) (hown:w.ownsRow 0 e size v n xs)
  (p:Option Addr) (m c:Nat) (ys:List Value) (hl:ys.length=m * size) (hp : 0 < m→∃ b off,p=some ⟨b,off,none⟩∧Q3D w b off ys) (h1 : ∀ u∈ys,u.oneCell' =true)
  (h63:n+m≤maxLen) (hbytes:(n+m) * bytes≤140737488355328) :
  ∃ v' w',(Builtin.append_ #[t,t] ty #[v,.slice p m c]).run P w=.ok v' w' ∧w'.ownsRow 0 e size v' (n+m) (xs++ys)∧w.grownBy w' v.ownBlock∧(v'.ownBlock=v.ownBlock∨v'.ownBlock=some w.heap.size):=by
 rcases p with _ | ad
 ·have hm:m=0:=by
   rcases Nat.eq_zero_or_pos m with h0 | h0
   · exact h0
   · obtain ⟨b,off,hb,_⟩:=hp h0;cases hb
  subst hm
  have hy:ys=[]:=List.eq_nil_of_length_eq_zero (by simpa using hl)
  subst hy
  have hr:(Builtin.append_ #[t,t] ty #[v,.slice none 0 c]).run P w=.ok v w:=by
   rcases hown.2 with ⟨rfl,rfl⟩ | ⟨g,cap,cur,rfl,hbg,hg,hnc,hcm,hcs,htake⟩
   · simp [Builtin.append_,run_underlying ht,sizeOf,typeInfo,hi,Builtin.lenOf,Builtin.firstCells]
   · simp [Builtin.append_,run_underlying ht,sizeOf,typeInfo,hi,Builtin.lenOf,Builtin.firstCells,hnc,storeCells]
  exact ⟨v,w,hr,by simpa using hown,⟨rfl,rfl,rfl,Nat.le_refl _,fun _ _ _=>rfl⟩,.inl rfl⟩
 ·have hnews : ∀ j u,ys[j]? =some u→w.cell? (ad.add j)=some u:=by
   intro j u hj
   have hm : 0 < m:=by
    rcases Nat.eq_zero_or_pos m with h0 | h0
    ·subst h0
     have:ys=[]:=List.eq_nil_of_length_eq_zero (by simpa using hl)
     subst this;simp at hj
    · exact h0
   obtain ⟨b,off,hb,hc⟩:=hp hm
   cases hb
   rw [Q4R];exact hc j u hj
  obtain ⟨v',w',h2,h3,h4,_,h5⟩:=run_append_own_at (P:=P) w 0 t ty e i z size bytes ht hi hz hsize hby hzs hsz v n xs hown ad m c ys hl hnews h1 h63 hbytes (Nat.zero_le _)
  exact ⟨v',w',h2,h3,h4,h5⟩
theorem MInv.set' {F:Q1O} {N:Nat→Q1O} {w w' : World} (h:MInv C Φ H F N w)(k:Nat)(hk:k < H.length)(hm:Mod (N k) w w')(M' : Q1O)(hM : ∀ i,M' i→N k i∨(w.heap.size≤i∧i < w'.heap.size))(φ:Fact)(hop : φ.op M' F w') :
  MInv C Φ (H.set k φ) F (fun i=>if i=k then M' else N i) w':=by
 have hF:Q2W F w w':=fun j hj=>hm.block j (h.flt j hj) (fun hn=>(h.nlt k j hk hn).2.2 hj)
 have hM2 : ∀ i q,i < H.length→i≠k→N i q→¬ M' q:=fun i q hi hne hq hM'=>by
  rcases hM q hM' with h1 | h1
  · exact h.apart i k q hi hk hne hq h1
  · have:=(h.nlt i q hi hq).1;omega
 refine ⟨fun j hj=>Nat.lt_of_lt_of_le (h.flt j hj) hm.size,h.fold,h.fnew,fun ψ hψ=>ψ.good (fun _ h=>h) hF (h.facts ψ hψ),?_,?_,?_,?_⟩
 ·intro i ψ hi
  by_cases hik:i=k
  ·subst hik
   rw [List.getElem?_set_self hk] at hi
   cases hi;simpa using hop
  ·rw [List.getElem?_set_ne (Ne.symm hik)] at hi
   have hi':=(List.getElem?_eq_some_iff.1 hi).1
   simp only [hik,if_false]
   exact ψ.opgood (fun _ h=>h) (fun j hj=>hm.block j (h.nlt i j hi' hj).1 (fun hn=>h.apart i k j hi' hk hik hj hn)) (fun _ h=>h) hF (h.owns i ψ hi)
 ·intro i j hi hj
  rw [List.length_set] at hi
  by_cases hik:i=k
  ·simp only [hik,if_true] at hj
   rcases hM j hj with h1 | h1
   · exact ⟨Nat.lt_of_lt_of_le (h.nlt k j hk h1).1 hm.size,(h.nlt k j hk h1).2⟩
   · exact ⟨h1.2,.inl (Nat.le_trans h.mod.size h1.1),fun hf=>by have:=h.flt j hf;omega⟩
  ·simp only [hik,if_false] at hj
   exact ⟨Nat.lt_of_lt_of_le (h.nlt i j hi hj).1 hm.size,(h.nlt i j hi hj).2⟩
 ·intro i j q hi hj hne hq hq'
  rw [List.length_set] at hi hj
  by_cases hik:i=k <;> by_cases hjk:j=k
  · omega
  ·simp only [hik,hjk,if_true,if_false] at hq hq'
   exact hM2 j q hj hjk hq' hq
  ·simp only [hik,hjk,if_true,if_false] at hq hq'
   exact hM2 i q hi hik hq hq'
  ·simp only [hik,hjk,if_false] at hq hq'
   exact h.apart i j q hi hj hne hq hq'
 · exact h.mod.trans' (T:=N k) hm (fun i hi hn=>by
   rcases (h.nlt k i hk hn).2.1 with h1 | h1
   · omega
   · exact h1)
theorem append_core {α:Type} {t e sz by_:Nat} {s x:Operand} {R:Rep α} {v z:Value} {l l2:List α} {p:Option Addr} {cp:Nat} (k:Nat)(hg:Q18 ops S o=some true)(hd:o.dst=some d)(hn:Nat.blt d n=true)(hS:Q4p d S=S')
  (ho:o.op=.call { callee:=.builtin .append,args:=#[s,x],argTypes:=#[t,t] }) (hφ:H[k]? =some (.own e sz R v l)) (hs:evS S s=some v) (hx:evS S x=some (.slice p l2.length cp))
  (hsrc : ∀ F N w,MInv C Φ H F N w→∃ ys,Q1h sz (R.p F w) ys l2∧(0 < l2.length→∃ b off,p=some ⟨b,off,none⟩∧Q3D w b off ys))
  (he:Q2d P t=some e) (hr:tRow P e=some (z,sz,by_)) (hzs:Nat.beq z.cells.size sz=true) (hsz:Nat.blt 0 sz=true) (h63:l.length+l2.length≤9223372036854775807) (hby:(l.length+l2.length) * by_≤140737488355328)
  {H2:Option Addr→Nat→List Fact} (hH : ∀ p' c',H.set k (.own e sz R (.slice p' (l++l2).length c') (l++l2))=H2 p' c') (next : ∀ p' c',WL P C n Q Φ (H2 p' c') ((d,.slice p' (l++l2).length c') :: S') ops rest):WL P C n Q Φ H S ops (o :: rest):=by
 refine Qaq hg hd hn hS fun a w hf hw=>?_
 obtain ⟨F,N,hi⟩:=hw
 have hlt:=(List.getElem?_eq_some_iff.1 hφ).1
 obtain ⟨hN,xs,hown,hch⟩:=hi.owns k _ hφ
 obtain ⟨ys,hys,hsrc'⟩:=hsrc F N w hi
 obtain ⟨i,hinfo,hz,hsize,hbytes⟩:=Q9D hr
 obtain ⟨v',w',hrun,hown',hgrow,hat⟩:=Qe4 (P:=P) (w:=w) t o.type e i z sz by_ (Q1A he) hinfo hz hsize hbytes (Nat.eq_of_beq_eq_true hzs) (Nat.le_of_ble_eq_true hsz) v l.length xs hown p l2.length cp ys hys.length hsrc'
  (fun u hu=>hys.all (p:=fun u=>u.oneCell' =true) (fun cs y hr=>R.one hr) u hu) (by unfold maxLen;exact h63) hby
 have hM:Mod (N k) w w':=⟨hgrow.os,hgrow.tape,hgrow.output,hgrow.size,fun j hj hn=>hgrow.block j hj fun e=>hn (hN j e.symm)⟩
 have hF:Q2W F w w':=fun j hj=>hM.block j (hi.flt j hj) (fun hn=>(hi.nlt k j hlt hn).2.2 hj)
 have hOL:OwnL 0 e sz (R.p F w') (l++l2) v' w':=⟨xs++ys,by simpa using hown',(hch.append hys).mono fun cs y _ h=>R.good (fun _ h=>h) hF h⟩
 obtain ⟨p',n',c',rfl⟩:=hOL.shape
 obtain rfl:=hOL.len
 refine ⟨_,w',?_,Φ,_,⟨F,_,hi.set' k hlt hM (fun q=>(Value.slice p' (l++l2).length c').ownBlock=some q) ?_ (.own e sz R (.slice p' (l++l2).length c') (l++l2)) ⟨fun q hq=>hq,hOL⟩⟩,by rw [hH];exact next p' c'⟩
 · simp [execOp,ho,resolve,invoke,builtin,hf.eval hs,hf.eval hx,hrun]
 ·intro q hq
  rcases hat with h0 | h0
  · exact .inl (hN q (by rw [← h0];exact hq))
  ·right
   have:=hOL.lt q hq
   rw [h0] at hq
   cases hq
   exact ⟨Nat.le_refl _,this.2⟩
theorem Q86 {α:Type} {t e sz by_:Nat} {s x:Operand} {R:Rep α} {v z:Value} {l l2:List α} {p:Option Addr} {cp:Nat} (k j:Nat)(hg:Q18 ops S o=some true)(hd:o.dst=some d)(hn:Nat.blt d n=true)(hS:Q4p d S=S')
  (ho:o.op=.call { callee:=.builtin .append,args:=#[s,x],argTypes:=#[t,t] }) (hφ:H[k]? =some (.own e sz R v l)) (hs:evS S s=some v) (hψ : Φ[j]? =some (.sli sz R p cp l2)) (hx:evS S x=some (.slice p l2.length cp))
  (he:Q2d P t=some e) (hr:tRow P e=some (z,sz,by_)) (hzs:Nat.beq z.cells.size sz=true) (hsz:Nat.blt 0 sz=true) (h63:l.length+l2.length≤9223372036854775807) (hby:(l.length+l2.length) * by_≤140737488355328)
  {H2:Option Addr→Nat→List Fact} (hH : ∀ p' c',H.set k (.own e sz R (.slice p' (l++l2).length c') (l++l2))=H2 p' c') (next : ∀ p' c',WL P C n Q Φ (H2 p' c') ((d,.slice p' (l++l2).length c') :: S') ops rest):WL P C n Q Φ H S ops (o :: rest) :=
 append_core k hg hd hn hS ho hφ hs hx (fun F N w hi=>by
  obtain ⟨p',n',c',xs,e1,_,_,_,hch,hrow⟩:=(hi.facts _ (Q1f hψ):Sli F w sz (R.p F w) (.slice p l2.length cp) l2)
  cases e1
  exact ⟨xs,hch,fun h=>by obtain ⟨b,off,h1,_,h2⟩:=hrow h;exact ⟨b,off,h1,h2⟩⟩) he hr hzs hsz h63 hby hH next
theorem Q1V {α:Type} {t e sz by_ g tb:Nat} {s x:Operand} {R:Rep α} {v z:Value} {l:List α} {cs:List Value} {cp:Nat} (l2:List α)(k j:Nat)(hg:Q18 ops S o=some true)(hd:o.dst=some d)(hn:Nat.blt d n=true)(hS:Q4p d S=S')
  (ho:o.op=.call { callee:=.builtin .append,args:=#[s,x],argTypes:=#[t,t] }) (hφ:H[k]? =some (.own e sz R v l)) (hs:evS S s=some v) (hψ:H[j]? =some (.blk g cs tb)) (hx:evS S x=some (.slice (some ⟨g,0,none⟩) l2.length cp))
  (hch : ∀ F w,(∀ ψ∈Φ,ψ.p F w)→Q1h sz (R.p F w) cs l2)
  (he:Q2d P t=some e) (hr:tRow P e=some (z,sz,by_)) (hzs:Nat.beq z.cells.size sz=true) (hsz:Nat.blt 0 sz=true) (h63:l.length+l2.length≤9223372036854775807) (hby:(l.length+l2.length) * by_≤140737488355328)
  {H2:Option Addr→Nat→List Fact} (hH : ∀ p' c',H.set k (.own e sz R (.slice p' (l++l2).length c') (l++l2))=H2 p' c') (next : ∀ p' c',WL P C n Q Φ (H2 p' c') ((d,.slice p' (l++l2).length c') :: S') ops rest):WL P C n Q Φ H S ops (o :: rest) :=
 append_core k hg hd hn hS ho hφ hs hx (fun F N w hi=>⟨cs,hch F w hi.facts,fun _=>⟨g,0,rfl,Qbr (hi.owns j _ hψ).2⟩⟩) he hr hzs hsz h63 hby hH next
theorem zeros_eq (z:List Value) : ∀ m,zeros z m=(List.replicate m z).flatten
 | 0=>rfl
 | m+1=>by rw [zeros,zeros_eq z m];simp [List.replicate_succ]
theorem zeros_chunks {α:Type} {sz:Nat} {R:List Value→α→Prop} {z:List Value} {x : α} (h:R z x)(hl:z.length=sz) : ∀ m,Q1h sz R (zeros z m) (List.replicate m x)
 | 0=>rfl
 | m+1=>⟨z,zeros z m,rfl,hl,h,zeros_chunks h hl m⟩
theorem map_mod {β : Type} (f : Nat→β)(sz : Nat)(hsz : 0 < sz) : ∀ n,(List.range (n * sz)).map (fun i=> f (i % sz))=(List.replicate n ((List.range sz).map f)).flatten
 | 0=>by simp
 | n + 1=>by
   rw [Nat.succ_mul,Nat.add_comm,List.range_add,List.map_append,List.map_map,List.replicate_succ,List.flatten_cons,← map_mod f sz hsz n]
   congr 1
   · exact List.map_congr_left fun i hi=>by rw [Nat.mod_eq_of_lt (List.mem_range.1 hi)]
   · exact List.map_congr_left fun i _=>by simp
theorem Qdn (z:Array Value)(sz n:Nat)(hz:z.size=sz)(hsz : 0 < sz):(madeCells z (n * sz)).toList=zeros z.toList n:=by
 rw [zeros_eq]
 unfold madeCells
 subst hz
 have h1:(List.range z.size).map (fun i=>z[i]!)=z.toList:=by
  apply List.ext_getElem
  · simp
  ·intro i h1 h2
   simp at h1
   simp [h1]
 have:=map_mod (fun i=>z[i]!) z.size hsz n
 rw [h1] at this
 rw [← this]
 simp [Array.toList_map]
theorem Qbp {α:Type} {t e sz by_ m:Nat} {x y:Operand} {z:Value} {kx ky:IntKind} {ex ey:Int} (R:Rep α)(u : α)(hg:Q18 ops S o=some true)(hd:o.dst=some d)(hn:Nat.blt d n=true)(hS:Q4p d S=S')(ho:o.op=.makeSlice t x y)
  (hx:evS S x=some (.int kx ex)) (hy:evS S y=some (.int ky ey)) (hex:ex=(m:Int)) (hey:ey=(m:Int)) (he:Q2d P t=some e) (hr:tRow P e=some (z,sz,by_)) (hzs:Nat.beq z.cells.size sz=true) (hsz:Nat.blt 0 sz=true)
  (hR : ∀ F w,R.p F w z.cells.toList u) (hby:by_ * m≤281474976710656) (h63:m≤9223372036854775807)
  (next : ∀ g,WL P C n Q Φ (.own e sz R (.slice (some ⟨g,0,none⟩) m m) (List.replicate m u) :: H) ((d,.slice (some ⟨g,0,none⟩) m m) :: S') ops rest):WL P C n Q Φ H S ops (o :: rest):=by
 subst hex;subst hey
 refine Qaq hg hd hn hS fun a w hf hw=>?_
 obtain ⟨i,hinfo,hz,hsize,hbytes⟩:=Q9D hr
 have hzs':=Nat.eq_of_beq_eq_true hzs
 have hsz':=Nat.le_of_ble_eq_true hsz
 subst hbytes
 have hb:(i.bytes:Int) * (m:Int)≤281474976710656:=by
  have h:((i.bytes * m:Nat):Int)≤281474976710656:=by omega
  rwa [Int.natCast_mul] at h
 have hrun:=run_make (P:=P) (w:=w) t e i z (Q1A he) hinfo hz kx ky (m:Int) (m:Int) (by omega) (by omega) hb (by omega)
 simp only [Int.toNat_natCast,hsize] at hrun
 refine ⟨_,_,by simp [execOp,ho,hf.eval hx,hf.eval hy,hrun];try exact ⟨rfl,rfl⟩,Φ,_,((hw.alloc (madeCells z.cells (m * sz)) e).row 0 rfl (R:=R) (l:=List.replicate m u) (sz:=sz) (fun F _=>?_) (by simp) h63 rfl),next _⟩
 rw [Qdn _ sz m hzs' hsz']
 exact zeros_chunks (hR F _) (by simpa using hzs') m
end lit
end Go.Proofs.YtbgodclhmgmcgaaGreatDoor
