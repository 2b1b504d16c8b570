import Derived.Test.YtocfkfhdcnjklaaGreatDoorBase
import Derived.Maps.Own
import Derived.Maps.OwnSet
import Derived.Maps.Views
import Derived.Deep.DeepAppendRoom
open Option renaming map_eq_some_iff->d',isNone->T'
open Nat renaming beq->e',blt->l',le_of_ble_eq_true->u',add_assoc->A',eq_of_beq_eq_true->E',zero_add->M',div->O',le_refl->Q',lt_irrefl->U',ble->V',sub->W',mod->X'
open Bool renaming and_eq_true->f',not_eq_true'->r',rec->t',or_eq_false_iff->G'
open List renaming getElem?_eq_some_iff->i',map_toArray->q',getElem_mem->z',nodup_append->B',getElem?_eq_getElem->C',cons_append->D',mem_cons->I',getElem?_take->J',getElem?_drop->K',mem_singleton->L',all_eq_true->P',any_append->R'
namespace Go.Proofs.YtocfkfhdcnjklaaGreatDoor
section
open Go.RowKit
noncomputable section
def nE (ops:Array Oper)(au L:List Nat)(i n d:Nat)(o:Oper):Bool:=
 jo au i&& !jo L i&&(o.after.toList.all λe=>!Region.binds .any e||jo L e.on)&&l' d n
section
variable {P:Program} {C:Ctx} {n:FD} {Q:Exit->Act->World->Prop} {ops:Array Oper} {au L:List Nat} {D:List (Nat×Fact)} {Φ H:List Fact} {S S':List (Nat×Value)}
variable {o:Oper}{d t sz e m cp b q k c m' c':Nat}{x y:Operand}{α:Type}{R:fq α}{p:Option Addr}{l:List α}{v a:Value}{cs all:List Value}{rest:List Oper}{ik:IntKind}{z:Int}{u:TypeId}{g:Bool}{w:World}{op:BinOp}
theorem Oc (cr:jd ops au=true)(i:Nat) (B:List Fact)(m:List Nat)(hi:ops[i]? =some o)(hd:o.dst=some d)(U:nE ops au L i n d o=true)(hS:ft d S=S')(hB:QQ H m=B)(hg:QM ops S o=some true)
  (det:∀a w,gU n S a->AY Φ B w->(execOp a.eval o).run P w=.ok (.value v) w)
  (next:WX P C n Q ops au (i::L) (B.map (λb=>(i,b))++D) Φ H ((d,v)::S')):WX P C n Q ops au L D Φ H S:=by
 simp only[nE,f',r']at U;obtain⟨⟨⟨h1,h2⟩,h3⟩,h4⟩:=U;exact Dr cr i B m hi h1 h2 h3 hd h4 hS hB (.inl ⟨hg,det⟩) next
theorem NI (cr:jd ops au=true)(i:Nat) (hi:ops[i]? =some o)(hd:o.dst=some d)(U:nE ops au L i n d o=true)(hS:ft d S=S')(hg:QM ops S o=some false)
  (next:WX P C n Q ops au (i::L) D Φ H ((d,undef)::S')):WX P C n Q ops au L D Φ H S:=by
 simp only[nE,f',r']at U;obtain⟨⟨⟨h1,h2⟩,h3⟩,h4⟩:=U;exact Dr cr i [] [] hi h1 h2 h3 hd h4 hS rfl (.inr ⟨hg,rfl⟩) next
theorem HB (U:jd ops au=true)(i:Nat) (hi:ops[i]? =some o)(hd:o.dst=some d)(hl:nE ops au L i n d o=true)(hS:ft d S=S')(hg:QM ops S o=some true)(hv:B6 S o.op=some v)
  (next:WX P C n Q ops au (i::L) D Φ H ((d,v)::S')):WX P C n Q ops au L D Φ H S:=
 Oc U i [] [] hi hd hl hS rfl hg (λa w hf _=>nc hf hv w) next
theorem XE (U:jd ops au=true)(i:Nat) (hi:ops[i]? =some o)(hd:o.dst=some d)(hl:nE ops au L i n d o=true)(hS:ft d S=S')(hg:QM ops S o=some true)
  (ho:o.op=.call {callee:=.builtin .len,args:=#[x],argTypes:=#[t]}) (hx:da S x=some (.slice p k c)) (ht:iA P t=some e)
  (next:WX P C n Q ops au (i::L) D Φ H ((d,.int .i64 (k:Int))::S')):WX P C n Q ops au L D Φ H S:=
 Oc U i [] [] hi hd hl hS rfl hg (λa w hf _=>by simp[execOp,ho,resolve,invoke,builtin,Builtin.len_,hf.eval hx,run_underlying (w5 ht),goInt]) next
theorem Az (U:jd ops au=true)(i:Nat) {off:Nat} (hi:ops[i]? =some o)(hd:o.dst=some d)(hl:nE ops au L i n d o=true)(hS:ft d S=S')(hg:QM ops S o=some true)
  (ho:o.op=.fieldAddr t x k) (hx:da S x=some (.pointer (some ⟨b,q,none⟩))) (hk:QW P t k=some off)
  (next:WX P C n Q ops au (i::L) D Φ H ((d,.pointer (some ⟨b,q+off,none⟩))::S')):WX P C n Q ops au L D Φ H S:=
 Oc U i [] [] hi hd hl hS rfl hg (λa w hf _=>by simp[execOp,ho,hf.eval hx,mN hk]) next
theorem Ug (cr:jd ops au=true)(i:Nat) {U:Array (Nat×Operand)} {z:Value} {pl:List (Nat×Nat)} {parts:List (Nat×Value)} {out:List Value} (hi:ops[i]? =some o)(hd:o.dst=some d)(hl:nE ops au L i n d o=true)(hS:ft d S=S')(hg:QM ops S o=some true)
  (ho:o.op=.build t U) (hz:j1 P t=some z) (hp:vP P t=some pl) (he:SH S U.toList=some parts) (hf:mi (Ym pl) z.cells.toList parts=some out)
  (next:WX P C n Q ops au (i::L) D Φ H ((d,.agg out.toArray)::S')):WX P C n Q ops au L D Φ H S:=
 Oc cr i [] [] hi hd hl hS rfl hg (λa w gj _=>by
  have h0:U.map (λx=>(x.1,a.eval x.2))=parts.toArray:=by
   rw[<-gj.evalP he,<-q']
  have h1:=run_build hz hp hf w;rw[<-h0]at h1;simp only[execOp,ho,Sem.run_bind];rw[show(U.map λx=>match x with|(i,x)=>(i,a.eval x))=U.map (λx=>(x.1,a.eval x.2))from rfl,h1];rfl) next
theorem nC (U:jd ops au=true)(i:Nat) (B:List Fact)(m:List Nat)(hi:ops[i]? =some o)(hd:o.dst=some d)(hl:nE ops au L i n d o=true)(hS:ft d S=S')(hB:QQ H m=B)(hg:QM ops S o=some true)
  (ho:o.op=.load t x) (hx:da S x=some (.pointer (some ⟨b,q,none⟩))) (hc:∀w,AY Φ B w->qV w b q cs) (hs:QT P t=some sz) (ha:gx P t=some g) (hlen:cs.length=sz) (hv:lY g cs=some v)
  (next:WX P C n Q ops au (i::L) (B.map (λb=>(i,b))++D) Φ H ((d,v)::S')):WX P C n Q ops au L D Φ H S:=
 Oc U i B m hi hd hl hS hB hg (λa w hf hw=>by simp[execOp,ho,hf.eval hx,Instr.loadAt,Instr.sureAddr,TT (hc w hw) hs ha hlen hv]) next
theorem QcO {j:Nat} (h:qV w b q all)(U:(all.drop j).take sz=cs):qV w b (q+j) cs:=λi u hu=>by
 have:=h (j+i) u (by rw[<-U,J']at hu;split at hu<;>first|(rw[K']at hu;exact hu)|cases hu);rwa [<-A']at this
theorem RY (cr:jd ops au=true)(i:Nat) (k j:Nat)(hi:ops[i]? =some o)(hd:o.dst=some d)(hl:nE ops au L i n d o=true)(hS:ft d S=S')(hg:QM ops S o=some true)
  (ho:o.op=.load t x) (U:Φ[k]? =some (.cells b q all)) (hx:da S x=some (.pointer (some ⟨b,q+j,none⟩))) (sQ:(all.drop j).take sz=cs) (hs:QT P t=some sz) (ha:gx P t=some g) (hlen:cs.length=sz) (hv:lY g cs=some v)
  (next:WX P C n Q ops au (i::L) D Φ H ((d,v)::S')):WX P C n Q ops au L D Φ H S:=
 nC cr i [] [] hi hd hl hS rfl hg ho hx (λw ⟨⟨F,h⟩,_⟩=>QcO (h _ (iZ U)).2 sQ) hs ha hlen hv next
theorem Dt (cr:jd ops au=true)(i:Nat) {U:Nat} (k j:Nat)(hi:ops[i]? =some o)(hd:o.dst=some d)(hl:nE ops au L i n d o=true)(hS:ft d S=S')(hg:QM ops S o=some true)
  (ho:o.op=.load t x) (bj:QQ H [k]=[.blk b all U]) (hx:da S x=some (.pointer (some ⟨b,j,none⟩))) (sQ:(all.drop j).take sz=cs) (hs:QT P t=some sz) (ha:gx P t=some g) (hlen:cs.length=sz) (hv:lY g cs=some v)
  (next:WX P C n Q ops au (i::L) ((i,.blk b all U)::D) Φ H ((d,v)::S')):WX P C n Q ops au L D Φ H S:=
 nC cr i [.blk b all U] [k] hi hd hl hS bj hg ho hx (λw ⟨_,h⟩=>by
  obtain⟨N,F,h1⟩:=h _ (L'.2 rfl);have:=QcO (QaQ h1.2) sQ;rwa [M']at this) hs ha hlen hv next
theorem NH (cr:jd ops au=true)(i:Nat) (k j:Nat)(hi:ops[i]? =some o)(hd:o.dst=some d)(hl:nE ops au L i n d o=true)(hS:ft d S=S')(hg:QM ops S o=some true)
  (ho:o.op=.indexAddr t x y) (bj:Φ[k]? =some (.sli sz R p cp l)) (hx:da S x=some (.slice p l.length cp)) (hy:da S y=some (.int ik z)) (hz:z=(j:Int)) (hj:j<l.length) (he:iA P t=some e) (hs:QT P e=some sz)
  (next:∀b q cs u,l[j]? =some u->cs.length=sz->WX P C n Q ops au (i::L) D (.cells b q cs::.rep R cs u::Φ) H ((d,.pointer (some ⟨b,q,none⟩))::S')):WX P C n Q ops au L D Φ H S:=by
 subst hz;refine HA (Λ:=Nat×Nat×List Value) (pure:=λr=>p=some ⟨r.1,r.2.1,none⟩/\r.2.2.length=sz) (facts:=λr=>[.cells r.1 (r.2.1+j*sz) r.2.2,.rep R r.2.2 l[j]]) (λF w eo=>?_) ?_
 ·obtain⟨p',n',c',xs,GI,Jy,hc,hm,ml,gm⟩:=(eo _ (iZ bj):zh F w sz (R.p F w) (.slice p l.length cp) l)
  cases GI;obtain⟨b,off,hp,hF,kq⟩:=gm an;obtain⟨cs,U,hr,hu⟩:=ml.at (C' hj)
  refine⟨(b,off,cs),⟨hp,U⟩,λφ hX=>?_⟩;simp only[I',List.not_mem_nil,or_false]at hX;rcases hX with rfl|rfl
  ·refine⟨hF,λi u kF=>?_⟩;rw[A'];exact kq _ u (hu i u kF)
  · exact hr
 ·rintro⟨b,off,cs⟩ ⟨rfl,U⟩;refine Oc cr i [] [] hi hd hl hS rfl hg (λa w hf _=>?_) (next b (off+j*sz) cs _ (C' hj) U);have h1:(0:Int)<=j/\(j:Int)<l.length:=an
  simp[execOp,ho,hf.eval hx,hf.eval hy,Instr.indexAt,asIntOf,run_underlying (w5 he),h1,AD hs,Addr.add,hj]
theorem K0 {Λ:Type} {cells:α->Λ->List Value} {pure:α->Λ->Prop} {facts:α->Λ->List Fact} {x:α} (op:qW R cells pure facts)(k:Nat)(hk:Φ[k]? =some (.rep R cs x))
  (next:∀r:Λ,cs=cells x r->pure x r->WX P C n Q ops au L D (facts x r++Φ) H S):WX P C n Q ops au L D Φ H S:=
 HA (pure:=λr=>cs=cells x r/\pure x r) (facts:=facts x) (λF w eo=>by obtain⟨r,h1,U,h3⟩:=op F w cs x (eo _ (iZ hk));exact⟨r,⟨h1,U⟩,h3⟩) λr ⟨h1,U⟩=>next r h1 U
theorem sF {t:TypeId} {b:Value} (hg:QM ops S o=some true)(hd:o.dst=some d)(hn:l' d n=true)(hS:ft d S=S')(ho:o.op=.binOp op t x y u)(hx:da S x=some a)(hy:da S y=some b)
  (hr:∀w,(do eqGuard op t x y a b;binOp op t a b:Sem Value).run P w=.ok v w) (next:WL P C n Q Φ H ((d,v)::S') ops rest):WL P C n Q Φ H S ops (o::rest):=
 HT hg hd hn hS (λ_ w U _=>by
  have h1:=hr w;unfold execOp;simp only[ho,U.eval hx,U.eval hy];rw[Sem.run_bind,h1];rfl) next
theorem NF (cr:jd ops au=true)(i:Nat) {t:TypeId} {b:Value} (hi:ops[i]? =some o)(hd:o.dst=some d)(hl:nE ops au L i n d o=true)(hS:ft d S=S')(hg:QM ops S o=some true)
  (ho:o.op=.binOp op t x y u) (hx:da S x=some a) (hy:da S y=some b) (hr:∀w,(do eqGuard op t x y a b;binOp op t a b:Sem Value).run P w=.ok v w)
  (next:WX P C n Q ops au (i::L) D Φ H ((d,v)::S')):WX P C n Q ops au L D Φ H S:=
 Oc cr i [] [] hi hd hl hS rfl hg (λ_ w U _=>by
  have h1:=hr w;unfold execOp;simp only[ho,U.eval hx,U.eval hy];rw[Sem.run_bind,h1];rfl) next
theorem nk {P:Program} (U:iA P t=some e)(x y:Operand)(p:Option Addr)(m c m' c':Nat)(w:World):(do eqGuard .eql t x y (.slice p m c) (.slice none m' c');binOp .eql t (.slice p m c) (.slice none m' c'):Sem Value).run P w=.ok (.bool (T' p)) w:=by
 have h:=Lib.run_eql_slice_nil (P:=P) w t e p m c m' c' (w5 U);rw[Sem.run_bind,show(eqGuard .eql t x y (.slice p m c) (.slice none m' c')).run P w=.ok () w from rfl];exact h
theorem nm {P:Program} (U:iA P t=some e)(x y:Operand)(p:Option Addr)(m c m' c':Nat)(w:World):(do eqGuard .neq t x y (.slice p m c) (.slice none m' c');binOp .neq t (.slice p m c) (.slice none m' c'):Sem Value).run P w=.ok (.bool (!Option.isNone p)) w:=by
 have h:=run_neq_slice_nil_any (P:=P) w t e p m c m' c' (w5 U);rw[Sem.run_bind,show(eqGuard .neq t x y (.slice p m c) (.slice none m' c')).run P w=.ok () w from rfl];exact h
theorem Qbe {t e:TypeId} (hg:QM ops S o=some true)(hd:o.dst=some d)(hn:l' d n=true)(U:ft d S=S')(ho:o.op=.binOp .eql t x y u)(hx:da S x=some (.slice p m c))(hy:da S y=some (.slice none m' c'))(ht:iA P t=some e)
 (next:WL P C n Q Φ H ((d,.bool (T' p))::S') ops rest):WL P C n Q Φ H S ops (o::rest):=sF hg hd hn U ho hx hy (nk ht x y p m c m' c') next
theorem J7 {t e:TypeId} (hg:QM ops S o=some true)(hd:o.dst=some d)(hn:l' d n=true)(U:ft d S=S')(ho:o.op=.binOp .neq t x y u)(hx:da S x=some (.slice p m c))(hy:da S y=some (.slice none m' c'))(ht:iA P t=some e)
 (next:WL P C n Q Φ H ((d,.bool (!Option.isNone p))::S') ops rest):WL P C n Q Φ H S ops (o::rest):=sF hg hd hn U ho hx hy (nm ht x y p m c m' c') next
theorem J6 {g:Nat} {i:Operand} (k j:Nat)(hg:QM ops S o=some true)(hd:o.dst=some d)(hn:l' d n=true)(hS:ft d S=S')(ho:o.op=.indexAddr t x i)
  (U:H[k]? =some (.own e sz R (.slice (some ⟨g,0,none⟩) m cp) l)) (hx:da S x=some (.slice (some ⟨g,0,none⟩) m cp)) (hi:da S i=some (.int ik z)) (hz:z=(j:Int)) (hj:j<l.length) (he:iA P t=some e) (hs:QT P e=some sz)
  (next:WL P C n Q Φ H ((d,.pointer (some ⟨g,j*sz,none⟩))::S') ops rest):WL P C n Q Φ H S ops (o::rest):=
 Gd k j hg hd hn hS ho U hx hi hz hj he hs λg' e=>by cases e;exact next
theorem Un (hw:Ql C Φ H w)(bj:H[k]? =some (.own e sz R (.slice p m cp) l)):m=l.length/\(0<l.length->∃g,p=some ⟨g,0,none⟩):=by
 obtain⟨F,N,hi⟩:=hw;obtain⟨_,U⟩:=hi.owns k _ bj;exact⟨U.len,λh=>by obtain⟨g,hp,_⟩:=U.head h;exact⟨g,hp⟩⟩
theorem J8 (k:Nat)(bj:H[k]? =some (.own e sz R (.slice p m cp) l))(next:m=l.length->(0<l.length->∃g,p=some ⟨g,0,none⟩)->WX P C n Q ops au L D Φ H S):WX P C n Q ops au L D Φ H S:=
 λlisted a av w U=>next (Un U.holds bj).1 (Un U.holds bj).2 listed a av w U
theorem rM (k:Nat)(U:H[k]? =some (.own e sz R (.slice p m cp) l))(next:m=l.length->(0<l.length->∃g,p=some ⟨g,0,none⟩)->WL P C n Q Φ H S ops rest):WL P C n Q Φ H S ops rest:=
 λa w hf hw=>next (Un hw U).1 (Un hw U).2 a w hf hw
theorem Qbc {c:Code} (k:Nat)(U:H[k]? =some (.own e sz R (.slice p m cp) l))(next:m=l.length->(0<l.length->∃g,p=some ⟨g,0,none⟩)->WC P C n Q Φ H S c):WC P C n Q Φ H S c:=
 λa w hf hw=>next (Un hw U).1 (Un hw U).2 a w hf hw
theorem OT (cr:jd ops au=true)(i:Nat) (k j:Nat)(hi:ops[i]? =some o)(hd:o.dst=some d)(hl:nE ops au L i n d o=true)(hS:ft d S=S')(hg:QM ops S o=some true)
  (ho:o.op=.indexAddr t x y) (bj:H[k]? =some (.own e sz R (.slice p m cp) l)) (hx:da S x=some (.slice p m cp)) (hy:da S y=some (.int ik z)) (hz:z=(j:Int)) (hj:j<l.length) (he:iA P t=some e) (hs:QT P e=some sz)
  (next:∀g,p=some ⟨g,0,none⟩->WX P C n Q ops au (i::L) D Φ H ((d,.pointer (some ⟨g,j*sz,none⟩))::S')):WX P C n Q ops au L D Φ H S:=
 J8 k bj λhm hp=>by
  obtain⟨g,rfl⟩:=hp an;subst hz;refine Oc cr i [] [] hi hd hl hS rfl hg (λa w U _=>?_) (next g rfl);have h1:(0:Int)<=j/\(j:Int)<m:=an
  have h2:j<m:=an
  simp[execOp,ho,U.eval hx,U.eval hy,Instr.indexAt,asIntOf,run_underlying (w5 he),h1,h2,AD hs];unfold Addr.add;split<;>simp_all
theorem QcS (cr:jd ops au=true)(i:Nat) {g:Nat} (k j:Nat)(hi:ops[i]? =some o)(hd:o.dst=some d)(hl:nE ops au L i n d o=true)(hS:ft d S=S')(hg:QM ops S o=some true)
  (ho:o.op=.indexAddr t x y) (U:H[k]? =some (.own e sz R (.slice (some ⟨g,0,none⟩) m cp) l)) (hx:da S x=some (.slice (some ⟨g,0,none⟩) m cp)) (hy:da S y=some (.int ik z)) (hz:z=(j:Int)) (hj:j<l.length) (he:iA P t=some e) (hs:QT P e=some sz)
  (next:WX P C n Q ops au (i::L) D Φ H ((d,.pointer (some ⟨g,j*sz,none⟩))::S')):WX P C n Q ops au L D Φ H S:=
 OT cr i k j hi hd hl hS hg ho U hx hy hz hj he hs λg' e=>by cases e;exact next
theorem nB (cr:jd ops au=true)(i:Nat) {st g:Nat} {ag:Bool} {y:α} {cells:α->Unit->List Value} {pure:α->Unit->Prop} {facts:α->Unit->List Fact} (op:qW R cells pure facts)(k j q:Nat)
  (hi:ops[i]? =some o) (hd:o.dst=some d) (hl:nE ops au L i n d o=true) (hS:ft d S=S') (hg:QM ops S o=some true) (ho:o.op=.load t x)
  (U:QQ H [k]=[.own e sz R (.slice (some ⟨g,0,none⟩) m cp) l]) (hx:da S x=some (.pointer (some ⟨g,j*sz+q,none⟩))) (hj:l[j]? =some y) (hs:QT P t=some st) (ha:gx P t=some ag)
  (hv:lY ag (((cells y ()).drop q).take st)=some v) (hlen:(((cells y ()).drop q).take st).length=st)
  (next:pure y ()->WX P C n Q ops au (i::L) ((i,.own e sz R (.slice (some ⟨g,0,none⟩) m cp) l)::D) Φ H ((d,v)::S')):WX P C n Q ops au L D Φ H S:=by
 have rl:∀N F w,(Fact.own e sz R (.slice (some ⟨g,0,none⟩) m cp) l).op N F w->qV w g (j*sz+q) (((cells y ()).drop q).take st)/\pure y ():=by
  intro N F w ⟨_,xs,zI,ml⟩;obtain⟨cs,Oi,hr,hu⟩:=ml.at hj;obtain⟨r,h1,h2,_⟩:=op F w cs y hr;subst h1;refine⟨λz u hq=>?_,h2⟩;have:=zI.cells (g:=g) rfl (j*sz+(q+z)) u (hu _ u (by rw[J']at hq;split at hq<;>first|(rw[K']at hq;exact hq)|cases hq));rw[DC]at this;rw[M']at this;rwa [A']
 intro listed a av w hr
 have a13:pure y ():=by
  obtain⟨F,N,hm⟩:=hr.holds
  have hk:H[k]? =some (.own e sz R (.slice (some ⟨g,0,none⟩) m cp) l):=by
   simp only[QQ,List.filterMap_cons,List.filterMap_nil]at U;split at U;· cases U
   · rename_i b hb;rw[hb];simpa using U
  exact(rl _ _ _ (hm.owns k _ hk)).2
 exact nC cr i [.own e sz R (.slice (some ⟨g,0,none⟩) m cp) l] [k] hi hd hl hS U hg ho hx (λw ⟨_,h⟩=>by
  obtain⟨N,F,h1⟩:=h _ (L'.2 rfl);exact(rl N F w h1).1) hs ha hlen hv (next a13) listed a av w hr
end
end
end
section
open Go.RowKit
def Gc (h:Fact):Prop:=∀N F G w,h.op N F w->h.op N G w
theorem vN {α:Type} {e sz m c:Nat} {R:fq α} {p:Option Addr} {l:List α} {F:ep} {w:World} (h:(Fact.own e sz R (.slice p m c) l).p F w):(Fact.sli sz R p c l).p F w:=by
 obtain⟨h1,h2⟩:=h;have hm:=h2.len;subst hm;obtain⟨xs,ho,ml⟩:=h2;rcases ho.2 with⟨h0,U⟩|⟨g,cap,cur,hv,_,hg,AQ,mn,sQ,hU⟩
 ·obtain rfl:l=[]:=List.eq_nil_of_length_eq_zero U;cases h0;exact⟨none,_,0,xs,rfl,rfl,Q' _,an,ml,λh=>absurd h an⟩
 ·cases hv;refine⟨_,_,_,xs,rfl,rfl,AQ,mn,ml,λ_=>⟨g,0,rfl,h1 g rfl,λj u hj=>?_⟩⟩;have:=ho.cells (g:=g) rfl j u hj;rwa [DC]at this
def RJ (q m:List Nat):Bool:=q.all λi=>m.any (e' i)
theorem yr {q m:List Nat} (h:RJ q m=true):∀i∈q,i∈m:=λi hi=>by
 have:=P'.1 h i hi;obtain⟨j,hj,U⟩:=List.any_eq_true.1 this;rw[E' U];exact hj
theorem iD.afterLend {C:Ctx} {Φ H:List Fact} {F:ep} {N:Nat->ep} {w w':World} (h:iD C Φ H F N w) {l m q:List Nat} (hl:ig (l++m) H.length=true)(hq:RJ q m=true) {Hr:List Fact} (iq:∀x∈Hr,Gc x)
  (U:Ql ⟨w,λk=>∃i,i<(QQ H l).length/\N (l.getD i 0) k,λk=>F k\/∃j,j∈q/\N j k⟩ [] Hr w'):Ql C Φ (Hr++QQ H m) w':=by
 obtain⟨F',N',U⟩:=U;obtain⟨h1,h2⟩:=ZY hl;have T6:=yr hq
 have YE:ig m H.length=true:=by
  have:∀(l:List Nat),ig (l++m) H.length=true->ig m H.length=true:=by
   intro l;induction l with
   |nil=>exact id
   |cons i l ih=>intro h;simp only[D',ig,f']at h;exact ih h.2
  exact this l hl
 have hS:∀k,(∃i,i<(QQ H l).length/\N (l.getD i 0) k)->∃j,j∈l/\j<H.length/\N j k:=by
  rintro k ⟨i,hi,hk⟩;rw[(Yf H l λi hi=>h1 i (by simp[hi])).1]at hi;refine⟨l[i],z' hi,h1 _ (by simp[z' hi]),?_⟩;simpa[List.getD,hi]using hk
 have hql:∀j,j∈q->j∉l:=λj hj GK=>(B'.1 h2).2.2 j GK j (T6 j hj) rfl
 have il:∀i k,i<Hr.length->N' i k->¬F k/\(∀j,j∈m->¬N j k):=by
  intro i k hi hk;obtain⟨_,b,c⟩:=U.nlt i k hi hk;refine⟨λhf=>c (U.fold k (.inl hf)),λj hj hn=>?_⟩;rcases b with b|b;· have:=(h.nlt j k (h1 j (by simp[hj])) hn).1;simp at b;omega
  ·obtain⟨j',PT,bp,Jy⟩:=hS k b;exact h.apart j j' k (h1 j (by simp[hj])) bp (λe=>by subst e;exact(B'.1 h2).2.2 _ PT _ hj rfl) hn Jy
 have hr2:Ql ⟨w,λk=>∃i,i<(QQ H l).length/\N (l.getD i 0) k,F⟩ [] Hr w':=by
  refine⟨F,N',λk hk=>Nat.lt_of_lt_of_le (h.flt k hk) U.mod.size,λ_ h=>h,λ_ h=>.inl h,ax,λi x hx=>iq x (List.mem_of_getElem? hx) _ _ _ _ (U.owns i x hx),λi k hi hk=>⟨(U.nlt i k hi hk).1,(U.nlt i k hi hk).2.1,(il i k hi hk).1⟩,U.apart,U.mod⟩
 exact h.after hl hr2
section
variable {P:Program} {C:Ctx} {n:FD} {Q:Exit->Act->World->Prop} {Φ Φ':List Fact} {H H':List Fact} {S S':List (Nat×Value)} {ops:Array Oper} {rest:List Oper} {o:Oper} {d:Nat} {c x y:Code}
variable {f:FuncId}{xs:Array Operand}{ts:Array TypeId}{args:List Value}{Φf Hf:List Fact}{R:Value->List Fact->List Fact->Prop}
theorem IC (l m q:List Nat)(hg:QM ops S o=some true)
  (ho:o.op=.call {callee:=.value (.func f),args:=xs,argTypes:=ts}) (hx:xm S xs.toList=some args) (kS:cy P f=true)
  (hH:QQ H l=Hf) (spec:QD P f args Φf Hf R) (eo:∀F w,(∀ψ∈Φ,ψ.p F w)->(∀ψ∈QQ H q,ψ.p F w)->∀φ∈Φf,φ.p F w) (iq:∀v bo Hr,R v bo Hr->bo=[]/\∀x∈Hr,Gc x) (hl:ig (l++m) H.length=true) (hq:RJ q m=true) (hm:QQ H m=H')
  (next:∀v bo Hr,R v bo Hr->∀a w,gU n S a->Ql C (bo++Φ) (Hr++H') w->wpList P ops Q rest (a.put o.dst v) w):WL P C n Q Φ H S ops (o::rest):=by
 subst hH;subst hm;intro a w U ⟨F,N,hi⟩;obtain⟨i1,i2⟩:=ZY hl;have T6:=yr hq
 have kr:ig l H.length=true:=by
  clear spec next
  have:∀(l:List Nat),ig (l++m) H.length=true->ig l H.length=true:=by
   intro l;induction l with
   |nil=>intro _;rfl
   | cons i l ih=>
     intro h;simp only[D',ig,f',r',R',G']at h⊢;exact⟨⟨h.1.1,h.1.2.1⟩,ih h.2⟩
  exact this l hl
 have hp:=hi.pick l kr;have j6:∀k,F k->(F k\/∃j,j∈q/\N j k):=λ_ h=>.inl h
 have fa:=spec (λk=>F k\/∃j,j∈q/\N j k) _ w (λk hk=>by
   rcases hk with hk|⟨j,hj,hk⟩
   · exact hi.flt k hk
   · exact(hi.nlt j k (i1 j (by simp[T6 j hj])) hk).1)
  (eo _ w (λψ j7=>ψ.good j6 (ia.refl _ _) (hi.facts ψ j7)) (λψ j7=>by
   obtain⟨j,hj,Ix⟩:=List.mem_filterMap.1 j7;exact ψ.opgood (λk hk=>.inr ⟨j,hj,hk⟩) (ia.refl _ _) j6 (ia.refl _ _) (hi.owns j ψ Ix)))
  (λi x hx=>x.opgood (λ_ h=>h) (ia.refl _ _) j6 (ia.refl _ _) (hp.owns i x hx))
  (λi k jq hk=>⟨(hp.nlt i k jq hk).1,λU=>by
   rcases U with U|⟨j,hj,U⟩
   · exact(hp.nlt i k jq hk).2.2 U
   · have AP:i<l.length:=by rw[(Yf H l λi hi=>i1 i (by simp[hi])).1]at jq;exact jq
     have e:l.getD i 0=l[i]:=by simp[AP]
     rw[e]at hk;exact hi.apart l[i] j k (i1 _ (by simp[z' AP])) (i1 j (by simp[T6 j hj])) (λe=>(B'.1 i2).2.2 _ (z' AP) _ (T6 j hj) e) hk U⟩) hp.apart
 refine wpList_step λK hK=>?_;rw[Jf U hg,if_pos rfl];unfold Oper.wp
 have gY:xs.map a.eval=args.toArray:=by
  have:=U.evalL hx;have h0:xs=xs.toList.toArray:=ax
  rw[<-this,h0,q']
 have fk:(execOp a.eval o).run P w=.ok (.enter f args.toArray) w:=by
  have Jx:a.eval (.func f)=.func (.func f) #[] #[]:=rfl
  have h2:(resolve a.eval {callee:=.value (.func f),args:=xs,argTypes:=ts} o.type).run P w=.ok {target:=.fn (.func f) #[],args:=args.toArray} w:=by
   simp[resolve,Jx,Deferred.ofValue,gY]
  unfold execOp;simp only[ho,Sem.run_bind,h2,Result.andThen_ok];simp[invoke,Yl kS]
 rw[fk,Oper.upon_enter];refine fa.mono ?_;rintro e w' ⟨v,bo,Hr,rfl,hR,hh⟩;obtain⟨rfl,gj⟩:=iq v bo Hr hR;exact hK _ _ (next v [] Hr hR a w' U (hi.afterLend hl hq gj hh))
theorem pH (l m q:List Nat)(hg:QM ops S o=some true)(hd:o.dst=some d)(hn:l' d n=true)(hS:ft d S=S')
  (ho:o.op=.call {callee:=.value (.func f),args:=xs,argTypes:=ts}) (hx:xm S xs.toList=some args) (kS:cy P f=true)
  (hH:QQ H l=Hf) (spec:QD P f args Φf Hf R) (eo:∀F w,(∀ψ∈Φ,ψ.p F w)->(∀ψ∈QQ H q,ψ.p F w)->∀φ∈Φf,φ.p F w) (iq:∀v U Hr,R v U Hr->U=[]/\∀x∈Hr,Gc x) (hl:ig (l++m) H.length=true) (hq:RJ q m=true) (hm:QQ H m=H')
  (next:∀v U Hr,R v U Hr->WL P C n Q (U++Φ) (Hr++H') ((d,v)::S') ops rest):WL P C n Q Φ H S ops (o::rest):=
 IC l m q hg ho hx kS hH spec eo iq hl hq hm λv U Hr hR a w hf hw=>by rw[hd];exact next v U Hr hR _ w (hf.put (u' hn) hS) hw
end
theorem jm {φ:Fact} {Φ':List Fact} {F:ep} {w:World} (h:φ.p F w)(h':∀U∈Φ',U.p F w):∀U∈φ::Φ',U.p F w:=λU j7=>by
 rcases I'.1 j7 with rfl|j7;· exact h
 · exact h' U j7
theorem QF {F:ep} {w:World}:∀U∈([]:List Fact),U.p F w:=ax
theorem Qcj {x:Fact} (h:x∈([]:List Fact)):Gc x:=by cases h
end
section
open Go.RowKit
structure kM (P:Program) (e:TypeId) (α:Type) where
 enc:α->Value
 lit:α->Lit
 ok:α->Prop
 reads:∀x,ok x->plainElem (H:=Unit) P e (enc x)=some (.lit (lit x),[])
 inv:∀v z,plainElem (H:=Unit) P e v=some z->∃x,v=enc x/\z.1=.lit (lit x)
 inj:∀x y,lit x=lit y->x=y
def DM {P:Program} {e:TypeId} (he:P.underlying e=some .bool):kM P e Bool:=
 ⟨λx=>.bool x,λx=>.bool x,λ_=>True,λx _=>plainElem_bool he x,λv z h=>by
  unfold plainElem at h;rw[he]at h;cases v<;>simp at h;exact⟨_,rfl,by rw[<-h]⟩,λx y h=>by cases h;rfl⟩
def kb {α:Type} (P:Program)(k e:TypeId)(E:kM P e α)(b m:Nat)(f:Int->Option α)(w:World):Prop:=
 ∃ D:DataW Unit,w.ownsMap P k (plainElem P e) b m D/\∀(i:Int) (z:DataW Unit),D.atKey (.int .i64 i) z=match f i with
   |some x=>.lit (E.lit x)
   |none=>z
theorem kb.keep {α:Type} {P:Program} {k e:TypeId} {E:kM P e α} {b m:Nat} {f:Int->Option α} {w U:World} (h:kb P k e E b m f w)(hb:U.heap[b]? =w.heap[b]?):kb P k e E b m f U:=by
 obtain⟨D,⟨es,clock,h1,h2⟩,h3⟩:=h;exact⟨D,⟨es,clock,hb.trans h1,h2⟩,h3⟩
def mapF {α:Type} (P:Program)(k e:TypeId)(E:kM P e α)(b m:Nat)(f:Int->Option α):Fact:=
 .raw (λN w=>N b/\kb P k e E b m f w) (λU ha h=>⟨U _ h.1,h.2.keep (ha _ h.1)⟩)
theorem kb.made {α:Type} (P:Program)(k e:TypeId)(E:kM P e α)(w:World):kb P k e E w.heap.size 0 (λ_=>none) (w.alloc (.map #[] 0)):=
 ⟨.map [],World.ownsMap_made w P k _,λi z=>rfl⟩
theorem kb.update {α:Type} {P:Program} {k e t:TypeId} {E:kM P e α} {b m:Nat} {f:Int->Option α} {w:World} (h:kb P k e E b m f w)(hk:P.underlying k=some (.int .i64))(ht:P.underlying t=some (.map k e))(hm:m<maxLen) {i:Int} {x:α}
  (hi:(Lit.int .i64 i).wf=true) (hx:E.ok x):∃U,(Instr.mapUpdate t (.map (some b)) (.int .i64 i) (E.enc x)).run P w=.ok () U/\kb P k e E b (m+1) (λj=>if j=i then some x else f j) U/\w.grownBy U (some b):=by
 obtain⟨D,h1,h2⟩:=h;have kT:keyOf P k (.int .i64 i)=some (.int .i64 i):=by simp[keyOf,hk,mapKey,hi]
 obtain⟨U,r1,r2,r3⟩:=h1.update (Maps.int_keyed hk) ht hm kT (E.reads x hx);refine⟨U,r1,⟨_,r2,λj z=>?_⟩,r3⟩;by_cases hj:j=i
 ·subst hj;rw[Maps.atKey_put_same h1.isMap ((Maps.int_keyed hk).key kT)];simp
 ·rw[Maps.atKey_put_other (by simp[hj])];simp only[if_neg hj];exact h2 j z
theorem kb.look {α:Type} {P:Program} {k e t:TypeId} {E:kM P e α} {b m:Nat} {f:Int->Option α} {w:World} (c:Bool)(h:kb P k e E b m f w)(hk:P.underlying k=some (.int .i64))(ht:P.underlying t=some (.map k e)) {i:Int} {z:Value}
  (hi:(Lit.int .i64 i).wf=true) (hz:j1 P e=some z):
  (Instr.lookup t (.map (some b)) (.int .i64 i) c).run P w=.ok (match f i with|some x=>if c then .tuple #[E.enc x,.bool true]else E.enc x|none=>if c then .tuple #[z,.bool false]else z) w:=by
 obtain⟨D,⟨es,clock,hb,F,_,rfl⟩,h2⟩:=h;have kT:keyOf P k (.int .i64 i)=some (.int .i64 i):=by simp[keyOf,hk,mapKey,hi]
 rcases Maps.fit_look c (Maps.int_keyed hk) ht (U6 hz w) hb F kT with⟨fk,_,zD⟩|⟨e0,y,_,_,fk,hRv,zD,_⟩
 ·cases hf:f i with
  |none=>exact fk
  | some x=>
    have U:=(zD .nil).symm.trans (h2 i .nil);rw[hf]at U;cases U
 ·obtain⟨x',Te,DX⟩:=E.inv _ _ hRv;cases hf:f i with
  | none=>
    have U:=(zD .nil).symm.trans (h2 i .nil);rw[hf,DX]at U;cases U
  | some x=>
    have U:=(zD .nil).symm.trans (h2 i .nil);rw[hf,DX]at U;simp only[DataW.lit.injEq]at U;rw[Te,E.inj _ _ U]at fk;exact fk
theorem M1 {i:Int} (hi:Wu i):(Lit.int .i64 i).wf=true:=by
 have h1:=hi.1;have h2:=hi.2;have U:IntKind.min .i64=-9223372036854775808:=bf
 have e2:IntKind.max .i64=9223372036854775807:=bf
 simp only[Lit.wf,U,e2,f',decide_eq_true_eq];exact⟨h1,h2⟩
theorem Ql.allocMap {α:Type} {C:Ctx} {Φ H:List Fact} {w:World} (h:Ql C Φ H w)(P:Program)(k e:TypeId)(E:kM P e α):Ql C Φ (mapF P k e E w.heap.size 0 (λ_=>none)::H) (w.alloc (.map #[] 0)):=by
 obtain⟨F,N,hi⟩:=h;have U:Below w.heap.size w (w.alloc (.map #[] 0)):=(Below.refl _ _).alloc (Q' _) _;refine⟨F,r6 (λk=>k=w.heap.size) N,(hi.grow U).push _ _ ⟨rfl,kb.made P k e E w⟩ ?_ ?_⟩
 ·rintro k rfl;exact⟨ax,.inl hi.mod.size,λhf=>U' _ (hi.flt _ hf)⟩
 ·rintro i k hl rfl hn;exact U' _ (hi.nlt i _ hl hn).1
section rules
variable {P:Program} {C:Ctx} {n:FD} {Q:Exit->Act->World->Prop} {Φ Φ':List Fact} {H H':List Fact} {S S':List (Nat×Value)} {ops:Array Oper} {rest:List Oper} {o:Oper} {d:Nat}
variable {α:Type}{t k e b m:Nat}{E:kM P e α}{f:Int->Option α}{x y:Operand}{i:Int}
theorem G4 (k e:TypeId)(E:kM P e α)(hg:QM ops S o=some true)(hd:o.dst=some d)(hn:l' d n=true)(U:ft d S=S')(ho:o.op=.makeMap t none)
  (next:∀g,WL P C n Q Φ (mapF P k e E g 0 (λ_=>none)::H) ((d,.map (some g))::S') ops rest):WL P C n Q Φ H S ops (o::rest):=
 B8 hg hd hn U λa w hf hw=>⟨_,_,(by simp[execOp,ho,run_makeMap]),_,_,hw.allocMap P k e E,next _⟩
theorem Ay {z:Operand} {u:α} (j:Nat)(hg:QM ops S o=some true)(hd:o.dst=none)(ho:o.op=.mapUpdate t x y z)
  (bj:H[j]? =some (mapF P k e E b m f)) (hx:da S x=some (.map (some b))) (hy:da S y=some (.int .i64 i)) (hz:da S z=some (E.enc u)) (hk:P.underlying k=some (.int .i64)) (ht:P.underlying t=some (.map k e))
  (hm:m<9223372036854775807) (hi:Wu i) (hu:E.ok u) (hH:H.set j (mapF P k e E b (m+1) (λq=>if q=i then some u else f q))=H') (next:WL P C n Q Φ H' S ops rest):WL P C n Q Φ H S ops (o::rest):=by
 have hwf:=M1 hi;refine Dn (Φ':=Φ) hg hd (λa w hf hw=>?_) next
 obtain⟨F,N,hi⟩:=hw;have bp:=(i'.1 bj).1;obtain⟨U,ku⟩:=hi.owns j _ bj;obtain⟨w',r1,r2,r3⟩:=ku.update hk ht (by unfold maxLen;omega) hwf hu;refine⟨w',by simp[execOp,ho,hf.eval hx,hf.eval hy,hf.eval hz,r1],?_⟩;subst hH;have PX:Mod (N j) w w':=⟨r3.os,r3.tape,r3.output,r3.size,λq hq hn=>r3.block q hq (λe=>hn (by cases e;exact U))⟩
 exact⟨F,N,hi.set j bp PX _ ⟨U,r2⟩⟩
theorem yG {z v:Value} {c:Bool} (j:Nat)(hg:QM ops S o=some true)(hd:o.dst=some d)(hn:l' d n=true)(hS:ft d S=S')(ho:o.op=.lookup t x y c)
  (bj:H[j]? =some (mapF P k e E b m f)) (hx:da S x=some (.map (some b))) (hy:da S y=some (.int .i64 i)) (hz:j1 P e=some z) (hk:P.underlying k=some (.int .i64)) (ht:P.underlying t=some (.map k e)) (hi:Wu i)
  (hv:(match f i with|some x=>if c then .tuple #[E.enc x,.bool true]else E.enc x|none=>if c then .tuple #[z,.bool false]else z)=v) (next:WL P C n Q Φ H ((d,v)::S') ops rest):WL P C n Q Φ H S ops (o::rest):=by
 have U:=M1 hi;refine HT hg hd hn hS (λa w hf hw=>?_) next
 obtain⟨F,N,hi⟩:=hw;have:=(hi.owns j _ bj).2.look c hk ht U hz;rw[hv]at this;simp[execOp,ho,hf.eval hx,hf.eval hy,this]
end rules
end
section
open Go.RowKit
variable {α:Type}{sz:Nat}{R:fq α}{F:ep}{w:World}
theorem vd:(Fact.sli sz R none 0 ([]:List α)).p F w:=⟨none,0,0,[],rfl,rfl,Q' _,an,rfl,λh=>absurd h an⟩
theorem Hc {c:Nat} {U:fq α} {p:Option Addr} {l:List α} (h:(Fact.sli sz R p c l).p F w)(hR:∀cs x,R.p F w cs x->U.p F w cs x):(Fact.sli sz U p c l).p F w:=by
 obtain⟨p',n',c',xs,e1,e2,h1,h2,h3,h4⟩:=h;exact⟨p',n',c',xs,e1,e2,h1,h2,h3.mono λcs x _=>hR cs x,h4⟩
end
section
open Go.RowKit
def Jo (a:gS)(v:V)(has:List Bool)(vals:List V):Option (List Bool×List V):=
 if a.k=1 then some (has,vals)
 else if a.k=4 then if a.v=v then some (has,vals)else none
 else if a.k=3 then if 0<=a.var/\a.var<has.length/\has[a.var.toNat]? =some true/\vals[a.var.toNat]? =some v then some (has,vals)else none
 else if a.k=2 then if 0<=a.var/\a.var<has.length then some (has.set a.var.toNat true,vals.set a.var.toNat v)else none
 else none
theorem ud {a:gS} {v:V} {h:List Bool} {vs:List V} {h':List Bool} {vs':List V} (e:Jo a v h vs=some (h',vs')):h'.length=h.length/\vs'.length=vs.length:=by
 unfold Jo at e;repeat' split at e
 all_goals first|(cases e;done)|(simp at e;obtain⟨rfl,rfl⟩:=e;simp)
end
section
open Go.RowKit
section
variable {P:Program} {C:Ctx} {n:FD} {Q:Exit->Act->World->Prop} {Φ Φ':List Fact} {H H':List Fact} {S S':List (Nat×Value)} {ops:Array Oper} {rest:List Oper} {o:Oper} {d:Nat}
variable {f:FuncId}{args gW:List Value}{xs:Array Operand}{Φf Hf:List Fact}{R:Value->List Fact->List Fact->Prop}{y:Operand}{ts:Array TypeId}{gX:Array Value}
theorem tQ (l m:List Nat)(hg:QM ops S o=some true)
  (fk:∀a w,gU n S a->(execOp a.eval o).run P w=.ok (.enter f args.toArray) w)
  (hH:QQ H l=Hf) (spec:QD P f args Φf Hf R) (eo:∀F w,(∀ψ∈Φ,ψ.p F w)->∀φ∈Φf,φ.p F w) (hl:ig (l++m) H.length=true) (hm:QQ H m=H')
  (next:∀v U Hr,R v U Hr->∀a w,gU n S a->Ql C (U++Φ) (Hr++H') w->wpList P ops Q rest (a.put o.dst v) w):WL P C n Q Φ H S ops (o::rest):=by
 subst hH;subst hm;intro a w hf ⟨F,N,hi⟩
 have kr:ig l H.length=true:=by
  clear spec next
  have:∀(l:List Nat),ig (l++m) H.length=true->ig l H.length=true:=by
   intro l;induction l with
   |nil=>intro _;rfl
   | cons i l ih=>
     intro h;simp only[D',ig,f',r',R',G']at h⊢;exact⟨⟨h.1.1,h.1.2.1⟩,ih h.2⟩
  exact this l hl
 have hp:=hi.pick l kr;have fa:=spec F _ w hi.flt (λφ bj=>eo F w hi.facts φ bj) hp.owns (λi k jq hk=>⟨(hp.nlt i k jq hk).1,(hp.nlt i k jq hk).2.2⟩) hp.apart;refine wpList_step λK hK=>?_;rw[Jf hf hg,if_pos rfl];unfold Oper.wp;rw[fk a w hf,Oper.upon_enter];refine fa.mono ?_;rintro e w' ⟨v,U,Hr,rfl,hR,hh⟩;exact hK _ _ (next v U Hr hR a w' hf (hi.after hl hh))
theorem Pr (ho:o.op=.call {callee:=.value y,args:=xs,argTypes:=ts})(hy:da S y=some (.func (.func f) #[] gX))(hx:xm S xs.toList=some gW)
  (kS:cy P f=true) (ha:gW++gX.toList=args):∀a w,gU n S a->(execOp a.eval o).run P w=.ok (.enter f args.toArray) w:=by
 intro a w U
 have gY:xs.map a.eval=gW.toArray:=by
  have:=U.evalL hx;have h0:xs=xs.toList.toArray:=ax
  rw[<-this,h0,q']
 have h2:(resolve a.eval {callee:=.value y,args:=xs,argTypes:=ts} o.type).run P w=.ok {target:=.fn (.func f) gX,args:=gW.toArray} w:=by
  simp[resolve,U.eval hy,Deferred.ofValue,gY]
 have h3:gW.toArray++gX=args.toArray:=by rw[<-ha];simp
 unfold execOp;simp only[ho,Sem.run_bind,h2,Result.andThen_ok];simp[invoke,Yl kS,h3]
theorem qU (l m:List Nat)(hg:QM ops S o=some true)(hd:o.dst=some d)(hn:l' d n=true)(hS:ft d S=S')
  (ho:o.op=.call {callee:=.value y,args:=xs,argTypes:=ts}) (hy:da S y=some (.func (.func f) #[] gX)) (hx:xm S xs.toList=some gW) (kS:cy P f=true) (ha:gW++gX.toList=args)
  (hH:QQ H l=Hf) (spec:QD P f args Φf Hf R) (eo:∀F w,(∀ψ∈Φ,ψ.p F w)->∀φ∈Φf,φ.p F w) (hl:ig (l++m) H.length=true) (hm:QQ H m=H')
  (next:∀v U Hr,R v U Hr->WL P C n Q (U++Φ) (Hr++H') ((d,v)::S') ops rest):WL P C n Q Φ H S ops (o::rest):=
 tQ l m hg (Pr ho hy hx kS ha) hH spec eo hl hm λv U Hr hR a w hf hw=>by rw[hd];exact next v U Hr hR _ w (hf.put (u' hn) hS) hw
theorem yW {gX:List Value} (hg:QM ops S o=some true)(hd:o.dst=some d)(hn:l' d n=true)(hS:ft d S=S')(ho:o.op=.makeFunc (.func f) #[] xs)(hx:xm S xs.toList=some gX)
  (next:WL P C n Q Φ H ((d,.func (.func f) #[] gX.toArray)::S') ops rest):WL P C n Q Φ H S ops (o::rest):=
 HT hg hd hn hS (λa w hf _=>by
  have U:xs.map a.eval=gX.toArray:=by
   have:=hf.evalL hx;have h0:xs=xs.toList.toArray:=ax
   rw[<-this,h0,q']
  simp[execOp,ho,Instr.makeFunc,U]) next
end
end
section
open Go Go.RowKit
section
variable {P:Program} {C:Ctx} {n:FD} {Q:Exit->Act->World->Prop} {Φ Φ':List Fact} {H H':List Fact} {S S':List (Nat×Value)} {ops:Array Oper} {rest:List Oper} {o:Oper} {d:Nat}
theorem G2 {α:Type} {t e e2 sz kP m2:Nat} {s x:Operand} {R:fq α} {v z:Value} {l l2:List α} {p:Option Addr} {cp:Nat} (k j:Nat)(hg:QM ops S o=some true)(hd:o.dst=some d)(hn:l' d n=true)(hS:ft d S=S')
  (ho:o.op=.call {callee:=.builtin .append,args:=#[s,x],argTypes:=#[t,t]}) (bj:H[k]? =some (.own e sz R v l)) (hs:da S s=some v) (j7:H[j]? =some (.own e2 sz R (.slice p m2 cp) l2)) (hx:da S x=some (.slice p l2.length cp))
  (he:iA P t=some e) (hr:jj P e=some (z,sz,kP)) (vU:e' z.cells.size sz=true) (j9:l' 0 sz=true) (Ln:l.length+l2.length<=9223372036854775807) (Oh:(l.length+l2.length)*kP<=140737488355328)
  {H2:Option Addr->Nat->List Fact} (hH:∀p' U,H.set k (.own e sz R (.slice p' (l++l2).length U) (l++l2))=H2 p' U) (next:∀p' U,WL P C n Q Φ (H2 p' U) ((d,.slice p' (l++l2).length U)::S') ops rest):WL P C n Q Φ H S ops (o::rest):=
 Qca k hg hd hn hS ho bj hs hx (λF N w hi=>by
  obtain⟨_,xs,ho,ml⟩:=hi.owns j _ j7;rcases ho.2 with⟨h0,h00⟩|⟨g,cap,cur,hv,_⟩
  · exact⟨xs,ml,λh=>absurd h an⟩
  ·cases hv;refine⟨xs,ml,λ_=>⟨g,0,rfl,λq u hq=>?_⟩⟩;have:=ho.cells (g:=g) rfl q u hq;rwa [DC]at this) he hr vU j9 Ln Oh hH next
theorem XD (hg:QM ops S o=some true)(hd:o.dst=none)(run:∀a w,gU n S a->Ql C Φ H w->∃v w',(execOp a.eval o).run P w=.ok (.value v) w'/\Ql C Φ' H' w')(next:WL P C n Q Φ' H' S ops rest):WL P C n Q Φ H S ops (o::rest):=by
 intro a w U hw;obtain⟨v,w',hr,h1⟩:=run a w U hw;refine wpList_step λK hK=>?_
 rw[Jf U hg,if_pos rfl];unfold Oper.wp;rw[hr];unfold Oper.upon;rw[hd];exact hK _ _ (next _ _ U h1)
end
theorem SA {α:Type} {l:List α} {k:Nat} {x:α} (h:l[k]? =some x):l.set k x=l:=by
 obtain⟨h1,rfl⟩:=i'.1 h;exact List.set_getElem_self h1
end
section
open Go.RowKit
variable {P:Program}{t e:Nat}
def qy (P:Program)(t:Nat):Option Nat:=match P.underlying t with
 |some (.pointer e)=>some e
 |_=>none
theorem D5 (h:qy P t=some e):P.underlying t=some (.pointer e):=by
 unfold qy at h;split at h;· rename_i hu;cases h;exact hu
 · cases h
theorem SG (U:qy P t=some e)(n:Nat)(a:Option Addr)(w:World):(Op.equalIn (n+1) t (.pointer a) (.pointer none)).run P w=.ok a.isNone w:=by
 cases a<;>simp[Op.equalIn,run_underlying (D5 U)]
theorem a1u (U:qy P t=some e)(x y:Operand)(a:Option Addr)(w:World):(do eqGuard .neq t x y (.pointer a) (.pointer none);binOp .neq t (.pointer a) (.pointer none):Sem Value).run P w=.ok (.bool (!a.isNone)) w:=by
 rw[Sem.run_bind,show(eqGuard .neq t x y (.pointer a) (.pointer none)).run P w=.ok () w from rfl,Result.andThen_ok];have h:=SG U 9999 a w;simp only[binOp];simp[Op.equal,Op.maxDepth,h]
theorem EG (U:qy P t=some e)(x y:Operand)(a:Option Addr)(w:World):(do eqGuard .eql t x y (.pointer a) (.pointer none);binOp .eql t (.pointer a) (.pointer none):Sem Value).run P w=.ok (.bool a.isNone) w:=by
 rw[Sem.run_bind,show(eqGuard .eql t x y (.pointer a) (.pointer none)).run P w=.ok () w from rfl,Result.andThen_ok];have h:=SG U 9999 a w;simp only[binOp];simp[Op.equal,Op.maxDepth,h]
end
section
open Go Go.RowKit
def lA (k:IntKind)(x:Int):Prop:=IntKind.min k<=x/\x<=IntKind.max k
def gd {α:Type} (c:Prop) [Decidable c] (m:Option α):Option α:=if c then m else none
def Qf {α β:Type} (m:Option α)(k:α->Option β):Option β:=match m with
 |some a=>k a
 |none=>none
def jw {σ O:Type} (X:Option (σ⊕O))(Y:σ->Option O):Option O:=match X with
 |some (.inl s)=>Y s
 |some (.inr o)=>some o
 |none=>none
def xR {σ O:Type} (Y:σ->Option O)(x:σ⊕O)(b:O):Prop:=match x with
 | .inl s=>Y s=some b
 | .inr o=>o=b
def fz {σ O:Type} (f:σ->Option (σ⊕O)):Nat->σ->Option O
 |0,_=>none
 |n+1,s=>jw (f s) (fz f n)
section
variable {α β σ O:Type}
variable {a b:Nat}{Y:σ->Option O}{s:σ}{m:Option α}{f:σ->Option (σ⊕O)}{x y:α}{k:α->Option β}
theorem oe {c:Prop} [Decidable c] {b:α} (h:gd c m=some b):c/\m=some b:=by
 unfold gd at h;split at h;· rename_i U;exact⟨U,h⟩
 · cases h
theorem QC {c:Prop} [Decidable c] (h:c):gd c m=m:=if_pos h
theorem Qz {b:β} (h:Qf m k=some b):∃a,m=some a/\k a=some b:=by
 unfold Qf at h;split at h;· rename_i a;exact⟨a,rfl,h⟩
 · cases h
theorem Q1 {a:α}:Qf (some a) k=k a:=rfl
theorem mH {X:Option (σ⊕O)} {b:O} (h:jw X Y=some b):∃x,X=some x/\xR Y x b:=by
 unfold jw at h;split at h;· rename_i s;exact⟨_,rfl,h⟩
 · rename_i o;cases h;exact⟨_,rfl,rfl⟩
 · cases h
theorem lX:jw (some (.inl s)) Y=Y s:=rfl
theorem Jh {o:O}:jw (some (.inr o)) Y=some o:=rfl
theorem QR {x:σ⊕O} {b:O} (h:xR Y x b)(e:x=.inl s):Y s=some b:=by subst e;exact h
theorem Qx {x:σ⊕O} {b o:O} (h:xR Y x b)(e:x=.inr o):b=o:=by subst e;exact Eq.symm h
theorem IA {n:Nat} {b:O} (h:fz f n s=some b):∃m x,n=m+1/\f s=some x/\xR (fz f m) x b:=by
 cases n with
 |zero=>cases h
 |succ n=>obtain⟨x,h1,U⟩:=mH h;exact⟨n,x,rfl,h1,U⟩
theorem NW {n:Nat} {s':σ} (h:f s=some (.inl s')):fz f (n+1) s=fz f n s':=by
 show jw (f s) (fz f n)=_;rw[h];rfl
theorem vM {n:Nat} {o:O} (h:f s=some (.inr o)):fz f (n+1) s=some o:=by
 show jw (f s) (fz f n)=_;rw[h];rfl
theorem QaV {f:σ->Option (σ⊕O)}:∀{n m:Nat} {s:σ} {b:O},fz f n s=some b->n<=m->fz f m s=some b
 |0,_,_,_,h,_=>by cases h
 |n+1,0,_,_,_,h=>an
 | n+1,m+1,s,b,h,hm=>by
   obtain⟨x,h1,U⟩:=mH (show jw (f s) (fz f n)=some b from h);show jw (f s) (fz f m)=some b;rw[h1];cases x with
   |inl s'=>exact QaV (show fz f n s'=some b from U) an
   |inr o=>exact congrArg some (show o=b from U)
theorem Ec {f:σ->Option (σ⊕O)} (I:σ->Prop)(μ:σ->Nat)(R:O->Prop)(step:∀s,I s->(∃s',f s=some (.inl s')/\I s'/\μ s'<μ s)\/(∃o,f s=some (.inr o)/\R o)):
   ∀(n:Nat) (s:σ),I s->μ s<n->∃o,fz f n s=some o/\R o
 |0,_,_,h=>an
 | n+1,s,hI,h=>by
   rcases step s hI with⟨s',h1,U,h3⟩|⟨o,h1,U⟩
   ·obtain⟨o,h4,h5⟩:=Ec I μ R step n s' U an;exact⟨o,by rw[NW h1];exact h4,h5⟩
   · exact⟨o,vM h1,U⟩
theorem ke {c:Bool} {x y:Option α} {b:α} (h:(if c=true then x else y)=some b):(c=true/\x=some b)\/(c=false/\y=some b):=by
 cases c;· exact .inr ⟨rfl,h⟩
 · exact .inl ⟨rfl,h⟩
theorem a1l {c:Bool} {b:α} (hm:(if c=true then x else y)=b)(h:c=true):x=b:=by rwa [if_pos h]at hm
theorem a1k {c:Bool} {b:α} (hm:(if c=true then x else y)=b)(h:c=false):y=b:=by rwa [if_neg (by simp[h])]at hm
theorem lN {l:List α} {j:Nat} (h:l[j]? =some x):j<l.length:=(i'.1 h).1
theorem je {b c:Bool} (h:b=c):Value.bool b=.bool c:=by rw[h]
theorem a1s:Value.bool (decide ((a:Int)<(b:Int)))=.bool (decide (a<b)):=ax
theorem a1r:Value.bool (decide ((a:Int)<=(b:Int)))=.bool (decide (a<=b)):=ax
theorem a1q:Value.bool (decide ((a:Int)>(b:Int)))=.bool (decide (b<a)):=ax
theorem a1p:Value.bool (decide ((a:Int)>=(b:Int)))=.bool (decide (b<=a)):=ax
theorem a1o:Value.bool ((a:Int)==(b:Int))=.bool (a==b):=by
 congr 1;by_cases h:a=b;· subst h;simp
 ·have U:¬(a:Int)=b:=an
  rw[beq_false_of_ne h,beq_false_of_ne U]
theorem a1t:Value.bool ((a:Int) !=(b:Int))=.bool (a !=b):=by
 congr 1;by_cases h:a=b;· subst h;simp
 ·have U:¬(a:Int)=b:=an
  simp[bne,beq_false_of_ne h,beq_false_of_ne U]
theorem i64_in {x:Int} (h:Wu x):Value.int .i64 (IntKind.wrap .i64 x)=.int .i64 x:=by rw[IntWalk.i64_in _ h]
theorem wZ {x:Int} (h:0<=x):x=(x.toNat:Int):=an
end
def AK {α Λ:Type} (cells:α->Λ->List Value)(facts:α->Λ->List Fact)(one:∀x r,∀u∈cells x r,u.oneCell'=true):fq α:=
 ⟨λF w cs x=>∃r,cs=cells x r/\∀φ∈facts x r,φ.p F w,λhF ha ⟨r,h1,h2⟩=>⟨r,h1,λφ U=>φ.good hF ha (h2 φ U)⟩,λ⟨r,h1,_⟩ u hu=>one _ r u (h1▸hu)⟩
theorem HD {α Λ:Type} {cells:α->Λ->List Value} {facts:α->Λ->List Fact} {one:∀x r,∀u∈cells x r,u.oneCell'=true}:qW (AK cells facts one) cells (λ_ _=>True) facts:=λ_ _ _ _ ⟨r,h1,U⟩=>⟨r,h1,trivial,U⟩
section
variable {P:Program} {C:Ctx} {n:FD} {Q:Exit->Act->World->Prop} {Φ Φ':List Fact} {H H':List Fact} {S S':List (Nat×Value)} {ops:Array Oper} {rest:List Oper} {o:Oper} {d:Nat} {au L:List Nat} {D:List (Nat×Fact)} {c:Code} {e:Exit}
variable {φ φ':Fact}{x k t sz cp:Nat}{v v':Value}{y:Operand}{p:Option Addr}{ik:IntKind}{z:Int}
theorem vc {α:Type 1} {l:List α} {x:α} (h:l[k]? =some x):l.set k x=l:=by
 obtain⟨h1,U⟩:=i'.1 h;rw[<-U];simp
theorem x5 (k:Nat) (hk:H[k]? =some φ)(he:φ=φ')(hH:H.set k φ'=H')(h:WL P C n Q Φ H' S ops rest):WL P C n Q Φ H S ops rest:=by
 subst he;subst hH;rwa [vc hk]at h
theorem Ob (k:Nat) (hk:H[k]? =some φ)(he:φ=φ')(hH:H.set k φ'=H')(h:WC P C n Q Φ H' S c):WC P C n Q Φ H S c:=by
 subst he;subst hH;rwa [vc hk]at h
theorem qM (k:Nat) (hk:H[k]? =some φ)(he:φ=φ')(hH:H.set k φ'=H')(h:WE C n Q Φ H' S e):WE C n Q Φ H S e:=by
 subst he;subst hH;rwa [vc hk]at h
theorem pG (k:Nat) (hk:S[k]? =some (x,v))(he:v=v')(h:WL P C n Q Φ H (S.set k (x,v')) ops rest):WL P C n Q Φ H S ops rest:=by
 subst he;rwa [SA hk]at h
theorem a1U (k:Nat) (hk:S[k]? =some (x,v))(he:v=v')(h:WC P C n Q Φ H (S.set k (x,v')) c):WC P C n Q Φ H S c:=by
 subst he;rwa [SA hk]at h
theorem a1W (k:Nat) (hk:S[k]? =some (x,v))(he:v=v')(h:WE C n Q Φ H (S.set k (x,v')) e):WE C n Q Φ H S e:=by
 subst he;rwa [SA hk]at h
theorem OO {σ:Type} {ok:σ->Prop} {rT:σ->List (Nat×Value)} {iV rJ:σ->List Fact} {μ:σ->Nat} (s':σ)(U:μ s'<k)(h0:ok s')(l:List Nat)(hS:j0 l S=rT s')(eo:∀F w,(∀ψ∈Φ,ψ.p F w)->∀φ∈iV s',φ.p F w)(hH:H=rJ s'):
 WE C n (Exit.then (λa' w'=>∃s',μ s'<k/\pQ ok rT iV rJ C n s' a' w') Q) Φ H S .normal:=λa w hf hw=>⟨s',U,CS s' h0 l hS eo hH hf hw⟩
theorem Hb {P:Program} {k:IntKind} {a b:Int} {t:TypeId} {x:Operand} (h:b≠0)(w:World):(do eqGuard .rem t x y (.int k a) (.int k b);binOp .rem t (.int k a) (.int k b):Sem Value).run P w=.ok (.int k (a.tmod b)) w:=by
 simp[eqGuard,binOp,Op.intDiv,h]
theorem kV {a b:Nat} (h:a=b):Value.int .i64 (a:Int)=.int .i64 (b:Int):=by rw[h]
theorem K2 (l:List Nat)(hl:ig l H.length=true)(hH:QQ H l=H')(h:WC P C n Q Φ H' S c):WC P C n Q Φ H S c:=λa w U hw=>h a w U (by rw[<-hH];exact hw.pick l hl)
theorem JX {α:Type} (U sz:Nat)(R:fq α)(next:WE C n Q Φ (.own U sz R (.slice none 0 0) []::H) S e):WE C n Q Φ H S e:=λa w hf hw=>next a w hf (hw.rowNil U sz R)
theorem RV (φ:Fact)(U:∀F w,(∀ψ∈Φ,ψ.p F w)->φ.p F w)(h:WE C n Q (φ::Φ) H S e):WE C n Q Φ H S e:=
 λa w hf hw=>h a w hf (hw.fact λF=>U F w)
theorem qP {α:Type} {e:Nat} {x i:Operand} {R:fq α} {l:List α} {y:α} (k j:Nat)(hg:QM ops S o=some true)(hd:o.dst=some d)(hn:l' d n=true)(hS:ft d S=S')(ho:o.op=.indexAddr t x i)
  (bj:Φ[k]? =some (.sli sz R p cp l)) (hx:da S x=some (.slice p l.length cp)) (hi:da S i=some (.int ik z)) (hz:z=(j:Int)) (hy:l[j]? =some y) (he:iA P t=some e) (hs:QT P e=some sz)
  (next:∀b q cs,cs.length=sz->WL P C n Q (.cells b q cs::.rep R cs y::Φ) H ((d,.pointer (some ⟨b,q,none⟩))::S') ops rest):WL P C n Q Φ H S ops (o::rest):=
 NC k j hg hd hn hS ho bj hx hi hz (lN hy) he hs λb q cs y' U hl=>by
  obtain rfl:y=y':=Option.some.inj (hy.symm.trans U);exact next b q cs hl
theorem qQ {α:Type} (cr:jd ops au=true)(i:Nat) {o:Oper} {d e:Nat} {x:Operand} {R:fq α} {l:List α} {u:α} (k j:Nat)(hi:ops[i]? =some o)(hd:o.dst=some d)(U:nE ops au L i n d o=true)(hS:ft d S=S')(hg:QM ops S o=some true)
  (ho:o.op=.indexAddr t x y) (bj:Φ[k]? =some (.sli sz R p cp l)) (hx:da S x=some (.slice p l.length cp)) (hy:da S y=some (.int ik z)) (hz:z=(j:Int)) (hu:l[j]? =some u) (he:iA P t=some e) (hs:QT P e=some sz)
  (next:∀b q cs,cs.length=sz->WX P C n Q ops au (i::L) D (.cells b q cs::.rep R cs u::Φ) H ((d,.pointer (some ⟨b,q,none⟩))::S')):WX P C n Q ops au L D Φ H S:=
 NH cr i k j hi hd U hS hg ho bj hx hy hz (lN hu) he hs λb q cs y' hy' U=>by
  obtain rfl:u=y':=Option.some.inj (hu.symm.trans hy');exact next b q cs U
end
end
section
open Go Go.RowKit
theorem bh {Φ Φ':List Fact} (l:List Nat)(h:QQ Φ l=Φ')(F:ep)(w:World)(U:∀ψ∈Φ,ψ.p F w):∀φ∈Φ',φ.p F w:=ask l h U
def lP (d:Nat)(S:List (Nat×Value)):Bool:=S.all λx=>!(e' x.1 d)
section
variable {P:Program} {C:Ctx} {n:FD} {Q:Exit->Act->World->Prop} {Φ Φ':List Fact} {H H':List Fact} {S S':List (Nat×Value)} {ops:Array Oper} {rest:List Oper} {o:Oper} {d:Nat}
variable {x:Operand}{v:Value}{t b k tb:Nat}{all:List Value}
private theorem p2.{u,v} {α:Type u} {β:Type v} {a U:α} {b b':β} (h:(a,b)=(U,b')):a=U/\b=b':=by cases h;exact⟨rfl,rfl⟩
theorem wP (h:(QM ops S o,o.dst,l' d n,lP d S,B6 S o.op)=(some true,some d,true,true,some v))(next:WL P C n Q Φ H ((d,v)::S) ops rest):WL P C n Q Φ H S ops (o::rest):=by
 obtain⟨h1,h⟩:=p2 h;obtain⟨U,h⟩:=p2 h;obtain⟨h3,h⟩:=p2 h;obtain⟨h4,h5⟩:=p2 h;exact Qq h1 U h3 (Q0 h4) h5 next
theorem wO (h:(QM ops S o,o.dst,l' d n,lP d S)=(some false,some d,true,true))(next:WL P C n Q Φ H ((d,undef)::S) ops rest):WL P C n Q Φ H S ops (o::rest):=by
 obtain⟨h1,h⟩:=p2 h;obtain⟨U,h⟩:=p2 h;obtain⟨h3,h4⟩:=p2 h;exact ND h1 U h3 (Q0 h4) next
theorem wF {off q:Nat} (h:(QM ops S o,o.dst,l' d n,lP d S,o.op,da S x)=(some true,some d,true,true,.fieldAddr t x k,some (.pointer (some ⟨b,q,none⟩))))
  (hk:QW P t k=some off) (next:WL P C n Q Φ H ((d,.pointer (some ⟨b,q+off,none⟩))::S) ops rest):WL P C n Q Φ H S ops (o::rest):=by
 obtain⟨h1,h⟩:=p2 h;obtain⟨U,h⟩:=p2 h;obtain⟨h3,h⟩:=p2 h;obtain⟨h4,h⟩:=p2 h;obtain⟨h5,h6⟩:=p2 h;exact QbX h1 U h3 (Q0 h4) h5 h6 hk next
theorem wN {t:TypeId} {p:Option Addr} {c e:Nat} (h:(QM ops S o,o.dst,l' d n,lP d S,o.op,da S x)=(some true,some d,true,true,.call {callee:=.builtin .len,args:=#[x],argTypes:=#[t]},some (.slice p k c)))
  (ht:iA P t=some e) (next:WL P C n Q Φ H ((d,.int .i64 (k:Int))::S) ops rest):WL P C n Q Φ H S ops (o::rest):=by
 obtain⟨h1,h⟩:=p2 h;obtain⟨U,h⟩:=p2 h;obtain⟨h3,h⟩:=p2 h;obtain⟨h4,h⟩:=p2 h;obtain⟨h5,h6⟩:=p2 h;exact G3 h1 U h3 (Q0 h4) h5 h6 ht next
theorem wD {g:Bool} {c:Value} (k j:Nat)(h:(QM ops S o,o.dst,l' d n,lP d S,o.op,H[k]?,da S x,all[j]?)=(some true,some d,true,true,.load t x,some (.blk b all tb),some (.pointer (some ⟨b,j,none⟩)),some c))
  (hs:QT P t=some 1) (ha:gx P t=some g) (hv:lY g [c]=some v) (next:WL P C n Q Φ H ((d,v)::S) ops rest):WL P C n Q Φ H S ops (o::rest):=by
 obtain⟨h1,h⟩:=p2 h;obtain⟨U,h⟩:=p2 h;obtain⟨h3,h⟩:=p2 h;obtain⟨h4,h⟩:=p2 h;obtain⟨h5,h⟩:=p2 h;obtain⟨h6,h⟩:=p2 h;obtain⟨h7,h8⟩:=p2 h;refine O2 k j h1 U h3 (Q0 h4) h5 h6 h7 (cs:=[c]) ?_ hs ha rfl hv next
 obtain⟨hj,hc⟩:=i'.1 h8;rw[List.drop_eq_getElem_cons hj,hc];rfl
theorem wS {sz:Nat} {y:Operand} {cs all':List Value} (k j:Nat)(h:(QM ops S o,o.dst,o.op,H[k]?,da S x,da S y,v.cells.toList)=(some true,none,.store t x y,some (.blk b all tb),some (.pointer (some ⟨b,j,none⟩)),some v,cs))
  (hs:QT P t=some sz) (h':(e' cs.length sz,cs.all (·.oneCell'),V' (j+sz) all.length,wL all j cs)=(true,true,true,all')) (hH:H.set k (.blk b all' tb)=H') (next:WL P C n Q Φ H' S ops rest):WL P C n Q Φ H S ops (o::rest):=by
 obtain⟨h1,h⟩:=p2 h;obtain⟨U,h⟩:=p2 h;obtain⟨h3,h⟩:=p2 h;obtain⟨h4,h⟩:=p2 h;obtain⟨h5,h⟩:=p2 h;obtain⟨h6,h7⟩:=p2 h;obtain⟨g1,h'⟩:=p2 h';obtain⟨g2,h'⟩:=p2 h';obtain⟨g3,g4⟩:=p2 h';exact Dq k j h1 U h3 h4 h5 h6 h7 hs g1 g2 g3 g4 hH next
theorem wB {zs:List Value} (h:(QM ops S o,o.dst,l' d n,lP d S,o.op,da S x,v.cells.toList)=(some true,some d,true,true,.box t x,some v,zs))
  (next:∀g,WL P C n Q Φ (.blk g zs t::H) ((d,.pointer (some ⟨g,0,none⟩))::S) ops rest):WL P C n Q Φ H S ops (o::rest):=by
 obtain⟨h1,h⟩:=p2 h;obtain⟨U,h⟩:=p2 h;obtain⟨h3,h⟩:=p2 h;obtain⟨h4,h⟩:=p2 h;obtain⟨h5,h⟩:=p2 h;obtain⟨h6,h7⟩:=p2 h;exact vG h1 U h3 (Q0 h4) h5 h6 h7 next
theorem wC {f:FuncId} {xs:Array Operand} {ts:Array TypeId} {args:List Value} {Φf U:List Fact} {R:Value->List Fact->List Fact->Prop} (l m:List Nat)
  (h:(QM ops S o,o.dst,l' d n,lP d S,o.op,xm S xs.toList)=(some true,some d,true,true,.call {callee:=.value (.func f),args:=xs,argTypes:=ts},some args)) (kS:cy P f=true)
  (hH:QQ H l=U) (spec:QD P f args Φf U R) (eo:∀F w,(∀ψ∈Φ,ψ.p F w)->∀φ∈Φf,φ.p F w) (hl:ig (l++m) H.length=true) (hm:QQ H m=H')
  (next:∀v bo Hr,R v bo Hr->WL P C n Q (bo++Φ) (Hr++H') ((d,v)::S) ops rest):WL P C n Q Φ H S ops (o::rest):=by
 obtain⟨h1,h⟩:=p2 h;obtain⟨h2,h⟩:=p2 h;obtain⟨h3,h⟩:=p2 h;obtain⟨h4,h⟩:=p2 h;obtain⟨h5,h6⟩:=p2 h;exact Ax l m h1 h2 h3 (Q0 h4) h5 h6 kS hH spec eo hl hm next
end
section
variable {P:Program} {C:Ctx} {n:FD} {Q:Exit->Act->World->Prop} {ops:Array Oper} {au L:List Nat} {D:List (Nat×Fact)} {Φ H:List Fact} {S S':List (Nat×Value)}
private theorem p3 {α β:Type} {a U:α} {b b':β} (h:(a,b)=(U,b')):a=U/\b=b':=by cases h;exact⟨rfl,rfl⟩
theorem xP (U:jd ops au=true)(i:Nat) {o:Oper} {d:Nat} {v:Value} (h:(ops[i]?,o.dst,nE ops au L i n d o,lP d S,QM ops S o,B6 S o.op)=(some o,some d,true,true,some true,some v))
  (next:WX P C n Q ops au (i::L) D Φ H ((d,v)::S)):WX P C n Q ops au L D Φ H S:=by
 obtain⟨h1,h⟩:=p3 h;obtain⟨h2,h⟩:=p3 h;obtain⟨h3,h⟩:=p3 h;obtain⟨h4,h⟩:=p3 h;obtain⟨h5,h6⟩:=p3 h;exact HB U i h1 h2 h3 (Q0 h4) h5 h6 next
theorem xO (U:jd ops au=true)(i:Nat) {o:Oper} {d:Nat} (h:(ops[i]?,o.dst,nE ops au L i n d o,lP d S,QM ops S o)=(some o,some d,true,true,some false))
  (next:WX P C n Q ops au (i::L) D Φ H ((d,undef)::S)):WX P C n Q ops au L D Φ H S:=by
 obtain⟨h1,h⟩:=p3 h;obtain⟨h2,h⟩:=p3 h;obtain⟨h3,h⟩:=p3 h;obtain⟨h4,h5⟩:=p3 h;exact NI U i h1 h2 h3 (Q0 h4) h5 next
theorem xS (U:jd ops au=true)(k:Nat) {o:Oper} (h:(nh ops au L,jo au k,(List.range ops.size).all (jo L),ops[k]?)=([k],false,false,some o))
  (h':WL P C n (QX P C n Q ops au L D Φ k) Φ H S ops [o]):WX P C n Q ops au L D Φ H S:=by
 obtain⟨h1,h⟩:=p3 h;obtain⟨h2,h⟩:=p3 h;obtain⟨h3,h4⟩:=p3 h;exact NJ U k h1 h2 h3 h4 h'
end
end
section
open Go.RowKit
noncomputable section
inductive SV where
 |v (x:Value)
 |opq (i:Nat)
 |ptr (g off:Nat)
 |sl (g off len cap:Nat) (own:Bool)
 |mp (g:Nat)
 |fn (f:Nat) (fi gX:List SV)
 |agg (l:List SV)
 |tup (l:List SV)
abbrev Env:=Nat->Option (Nat×Nat×Nat)
mutual
def SV.den (ρ:Env)(E:List Value):SV->Option Value
 | .v x=>some x
 | .opq i=>E[i]?
 | .ptr g off=>(ρ g).map λe=>.pointer (some ⟨e.1,e.2.2+off,none⟩)
 | .sl g off len cap own=>(ρ g).map λe=>.slice (some ⟨e.1,e.2.2+off,none⟩) len (if own then e.2.1-cap else cap)
 | .mp g=>(ρ g).map λe=>.map (some e.1)
 | .fn f fi gX=>match SV.dens ρ E fi,SV.dens ρ E gX with
   |some us,some vs=>some (.func (.func f) us.toArray vs.toArray)
   |_,_=>none
 | .agg l=>(SV.dens ρ E l).map λvs=>.agg vs.toArray
 | .tup l=>(SV.dens ρ E l).map λvs=>.tuple vs.toArray
def SV.dens (ρ:Env)(E:List Value):List SV->Option (List Value)
 |[]=>some []
 | x::l=>match SV.den ρ E x,SV.dens ρ E l with
   |some y,some U=>some (y::U)
   |_,_=>none
end
def Env.le (ρ ck:Env):Prop:=∀g e,ρ g=some e->ck g=some e
section den
variable {ρ ck:Env} {E:List Value}
variable {x:SV}{l fi gX:List SV}{vs:List Value}{f:Nat}
theorem QI (h:SV.dens ρ E (x::l)=some vs):∃v ws,vs=v::ws/\x.den ρ E=some v/\SV.dens ρ E l=some ws:=by
 unfold SV.dens at h;split at h;· rename_i v ws h1 U;cases h;exact⟨v,ws,rfl,h1,U⟩
 · cases h
theorem ui {x:Value} (h:(SV.fn f fi gX).den ρ E=some x):∃us vs,SV.dens ρ E fi=some us/\SV.dens ρ E gX=some vs/\x=.func (.func f) us.toArray vs.toArray:=by
 unfold SV.den at h;split at h;· rename_i us vs h1 U;cases h;exact⟨us,vs,h1,U,rfl⟩
 · cases h
theorem Ld {us:List Value} (h1:SV.dens ρ E fi=some us)(U:SV.dens ρ E gX=some vs):(SV.fn f fi gX).den ρ E=some (.func (.func f) us.toArray vs.toArray):=by
 unfold SV.den;rw[h1,U]
theorem Eb {v:Value} {ws:List Value} (h1:x.den ρ E=some v)(U:SV.dens ρ E l=some ws):SV.dens ρ E (x::l)=some (v::ws):=by
 unfold SV.dens;rw[h1,U]
mutual
theorem SV.den_mono (h:ρ.le ck):∀(v:SV)(x:Value),v.den ρ E=some x->v.den ck E=some x
 | .v _,_,e=>e
 | .opq _,_,e=>e
 | .ptr g off,x,e=>by
   simp only[SV.den,d']at e⊢;obtain⟨a,h1,U⟩:=e;exact⟨a,h _ _ h1,U⟩
 | .sl g off len cap own,x,e=>by
   simp only[SV.den,d']at e⊢;obtain⟨a,h1,U⟩:=e;exact⟨a,h _ _ h1,U⟩
 | .mp g,x,e=>by
   simp only[SV.den,d']at e⊢;obtain⟨a,h1,U⟩:=e;exact⟨a,h _ _ h1,U⟩
 | .fn f fi gX,x,e=>by
   obtain⟨us,vs,h1,U,rfl⟩:=ui e;exact Ld (SV.dens_mono h fi us h1) (SV.dens_mono h gX vs U)
 | .agg l,x,e=>by
   simp only[SV.den,d']at e⊢;obtain⟨a,h1,U⟩:=e;exact⟨a,SV.dens_mono h l a h1,U⟩
 | .tup l,x,e=>by
   simp only[SV.den,d']at e⊢;obtain⟨a,h1,U⟩:=e;exact⟨a,SV.dens_mono h l a h1,U⟩
theorem SV.dens_mono (h:ρ.le ck):∀(l:List SV)(xs:List Value),SV.dens ρ E l=some xs->SV.dens ck E l=some xs
 |[],_,e=>e
 | x::l,xs,e=>by
   obtain⟨v,ws,rfl,h1,U⟩:=QI e;exact Eb (SV.den_mono h x v h1) (SV.dens_mono h l ws U)
end
theorem B3:∀{l:List SV} {vs:List Value},SV.dens ρ E l=some vs->vs.length=l.length
 |[],vs,h=>by cases h;rfl
 | x::l,vs,h=>by
   obtain⟨v,ws,rfl,h1,U⟩:=QI h;simp[B3 U]
theorem Bs:∀{l:List SV} {vs:List Value} {i:Nat} {x:SV},SV.dens ρ E l=some vs->l[i]? =some x->∃y,vs[i]? =some y/\x.den ρ E=some y
 |[],_,_,_,_,U=>by simp at U
 | a::l,vs,i,x,h,U=>by
   obtain⟨v,ws,rfl,h1,h2⟩:=QI h;cases i with
   |zero=>simp at U;subst U;exact⟨v,rfl,h1⟩
   |succ i=>simpa using Bs h2 (cx U)
theorem Sj:∀{l m:List SV} {vs ws:List Value},SV.dens ρ E l=some vs->SV.dens ρ E m=some ws->SV.dens ρ E (l++m)=some (vs++ws)
 |[],m,vs,ws,h,k=>by cases h;exact k
 | x::l,m,vs,ws,h,k=>by
   obtain⟨v,us,rfl,h1,U⟩:=QI h;exact Eb h1 (Sj U k)
theorem QcH:∀{l:List SV} {vs:List Value} (k:Nat),SV.dens ρ E l=some vs->SV.dens ρ E (l.take k)=some (vs.take k)
 |[],vs,k,h=>by cases h;simp[SV.dens]
 |x::l,vs,0,h=>by simp[SV.dens]
 | x::l,vs,k+1,h=>by
   obtain⟨v,us,rfl,h1,U⟩:=QI h;simpa using Eb h1 (QcH k U)
theorem QcG:∀{l:List SV} {vs:List Value} (k:Nat),SV.dens ρ E l=some vs->SV.dens ρ E (l.drop k)=some (vs.drop k)
 |[],vs,k,h=>by cases h;simp[SV.dens]
 |x::l,vs,0,h=>by simpa using h
 | x::l,vs,k+1,h=>by
   obtain⟨v,us,rfl,h1,U⟩:=QI h;simpa using QcG k U
theorem zx:∀(l:List Value),SV.dens ρ E (l.map .v)=some l
 |[]=>rfl
 |x::l=>Eb (x:=.v x) rfl (zx l)
theorem Bt:∀{l:List SV} {vs:List Value},SV.dens ρ E l=some vs->∀u∈vs,∃x∈l,x.den ρ E=some u
 |[],vs,h,u,hu=>by cases h;cases hu
 | x::l,vs,h,u,hu=>by
   obtain⟨v,ws,rfl,h1,U⟩:=QI h;rcases I'.1 hu with rfl|hu;· exact⟨x,ax,h1⟩
   ·obtain⟨y,hy,h3⟩:=Bt U u hu;exact⟨y,by simp[hy],h3⟩
def SV.of:Value->SV
 | .agg cs=>.agg (cs.toList.map .v)
 |x=>.v x
theorem SV.of_den (x:Value):(SV.of x).den ρ E=some x:=by
 unfold SV.of;split;· simp[SV.den,zx]
 · rfl
def SV.cells:SV->List SV
 | .agg l=>l
 | .v (.agg cs)=>cs.toList.map .v
 |x=>[x]
theorem SV.cells_den {v:SV} {x:Value} (h:v.den ρ E=some x)(ho:∀i,v≠.opq i):SV.dens ρ E v.cells=some x.cells.toList:=by
 cases v with
 | v y=>
   cases h;unfold SV.cells;split;· rename_i e;cases e
   · rename_i e;cases e;simp[Value.cells,zx]
   ·rename_i h1 U
    have:x.cells=#[x]:=by
     unfold Value.cells;split;· rename_i cs;exact absurd rfl (U cs)
     · rfl
    rw[this];exact Eb rfl rfl
 |opq i=>exact absurd rfl (ho i)
 | agg l=>
   simp only[SV.den,d']at h;obtain⟨vs,h1,rfl⟩:=h;simpa[SV.cells,Value.cells]using h1
 | ptr g off=>
   have h':=h;simp only[SV.den,d']at h;obtain⟨a,h1,rfl⟩:=h;exact Eb h' rfl
 | sl g off len cap own=>
   have h':=h;simp only[SV.den,d']at h;obtain⟨a,h1,rfl⟩:=h;exact Eb h' rfl
 | mp g=>
   have h':=h;simp only[SV.den,d']at h;obtain⟨a,h1,rfl⟩:=h;exact Eb h' rfl
 | fn f fi l=>
   have h':=h;obtain⟨us,vs,h1,U,rfl⟩:=ui h;exact Eb h' rfl
 | tup l=>
   have h':=h;simp only[SV.den,d']at h;obtain⟨a,h1,rfl⟩:=h;exact Eb h' rfl
def SV.isOpq:SV->Bool
 | .opq _=>true
 |_=>false
def SV.one:SV->Bool
 | .v x=>x.oneCell'
 | .ptr _ _=>true
 | .sl _ _ _ _ _=>true
 | .mp _=>true
 | .fn _ _ _=>true
 |_=>false
theorem SV.one_den {v:SV} {x:Value} (h:v.den ρ E=some x)(h1:v.one=true):x.oneCell'=true:=by
 cases v with
 |v y=>cases h;exact h1
 |ptr g off=>simp only[SV.den,d']at h;obtain⟨a,_,rfl⟩:=h;rfl
 |sl g off len cap own=>simp only[SV.den,d']at h;obtain⟨a,_,rfl⟩:=h;rfl
 |mp g=>simp only[SV.den,d']at h;obtain⟨a,_,rfl⟩:=h;rfl
 |fn f fi l=>obtain⟨us,vs,_,_,rfl⟩:=ui h;rfl
 |_=>cases h1
theorem oG {l:List SV} {vs:List Value} (h:SV.dens ρ E l=some vs)(h1:l.all SV.one=true):∀u∈vs,u.oneCell'=true:=λu hu=>by
 obtain⟨x,hx,U⟩:=Bt h u hu;exact SV.one_den U (P'.1 h1 x hx)
end den
inductive Tr where
 |nil
 |node (l:Tr) (x:Option SV) (r:Tr)
noncomputable def Tr.get (t:Tr):Nat->Option SV:=Tr.rec (motive:=λ_=>Nat->Option SV) (λ_=>none) (λ_ x _ U gr k=>t' (t' (gr (W' (O' k 2) 1)) (U (O' k 2)) (e' (X' k 2) 1)) x (e' k 0)) t
noncomputable def Tr.set (v:SV)(f:Nat):Tr->Nat->Tr:=Nat.rec (motive:=λ_=>Tr->Nat->Tr) (λt _=>t) (λ_ U t k=>Tr.rec (motive:=λ_=>Tr)
 (t' (t' (.node .nil none (U .nil (W' (O' k 2) 1))) (.node (U .nil (O' k 2)) none .nil) (e' (X' k 2) 1)) (.node .nil (some v) .nil) (e' k 0))
 (λl x r _ _=>t' (t' (.node l x (U r (W' (O' k 2) 1))) (.node (U l (O' k 2)) x r) (e' (X' k 2) 1)) (.node l (some v) r) (e' k 0)) t) f
theorem NT {a b:Nat} (h:e' a b=false):a≠b:=λe=>by rw[e,Nat.beq_refl]at h;cases h
theorem Qs {a b:Nat} (h:e' a b=true):a=b:=E' h
theorem Tr.get_node {l r:Tr} {x:Option SV} {k:Nat}:(Tr.node l x r).get k=if k=0 then x else if k%2=1 then l.get (k/2)else r.get (k/2-1):=by
 show(t' (motive:=λ_=>Option SV) (t' (motive:=λ_=>Option SV) (r.get (k/2-1)) (l.get (k/2)) (e' (k%2) 1)) x (e' k 0))=_;cases U:e' k 0 with
 |true=>have:=Qs U;subst this;rfl
 | false=>
   rw[if_neg (NT U)];cases h1:e' (k%2) 1 with
   |true=>rw[if_pos (Qs h1)]
   |false=>rw[if_neg (NT h1)]
theorem Tr.set_node {v:SV} {f:Nat} {l r:Tr} {x:Option SV} {k:Nat}:Tr.set v (f+1) (.node l x r) k=if k=0 then .node l (some v) r else if k%2=1 then .node (Tr.set v f l (k/2)) x r else .node l x (Tr.set v f r (k/2-1)):=by
 show(t' (motive:=λ_=>Tr) (t' (motive:=λ_=>Tr) (.node l x (Tr.set v f r (k/2-1))) (.node (Tr.set v f l (k/2)) x r) (e' (k%2) 1)) (.node l (some v) r) (e' k 0))=_;cases U:e' k 0 with
 |true=>have:=Qs U;subst this;rfl
 | false=>
   rw[if_neg (NT U)];cases h1:e' (k%2) 1 with
   |true=>rw[if_pos (Qs h1)]
   |false=>rw[if_neg (NT h1)]
theorem Tr.set_nil {v:SV} {f:Nat} {k:Nat}:Tr.set v (f+1) .nil k=Tr.set v (f+1) (.node .nil none .nil) k:=rfl
theorem Tr.nil_get {k:Nat}:Tr.nil.get k=(Tr.node .nil none .nil).get k:=by
 rw[Tr.get_node];have:∀j,Tr.nil.get j=none:=λ_=>rfl
 simp[this]
theorem Tr.get_set {v:SV}:∀(f:Nat) (t:Tr) (k j:Nat),k+1<2^f->(Tr.set v f t k).get j=if j=k then some v else t.get j
 |0,_,k,_,h=>by simp at h
 | f + 1,t,k,j,h=>by
   have key:∀l x r,(Tr.set v (f+1) (.node l x r) k).get j=if j=k then some v else(Tr.node l x r).get j:=by
    intro l x r;rw[Nat.pow_succ]at h;rw[Tr.set_node];by_cases h0:k=0
    ·subst h0;rw[if_pos rfl,Tr.get_node,Tr.get_node];by_cases U:j=0<;>simp[U]
    ·rw [if_neg h0];by_cases h1:k%2=1
     ·rw [if_pos h1,Tr.get_node,Tr.get_node,Tr.get_set f _ _ _ an];by_cases U:j=0;· rw[if_pos U,if_pos U,if_neg an]
      ·rw [if_neg U,if_neg U];by_cases PU:j%2=1
       ·rw[if_pos PU,if_pos PU];by_cases e:j=k;· subst e;simp
        · rw[if_neg an,if_neg e]
       · rw[if_neg PU,if_neg PU,if_neg an]
     ·rw [if_neg h1,Tr.get_node,Tr.get_node,Tr.get_set f _ _ _ an];by_cases U:j=0;· rw[if_pos U,if_pos U,if_neg an]
      ·rw [if_neg U,if_neg U];by_cases PU:j%2=1;· rw[if_pos PU,if_pos PU,if_neg an]
       ·rw[if_neg PU,if_neg PU];by_cases e:j=k;· subst e;simp
        · rw[if_neg an,if_neg e]
   cases t with
   |nil=>rw[Tr.set_nil,Tr.nil_get];exact key _ _ _
   |node l x r=>exact key l x r
noncomputable def Tr.put (t:Tr)(k:Nat)(v:SV):Tr:=Tr.set v 14 t k
inductive HO where
 |blk (cs:List SV) (ty:Nat)
 |row (cs:List SV) (n sz ty:Nat)
 |mp (es:List (SV×SV×Nat)) (clock:Nat)
 |it (m:Option Nat) (since:Nat) (seen:List Nat) (lG:Nat)
 |ro (cs:List SV)
abbrev dq:=List (Nat×HO)
theorem A4 {w U:World} {e sz b n cap:Nat} {xs:List Value} (h:w.ownsRow 0 e sz (.slice (some ⟨b,0,none⟩) n cap) n xs)(hb:U.heap[b]? =w.heap[b]?):U.ownsRow 0 e sz (.slice (some ⟨b,0,none⟩) n cap) n xs:=by
 refine⟨h.1,?_⟩;rcases h.2 with⟨h0,_⟩|⟨g,c,cur,hv,h1,h2,h3⟩
 · cases h0
 · cases hv;exact .inr ⟨_,_,cur,rfl,h1,hb.trans h2,h3⟩
def A7 (e sz b n cap:Nat)(xs:List Value):Fact:=
 .raw (λN w=>N b/\w.ownsRow 0 e sz (.slice (some ⟨b,0,none⟩) n cap) n xs) (λU ha h=>⟨U _ h.1,A4 h.2 (ha _ h.1)⟩)
def a1y (b:Nat)(o:Obj):Fact:=.raw (λN w=>N b/\w.heap[b]? =some o) (λU ha h=>⟨U _ h.1,(ha _ h.1).trans h.2⟩)
def UC (b:Nat)(vs:List Value):Fact:=.raw (λN w=>N b/\qV w b 0 vs) (λU ha h=>⟨U _ h.1,h.2.agree ha h.1⟩)
def kL (ρ:Env)(E:List Value):List (SV×SV×Nat)->List MapEntry->Prop
 |[],[]=>True
 |(k,v,b)::r,e::s=>k.den ρ E=some e.key/\v.den ρ E=some e.val/\b=e.born/\kL ρ E r s
 |_,_=>False
def IterM (ρ:Env):Option Nat->Option Nat->Prop
 |none,none=>True
 |some g,some b=>∃c,ρ g=some (b,c,0)
 |_,_=>False
def HO.isFact (ρ:Env)(E:List Value)(g:Nat):HO->Fact->Prop
 | .blk cs ty,φ=>∃b c vs,ρ g=some (b,c,0)/\SV.dens ρ E cs=some vs/\φ=.blk b vs ty
 | .row cs n sz ty,φ=>∃b c vs,ρ g=some (b,c,0)/\SV.dens ρ E cs=some vs/\φ=A7 ty sz b n c vs
 | .mp es clock,φ=>∃b c U,ρ g=some (b,c,0)/\kL ρ E es U/\φ=a1y b (.map U.toArray clock)
 | .it m since seen lG,φ=>∃b c bm,ρ g=some (b,c,0)/\IterM ρ m bm/\φ=a1y b (.mapIter bm since seen.toArray lG)
 | .ro cs,φ=>∃b c vs,ρ g=some (b,c,0)/\SV.dens ρ E cs=some vs/\φ=UC b vs
def jQ (ρ:Env)(E:List Value):dq->List Fact->Prop
 |[],[]=>True
 |(g,o)::r,φ::H=>o.isFact ρ E g φ/\jQ ρ E r H
 |_,_=>False
noncomputable def mc (hp:dq)(k:Nat):Option HO:=List.rec (motive:=λ_=>Option HO) none (λp _ U=>t' U (some p.2) (e' p.1 k)) hp
theorem Io {g k:Nat} {o:HO} {r:dq}:mc ((g,o)::r) k=match e' g k with
  |true=>some o
  |false=>mc r k:=by
 show(t' (motive:=λ_=>Option HO) (mc r k) (some o) (e' g k))=_;cases e' g k<;>rfl
def zJ:dq->Nat->HO->dq
 |[],_,_=>[]
 | (g,o)::r,k,U=>match e' g k with
   |true=>(g,U)::r
   |false=>(g,o)::zJ r k U
def Iw:dq->Nat->Nat->HO->dq
 |[],_,_,_=>[]
 | (g,o)::r,k,U,o'=>match e' g k with
   |true=>(U,o')::r
   |false=>(g,o)::Iw r k U o'
section heap
variable {ρ ck:Env} {E:List Value}
theorem IterM.mono (h:ρ.le ck) {m U:Option Nat} (hm:IterM ρ m U):IterM ck m U:=by
 cases m<;>cases U<;>first|exact hm|(obtain⟨c,hc⟩:=hm;exact⟨c,h _ _ hc⟩)
theorem kL.mono (h:ρ.le ck):∀{l:List (SV×SV×Nat)} {m:List MapEntry},kL ρ E l m->kL ck E l m
 |[],[],_=>trivial
 |(_,_,_)::_,_::_,U=>⟨SV.den_mono h _ _ U.1,SV.den_mono h _ _ U.2.1,U.2.2.1,kL.mono h U.2.2.2⟩
 |[],_::_,U=>U.elim
 |_::_,[],U=>U.elim
theorem HO.isFact_mono (h:ρ.le ck) {g:Nat} {o:HO} {φ:Fact} (hf:o.isFact ρ E g φ):o.isFact ck E g φ:=by
 cases o with
 |blk cs ty=>obtain⟨b,c,vs,h1,U,h3⟩:=hf;exact⟨b,c,vs,h _ _ h1,SV.dens_mono h _ _ U,h3⟩
 |row cs n sz ty=>obtain⟨b,c,vs,h1,U,h3⟩:=hf;exact⟨b,c,vs,h _ _ h1,SV.dens_mono h _ _ U,h3⟩
 |mp es c=>obtain⟨b,c',Ps,h1,U,h3⟩:=hf;exact⟨b,c',Ps,h _ _ h1,U.mono h,h3⟩
 |it m since seen lG=>obtain⟨b,c,bm,h1,U,h3⟩:=hf;exact⟨b,c,bm,h _ _ h1,IterM.mono h U,h3⟩
 |ro cs=>obtain⟨b,c,vs,h1,U,h3⟩:=hf;exact⟨b,c,vs,h _ _ h1,SV.dens_mono h _ _ U,h3⟩
theorem jQ.mono (h:ρ.le ck):∀{hp:dq} {H:List Fact},jQ ρ E hp H->jQ ck E hp H
 |[],[],_=>trivial
 |(_,_)::_,_::_,U=>⟨HO.isFact_mono h U.1,jQ.mono h U.2⟩
 |[],_::_,U=>U.elim
 |_::_,[],U=>U.elim
theorem OM:∀{hp:dq} {H:List Fact} {g:Nat} {o:HO},jQ ρ E hp H->mc hp g=some o->
   ∃k φ,H[k]? =some φ/\o.isFact ρ E g φ/\(∀ck o' φ',ρ.le ck->o'.isFact ck E g φ'->jQ ck E (zJ hp g o') (H.set k φ'))/\(∀ck g' o' φ',ρ.le ck->o'.isFact ck E g' φ'->jQ ck E (Iw hp g g' o') (H.set k φ'))
 |[],_,_,_,_,h=>by cases h
 |(g',o')::r,[],_,_,U,_=>U.elim
 | (g',o')::r,φ::H,g,o,U,h=>by
   rw[Io]at h;cases hb:e' g' g with
   | true=>
     simp only[hb,Option.some.injEq]at h;subst h;have:=Qs hb;subst this;refine⟨0,φ,rfl,U.1,λck o2 φ2 hle h2=>?_,λck g2 o2 φ2 hle h2=>?_⟩;· simp only[zJ,hb];exact⟨h2,jQ.mono hle U.2⟩
     · simp only[Iw,hb];exact⟨h2,jQ.mono hle U.2⟩
   | false=>
     simp only[hb]at h;obtain⟨k,ψ,h1,h2,h3,h4⟩:=OM U.2 h;refine⟨k+1,ψ,by simpa using h1,h2,λck o2 φ2 hle h5=>?_,λck g2 o2 φ2 hle h5=>?_⟩;· simp only[zJ,hb];exact⟨HO.isFact_mono hle U.1,h3 ck o2 φ2 hle h5⟩
     · simp only[Iw,hb];exact⟨HO.isFact_mono hle U.1,h4 ck g2 o2 φ2 hle h5⟩
def HO.cs:HO->Option (List SV)
 | .blk cs _=>some cs
 | .row cs _ _ _=>some cs
 | .ro cs=>some cs
 |_=>none
theorem wK {w:World} {e sz b n cap:Nat} {xs:List Value} (h:w.ownsRow 0 e sz (.slice (some ⟨b,0,none⟩) n cap) n xs):qV w b 0 xs:=λj u hu=>by
 have:=h.cells (g:=b) rfl j u hu;rw[DC]at this;exact this
theorem HO.cells_at {o:HO} {g:Nat} {φ:Fact} {cs:List SV} (hf:o.isFact ρ E g φ)(hc:o.cs=some cs):∃b c vs,ρ g=some (b,c,0)/\SV.dens ρ E cs=some vs/\∀N F w,φ.op N F w->qV w b 0 vs:=by
 cases o with
 | blk vS ty=>
   cases hc;obtain⟨b,c,vs,h1,U,rfl⟩:=hf;exact⟨b,c,vs,h1,U,λN F w h=>QaQ h.2⟩
 | row vS n sz ty=>
   cases hc;obtain⟨b,c,vs,h1,U,rfl⟩:=hf;exact⟨b,c,vs,h1,U,λN F w h=>wK h.2⟩
 | ro vS=>
   cases hc;obtain⟨b,c,vs,h1,U,rfl⟩:=hf;exact⟨b,c,vs,h1,U,λN F w h=>h.2⟩
 |mp es c=>cases hc
 |it m since seen lG=>cases hc
def nO (ρ:Env)(lo hi:Nat):Prop:=∀g,lo<=g->g<hi->ρ g=none
structure Ext (ρ ck:Env) (lo hi:Nat):Prop where
 le:ρ.le ck
 out:∀g,ρ g=none->g<lo\/hi<=g->ck g=none
theorem Ext.refl (ρ:Env)(lo hi:Nat):Ext ρ ρ lo hi:=⟨λ_ _ h=>h,λ_ h _=>h⟩
theorem Ext.trans {ρ ck U:Env} {lo du hi fb:Nat} (h:Ext ρ ck lo hi)(k:Ext ck U du fb)(hl:lo<=du)(hh:fb<=hi):Ext ρ U lo hi:=
 ⟨λg e he=>k.le g e (h.le g e he),λg hg ho=>k.out g (h.out g hg ho) an⟩
def Env.put (ρ:Env)(g:Nat)(e:Nat×Nat×Nat):Env:=λk=>if k=g then some e else ρ k
theorem Env.put_ext {ρ:Env} {g hi:Nat} {e:Nat×Nat×Nat} (hg:ρ g=none)(U:g<hi):Ext ρ (ρ.put g e) g hi:=
 ⟨λk x hk=>by unfold Env.put;split<;>simp_all,λk hk ho=>by unfold Env.put;rw[if_neg an];exact hk⟩
theorem Env.put_same {ρ:Env} {g:Nat} {e:Nat×Nat×Nat}:(ρ.put g e) g=some e:=by simp[Env.put]
theorem Env.put_free {ρ:Env} {g hi:Nat} {e:Nat×Nat×Nat} (h:nO ρ g hi):nO (ρ.put g e) (g+1) hi:=λk h1 U=>by unfold Env.put;rw[if_neg an];exact h k an U
end heap
structure Rel (ρ:Env) (E:List Value) (fr:Tr) (hp:dq) (S:List (Nat×Value)) (H:List Fact):Prop where
 fr:∀k v,fr.get k=some v->∃x,v.den ρ E=some x/\look S k=some x
 hp:jQ ρ E hp H
theorem Qcl {d k:Nat} (U:k≠d):∀{S:List (Nat×Value)},look (ft d S) k=look S k
 |[]=>rfl
 | (j,v)::r=>by
   unfold ft;split
   ·rename_i hb;have:=Qs hb;subst this;have:e' j k=false:=by cases h:e' j k with|false=>rfl|true=>exact absurd (Qs h).symm U
    simp only[look,this];exact Qcl U
   ·simp only[look];cases e' j k with
    |true=>rfl
    |false=>exact Qcl U
theorem Rel.put {ρ ck:Env} {E:List Value} {fr:Tr} {hp df:dq} {S:List (Nat×Value)} {H H':List Fact} (h:Rel ρ E fr hp S H)(hle:ρ.le ck) {d:Nat} {v:SV} {x:Value} (hd:d+1<2^14)(hv:v.den ck E=some x)(hH:jQ ck E df H'):
  Rel ck E (fr.put d v) df ((d,x)::ft d S) H':=by
 refine⟨λk u hk=>?_,hH⟩;unfold Tr.put at hk;rw[Tr.get_set 14 _ _ _ hd]at hk;split at hk
 ·rename_i e;subst e;cases hk;exact⟨x,hv,by simp[look]⟩
 ·rename_i U;obtain⟨y,h1,h2⟩:=h.fr k u hk;refine⟨y,SV.den_mono hle _ _ h1,?_⟩;have:e' d k=false:=by cases hb:e' d k with|false=>rfl|true=>exact absurd (Qs hb).symm U
  simp only[look,this];rw[Qcl U];exact h2
theorem Rel.mono {ρ ck:Env} {E:List Value} {fr:Tr} {hp U:dq} {S:List (Nat×Value)} {H H':List Fact} (h:Rel ρ E fr hp S H)(hle:ρ.le ck)(hH:jQ ck E U H'):Rel ck E fr U S H':=
 ⟨λk u hk=>by obtain⟨y,h1,h2⟩:=h.fr k u hk;exact⟨y,SV.den_mono hle _ _ h1,h2⟩,hH⟩
end
end
section
open Go.RowKit
noncomputable section
def kR (fr:Tr):Operand->Option SV
 | .tmp t=>fr.get t
 | .const v=>some (SV.of v)
 | .func f=>some (.fn f [] [])
 | .global _=>none
def I6 (fr:Tr):List Operand->Option (List SV)
 |[]=>some []
 | x::l=>match kR fr x,I6 fr l with
   |some v,some vs=>some (v::vs)
   |_,_=>none
def Hu (ops:Array Oper)(fr:Tr)(o:Oper):Option Bool:=
 match o.guard with
 |none=>some true
 | some (j,want)=>match(ops[j]?).bind (·.dst)with
   | some d=>match fr.get d with
     |some (.v (.bool true))=>some want
     |some (.v (.bool false))=>some (!want)
     |some (.v (.tuple _))=>some false
     |_=>none
   |none=>none
section ev
variable {ρ:Env} {E:List Value} {fr:Tr} {hp:dq} {S:List (Nat×Value)} {H:List Fact}
theorem sD (h:Rel ρ E fr hp S H) {o:Operand} {v:SV} (he:kR fr o=some v):∃x,v.den ρ E=some x/\da S o=some x:=by
 cases o with
 |tmp t=>exact h.fr t v he
 |const c=>cases he;exact⟨c,SV.of_den c,rfl⟩
 |func f=>cases he;exact⟨_,rfl,rfl⟩
 |global g=>cases he
theorem nN (h:Rel ρ E fr hp S H) {o:Operand} {x:Value} (he:kR fr o=some (.v x)):da S o=some x:=by
 obtain⟨y,h1,U⟩:=sD h he;cases h1;exact U
theorem QcI (h:Rel ρ E fr hp S H):∀{l:List Operand} {vs:List SV},I6 fr l=some vs->∃xs,SV.dens ρ E vs=some xs/\xm S l=some xs
 |[],vs,he=>by cases he;exact⟨[],rfl,rfl⟩
 | x::l,vs,he=>by
   unfold I6 at he;split at he
   ·rename_i v vs' h1 U;cases he;obtain⟨y,h3,h4⟩:=sD h h1;obtain⟨ys,h5,h6⟩:=QcI h U;exact⟨y::ys,Eb h3 h5,by simp only[xm,h4,h6]⟩
   · cases he
theorem QbS (h:Rel ρ E fr hp S H) {ops:Array Oper} {o:Oper} {b:Bool} (hw:Hu ops fr o=some b):QM ops S o=some b:=by
 unfold Hu at hw;unfold QM;rcases hg:o.guard with _|⟨j,want⟩
 · simpa[hg]using hw
 ·simp only[hg]at hw⊢;rcases hd:(ops[j]?).bind (·.dst)with _|d;· simp[hd]at hw
  ·simp only[hd]at hw⊢;split at hw
   ·rename_i hv;obtain⟨x,h1,U⟩:=h.fr _ _ hv;cases h1;simpa only[U]using hw
   ·rename_i hv;obtain⟨x,h1,U⟩:=h.fr _ _ hv;cases h1;simpa only[U]using hw
   ·rename_i hv;obtain⟨x,h1,U⟩:=h.fr _ _ hv;cases h1;simpa only[U]using hw
   · cases hw
end ev
def H7 (fr:Tr):Op->Option SV
 | .move x=>kR fr x
 | .assign x=>kR fr x
 | .pick c a b=>match kR fr c with
   |some (.v (.bool true))=>kR fr a
   |some (.v (.bool false))=>kR fr b
   |_=>none
 | .binOp op _ x y _=>match kR fr x,kR fr y with
   | some (.v a),some (.v b)=>match UA op (some a) (some b)with
     |some r=>some (.v r)
     |none=>none
   |_,_=>none
 | .unOp .not _ x=>match kR fr x with
   |some (.v (.bool b))=>some (.v (.bool (!b)))
   |_=>none
 | .extract x i=>match kR fr x with
   |some (.tup vs)=>vs[i]?
   |_=>none
 | .nilCheck x=>match kR fr x with
   |some (.ptr g o)=>some (.ptr g o)
   |_=>none
 |_=>none
section pure
variable {ρ:Env} {E:List Value} {fr:Tr} {hp:dq} {S:List (Nat×Value)} {H:List Fact}
theorem uS (h:Rel ρ E fr hp S H) {op:Op} {v:SV} (he:H7 fr op=some v):∃x,v.den ρ E=some x/\B6 S op=some x:=by
 unfold H7 at he;split at he;· exact sD h he
 · exact sD h he
 ·rename_i c a b;split at he
  ·rename_i hc;obtain⟨x,h1,U⟩:=sD h he;exact⟨x,h1,by simp only[B6,nN h hc,U]⟩
  ·rename_i hc;obtain⟨x,h1,U⟩:=sD h he;exact⟨x,h1,by simp only[B6,nN h hc,U]⟩
  · cases he
 ·rename_i op t x y u;split at he
  ·rename_i a b ha hb;split at he
   ·rename_i r hr;cases he;exact⟨r,rfl,by simp only[B6,nN h ha,nN h hb,hr]⟩
   · cases he
  · cases he
 ·rename_i t x;split at he
  ·rename_i b hb;cases he;exact⟨_,rfl,by simp only[B6,nN h hb]⟩
  · cases he
 ·rename_i x i;split at he
  ·rename_i vs hx;obtain⟨y,h1,U⟩:=sD h hx;simp only[SV.den,d']at h1;obtain⟨ws,h3,rfl⟩:=h1;obtain⟨z,h4,h5⟩:=Bs h3 he;exact⟨z,h5,by simp only[B6,U];simpa using h4⟩
  · cases he
 ·rename_i x;split at he
  ·rename_i g o hx;cases he;obtain⟨y,h1,U⟩:=sD h hx;refine⟨y,h1,?_⟩;simp only[SV.den,d']at h1;obtain⟨e,_,rfl⟩:=h1;simp only[B6,U]
  · cases he
 · cases he
end pure
def KH (fr:Tr):List (Nat×Operand)->Option (List (Nat×SV))
 |[]=>some []
 | (i,x)::l=>match kR fr x,KH fr l with
   |some v,some vs=>some ((i,v)::vs)
   |_,_=>none
def RA (all:List SV)(j:Nat)(cs:List SV):List SV:=all.take j++cs++all.drop (j+cs.length)
def BA (place:Nat->Option (Nat×Nat)):List SV->List (Nat×SV)->Option (List SV)
 |cs,[]=>some cs
 | cs,(i,v)::r=>match place i with
   |none=>none
   | some (off,sz)=>match e' v.cells.length sz&&V' (off+sz) cs.length&& !v.isOpq with
     |true=>BA place (RA cs off v.cells) r
     |false=>none
section fill
variable {ρ:Env} {E:List Value} {fr:Tr} {hp:dq} {S:List (Nat×Value)} {H:List Fact}
theorem tY {all cs:List SV} {as xs:List Value} (j:Nat)(h:SV.dens ρ E all=some as)(k:SV.dens ρ E cs=some xs):SV.dens ρ E (RA all j cs)=some (wL as j xs):=by
 unfold RA wL;rw[B3 k];exact Sj (Sj (QcH j h) k) (QcG _ h)
def Ea (ρ:Env)(E:List Value):List (Nat×SV)->List (Nat×Value)->Prop
 |[],[]=>True
 |(i,v)::r,(j,x)::s=>i=j/\v.den ρ E=some x/\Ea ρ E r s
 |_,_=>False
theorem pY (h:Rel ρ E fr hp S H):∀{l:List (Nat×Operand)} {vs:List (Nat×SV)},KH fr l=some vs->∃xs,Ea ρ E vs xs/\SH S l=some xs
 |[],vs,he=>by cases he;exact⟨[],trivial,rfl⟩
 | (i,x)::l,vs,he=>by
   unfold KH at he;split at he
   ·rename_i v vs' h1 U;cases he;obtain⟨y,h3,h4⟩:=sD h h1;obtain⟨ys,h5,h6⟩:=pY h U;exact⟨(i,y)::ys,⟨rfl,h3,h5⟩,by simp only[SH,h4,h6]⟩
   · cases he
theorem H5 {v:SV} (h:(!v.isOpq)=true):∀i,v≠.opq i:=λi e=>by subst e;cases h
theorem mM {place:Nat->Option (Nat×Nat)}:∀{parts:List (Nat×SV)} {xs:List (Nat×Value)} {cs out:List SV} {as:List Value},SV.dens ρ E cs=some as->Ea ρ E parts xs->BA place cs parts=some out->∃os,SV.dens ρ E out=some os/\mi place as xs=some os
 |[],[],cs,out,as,h,_,U=>by cases U;exact⟨as,h,rfl⟩
 | (i,v)::r,(j,x)::s,cs,out,as,h,hp,U=>by
   obtain⟨rfl,hv,hr⟩:=hp;unfold BA at U;unfold mi;split at U;· cases U
   ·rename_i off sz hpl;split at U
    ·rename_i hb;simp only[f']at hb;have hc:=SV.cells_den hv (H5 hb.2);have hlen:=B3 hc;obtain⟨os,h1,h2⟩:=mM (tY off h hc) hr U;refine⟨os,h1,?_⟩
     have e1:e' x.cells.size sz=true:=by
      have:=hb.1.1;rw[<-hlen,Array.length_toList]at this;exact this
     have e2:V' (off+sz) as.length=true:=by rw[B3 h];exact hb.1.2
     simp only[hpl,e1,e2,Bool.and_true];exact h2
    · cases U
 |[],_::_,_,_,_,_,hp,_=>hp.elim
 |_::_,[],_,_,_,_,hp,_=>hp.elim
end fill
def oM (P:Program)(fr:Tr)(hp:dq)(t:Nat)(x:Operand)(k:Nat):Option (SV×Option Nat):=match kR fr x,QW P t k with
 |some (.ptr g o),some f=>some (.ptr g (o+f),none)
 |_,_=>none
def H8 (P:Program)(fr:Tr)(hp:dq)(t:Nat)(x:Operand):Option (SV×Option Nat):=match kR fr x with
 | some (.ptr g o)=>match mc hp g,QT P t,gx P t with
   | some ob,some sz,some U=>match ob.cs with
     | some cs=>match U with
       | true=>match e' ((cs.drop o).take sz).length sz with
         |true=>some (.agg ((cs.drop o).take sz),some g)
         |false=>none
       | false=>match e' sz 1,(cs.drop o).take sz with
         |true,[c]=>some (c,some g)
         |_,_=>none
     |none=>none
   |_,_,_=>none
 |_=>none
def oN (P:Program)(fr:Tr)(hp:dq)(t:Nat)(x:Operand)(i:Operand):Option (SV×Option Nat):=match kR fr x,kR fr i,iA P t with
 | some (.sl g off len _ _),some (.v (.int _ (.ofNat j))),some e=>match QT P e,l' j len with
   |some sz,true=>some (.ptr g (off+j*sz),none)
   |_,_=>none
 |_,_,_=>none
def rv (P:Program)(fr:Tr)(hp:dq)(f:Nat)(U:Array Operand)(xs:Array Operand):Option (SV×Option Nat):=match I6 fr U.toList,I6 fr xs.toList with
 |some us,some vs=>some (.fn f us vs,none)
 |_,_=>none
def CB (P:Program)(fr:Tr)(hp:dq)(op:BinOp)(t:Nat)(x:Operand)(y:Operand):Option (SV×Option Nat):=match kR fr x,kR fr y with
 | some (.v (.int k a)),some (.v (.int U b))=>match R7 k U&& !decide (b=0),op with
   |true,.quo=>some (.v (.int k (k.wrap (a.tdiv b))),none)
   |true,.rem=>some (.v (.int k (a.tmod b)),none)
   |_,_=>none
 | some (.sl _ _ _ _ _),some (.v (.slice none _ _))=>match iA P t,op with
   |some _,.eql=>some (.v (.bool false),none)
   |some _,.neq=>some (.v (.bool true),none)
   |_,_=>none
 | some (.v (.slice none _ _)),some (.v (.slice none _ _))=>match iA P t,op with
   |some _,.eql=>some (.v (.bool true),none)
   |some _,.neq=>some (.v (.bool false),none)
   |_,_=>none
 | some (.ptr _ _),some (.v (.pointer none))=>match qy P t,op with
   |some _,.eql=>some (.v (.bool false),none)
   |some _,.neq=>some (.v (.bool true),none)
   |_,_=>none
 | some (.v (.pointer none)),some (.v (.pointer none))=>match qy P t,op with
   |some _,.eql=>some (.v (.bool true),none)
   |some _,.neq=>some (.v (.bool false),none)
   |_,_=>none
 |_,_=>none
def Mw (P:Program)(fr:Tr)(hp:dq)(xs:Array Operand)(ts:Array Nat):Option (SV×Option Nat):=match xs.toList,ts.toList with
 | [x],[t]=>match kR fr x with
   | some (.sl _ _ len _ _)=>match iA P t with
     |some _=>some (.v (.int .i64 (.ofNat len)),none)
     |none=>none
   | some (.v (.slice none len _))=>match iA P t with
     |some _=>some (.v (.int .i64 (.ofNat len)),none)
     |none=>none
   |_=>none
 |_,_=>none
def CC (P:Program)(fr:Tr)(hp:dq)(t:Nat)(U:Array (Nat×Operand)):Option (SV×Option Nat):=match KH fr U.toList,j1 P t,vP P t with
 | some parts,some z,some pl=>match BA (Ym pl) (SV.of z).cells parts with
   |some out=>some (.agg out,none)
   |none=>none
 |_,_,_=>none
def My (P:Program)(fr:Tr)(hp:dq):Op->Option (SV×Option Nat)
 | .fieldAddr t x k=>oM P fr hp t x k
 | .load t x=>H8 P fr hp t x
 | .indexAddr t x i=>oN P fr hp t x i
 | .makeFunc (.func f) U xs=>rv P fr hp f U xs
 | .binOp op t x y _=>CB P fr hp op t x y
 | .call {callee:=.builtin .len,args:=xs,argTypes:=ts}=>Mw P fr hp xs ts
 | .build t ps=>CC P fr hp t ps
 |_=>none
section read
variable {P:Program} {n:FD} {ρ:Env} {E:List Value} {fr:Tr} {hp:dq} {S:List (Nat×Value)} {H:List Fact}
variable {o:Oper}{v:SV}
def mF (P:Program)(n:FD)(ρ:Env)(E:List Value)(hp:dq)(S:List (Nat×Value))(H:List Fact)(o:Oper)(v:SV)(d:Option Nat):Prop:=
 ∃ x B m,v.den ρ E=some x/\QQ H m=B/\(d=none->B=[])/\(∀g,d=some g->∃U φ,mc hp g=some U/\U.isFact ρ E g φ/\B=[φ])/\
   ∀a w,gU n S a->AY [] B w->(execOp a.eval o).run P w=.ok (.value x) w
theorem yY {x:Value} (hv:v.den ρ E=some x)(h:∀a w,gU n S a->(execOp a.eval o).run P w=.ok (.value x) w):mF P n ρ E hp S H o v none:=
 ⟨x,[],[],hv,rfl,(λ_=>rfl),(λ_ h=>by cases h),λa w U _=>h a w U⟩
theorem tX {l:List SV} {vs:List Value} (h:SV.dens ρ E l=some vs):(SV.agg l).den ρ E=some (.agg vs.toArray):=by simp[SV.den,h]
theorem ye {k:Nat} {φ:Fact} (h:H[k]? =some φ):QQ H [k]=[φ]:=by simp[QQ,h]
theorem K1 {op:BinOp} {t u:TypeId} {x y:Operand} {a b v:Value} (ho:o.op=.binOp op t x y u)(hx:da S x=some a)(hy:da S y=some b)(hr:∀w,(do eqGuard op t x y a b;binOp op t a b:Sem Value).run P w=.ok v w):
  ∀(U:Act) w,gU n S U->(execOp U.eval o).run P w=.ok (.value v) w:=λU w hf=>by
 have h1:=hr w;unfold execOp;simp only[ho,hf.eval hx,hf.eval hy];rw[Sem.run_bind,h1];rfl
theorem Qbu {t e:Nat} (U:qy P t=some e)(op:BinOp)(x y:Operand)(a:Option Addr)(w:World):(op=.eql->(do eqGuard op t x y (.pointer a) (.pointer none);binOp op t (.pointer a) (.pointer none):Sem Value).run P w=.ok (.bool a.isNone) w)/\
  (op=.neq->(do eqGuard op t x y (.pointer a) (.pointer none);binOp op t (.pointer a) (.pointer none):Sem Value).run P w=.ok (.bool (!a.isNone)) w):=
 ⟨λe=>by subst e;exact EG U x y a w,λe=>by subst e;exact a1u U x y a w⟩
theorem FF (h:Rel ρ E fr hp S H) {d:Option Nat} (he:My P fr hp o.op=some (v,d)):mF P n ρ E hp S H o v d:=by
 unfold My at he;split at he
 ·
  rename_i t x k U;unfold oM at he;split at he
  ·rename_i g q f hx hk;cases he;obtain⟨y,h1,h2⟩:=sD h hx;simp only[SV.den,d']at h1;obtain⟨e,h3,rfl⟩:=h1;refine yY (x:=.pointer (some ⟨e.1,e.2.2+q+f,none⟩)) (by simp[SV.den,h3,A']) λa w hf=>?_
   simp[execOp,U,hf.eval h2,mN hk]
  · cases he
 ·
  rename_i t x U;unfold H8 at he;split at he
  ·rename_i g q hx;split at he
   ·rename_i ob sz ag hg hs ha;split at he
    ·rename_i cs hc;obtain⟨y,h1,h2⟩:=sD h hx;obtain⟨k,φ,h3,h4,_,_⟩:=OM h.hp hg;obtain⟨b,c,vs,h5,h6,h7⟩:=HO.cells_at h4 hc;simp only[SV.den,h5,Option.map_some,Option.some.injEq]at h1;subst h1
     have kq:∀w,AY [] [φ] w->qV w b q ((vs.drop q).take sz):=λw hw=>by
      obtain⟨N,F,h8⟩:=hw.2 φ ax;have:=QcO (j:=q) (h7 N F w h8) rfl (sz:=sz);rwa [M']at this
     have hd:=QcH (ρ:=ρ) (E:=E) sz (QcG q h6);split at he
     ·split at he
      ·rename_i hb;cases he;refine⟨.agg ((vs.drop q).take sz).toArray,[φ],[k],tX hd,ye h3,(λe=>by cases e),(λg' e=>by cases e;exact⟨ob,φ,hg,h4,rfl⟩),λa w hf hw=>?_⟩;have hl:((vs.drop q).take sz).length=sz:=by rw[B3 hd];exact Qs hb
       have:=TT (P:=P) (kq w hw) hs ha hl (v:=.agg ((vs.drop q).take sz).toArray) rfl;simp[execOp,U,hf.eval h2,Instr.loadAt,Instr.sureAddr,this]
      · cases he
     ·split at he
      ·rename_i c' hb sQ;cases he;rw[sQ]at hd;obtain⟨u,us,h8,h9,h10⟩:=QI hd;cases h10;refine⟨u,[φ],[k],h9,ye h3,(λe=>by cases e),(λg' e=>by cases e;exact⟨ob,φ,hg,h4,rfl⟩),λa w hf hw=>?_⟩;have:=TT (P:=P) (kq w hw) hs ha (by rw[h8];exact(Qs hb).symm) (v:=u) (by rw[h8];rfl);simp[execOp,U,hf.eval h2,Instr.loadAt,Instr.sureAddr,this]
      · cases he
    · cases he
   · cases he
  · cases he
 ·
  rename_i t x i U;unfold oN at he;split at he
  ·rename_i g off len cap own ik j e hx hi PN;split at he
   ·rename_i sz hs hj;cases he;obtain⟨y,h1,h2⟩:=sD h hx;simp only[SV.den,d']at h1;obtain⟨en,h3,rfl⟩:=h1;have fb:=nN h hi;have bp:j<len:=u' hj;refine yY (x:=.pointer (some ⟨en.1,en.2.2+off+j*sz,none⟩)) (by simp[SV.den,h3,A']) λa w hf=>?_
    have h9:(0:Int)<=(Int.ofNat j)/\(Int.ofNat j)<len:=by simp;omega
    simp[execOp,U,hf.eval h2,hf.eval fb,Instr.indexAt,asIntOf,run_underlying (w5 PN),bp,AD hs,Addr.add];try omega
   · cases he
  · cases he
 ·
  rename_i f fi xs U;unfold rv at he;split at he
  ·rename_i us vs YA JC;cases he;obtain⟨ys,h1,h2⟩:=QcI h JC;obtain⟨zs,h3,h4⟩:=QcI h YA;refine yY (x:=.func (.func f) zs.toArray ys.toArray) (Ld h3 h1) λa w hf=>?_
   have gY:xs.map a.eval=ys.toArray:=by
    have:=hf.evalL h2;have h0:xs=xs.toList.toArray:=ax
    rw[<-this,h0,q']
   have VX:fi.map a.eval=zs.toArray:=by
    have:=hf.evalL h4;have h0:fi=fi.toList.toArray:=ax
    rw[<-this,h0,q']
   simp[execOp,U,Instr.makeFunc,gY,VX]
  · cases he
 ·
  rename_i op t x y u U;unfold CB at he;split at he
  ·rename_i k a k' b hx hy;split at he
   ·rename_i hb;cases he;simp only[f',r',decide_eq_false_iff_not]at hb;obtain rfl:=sT hb.1;exact yY rfl (K1 U (nN h hx) (nN h hy) λw=>by simp[eqGuard,binOp,Op.intDiv,hb.2])
   ·rename_i hb;cases he;simp only[f',r',decide_eq_false_iff_not]at hb;obtain rfl:=sT hb.1;exact yY rfl (K1 U (nN h hx) (nN h hy) λw=>by simp[eqGuard,binOp,Op.intDiv,hb.2])
   · cases he
  ·rename_i hx hy;obtain⟨y',h1,h2⟩:=sD h hx;simp only[SV.den,d']at h1;obtain⟨en,h3,rfl⟩:=h1;split at he
   ·rename_i ht;cases he;exact yY rfl (K1 U h2 (nN h hy) λw=>nk ht _ _ _ _ _ _ _ w)
   ·rename_i ht;cases he;exact yY rfl (K1 U h2 (nN h hy) λw=>nm ht _ _ _ _ _ _ _ w)
   · cases he
  ·rename_i hx hy;split at he
   ·rename_i ht;cases he;exact yY rfl (K1 U (nN h hx) (nN h hy) λw=>nk ht _ _ _ _ _ _ _ w)
   ·rename_i ht;cases he;exact yY rfl (K1 U (nN h hx) (nN h hy) λw=>nm ht _ _ _ _ _ _ _ w)
   · cases he
  ·rename_i hx hy;obtain⟨y',h1,h2⟩:=sD h hx;simp only[SV.den,d']at h1;obtain⟨en,h3,rfl⟩:=h1;split at he
   ·rename_i ht;cases he;exact yY rfl (K1 U h2 (nN h hy) λw=>(Qbu ht _ _ _ _ w).1 rfl)
   ·rename_i ht;cases he;exact yY rfl (K1 U h2 (nN h hy) λw=>(Qbu ht _ _ _ _ w).2 rfl)
   · cases he
  ·rename_i hx hy;split at he
   ·rename_i ht;cases he;exact yY rfl (K1 U (nN h hx) (nN h hy) λw=>(Qbu ht _ _ _ _ w).1 rfl)
   ·rename_i ht;cases he;exact yY rfl (K1 U (nN h hx) (nN h hy) λw=>(Qbu ht _ _ _ _ w).2 rfl)
   · cases he
  · cases he
 ·
  rename_i xs ts U;unfold Mw at he;split at he
  ·rename_i x t JC YI;have Wr:xs=#[x]:=by cases xs;simp_all
   have Wo:ts=#[t]:=by cases ts;simp_all
   subst Wr;subst Wo;split at he
   ·rename_i g off len cap own hx;split at he
    ·rename_i e ht;cases he;obtain⟨y,h1,h2⟩:=sD h hx;simp only[SV.den,d']at h1;obtain⟨en,h3,rfl⟩:=h1;exact yY rfl λa w hf=>by simp[execOp,U,resolve,invoke,builtin,Builtin.len_,hf.eval h2,run_underlying (w5 ht),goInt]
    · cases he
   ·rename_i len cap hx;split at he
    ·rename_i e ht;cases he;exact yY rfl λa w hf=>by simp[execOp,U,resolve,invoke,builtin,Builtin.len_,hf.eval (nN h hx),run_underlying (w5 ht),goInt]
    · cases he
   · cases he
  · cases he
 ·
  rename_i t ps U;unfold CC at he;split at he
  ·rename_i parts z pl R1 hz hpl;split at he
   ·rename_i out Wj;cases he;obtain⟨xs,h1,h2⟩:=pY h R1;have hzd:SV.dens ρ E (SV.of z).cells=some z.cells.toList:=SV.cells_den (SV.of_den z) (λi=>by unfold SV.of;split<;>simp);obtain⟨os,h3,h4⟩:=mM hzd h1 Wj;refine yY (tX h3) λa w gj=>?_
    have h0:ps.map (λx=>(x.1,a.eval x.2))=xs.toArray:=by
     rw[<-gj.evalP h2,<-q']
    have h1:=run_build hz hpl h4 w;rw[<-h0]at h1;simp only[execOp,U,Sem.run_bind];rw[show(ps.map λx=>match x with|(i,x)=>(i,a.eval x))=ps.map (λx=>(x.1,a.eval x.2))from rfl,h1];rfl
   · cases he
  · cases he
 · cases he
end read
end
end
end Go.Proofs.YtocfkfhdcnjklaaGreatDoor
