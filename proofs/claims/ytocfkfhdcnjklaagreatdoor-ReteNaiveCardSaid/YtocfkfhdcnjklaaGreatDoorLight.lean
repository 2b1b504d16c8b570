import Derived.Test.YtocfkfhdcnjklaaGreatDoorBase
import Derived.Maps.Own
import Derived.Maps.OwnSet
import Derived.Maps.Views
import Derived.Deep.DeepAppendRoom
open Option renaming map_eq_some_iff->d',map_some->r!,isNone->t!
open Nat renaming le_of_ble_eq_true->f',beq->q',blt->A',le_refl->E',ble->K',add_assoc->M',zero_add->W',eq_of_beq_eq_true->g!,div->l!,zero_le->p!,lt_irrefl->u!,add_mul->v!,sub->w!,mod->x!
open Bool renaming and_eq_true->i',not_eq_true'->z',rec->Q',or_eq_false_iff->h!
open List renaming getElem?_eq_some_iff->x',map_toArray->B',getElem_mem->R',eq_nil_of_length_eq_zero->T',getElem?_take->a!,nodup_append->b!,getElem?_eq_getElem->c!,all_eq_true->d!,cons_append->e!,mem_cons->i!,getElem?_drop->j!,mem_singleton->k!,append_assoc->n!,length_take->o!,any_append->q!
namespace Go.Proofs.YtocfkfhdcnjklaaGreatDoor
section
open Go.RowKit
noncomputable section
def nD (ops:Array Oper)(ax L:aq Nat)(i n d:Nat)(o:Oper):Bool:=
 iQ ax i&& !iQ L i&&(o.after.toList.all λe=>!Region.binds .any e||iQ L e.on)&&A' d n
section
variable {P:da} {C:Ctx} {n:FD} {Q:Exit->Act->bx->Prop} {ops:Array Oper} {ax L:aq Nat} {D:aq (Nat×Fact)} {Φ H:aq Fact} {S S':aq (Nat×bc)}
variable {o:Oper}{d t sz e m cp b q k c m' c':Nat}{x y:bw}{α:Type}{R:fc α}{p:bf Addr}{l:aq α}{v a:bc}{cs all:aq bc}{rest:aq Oper}{ik:IntKind}{z:Int}{u:TypeId}{g:Bool}{w:bx}{op:BinOp}
theorem Ow (dh:j2 ops ax=true)(i:Nat) (B:aq Fact)(m:aq Nat)(hi:ops[i]? =some o)(hd:o.dst=some d)(U:nD ops ax L i n d o=true)(hS:fk d S=S')(hB:QP H m=B)(hg:QM ops S o=some true)
  (det:∀a w,gm n S a->AZ Φ B w->(execOp a.eval o).run P w=.ok (.value v) w)
  (next:WX P C n Q ops ax (i::L) (B.map (λb=>(i,b))++D) Φ H ((d,v)::S')):WX P C n Q ops ax L D Φ H S:=by
 simp only[nD,i',z']at U;obtain⟨⟨⟨h1,h2⟩,h3⟩,h4⟩:=U;exact Du dh i B m hi h1 h2 h3 hd h4 hS hB (.inl ⟨hg,det⟩) next
theorem O6 (dh:j2 ops ax=true)(i:Nat) (hi:ops[i]? =some o)(hd:o.dst=some d)(U:nD ops ax L i n d o=true)(hS:fk d S=S')(hg:QM ops S o=some false)
  (next:WX P C n Q ops ax (i::L) D Φ H ((d,undef)::S')):WX P C n Q ops ax L D Φ H S:=by
 simp only[nD,i',z']at U;obtain⟨⟨⟨h1,h2⟩,h3⟩,h4⟩:=U;exact Du dh i [] [] hi h1 h2 h3 hd h4 hS rfl (.inr ⟨hg,rfl⟩) next
theorem HS (U:j2 ops ax=true)(i:Nat) (hi:ops[i]? =some o)(hd:o.dst=some d)(hl:nD ops ax L i n d o=true)(hS:fk d S=S')(hg:QM ops S o=some true)(hv:Ba S o.op=some v)
  (next:WX P C n Q ops ax (i::L) D Φ H ((d,v)::S')):WX P C n Q ops ax L D Φ H S:=
 Ow U i [] [] hi hd hl hS rfl hg (λa w hf _=>mY hf hv w) next
theorem YG (U:j2 ops ax=true)(i:Nat) (hi:ops[i]? =some o)(hd:o.dst=some d)(hl:nD ops ax L i n d o=true)(hS:fk d S=S')(hg:QM ops S o=some true)
  (ho:o.op=.call {callee:=.builtin .len,args:=#[x],argTypes:=#[t]}) (hx:dy S x=some (.slice p k c)) (ht:gG P t=some e)
  (next:WX P C n Q ops ax (i::L) D Φ H ((d,.int .i64 (k:Int))::S')):WX P C n Q ops ax L D Φ H S:=
 Ow U i [] [] hi hd hl hS rfl hg (λa w hf _=>by simp[execOp,ho,resolve,invoke,builtin,Builtin.len_,hf.eval hx,run_underlying (r5 ht),goInt]) next
theorem AF (U:j2 ops ax=true)(i:Nat) {off:Nat} (hi:ops[i]? =some o)(hd:o.dst=some d)(hl:nD ops ax L i n d o=true)(hS:fk d S=S')(hg:QM ops S o=some true)
  (ho:o.op=.fieldAddr t x k) (hx:dy S x=some (.pointer (some ⟨b,q,none⟩))) (hk:QZ P t k=some off)
  (next:WX P C n Q ops ax (i::L) D Φ H ((d,.pointer (some ⟨b,q+off,none⟩))::S')):WX P C n Q ops ax L D Φ H S:=
 Ow U i [] [] hi hd hl hS rfl hg (λa w hf _=>by simp[execOp,ho,hf.eval hx,mK hk]) next
theorem Oq (dh:j2 ops ax=true)(i:Nat) {U:Array (Nat×bw)} {z:bc} {pl:aq (Nat×Nat)} {parts:aq (Nat×bc)} {out:aq bc} (hi:ops[i]? =some o)(hd:o.dst=some d)(hl:nD ops ax L i n d o=true)(hS:fk d S=S')(hg:QM ops S o=some true)
  (ho:o.op=.build t U) (hz:iL P t=some z) (hp:tO P t=some pl) (he:Tt S U.toList=some parts) (hf:lT (Zx pl) z.cells.toList parts=some out)
  (next:WX P C n Q ops ax (i::L) D Φ H ((d,.agg out.toArray)::S')):WX P C n Q ops ax L D Φ H S:=
 Ow dh i [] [] hi hd hl hS rfl hg (λa w fC _=>by
  have h0:U.map (λx=>(x.1,a.eval x.2))=parts.toArray:=by
   rw[<-fC.evalP he,<-B']
  have h1:=run_build hz hp hf w;rw[<-h0]at h1;simp only[execOp,ho,Sem.run_bind];rw[show(U.map λx=>match x with|(i,x)=>(i,a.eval x))=U.map (λx=>(x.1,a.eval x.2))from rfl,h1];rfl) next
theorem nz (U:j2 ops ax=true)(i:Nat) (B:aq Fact)(m:aq Nat)(hi:ops[i]? =some o)(hd:o.dst=some d)(hl:nD ops ax L i n d o=true)(hS:fk d S=S')(hB:QP H m=B)(hg:QM ops S o=some true)
  (ho:o.op=.load t x) (hx:dy S x=some (.pointer (some ⟨b,q,none⟩))) (hc:∀w,AZ Φ B w->r6 w b q cs) (hs:QV P t=some sz) (ha:fJ P t=some g) (hlen:cs.length=sz) (hv:lK g cs=some v)
  (next:WX P C n Q ops ax (i::L) (B.map (λb=>(i,b))++D) Φ H ((d,v)::S')):WX P C n Q ops ax L D Φ H S:=
 Ow U i B m hi hd hl hS hB hg (λa w hf hw=>by simp[execOp,ho,hf.eval hx,Instr.loadAt,Instr.sureAddr,Ux (hc w hw) hs ha hlen hv]) next
theorem QdB {j:Nat} (h:r6 w b q all)(U:(all.drop j).take sz=cs):r6 w b (q+j) cs:=λi u hu=>by
 have:=h (j+i) u (by rw[<-U,a!]at hu;split at hu<;>first|(rw[j!]at hu;exact hu)|cases hu);rwa [<-M']at this
theorem Sy (dh:j2 ops ax=true)(i:Nat) (k j:Nat)(hi:ops[i]? =some o)(hd:o.dst=some d)(hl:nD ops ax L i n d o=true)(hS:fk d S=S')(hg:QM ops S o=some true)
  (ho:o.op=.load t x) (U:Φ[k]? =some (.cells b q all)) (hx:dy S x=some (.pointer (some ⟨b,q+j,none⟩))) (th:(all.drop j).take sz=cs) (hs:QV P t=some sz) (ha:fJ P t=some g) (hlen:cs.length=sz) (hv:lK g cs=some v)
  (next:WX P C n Q ops ax (i::L) D Φ H ((d,v)::S')):WX P C n Q ops ax L D Φ H S:=
 nz dh i [] [] hi hd hl hS rfl hg ho hx (λw ⟨⟨F,h⟩,_⟩=>QdB (h _ (gv U)).2 th) hs ha hlen hv next
theorem Dv (dh:j2 ops ax=true)(i:Nat) {U:Nat} (k j:Nat)(hi:ops[i]? =some o)(hd:o.dst=some d)(hl:nD ops ax L i n d o=true)(hS:fk d S=S')(hg:QM ops S o=some true)
  (ho:o.op=.load t x) (bs:QP H [k]=[.blk b all U]) (hx:dy S x=some (.pointer (some ⟨b,j,none⟩))) (th:(all.drop j).take sz=cs) (hs:QV P t=some sz) (ha:fJ P t=some g) (hlen:cs.length=sz) (hv:lK g cs=some v)
  (next:WX P C n Q ops ax (i::L) ((i,.blk b all U)::D) Φ H ((d,v)::S')):WX P C n Q ops ax L D Φ H S:=
 nz dh i [.blk b all U] [k] hi hd hl hS bs hg ho hx (λw ⟨_,h⟩=>by
  obtain⟨N,F,h1⟩:=h _ (k!.2 rfl);have:=QdB (Zn h1.2) th;rwa [W']at this) hs ha hlen hv next
theorem O5 (dh:j2 ops ax=true)(i:Nat) (k j:Nat)(hi:ops[i]? =some o)(hd:o.dst=some d)(hl:nD ops ax L i n d o=true)(hS:fk d S=S')(hg:QM ops S o=some true)
  (ho:o.op=.indexAddr t x y) (bs:Φ[k]? =some (.sli sz R p cp l)) (hx:dy S x=some (.slice p l.length cp)) (hy:dy S y=some (.int ik z)) (hz:z=(j:Int)) (hj:j<l.length) (he:gG P t=some e) (hs:QV P e=some sz)
  (next:∀b q cs u,l[j]? =some u->cs.length=sz->WX P C n Q ops ax (i::L) D (.cells b q cs::.rep R cs u::Φ) H ((d,.pointer (some ⟨b,q,none⟩))::S')):WX P C n Q ops ax L D Φ H S:=by
 subst hz;refine HR (Λ:=Nat×Nat×aq bc) (pure:=λr=>p=some ⟨r.1,r.2.1,none⟩/\r.2.2.length=sz) (facts:=λr=>[.cells r.1 (r.2.1+j*sz) r.2.2,.rep R r.2.2 l[j]]) (λF w eN=>?_) ?_
 ·obtain⟨p',n',c',xs,GW,JU,hc,hm,kY,fl⟩:=(eN _ (gv bs):xr F w sz (R.p F w) (.slice p l.length cp) l)
  cases GW;obtain⟨b,off,hp,hF,iJ⟩:=fl au;obtain⟨cs,U,hr,hu⟩:=kY.at (c! hj)
  refine⟨(b,off,cs),⟨hp,U⟩,λφ gy=>?_⟩;simp only[i!,List.not_mem_nil,or_false]at gy;rcases gy with rfl|rfl
  ·refine⟨hF,λi u jT=>?_⟩;rw[M'];exact iJ _ u (hu i u jT)
  · exact hr
 ·rintro⟨b,off,cs⟩ ⟨rfl,U⟩;refine Ow dh i [] [] hi hd hl hS rfl hg (λa w hf _=>?_) (next b (off+j*sz) cs _ (c! hj) U);have h1:(0:Int)<=j/\(j:Int)<l.length:=au
  simp[execOp,ho,hf.eval hx,hf.eval hy,Instr.indexAt,asIntOf,run_underlying (r5 he),h1,w7 hs,Addr.add,hj]
theorem Eg {Λ:Type} {cells:α->Λ->aq bc} {pure:α->Λ->Prop} {facts:α->Λ->aq Fact} {x:α} (op:ra R cells pure facts)(k:Nat)(hk:Φ[k]? =some (.rep R cs x))
  (next:∀r:Λ,cs=cells x r->pure x r->WX P C n Q ops ax L D (facts x r++Φ) H S):WX P C n Q ops ax L D Φ H S:=
 HR (pure:=λr=>cs=cells x r/\pure x r) (facts:=facts x) (λF w eN=>by obtain⟨r,h1,U,h3⟩:=op F w cs x (eN _ (gv hk));exact⟨r,⟨h1,U⟩,h3⟩) λr ⟨h1,U⟩=>next r h1 U
theorem xk {t:TypeId} {b:bc} (hg:QM ops S o=some true)(hd:o.dst=some d)(hn:A' d n=true)(hS:fk d S=S')(ho:o.op=.binOp op t x y u)(hx:dy S x=some a)(hy:dy S y=some b)
  (hr:∀w,(do eqGuard op t x y a b;binOp op t a b:Sem bc).run P w=.ok v w) (next:WL P C n Q Φ H ((d,v)::S') ops rest):WL P C n Q Φ H S ops (o::rest):=
 JQ hg hd hn hS (λ_ w U _=>by
  have h1:=hr w;unfold execOp;simp only[ho,U.eval hx,U.eval hy];rw[Sem.run_bind,h1];rfl) next
theorem O3 (dh:j2 ops ax=true)(i:Nat) {t:TypeId} {b:bc} (hi:ops[i]? =some o)(hd:o.dst=some d)(hl:nD ops ax L i n d o=true)(hS:fk d S=S')(hg:QM ops S o=some true)
  (ho:o.op=.binOp op t x y u) (hx:dy S x=some a) (hy:dy S y=some b) (hr:∀w,(do eqGuard op t x y a b;binOp op t a b:Sem bc).run P w=.ok v w)
  (next:WX P C n Q ops ax (i::L) D Φ H ((d,v)::S')):WX P C n Q ops ax L D Φ H S:=
 Ow dh i [] [] hi hd hl hS rfl hg (λ_ w U _=>by
  have h1:=hr w;unfold execOp;simp only[ho,U.eval hx,U.eval hy];rw[Sem.run_bind,h1];rfl) next
theorem nf {P:da} (U:gG P t=some e)(x y:bw)(p:bf Addr)(m c m' c':Nat)(w:bx):(do eqGuard .eql t x y (.slice p m c) (.slice none m' c');binOp .eql t (.slice p m c) (.slice none m' c'):Sem bc).run P w=.ok (.bool (t! p)) w:=by
 have h:=Lib.run_eql_slice_nil (P:=P) w t e p m c m' c' (r5 U);rw[Sem.run_bind,show(eqGuard .eql t x y (.slice p m c) (.slice none m' c')).run P w=.ok () w from rfl];exact h
theorem ng {P:da} (U:gG P t=some e)(x y:bw)(p:bf Addr)(m c m' c':Nat)(w:bx):(do eqGuard .neq t x y (.slice p m c) (.slice none m' c');binOp .neq t (.slice p m c) (.slice none m' c'):Sem bc).run P w=.ok (.bool (!Option.isNone p)) w:=by
 have h:=run_neq_slice_nil_any (P:=P) w t e p m c m' c' (r5 U);rw[Sem.run_bind,show(eqGuard .neq t x y (.slice p m c) (.slice none m' c')).run P w=.ok () w from rfl];exact h
theorem Zv {t e:TypeId} (hg:QM ops S o=some true)(hd:o.dst=some d)(hn:A' d n=true)(U:fk d S=S')(ho:o.op=.binOp .eql t x y u)(hx:dy S x=some (.slice p m c))(hy:dy S y=some (.slice none m' c'))(ht:gG P t=some e)
 (next:WL P C n Q Φ H ((d,.bool (t! p))::S') ops rest):WL P C n Q Φ H S ops (o::rest):=xk hg hd hn U ho hx hy (nf ht x y p m c m' c') next
theorem Js {t e:TypeId} (hg:QM ops S o=some true)(hd:o.dst=some d)(hn:A' d n=true)(U:fk d S=S')(ho:o.op=.binOp .neq t x y u)(hx:dy S x=some (.slice p m c))(hy:dy S y=some (.slice none m' c'))(ht:gG P t=some e)
 (next:WL P C n Q Φ H ((d,.bool (!Option.isNone p))::S') ops rest):WL P C n Q Φ H S ops (o::rest):=xk hg hd hn U ho hx hy (ng ht x y p m c m' c') next
theorem Jr {g:Nat} {i:bw} (k j:Nat)(hg:QM ops S o=some true)(hd:o.dst=some d)(hn:A' d n=true)(hS:fk d S=S')(ho:o.op=.indexAddr t x i)
  (U:H[k]? =some (.own e sz R (.slice (some ⟨g,0,none⟩) m cp) l)) (hx:dy S x=some (.slice (some ⟨g,0,none⟩) m cp)) (hi:dy S i=some (.int ik z)) (hz:z=(j:Int)) (hj:j<l.length) (he:gG P t=some e) (hs:QV P e=some sz)
  (next:WL P C n Q Φ H ((d,.pointer (some ⟨g,j*sz,none⟩))::S') ops rest):WL P C n Q Φ H S ops (o::rest):=
 HX k j hg hd hn hS ho U hx hi hz hj he hs λg' e=>by cases e;exact next
theorem V2 (hw:Ql C Φ H w)(bs:H[k]? =some (.own e sz R (.slice p m cp) l)):m=l.length/\(0<l.length->∃g,p=some ⟨g,0,none⟩):=by
 obtain⟨F,N,hi⟩:=hw;obtain⟨_,U⟩:=hi.owns k _ bs;exact⟨U.len,λh=>by obtain⟨g,hp,_⟩:=U.head h;exact⟨g,hp⟩⟩
theorem Jv (k:Nat)(bs:H[k]? =some (.own e sz R (.slice p m cp) l))(next:m=l.length->(0<l.length->∃g,p=some ⟨g,0,none⟩)->WX P C n Q ops ax L D Φ H S):WX P C n Q ops ax L D Φ H S:=
 λlisted a av w U=>next (V2 U.holds bs).1 (V2 U.holds bs).2 listed a av w U
theorem pK (k:Nat)(U:H[k]? =some (.own e sz R (.slice p m cp) l))(next:m=l.length->(0<l.length->∃g,p=some ⟨g,0,none⟩)->WL P C n Q Φ H S ops rest):WL P C n Q Φ H S ops rest:=
 λa w hf hw=>next (V2 hw U).1 (V2 hw U).2 a w hf hw
theorem Qc0 {c:Code} (k:Nat)(U:H[k]? =some (.own e sz R (.slice p m cp) l))(next:m=l.length->(0<l.length->∃g,p=some ⟨g,0,none⟩)->WC P C n Q Φ H S c):WC P C n Q Φ H S c:=
 λa w hf hw=>next (V2 hw U).1 (V2 hw U).2 a w hf hw
theorem Pm (dh:j2 ops ax=true)(i:Nat) (k j:Nat)(hi:ops[i]? =some o)(hd:o.dst=some d)(hl:nD ops ax L i n d o=true)(hS:fk d S=S')(hg:QM ops S o=some true)
  (ho:o.op=.indexAddr t x y) (bs:H[k]? =some (.own e sz R (.slice p m cp) l)) (hx:dy S x=some (.slice p m cp)) (hy:dy S y=some (.int ik z)) (hz:z=(j:Int)) (hj:j<l.length) (he:gG P t=some e) (hs:QV P e=some sz)
  (next:∀g,p=some ⟨g,0,none⟩->WX P C n Q ops ax (i::L) D Φ H ((d,.pointer (some ⟨g,j*sz,none⟩))::S')):WX P C n Q ops ax L D Φ H S:=
 Jv k bs λhm hp=>by
  obtain⟨g,rfl⟩:=hp au;subst hz;refine Ow dh i [] [] hi hd hl hS rfl hg (λa w U _=>?_) (next g rfl);have h1:(0:Int)<=j/\(j:Int)<m:=au
  have h2:j<m:=au
  simp[execOp,ho,U.eval hx,U.eval hy,Instr.indexAt,asIntOf,run_underlying (r5 he),h1,h2,w7 hs];unfold Addr.add;split<;>simp_all
theorem QdH (dh:j2 ops ax=true)(i:Nat) {g:Nat} (k j:Nat)(hi:ops[i]? =some o)(hd:o.dst=some d)(hl:nD ops ax L i n d o=true)(hS:fk d S=S')(hg:QM ops S o=some true)
  (ho:o.op=.indexAddr t x y) (U:H[k]? =some (.own e sz R (.slice (some ⟨g,0,none⟩) m cp) l)) (hx:dy S x=some (.slice (some ⟨g,0,none⟩) m cp)) (hy:dy S y=some (.int ik z)) (hz:z=(j:Int)) (hj:j<l.length) (he:gG P t=some e) (hs:QV P e=some sz)
  (next:WX P C n Q ops ax (i::L) D Φ H ((d,.pointer (some ⟨g,j*sz,none⟩))::S')):WX P C n Q ops ax L D Φ H S:=
 Pm dh i k j hi hd hl hS hg ho U hx hy hz hj he hs λg' e=>by cases e;exact next
theorem ny (dh:j2 ops ax=true)(i:Nat) {st g:Nat} {ag:Bool} {y:α} {cells:α->Unit->aq bc} {pure:α->Unit->Prop} {facts:α->Unit->aq Fact} (op:ra R cells pure facts)(k j q:Nat)
  (hi:ops[i]? =some o) (hd:o.dst=some d) (hl:nD ops ax L i n d o=true) (hS:fk d S=S') (hg:QM ops S o=some true) (ho:o.op=.load t x)
  (U:QP H [k]=[.own e sz R (.slice (some ⟨g,0,none⟩) m cp) l]) (hx:dy S x=some (.pointer (some ⟨g,j*sz+q,none⟩))) (hj:l[j]? =some y) (hs:QV P t=some st) (ha:fJ P t=some ag)
  (hv:lK ag (((cells y ()).drop q).take st)=some v) (hlen:(((cells y ()).drop q).take st).length=st)
  (next:pure y ()->WX P C n Q ops ax (i::L) ((i,.own e sz R (.slice (some ⟨g,0,none⟩) m cp) l)::D) Φ H ((d,v)::S')):WX P C n Q ops ax L D Φ H S:=by
 have rD:∀N F w,(Fact.own e sz R (.slice (some ⟨g,0,none⟩) m cp) l).op N F w->r6 w g (j*sz+q) (((cells y ()).drop q).take st)/\pure y ():=by
  intro N F w ⟨_,xs,rA,kY⟩;obtain⟨cs,AO,hr,hu⟩:=kY.at hj;obtain⟨r,h1,h2,_⟩:=op F w cs y hr;subst h1;refine⟨λz u hq=>?_,h2⟩;have:=rA.cells (g:=g) rfl (j*sz+(q+z)) u (hu _ u (by rw[a!]at hq;split at hq<;>first|(rw[j!]at hq;exact hq)|cases hq));rw[z6]at this;rw[W']at this;rwa [M']
 intro listed a av w hr
 have a0Z:pure y ():=by
  obtain⟨F,N,hm⟩:=hr.holds
  have hk:H[k]? =some (.own e sz R (.slice (some ⟨g,0,none⟩) m cp) l):=by
   simp only[QP,List.filterMap_cons,List.filterMap_nil]at U;split at U;· cases U
   · rename_i b hb;rw[hb];simpa using U
  exact(rD _ _ _ (hm.owns k _ hk)).2
 exact nz dh i [.own e sz R (.slice (some ⟨g,0,none⟩) m cp) l] [k] hi hd hl hS U hg ho hx (λw ⟨_,h⟩=>by
  obtain⟨N,F,h1⟩:=h _ (k!.2 rfl);exact(rD N F w h1).1) hs ha hlen hv (next a0Z) listed a av w hr
end
end
end
section
open Go.RowKit
def Gf (h:Fact):Prop:=∀N F G w,h.op N F w->h.op N G w
theorem mu {α:Type} {e sz m c:Nat} {R:fc α} {p:bf Addr} {l:aq α} {F:eL} {w:bx} (h:(Fact.own e sz R (.slice p m c) l).p F w):(Fact.sli sz R p c l).p F w:=by
 obtain⟨h1,h2⟩:=h;have hm:=h2.len;subst hm;obtain⟨xs,ho,kY⟩:=h2;rcases ho.2 with⟨h0,U⟩|⟨g,cap,cur,hv,_,hg,AU,kb,th,gx⟩
 ·obtain rfl:l=[]:=T' U;cases h0;exact⟨none,_,0,xs,rfl,rfl,E' _,au,kY,λh=>absurd h au⟩
 ·cases hv;refine⟨_,_,_,xs,rfl,rfl,AU,kb,kY,λ_=>⟨g,0,rfl,h1 g rfl,λj u hj=>?_⟩⟩;have:=ho.cells (g:=g) rfl j u hj;rwa [z6]at this
def Sk (q m:aq Nat):Bool:=q.all λi=>m.any (q' i)
theorem yC {q m:aq Nat} (h:Sk q m=true):∀i∈q,i∈m:=λi hi=>by
 have:=d!.1 h i hi;obtain⟨j,hj,U⟩:=List.any_eq_true.1 this;rw[g! U];exact hj
theorem gX.afterLend {C:Ctx} {Φ H:aq Fact} {F:eL} {N:Nat->eL} {w w':bx} (h:gX C Φ H F N w) {l m q:aq Nat} (hl:fR (l++m) H.length=true)(hq:Sk q m=true) {Hr:aq Fact} (gK:∀x∈Hr,Gf x)
  (U:Ql ⟨w,λk=>∃i,i<(QP H l).length/\N (l.getD i 0) k,λk=>F k\/∃j,j∈q/\N j k⟩ [] Hr w'):Ql C Φ (Hr++QP H m) w':=by
 obtain⟨F',N',U⟩:=U;obtain⟨h1,h2⟩:=QaE hl;have TQ:=yC hq
 have ZR:fR m H.length=true:=by
  have:∀(l:aq Nat),fR (l++m) H.length=true->fR m H.length=true:=by
   intro l;induction l with
   |nil=>exact id
   |cons i l ih=>intro h;simp only[e!,fR,i']at h;exact ih h.2
  exact this l hl
 have hS:∀k,(∃i,i<(QP H l).length/\N (l.getD i 0) k)->∃j,j∈l/\j<H.length/\N j k:=by
  rintro k ⟨i,hi,hk⟩;rw[(Zk H l λi hi=>h1 i (by simp[hi])).1]at hi;refine⟨l[i],R' hi,h1 _ (by simp[R' hi]),?_⟩;simpa[List.getD,hi]using hk
 have hql:∀j,j∈q->j∉l:=λj hj GY=>(b!.1 h2).2.2 j GY j (TQ j hj) rfl
 have gF:∀i k,i<Hr.length->N' i k->¬F k/\(∀j,j∈m->¬N j k):=by
  intro i k hi hk;obtain⟨_,b,c⟩:=U.nlt i k hi hk;refine⟨λhf=>c (U.fold k (.inl hf)),λj hj hn=>?_⟩;rcases b with b|b;· have:=(h.nlt j k (h1 j (by simp[hj])) hn).1;simp at b;omega
  ·obtain⟨j',M5,cj,JU⟩:=hS k b;exact h.apart j j' k (h1 j (by simp[hj])) cj (λe=>by subst e;exact(b!.1 h2).2.2 _ M5 _ hj rfl) hn JU
 have hr2:Ql ⟨w,λk=>∃i,i<(QP H l).length/\N (l.getD i 0) k,F⟩ [] Hr w':=by
  refine⟨F,N',λk hk=>Nat.lt_of_lt_of_le (h.flt k hk) U.mod.size,λ_ h=>h,λ_ h=>.inl h,bh,λi x hx=>gK x (List.mem_of_getElem? hx) _ _ _ _ (U.owns i x hx),λi k hi hk=>⟨(U.nlt i k hi hk).1,(U.nlt i k hi hk).2.1,(gF i k hi hk).1⟩,U.apart,U.mod⟩
 exact h.after hl hr2
section
variable {P:da} {C:Ctx} {n:FD} {Q:Exit->Act->bx->Prop} {Φ Φ':aq Fact} {H H':aq Fact} {S S':aq (Nat×bc)} {ops:Array Oper} {rest:aq Oper} {o:Oper} {d:Nat} {c x y:Code}
variable {f:FuncId}{xs:Array bw}{ts:Array TypeId}{args:aq bc}{Φf Hf:aq Fact}{R:bc->aq Fact->aq Fact->Prop}
theorem IY (l m q:aq Nat)(hg:QM ops S o=some true)
  (ho:o.op=.call {callee:=.value (.func f),args:=xs,argTypes:=ts}) (hx:um S xs.toList=some args) (ja:dq P f=true)
  (hH:QP H l=Hf) (spec:QF P f args Φf Hf R) (eN:∀F w,(∀ψ∈Φ,ψ.p F w)->(∀ψ∈QP H q,ψ.p F w)->∀φ∈Φf,φ.p F w) (gK:∀v bz Hr,R v bz Hr->bz=[]/\∀x∈Hr,Gf x) (hl:fR (l++m) H.length=true) (hq:Sk q m=true) (hm:QP H m=H')
  (next:∀v bz Hr,R v bz Hr->∀a w,gm n S a->Ql C (bz++Φ) (Hr++H') w->wpList P ops Q rest (a.put o.dst v) w):WL P C n Q Φ H S ops (o::rest):=by
 subst hH;subst hm;intro a w U ⟨F,N,hi⟩;obtain⟨i1,i2⟩:=QaE hl;have TQ:=yC hq
 have jx:fR l H.length=true:=by
  clear spec next
  have:∀(l:aq Nat),fR (l++m) H.length=true->fR l H.length=true:=by
   intro l;induction l with
   |nil=>intro _;rfl
   | cons i l ih=>
     intro h;simp only[e!,fR,i',z',q!,h!]at h⊢;exact⟨⟨h.1.1,h.1.2.1⟩,ih h.2⟩
  exact this l hl
 have hp:=hi.pick l jx;have iY:∀k,F k->(F k\/∃j,j∈q/\N j k):=λ_ h=>.inl h
 have eS:=spec (λk=>F k\/∃j,j∈q/\N j k) _ w (λk hk=>by
   rcases hk with hk|⟨j,hj,hk⟩
   · exact hi.flt k hk
   · exact(hi.nlt j k (i1 j (by simp[TQ j hj])) hk).1)
  (eN _ w (λψ iO=>ψ.good iY (fX.refl _ _) (hi.facts ψ iO)) (λψ iO=>by
   obtain⟨j,hj,IQ⟩:=List.mem_filterMap.1 iO;exact ψ.opgood (λk hk=>.inr ⟨j,hj,hk⟩) (fX.refl _ _) iY (fX.refl _ _) (hi.owns j ψ IQ)))
  (λi x hx=>x.opgood (λ_ h=>h) (fX.refl _ _) iY (fX.refl _ _) (hp.owns i x hx))
  (λi k iW hk=>⟨(hp.nlt i k iW hk).1,λU=>by
   rcases U with U|⟨j,hj,U⟩
   · exact(hp.nlt i k iW hk).2.2 U
   · have AR:i<l.length:=by rw[(Zk H l λi hi=>i1 i (by simp[hi])).1]at iW;exact iW
     have e:l.getD i 0=l[i]:=by simp[AR]
     rw[e]at hk;exact hi.apart l[i] j k (i1 _ (by simp[R' AR])) (i1 j (by simp[TQ j hj])) (λe=>(b!.1 i2).2.2 _ (R' AR) _ (TQ j hj) e) hk U⟩) hp.apart
 refine wpList_step λK hK=>?_;rw[Ef U hg,if_pos rfl];unfold Oper.wp
 have fO:xs.map a.eval=args.toArray:=by
  have:=U.evalL hx;have h0:xs=xs.toList.toArray:=bh
  rw[<-this,h0,B']
 have eX:(execOp a.eval o).run P w=.ok (.enter f args.toArray) w:=by
  have DT:a.eval (.func f)=.func (.func f) #[] #[]:=rfl
  have h2:(resolve a.eval {callee:=.value (.func f),args:=xs,argTypes:=ts} o.type).run P w=.ok {target:=.fn (.func f) #[],args:=args.toArray} w:=by
   simp[resolve,DT,Deferred.ofValue,fO]
  unfold execOp;simp only[ho,Sem.run_bind,h2,Result.andThen_ok];simp[invoke,Pr ja]
 rw[eX,Oper.upon_enter];refine eS.mono ?_;rintro e w' ⟨v,bz,Hr,rfl,hR,hh⟩;obtain⟨rfl,fC⟩:=gK v bz Hr hR;exact hK _ _ (next v [] Hr hR a w' U (hi.afterLend hl hq fC hh))
theorem AE (l m q:aq Nat)(hg:QM ops S o=some true)(hd:o.dst=some d)(hn:A' d n=true)(hS:fk d S=S')
  (ho:o.op=.call {callee:=.value (.func f),args:=xs,argTypes:=ts}) (hx:um S xs.toList=some args) (ja:dq P f=true)
  (hH:QP H l=Hf) (spec:QF P f args Φf Hf R) (eN:∀F w,(∀ψ∈Φ,ψ.p F w)->(∀ψ∈QP H q,ψ.p F w)->∀φ∈Φf,φ.p F w) (gK:∀v U Hr,R v U Hr->U=[]/\∀x∈Hr,Gf x) (hl:fR (l++m) H.length=true) (hq:Sk q m=true) (hm:QP H m=H')
  (next:∀v U Hr,R v U Hr->WL P C n Q (U++Φ) (Hr++H') ((d,v)::S') ops rest):WL P C n Q Φ H S ops (o::rest):=
 IY l m q hg ho hx ja hH spec eN gK hl hq hm λv U Hr hR a w hf hw=>by rw[hd];exact next v U Hr hR _ w (hf.put (f' hn) hS) hw
end
theorem jf {φ:Fact} {Φ':aq Fact} {F:eL} {w:bx} (h:φ.p F w)(h':∀U∈Φ',U.p F w):∀U∈φ::Φ',U.p F w:=λU iO=>by
 rcases i!.1 iO with rfl|iO;· exact h
 · exact h' U iO
theorem QQ {F:eL} {w:bx}:∀U∈([]:aq Fact),U.p F w:=bh
theorem uA {x:Fact} (h:x∈([]:aq Fact)):Gf x:=by cases h
end
section
open Go.RowKit
variable {α:Type}{sz c:Nat}{R:fc α}{F:eL}{w:bx}{p:bf Addr}{l:aq α}
theorem Zy:(Fact.sli sz R none 0 ([]:aq α)).p F w:=⟨none,0,0,[],rfl,rfl,E' _,au,rfl,λh=>absurd h au⟩
theorem XZ (k:Nat)(h:(Fact.sli sz R p c l).p F w):(Fact.sli sz R p c (l.take k)).p F w:=by
 obtain⟨p',n',c',xs,U,e2,h1,h2,h3,h4⟩:=h;cases U;refine⟨p,_,c,xs.take (k*sz),rfl,rfl,by simp only[o!];omega,h2,h3.take k,λh0=>?_⟩;obtain⟨b,o,e3,h5,h6⟩:=h4 (by simp only[o!]at h0;omega);refine⟨b,o,e3,h5,λj u hu=>h6 j u ?_⟩;rw[a!]at hu;split at hu;· exact hu
 · cases hu
theorem Hs {U:fc α} (h:(Fact.sli sz R p c l).p F w)(hR:∀cs x,R.p F w cs x->U.p F w cs x):(Fact.sli sz U p c l).p F w:=by
 obtain⟨p',n',c',xs,e1,e2,h1,h2,h3,h4⟩:=h;exact⟨p',n',c',xs,e1,e2,h1,h2,h3.mono λcs x _=>hR cs x,h4⟩
end
section
open Go.RowKit
def JI (a:fK)(v:V)(has:aq Bool)(vals:aq V):bf (aq Bool×aq V):=
 if a.k=1 then some (has,vals)
 else if a.k=4 then if a.v=v then some (has,vals)else none
 else if a.k=3 then if 0<=a.var/\a.var<has.length/\has[a.var.toNat]? =some true/\vals[a.var.toNat]? =some v then some (has,vals)else none
 else if a.k=2 then if 0<=a.var/\a.var<has.length then some (has.set a.var.toNat true,vals.set a.var.toNat v)else none
 else none
theorem uv {a:fK} {v:V} {h:aq Bool} {vs:aq V} {h':aq Bool} {vs':aq V} (e:JI a v h vs=some (h',vs')):h'.length=h.length/\vs'.length=vs.length:=by
 unfold JI at e;repeat' split at e
 all_goals first|(cases e;done)|(simp at e;obtain⟨rfl,rfl⟩:=e;simp)
end
section
open Go.RowKit
section
variable {P:da} {C:Ctx} {n:FD} {Q:Exit->Act->bx->Prop} {Φ Φ':aq Fact} {H H':aq Fact} {S S':aq (Nat×bc)} {ops:Array Oper} {rest:aq Oper} {o:Oper} {d:Nat}
variable {f:FuncId}{args gw:aq bc}{xs:Array bw}{Φf Hf:aq Fact}{R:bc->aq Fact->aq Fact->Prop}{y:bw}{ts:Array TypeId}{fe:Array bc}
theorem u6 (l m:aq Nat)(hg:QM ops S o=some true)
  (eX:∀a w,gm n S a->(execOp a.eval o).run P w=.ok (.enter f args.toArray) w)
  (hH:QP H l=Hf) (spec:QF P f args Φf Hf R) (eN:∀F w,(∀ψ∈Φ,ψ.p F w)->∀φ∈Φf,φ.p F w) (hl:fR (l++m) H.length=true) (hm:QP H m=H')
  (next:∀v U Hr,R v U Hr->∀a w,gm n S a->Ql C (U++Φ) (Hr++H') w->wpList P ops Q rest (a.put o.dst v) w):WL P C n Q Φ H S ops (o::rest):=by
 subst hH;subst hm;intro a w hf ⟨F,N,hi⟩
 have jx:fR l H.length=true:=by
  clear spec next
  have:∀(l:aq Nat),fR (l++m) H.length=true->fR l H.length=true:=by
   intro l;induction l with
   |nil=>intro _;rfl
   | cons i l ih=>
     intro h;simp only[e!,fR,i',z',q!,h!]at h⊢;exact⟨⟨h.1.1,h.1.2.1⟩,ih h.2⟩
  exact this l hl
 have hp:=hi.pick l jx;have eS:=spec F _ w hi.flt (λφ bs=>eN F w hi.facts φ bs) hp.owns (λi k iW hk=>⟨(hp.nlt i k iW hk).1,(hp.nlt i k iW hk).2.2⟩) hp.apart;refine wpList_step λK hK=>?_;rw[Ef hf hg,if_pos rfl];unfold Oper.wp;rw[eX a w hf,Oper.upon_enter];refine eS.mono ?_;rintro e w' ⟨v,U,Hr,rfl,hR,hh⟩;exact hK _ _ (next v U Hr hR a w' hf (hi.after hl hh))
theorem PU (ho:o.op=.call {callee:=.value y,args:=xs,argTypes:=ts})(hy:dy S y=some (.func (.func f) #[] fe))(hx:um S xs.toList=some gw)
  (ja:dq P f=true) (ha:gw++fe.toList=args):∀a w,gm n S a->(execOp a.eval o).run P w=.ok (.enter f args.toArray) w:=by
 intro a w U
 have fO:xs.map a.eval=gw.toArray:=by
  have:=U.evalL hx;have h0:xs=xs.toList.toArray:=bh
  rw[<-this,h0,B']
 have h2:(resolve a.eval {callee:=.value y,args:=xs,argTypes:=ts} o.type).run P w=.ok {target:=.fn (.func f) fe,args:=gw.toArray} w:=by
  simp[resolve,U.eval hy,Deferred.ofValue,fO]
 have h3:gw.toArray++fe=args.toArray:=by rw[<-ha];simp
 unfold execOp;simp only[ho,Sem.run_bind,h2,Result.andThen_ok];simp[invoke,Pr ja,h3]
theorem nA (l m:aq Nat)(hg:QM ops S o=some true)(hd:o.dst=some d)(hn:A' d n=true)(hS:fk d S=S')
  (ho:o.op=.call {callee:=.value y,args:=xs,argTypes:=ts}) (hy:dy S y=some (.func (.func f) #[] fe)) (hx:um S xs.toList=some gw) (ja:dq P f=true) (ha:gw++fe.toList=args)
  (hH:QP H l=Hf) (spec:QF P f args Φf Hf R) (eN:∀F w,(∀ψ∈Φ,ψ.p F w)->∀φ∈Φf,φ.p F w) (hl:fR (l++m) H.length=true) (hm:QP H m=H')
  (next:∀v U Hr,R v U Hr->WL P C n Q (U++Φ) (Hr++H') ((d,v)::S') ops rest):WL P C n Q Φ H S ops (o::rest):=
 u6 l m hg (PU ho hy hx ja ha) hH spec eN hl hm λv U Hr hR a w hf hw=>by rw[hd];exact next v U Hr hR _ w (hf.put (f' hn) hS) hw
theorem rV {fe:aq bc} (hg:QM ops S o=some true)(hd:o.dst=some d)(hn:A' d n=true)(hS:fk d S=S')(ho:o.op=.makeFunc (.func f) #[] xs)(hx:um S xs.toList=some fe)
  (next:WL P C n Q Φ H ((d,.func (.func f) #[] fe.toArray)::S') ops rest):WL P C n Q Φ H S ops (o::rest):=
 JQ hg hd hn hS (λa w hf _=>by
  have U:xs.map a.eval=fe.toArray:=by
   have:=hf.evalL hx;have h0:xs=xs.toList.toArray:=bh
   rw[<-this,h0,B']
  simp[execOp,ho,Instr.makeFunc,U]) next
end
end
section
open Go Go.RowKit
section
variable {P:da} {C:Ctx} {n:FD} {Q:Exit->Act->bx->Prop} {Φ Φ':aq Fact} {H H':aq Fact} {S S':aq (Nat×bc)} {ops:Array Oper} {rest:aq Oper} {o:Oper} {d:Nat}
theorem G9 {α:Type} {t e e2 sz jN m2:Nat} {s x:bw} {R:fc α} {v z:bc} {l l2:aq α} {p:bf Addr} {cp:Nat} (k j:Nat)(hg:QM ops S o=some true)(hd:o.dst=some d)(hn:A' d n=true)(hS:fk d S=S')
  (ho:o.op=.call {callee:=.builtin .append,args:=#[s,x],argTypes:=#[t,t]}) (bs:H[k]? =some (.own e sz R v l)) (hs:dy S s=some v) (iO:H[j]? =some (.own e2 sz R (.slice p m2 cp) l2)) (hx:dy S x=some (.slice p l2.length cp))
  (he:gG P t=some e) (hr:j0 P e=some (z,sz,jN)) (tj:q' z.cells.size sz=true) (iR:A' 0 sz=true) (Iw:l.length+l2.length<=9223372036854775807) (Iz:(l.length+l2.length)*jN<=140737488355328)
  {H2:bf Addr->Nat->aq Fact} (hH:∀p' U,H.set k (.own e sz R (.slice p' (l++l2).length U) (l++l2))=H2 p' U) (next:∀p' U,WL P C n Q Φ (H2 p' U) ((d,.slice p' (l++l2).length U)::S') ops rest):WL P C n Q Φ H S ops (o::rest):=
 QcV k hg hd hn hS ho bs hs hx (λF N w hi=>by
  obtain⟨_,xs,ho,kY⟩:=hi.owns j _ iO;rcases ho.2 with⟨h0,h00⟩|⟨g,cap,cur,hv,_⟩
  · exact⟨xs,kY,λh=>absurd h au⟩
  ·cases hv;refine⟨xs,kY,λ_=>⟨g,0,rfl,λq u hq=>?_⟩⟩;have:=ho.cells (g:=g) rfl q u hq;rwa [z6]at this) he hr tj iR Iw Iz hH next
theorem YF (hg:QM ops S o=some true)(hd:o.dst=none)(run:∀a w,gm n S a->Ql C Φ H w->∃v w',(execOp a.eval o).run P w=.ok (.value v) w'/\Ql C Φ' H' w')(next:WL P C n Q Φ' H' S ops rest):WL P C n Q Φ H S ops (o::rest):=by
 intro a w U hw;obtain⟨v,w',hr,h1⟩:=run a w U hw;refine wpList_step λK hK=>?_
 rw[Ef U hg,if_pos rfl];unfold Oper.wp;rw[hr];unfold Oper.upon;rw[hd];exact hK _ _ (next _ _ U h1)
end
theorem T8 {α:Type} {l:aq α} {k:Nat} {x:α} (h:l[k]? =some x):l.set k x=l:=by
 obtain⟨h1,rfl⟩:=x'.1 h;exact List.set_getElem_self h1
end
section
open Go.RowKit
variable {P:da}{t e:Nat}
def vI (P:da)(t:Nat):bf Nat:=match P.underlying t with
 |some (.pointer e)=>some e
 |_=>none
theorem Ny (h:vI P t=some e):P.underlying t=some (.pointer e):=by
 unfold vI at h;split at h;· rename_i hu;cases h;exact hu
 · cases h
theorem Ts (U:vI P t=some e)(n:Nat)(a:bf Addr)(w:bx):(Op.equalIn (n+1) t (.pointer a) (.pointer none)).run P w=.ok a.isNone w:=by
 cases a<;>simp[Op.equalIn,run_underlying (Ny U)]
theorem a1y (U:vI P t=some e)(x y:bw)(a:bf Addr)(w:bx):(do eqGuard .neq t x y (.pointer a) (.pointer none);binOp .neq t (.pointer a) (.pointer none):Sem bc).run P w=.ok (.bool (!a.isNone)) w:=by
 rw[Sem.run_bind,show(eqGuard .neq t x y (.pointer a) (.pointer none)).run P w=.ok () w from rfl,Result.andThen_ok];have h:=Ts U 9999 a w;simp only[binOp];simp[Op.equal,Op.maxDepth,h]
theorem Ik (U:vI P t=some e)(x y:bw)(a:bf Addr)(w:bx):(do eqGuard .eql t x y (.pointer a) (.pointer none);binOp .eql t (.pointer a) (.pointer none):Sem bc).run P w=.ok (.bool a.isNone) w:=by
 rw[Sem.run_bind,show(eqGuard .eql t x y (.pointer a) (.pointer none)).run P w=.ok () w from rfl,Result.andThen_ok];have h:=Ts U 9999 a w;simp only[binOp];simp[Op.equal,Op.maxDepth,h]
end
section
open Go Go.RowKit
def ql (k:IntKind)(x:Int):Prop:=IntKind.min k<=x/\x<=IntKind.max k
def gd {α:Type} (c:Prop) [Decidable c] (m:bf α):bf α:=if c then m else none
def Qf {α β:Type} (m:bf α)(k:α->bf β):bf β:=match m with
 |some a=>k a
 |none=>none
def iT {σ O:Type} (X:bf (σ⊕O))(Y:σ->bf O):bf O:=match X with
 |some (.inl s)=>Y s
 |some (.inr o)=>some o
 |none=>none
def yb {σ O:Type} (Y:σ->bf O)(x:σ⊕O)(b:O):Prop:=match x with
 | .inl s=>Y s=some b
 | .inr o=>o=b
def fp {σ O:Type} (f:σ->bf (σ⊕O)):Nat->σ->bf O
 |0,_=>none
 |n+1,s=>iT (f s) (fp f n)
section
variable {α β σ O:Type}
variable {a b:Nat}{Y:σ->bf O}{s:σ}{m:bf α}{f:σ->bf (σ⊕O)}{x y:α}{k:α->bf β}
theorem oc {c:Prop} [Decidable c] {b:α} (h:gd c m=some b):c/\m=some b:=by
 unfold gd at h;split at h;· rename_i U;exact⟨U,h⟩
 · cases h
theorem QC {c:Prop} [Decidable c] (h:c):gd c m=m:=if_pos h
theorem Qw {b:β} (h:Qf m k=some b):∃a,m=some a/\k a=some b:=by
 unfold Qf at h;split at h;· rename_i a;exact⟨a,rfl,h⟩
 · cases h
theorem Q1 {a:α}:Qf (some a) k=k a:=rfl
theorem mC {X:bf (σ⊕O)} {b:O} (h:iT X Y=some b):∃x,X=some x/\yb Y x b:=by
 unfold iT at h;split at h;· rename_i s;exact⟨_,rfl,h⟩
 · rename_i o;cases h;exact⟨_,rfl,rfl⟩
 · cases h
theorem lH:iT (some (.inl s)) Y=Y s:=rfl
theorem B5 {o:O}:iT (some (.inr o)) Y=some o:=rfl
theorem QJ {x:σ⊕O} {b:O} (h:yb Y x b)(e:x=.inl s):Y s=some b:=by subst e;exact h
theorem Qu {x:σ⊕O} {b o:O} (h:yb Y x b)(e:x=.inr o):b=o:=by subst e;exact Eq.symm h
theorem IW {n:Nat} {b:O} (h:fp f n s=some b):∃m x,n=m+1/\f s=some x/\yb (fp f m) x b:=by
 cases n with
 |zero=>cases h
 |succ n=>obtain⟨x,h1,U⟩:=mC h;exact⟨n,x,rfl,h1,U⟩
theorem Gh {n:Nat} {s':σ} (h:f s=some (.inl s')):fp f (n+1) s=fp f n s':=by
 show iT (f s) (fp f n)=_;rw[h];rfl
theorem pJ {n:Nat} {o:O} (h:f s=some (.inr o)):fp f (n+1) s=some o:=by
 show iT (f s) (fp f n)=_;rw[h];rfl
theorem QbG {f:σ->bf (σ⊕O)}:∀{n m:Nat} {s:σ} {b:O},fp f n s=some b->n<=m->fp f m s=some b
 |0,_,_,_,h,_=>by cases h
 |n+1,0,_,_,_,h=>au
 | n+1,m+1,s,b,h,hm=>by
   obtain⟨x,h1,U⟩:=mC (show iT (f s) (fp f n)=some b from h);show iT (f s) (fp f m)=some b;rw[h1];cases x with
   |inl s'=>exact QbG (show fp f n s'=some b from U) au
   |inr o=>exact congrArg some (show o=b from U)
theorem HY {f:σ->bf (σ⊕O)} (I:σ->Prop)(μ:σ->Nat)(R:O->Prop)(step:∀s,I s->(∃s',f s=some (.inl s')/\I s'/\μ s'<μ s)\/(∃o,f s=some (.inr o)/\R o)):
   ∀(n:Nat) (s:σ),I s->μ s<n->∃o,fp f n s=some o/\R o
 |0,_,_,h=>au
 | n+1,s,hI,h=>by
   rcases step s hI with⟨s',h1,U,h3⟩|⟨o,h1,U⟩
   ·obtain⟨o,h4,h5⟩:=HY I μ R step n s' U au;exact⟨o,by rw[Gh h1];exact h4,h5⟩
   · exact⟨o,pJ h1,U⟩
theorem j6 {c:Bool} {x y:bf α} {b:α} (h:(if c=true then x else y)=some b):(c=true/\x=some b)\/(c=false/\y=some b):=by
 cases c;· exact .inr ⟨rfl,h⟩
 · exact .inl ⟨rfl,h⟩
theorem a1n {c:Bool} {b:α} (hm:(if c=true then x else y)=b)(h:c=true):x=b:=by rwa [if_pos h]at hm
theorem a1m {c:Bool} {b:α} (hm:(if c=true then x else y)=b)(h:c=false):y=b:=by rwa [if_neg (by simp[h])]at hm
theorem lI {l:aq α} {j:Nat} (h:l[j]? =some x):j<l.length:=(x'.1 h).1
theorem QR {b c:Bool} (h:b=c):Value.bool b=.bool c:=by rw[h]
theorem a1w:Value.bool (decide ((a:Int)<(b:Int)))=.bool (decide (a<b)):=bh
theorem a1v:Value.bool (decide ((a:Int)<=(b:Int)))=.bool (decide (a<=b)):=bh
theorem a1u:Value.bool (decide ((a:Int)>(b:Int)))=.bool (decide (b<a)):=bh
theorem a1t:Value.bool (decide ((a:Int)>=(b:Int)))=.bool (decide (b<=a)):=bh
theorem a1s:Value.bool ((a:Int)==(b:Int))=.bool (a==b):=by
 congr 1;by_cases h:a=b;· subst h;simp
 ·have U:¬(a:Int)=b:=au
  rw[beq_false_of_ne h,beq_false_of_ne U]
theorem a1x:Value.bool ((a:Int) !=(b:Int))=.bool (a !=b):=by
 congr 1;by_cases h:a=b;· subst h;simp
 ·have U:¬(a:Int)=b:=au
  simp[bne,beq_false_of_ne h,beq_false_of_ne U]
theorem i64_in {x:Int} (h:inI x):Value.int .i64 (IntKind.wrap .i64 x)=.int .i64 x:=by rw[IntWalk.i64_in _ h]
theorem w6 {x:Int} (h:0<=x):x=(x.toNat:Int):=au
end
def DO {α Λ:Type} (cells:α->Λ->aq bc)(facts:α->Λ->aq Fact)(one:∀x r,∀u∈cells x r,u.oneCell'=true):fc α:=
 ⟨λF w cs x=>∃r,cs=cells x r/\∀φ∈facts x r,φ.p F w,λhF ha ⟨r,h1,h2⟩=>⟨r,h1,λφ U=>φ.good hF ha (h2 φ U)⟩,λ⟨r,h1,_⟩ u hu=>one _ r u (h1▸hu)⟩
theorem HV {α Λ:Type} {cells:α->Λ->aq bc} {facts:α->Λ->aq Fact} {one:∀x r,∀u∈cells x r,u.oneCell'=true}:ra (DO cells facts one) cells (λ_ _=>True) facts:=λ_ _ _ _ ⟨r,h1,U⟩=>⟨r,h1,trivial,U⟩
section
variable {P:da} {C:Ctx} {n:FD} {Q:Exit->Act->bx->Prop} {Φ Φ':aq Fact} {H H':aq Fact} {S S':aq (Nat×bc)} {ops:Array Oper} {rest:aq Oper} {o:Oper} {d:Nat} {ax L:aq Nat} {D:aq (Nat×Fact)} {c:Code} {e:Exit}
variable {φ φ':Fact}{x k t sz cp:Nat}{v v':bc}{p:bf Addr}{ik:IntKind}{z:Int}
theorem vu {α:Type 1} {l:aq α} {x:α} (h:l[k]? =some x):l.set k x=l:=by
 obtain⟨h1,U⟩:=x'.1 h;rw[<-U];simp
theorem wx (k:Nat) (hk:H[k]? =some φ)(he:φ=φ')(hH:H.set k φ'=H')(h:WL P C n Q Φ H' S ops rest):WL P C n Q Φ H S ops rest:=by
 subst he;subst hH;rwa [vu hk]at h
theorem Ov (k:Nat) (hk:H[k]? =some φ)(he:φ=φ')(hH:H.set k φ'=H')(h:WC P C n Q Φ H' S c):WC P C n Q Φ H S c:=by
 subst he;subst hH;rwa [vu hk]at h
theorem qU (k:Nat) (hk:H[k]? =some φ)(he:φ=φ')(hH:H.set k φ'=H')(h:WE C n Q Φ H' S e):WE C n Q Φ H S e:=by
 subst he;subst hH;rwa [vu hk]at h
theorem pG (k:Nat) (hk:S[k]? =some (x,v))(he:v=v')(h:WL P C n Q Φ H (S.set k (x,v')) ops rest):WL P C n Q Φ H S ops rest:=by
 subst he;rwa [T8 hk]at h
theorem a1Y (k:Nat) (hk:S[k]? =some (x,v))(he:v=v')(h:WC P C n Q Φ H (S.set k (x,v')) c):WC P C n Q Φ H S c:=by
 subst he;rwa [T8 hk]at h
theorem a2a (k:Nat) (hk:S[k]? =some (x,v))(he:v=v')(h:WE C n Q Φ H (S.set k (x,v')) e):WE C n Q Φ H S e:=by
 subst he;rwa [T8 hk]at h
theorem Pf {σ:Type} {ok:σ->Prop} {sg:σ->aq (Nat×bc)} {iG rT:σ->aq Fact} {μ:σ->Nat} (s':σ)(U:μ s'<k)(h0:ok s')(l:aq Nat)(hS:iP l S=sg s')(eN:∀F w,(∀ψ∈Φ,ψ.p F w)->∀φ∈iG s',φ.p F w)(hH:H=rT s'):
 WE C n (Exit.then (λa' w'=>∃s',μ s'<k/\pT ok sg iG rT C n s' a' w') Q) Φ H S .normal:=λa w hf hw=>⟨s',U,CS s' h0 l hS eN hH hf hw⟩
theorem uV {a b:Nat} (h:a=b):Value.int .i64 (a:Int)=.int .i64 (b:Int):=by rw[h]
theorem I3 (l:aq Nat)(hl:fR l H.length=true)(hH:QP H l=H')(h:WC P C n Q Φ H' S c):WC P C n Q Φ H S c:=λa w U hw=>h a w U (by rw[<-hH];exact hw.pick l hl)
theorem Kg {α:Type} (U sz:Nat)(R:fc α)(next:WE C n Q Φ (.own U sz R (.slice none 0 0) []::H) S e):WE C n Q Φ H S e:=λa w hf hw=>next a w hf (hw.rowNil U sz R)
theorem pE (φ:Fact)(U:∀F w,(∀ψ∈Φ,ψ.p F w)->φ.p F w)(h:WE C n Q (φ::Φ) H S e):WE C n Q Φ H S e:=
 λa w hf hw=>h a w hf (hw.fact λF=>U F w)
theorem QdE (k:Nat) (hk:H[k]? =some φ)(U:H.eraseIdx k=H')(h:WE C n Q (φ::Φ) H' S e):WE C n Q Φ H S e:=λa w hf hw=>h a w hf (hw.freeze k hk U)
theorem QdG {α:Type} {e:Nat} {x i:bw} {R:fc α} {l:aq α} {y:α} (k j:Nat)(hg:QM ops S o=some true)(hd:o.dst=some d)(hn:A' d n=true)(hS:fk d S=S')(ho:o.op=.indexAddr t x i)
  (bs:Φ[k]? =some (.sli sz R p cp l)) (hx:dy S x=some (.slice p l.length cp)) (hi:dy S i=some (.int ik z)) (hz:z=(j:Int)) (hy:l[j]? =some y) (he:gG P t=some e) (hs:QV P e=some sz)
  (next:∀b q cs,cs.length=sz->WL P C n Q (.cells b q cs::.rep R cs y::Φ) H ((d,.pointer (some ⟨b,q,none⟩))::S') ops rest):WL P C n Q Φ H S ops (o::rest):=
 O0 k j hg hd hn hS ho bs hx hi hz (lI hy) he hs λb q cs y' U hl=>by
  obtain rfl:y=y':=Option.some.inj (hy.symm.trans U);exact next b q cs hl
theorem Qc2 {α:Type} (dh:j2 ops ax=true)(i:Nat) {o:Oper} {d e:Nat} {x y:bw} {R:fc α} {l:aq α} {u:α} (k j:Nat)(hi:ops[i]? =some o)(hd:o.dst=some d)(U:nD ops ax L i n d o=true)(hS:fk d S=S')(hg:QM ops S o=some true)
  (ho:o.op=.indexAddr t x y) (bs:Φ[k]? =some (.sli sz R p cp l)) (hx:dy S x=some (.slice p l.length cp)) (hy:dy S y=some (.int ik z)) (hz:z=(j:Int)) (hu:l[j]? =some u) (he:gG P t=some e) (hs:QV P e=some sz)
  (next:∀b q cs,cs.length=sz->WX P C n Q ops ax (i::L) D (.cells b q cs::.rep R cs u::Φ) H ((d,.pointer (some ⟨b,q,none⟩))::S')):WX P C n Q ops ax L D Φ H S:=
 O5 dh i k j hi hd U hS hg ho bs hx hy hz (lI hu) he hs λb q cs y' hy' U=>by
  obtain rfl:u=y':=Option.some.inj (hu.symm.trans hy');exact next b q cs U
end
end
section
open Go Go.RowKit
theorem br {Φ Φ':aq Fact} (l:aq Nat)(h:QP Φ l=Φ')(F:eL)(w:bx)(U:∀ψ∈Φ,ψ.p F w):∀φ∈Φ',φ.p F w:=ask l h U
def ko (d:Nat)(S:aq (Nat×bc)):Bool:=S.all λx=>!(q' x.1 d)
section
variable {P:da} {C:Ctx} {n:FD} {Q:Exit->Act->bx->Prop} {Φ Φ':aq Fact} {H H':aq Fact} {S S':aq (Nat×bc)} {ops:Array Oper} {rest:aq Oper} {o:Oper} {d:Nat}
variable {x:bw}{v:bc}{t b k tb:Nat}{all:aq bc}
private theorem p2.{u,v} {α:Type u} {β:Type v} {a U:α} {b b':β} (h:(a,b)=(U,b')):a=U/\b=b':=by cases h;exact⟨rfl,rfl⟩
theorem wP (h:(QM ops S o,o.dst,A' d n,ko d S,Ba S o.op)=(some true,some d,true,true,some v))(next:WL P C n Q Φ H ((d,v)::S) ops rest):WL P C n Q Φ H S ops (o::rest):=by
 obtain⟨h1,h⟩:=p2 h;obtain⟨U,h⟩:=p2 h;obtain⟨h3,h⟩:=p2 h;obtain⟨h4,h5⟩:=p2 h;exact Qs h1 U h3 (Q0 h4) h5 next
theorem wO (h:(QM ops S o,o.dst,A' d n,ko d S)=(some false,some d,true,true))(next:WL P C n Q Φ H ((d,undef)::S) ops rest):WL P C n Q Φ H S ops (o::rest):=by
 obtain⟨h1,h⟩:=p2 h;obtain⟨U,h⟩:=p2 h;obtain⟨h3,h4⟩:=p2 h;exact O1 h1 U h3 (Q0 h4) next
theorem wF {off q:Nat} (h:(QM ops S o,o.dst,A' d n,ko d S,o.op,dy S x)=(some true,some d,true,true,.fieldAddr t x k,some (.pointer (some ⟨b,q,none⟩))))
  (hk:QZ P t k=some off) (next:WL P C n Q Φ H ((d,.pointer (some ⟨b,q+off,none⟩))::S) ops rest):WL P C n Q Φ H S ops (o::rest):=by
 obtain⟨h1,h⟩:=p2 h;obtain⟨U,h⟩:=p2 h;obtain⟨h3,h⟩:=p2 h;obtain⟨h4,h⟩:=p2 h;obtain⟨h5,h6⟩:=p2 h;exact QcH h1 U h3 (Q0 h4) h5 h6 hk next
theorem wN {t:TypeId} {p:bf Addr} {c e:Nat} (h:(QM ops S o,o.dst,A' d n,ko d S,o.op,dy S x)=(some true,some d,true,true,.call {callee:=.builtin .len,args:=#[x],argTypes:=#[t]},some (.slice p k c)))
  (ht:gG P t=some e) (next:WL P C n Q Φ H ((d,.int .i64 (k:Int))::S) ops rest):WL P C n Q Φ H S ops (o::rest):=by
 obtain⟨h1,h⟩:=p2 h;obtain⟨U,h⟩:=p2 h;obtain⟨h3,h⟩:=p2 h;obtain⟨h4,h⟩:=p2 h;obtain⟨h5,h6⟩:=p2 h;exact Ga h1 U h3 (Q0 h4) h5 h6 ht next
theorem wD {g:Bool} {c:bc} (k j:Nat)(h:(QM ops S o,o.dst,A' d n,ko d S,o.op,H[k]?,dy S x,all[j]?)=(some true,some d,true,true,.load t x,some (.blk b all tb),some (.pointer (some ⟨b,j,none⟩)),some c))
  (hs:QV P t=some 1) (ha:fJ P t=some g) (hv:lK g [c]=some v) (next:WL P C n Q Φ H ((d,v)::S) ops rest):WL P C n Q Φ H S ops (o::rest):=by
 obtain⟨h1,h⟩:=p2 h;obtain⟨U,h⟩:=p2 h;obtain⟨h3,h⟩:=p2 h;obtain⟨h4,h⟩:=p2 h;obtain⟨h5,h⟩:=p2 h;obtain⟨h6,h⟩:=p2 h;obtain⟨h7,h8⟩:=p2 h;refine On k j h1 U h3 (Q0 h4) h5 h6 h7 (cs:=[c]) ?_ hs ha rfl hv next
 obtain⟨hj,hc⟩:=x'.1 h8;rw[List.drop_eq_getElem_cons hj,hc];rfl
theorem wS {sz:Nat} {y:bw} {cs all':aq bc} (k j:Nat)(h:(QM ops S o,o.dst,o.op,H[k]?,dy S x,dy S y,v.cells.toList)=(some true,none,.store t x y,some (.blk b all tb),some (.pointer (some ⟨b,j,none⟩)),some v,cs))
  (hs:QV P t=some sz) (h':(q' cs.length sz,cs.all (·.oneCell'),K' (j+sz) all.length,xa all j cs)=(true,true,true,all')) (hH:H.set k (.blk b all' tb)=H') (next:WL P C n Q Φ H' S ops rest):WL P C n Q Φ H S ops (o::rest):=by
 obtain⟨h1,h⟩:=p2 h;obtain⟨U,h⟩:=p2 h;obtain⟨h3,h⟩:=p2 h;obtain⟨h4,h⟩:=p2 h;obtain⟨h5,h⟩:=p2 h;obtain⟨h6,h7⟩:=p2 h;obtain⟨g1,h'⟩:=p2 h';obtain⟨g2,h'⟩:=p2 h';obtain⟨g3,g4⟩:=p2 h';exact Dt k j h1 U h3 h4 h5 h6 h7 hs g1 g2 g3 g4 hH next
theorem wB {zs:aq bc} (h:(QM ops S o,o.dst,A' d n,ko d S,o.op,dy S x,v.cells.toList)=(some true,some d,true,true,.box t x,some v,zs))
  (next:∀g,WL P C n Q Φ (.blk g zs t::H) ((d,.pointer (some ⟨g,0,none⟩))::S) ops rest):WL P C n Q Φ H S ops (o::rest):=by
 obtain⟨h1,h⟩:=p2 h;obtain⟨U,h⟩:=p2 h;obtain⟨h3,h⟩:=p2 h;obtain⟨h4,h⟩:=p2 h;obtain⟨h5,h⟩:=p2 h;obtain⟨h6,h7⟩:=p2 h;exact vV h1 U h3 (Q0 h4) h5 h6 h7 next
theorem wC {f:FuncId} {xs:Array bw} {ts:Array TypeId} {args:aq bc} {Φf U:aq Fact} {R:bc->aq Fact->aq Fact->Prop} (l m:aq Nat)
  (h:(QM ops S o,o.dst,A' d n,ko d S,o.op,um S xs.toList)=(some true,some d,true,true,.call {callee:=.value (.func f),args:=xs,argTypes:=ts},some args)) (ja:dq P f=true)
  (hH:QP H l=U) (spec:QF P f args Φf U R) (eN:∀F w,(∀ψ∈Φ,ψ.p F w)->∀φ∈Φf,φ.p F w) (hl:fR (l++m) H.length=true) (hm:QP H m=H')
  (next:∀v bz Hr,R v bz Hr->WL P C n Q (bz++Φ) (Hr++H') ((d,v)::S) ops rest):WL P C n Q Φ H S ops (o::rest):=by
 obtain⟨h1,h⟩:=p2 h;obtain⟨h2,h⟩:=p2 h;obtain⟨h3,h⟩:=p2 h;obtain⟨h4,h⟩:=p2 h;obtain⟨h5,h6⟩:=p2 h;exact AD l m h1 h2 h3 (Q0 h4) h5 h6 ja hH spec eN hl hm next
end
section
variable {P:da} {C:Ctx} {n:FD} {Q:Exit->Act->bx->Prop} {ops:Array Oper} {ax L:aq Nat} {D:aq (Nat×Fact)} {Φ H:aq Fact} {S S':aq (Nat×bc)}
private theorem p3 {α β:Type} {a U:α} {b b':β} (h:(a,b)=(U,b')):a=U/\b=b':=by cases h;exact⟨rfl,rfl⟩
theorem xP (U:j2 ops ax=true)(i:Nat) {o:Oper} {d:Nat} {v:bc} (h:(ops[i]?,o.dst,nD ops ax L i n d o,ko d S,QM ops S o,Ba S o.op)=(some o,some d,true,true,some true,some v))
  (next:WX P C n Q ops ax (i::L) D Φ H ((d,v)::S)):WX P C n Q ops ax L D Φ H S:=by
 obtain⟨h1,h⟩:=p3 h;obtain⟨h2,h⟩:=p3 h;obtain⟨h3,h⟩:=p3 h;obtain⟨h4,h⟩:=p3 h;obtain⟨h5,h6⟩:=p3 h;exact HS U i h1 h2 h3 (Q0 h4) h5 h6 next
theorem xO (U:j2 ops ax=true)(i:Nat) {o:Oper} {d:Nat} (h:(ops[i]?,o.dst,nD ops ax L i n d o,ko d S,QM ops S o)=(some o,some d,true,true,some false))
  (next:WX P C n Q ops ax (i::L) D Φ H ((d,undef)::S)):WX P C n Q ops ax L D Φ H S:=by
 obtain⟨h1,h⟩:=p3 h;obtain⟨h2,h⟩:=p3 h;obtain⟨h3,h⟩:=p3 h;obtain⟨h4,h5⟩:=p3 h;exact O6 U i h1 h2 h3 (Q0 h4) h5 next
theorem xS (U:j2 ops ax=true)(k:Nat) {o:Oper} (h:(kL ops ax L,iQ ax k,(List.range ops.size).all (iQ L),ops[k]?)=([k],false,false,some o))
  (h':WL P C n (QX P C n Q ops ax L D Φ k) Φ H S ops [o]):WX P C n Q ops ax L D Φ H S:=by
 obtain⟨h1,h⟩:=p3 h;obtain⟨h2,h⟩:=p3 h;obtain⟨h3,h4⟩:=p3 h;exact O7 U k h1 h2 h3 h4 h'
end
end
section
open Go.RowKit
noncomputable section
inductive SV where
 |v (x:Value)
 |opq (i:Nat)
 |ptr (g off:Nat)
 |sl (g off len cap:Nat) (own:Bool)
 |mp (g:Nat)
 |fn (f:Nat) (fi fe:List SV)
 |agg (l:List SV)
 |tup (l:List SV)
abbrev Env:=Nat->bf (Nat×Nat×Nat)
mutual
def SV.den (ρ:Env)(E:aq bc):SV->bf bc
 | .v x=>some x
 | .opq i=>E[i]?
 | .ptr g off=>(ρ g).map λe=>.pointer (some ⟨e.1,e.2.2+off,none⟩)
 | .sl g off len cap own=>(ρ g).map λe=>.slice (some ⟨e.1,e.2.2+off,none⟩) len (if own then e.2.1-cap else cap)
 | .mp g=>(ρ g).map λe=>.map (some e.1)
 | .fn f fi fe=>match SV.dens ρ E fi,SV.dens ρ E fe with
   |some us,some vs=>some (.func (.func f) us.toArray vs.toArray)
   |_,_=>none
 | .agg l=>(SV.dens ρ E l).map λvs=>.agg vs.toArray
 | .tup l=>(SV.dens ρ E l).map λvs=>.tuple vs.toArray
def SV.dens (ρ:Env)(E:aq bc):aq SV->bf (aq bc)
 |[]=>some []
 | x::l=>match SV.den ρ E x,SV.dens ρ E l with
   |some y,some U=>some (y::U)
   |_,_=>none
end
def Env.le (ρ de:Env):Prop:=∀g e,ρ g=some e->de g=some e
section den
variable {ρ de:Env} {E:aq bc}
variable {x:SV}{l fi fe:aq SV}{vs:aq bc}{f:Nat}
theorem QL (h:SV.dens ρ E (x::l)=some vs):∃v ws,vs=v::ws/\x.den ρ E=some v/\SV.dens ρ E l=some ws:=by
 unfold SV.dens at h;split at h;· rename_i v ws h1 U;cases h;exact⟨v,ws,rfl,h1,U⟩
 · cases h
theorem uz {x:bc} (h:(SV.fn f fi fe).den ρ E=some x):∃us vs,SV.dens ρ E fi=some us/\SV.dens ρ E fe=some vs/\x=.func (.func f) us.toArray vs.toArray:=by
 unfold SV.den at h;split at h;· rename_i us vs h1 U;cases h;exact⟨us,vs,h1,U,rfl⟩
 · cases h
theorem Lz {us:aq bc} (h1:SV.dens ρ E fi=some us)(U:SV.dens ρ E fe=some vs):(SV.fn f fi fe).den ρ E=some (.func (.func f) us.toArray vs.toArray):=by
 unfold SV.den;rw[h1,U]
theorem Ee {v:bc} {ws:aq bc} (h1:x.den ρ E=some v)(U:SV.dens ρ E l=some ws):SV.dens ρ E (x::l)=some (v::ws):=by
 unfold SV.dens;rw[h1,U]
mutual
theorem SV.den_mono (h:ρ.le de):∀(v:SV)(x:bc),v.den ρ E=some x->v.den de E=some x
 | .v _,_,e=>e
 | .opq _,_,e=>e
 | .ptr g off,x,e=>by
   simp only[SV.den,d']at e⊢;obtain⟨a,h1,U⟩:=e;exact⟨a,h _ _ h1,U⟩
 | .sl g off len cap own,x,e=>by
   simp only[SV.den,d']at e⊢;obtain⟨a,h1,U⟩:=e;exact⟨a,h _ _ h1,U⟩
 | .mp g,x,e=>by
   simp only[SV.den,d']at e⊢;obtain⟨a,h1,U⟩:=e;exact⟨a,h _ _ h1,U⟩
 | .fn f fi fe,x,e=>by
   obtain⟨us,vs,h1,U,rfl⟩:=uz e;exact Lz (SV.dens_mono h fi us h1) (SV.dens_mono h fe vs U)
 | .agg l,x,e=>by
   simp only[SV.den,d']at e⊢;obtain⟨a,h1,U⟩:=e;exact⟨a,SV.dens_mono h l a h1,U⟩
 | .tup l,x,e=>by
   simp only[SV.den,d']at e⊢;obtain⟨a,h1,U⟩:=e;exact⟨a,SV.dens_mono h l a h1,U⟩
theorem SV.dens_mono (h:ρ.le de):∀(l:aq SV)(xs:aq bc),SV.dens ρ E l=some xs->SV.dens de E l=some xs
 |[],_,e=>e
 | x::l,xs,e=>by
   obtain⟨v,ws,rfl,h1,U⟩:=QL e;exact Ee (SV.den_mono h x v h1) (SV.dens_mono h l ws U)
end
theorem B6:∀{l:aq SV} {vs:aq bc},SV.dens ρ E l=some vs->vs.length=l.length
 |[],vs,h=>by cases h;rfl
 | x::l,vs,h=>by
   obtain⟨v,ws,rfl,h1,U⟩:=QL h;simp[B6 U]
theorem Bt:∀{l:aq SV} {vs:aq bc} {i:Nat} {x:SV},SV.dens ρ E l=some vs->l[i]? =some x->∃y,vs[i]? =some y/\x.den ρ E=some y
 |[],_,_,_,_,U=>by simp at U
 | a::l,vs,i,x,h,U=>by
   obtain⟨v,ws,rfl,h1,h2⟩:=QL h;cases i with
   |zero=>simp at U;subst U;exact⟨v,rfl,h1⟩
   |succ i=>simpa using Bt h2 (du U)
theorem SS:∀{l m:aq SV} {vs ws:aq bc},SV.dens ρ E l=some vs->SV.dens ρ E m=some ws->SV.dens ρ E (l++m)=some (vs++ws)
 |[],m,vs,ws,h,k=>by cases h;exact k
 | x::l,m,vs,ws,h,k=>by
   obtain⟨v,us,rfl,h1,U⟩:=QL h;exact Ee h1 (SS U k)
theorem Qdv:∀{l:aq SV} {vs:aq bc} (k:Nat),SV.dens ρ E l=some vs->SV.dens ρ E (l.take k)=some (vs.take k)
 |[],vs,k,h=>by cases h;simp[SV.dens]
 |x::l,vs,0,h=>by simp[SV.dens]
 | x::l,vs,k+1,h=>by
   obtain⟨v,us,rfl,h1,U⟩:=QL h;simpa using Ee h1 (Qdv k U)
theorem Qdu:∀{l:aq SV} {vs:aq bc} (k:Nat),SV.dens ρ E l=some vs->SV.dens ρ E (l.drop k)=some (vs.drop k)
 |[],vs,k,h=>by cases h;simp[SV.dens]
 |x::l,vs,0,h=>by simpa using h
 | x::l,vs,k+1,h=>by
   obtain⟨v,us,rfl,h1,U⟩:=QL h;simpa using Qdu k U
theorem zx:∀(l:aq bc),SV.dens ρ E (l.map .v)=some l
 |[]=>rfl
 |x::l=>Ee (x:=.v x) rfl (zx l)
theorem Bu:∀{l:aq SV} {vs:aq bc},SV.dens ρ E l=some vs->∀u∈vs,∃x∈l,x.den ρ E=some u
 |[],vs,h,u,hu=>by cases h;cases hu
 | x::l,vs,h,u,hu=>by
   obtain⟨v,ws,rfl,h1,U⟩:=QL h;rcases i!.1 hu with rfl|hu;· exact⟨x,bh,h1⟩
   ·obtain⟨y,hy,h3⟩:=Bu U u hu;exact⟨y,by simp[hy],h3⟩
def SV.of:bc->SV
 | .agg cs=>.agg (cs.toList.map .v)
 |x=>.v x
theorem SV.of_den (x:bc):(SV.of x).den ρ E=some x:=by
 unfold SV.of;split;· simp[SV.den,zx]
 · rfl
def SV.cells:SV->aq SV
 | .agg l=>l
 | .v (.agg cs)=>cs.toList.map .v
 |x=>[x]
theorem SV.cells_den {v:SV} {x:bc} (h:v.den ρ E=some x)(ho:∀i,v≠.opq i):SV.dens ρ E v.cells=some x.cells.toList:=by
 cases v with
 | v y=>
   cases h;unfold SV.cells;split;· rename_i e;cases e
   · rename_i e;cases e;simp[Value.cells,zx]
   ·rename_i h1 U
    have:x.cells=#[x]:=by
     unfold Value.cells;split;· rename_i cs;exact absurd rfl (U cs)
     · rfl
    rw[this];exact Ee rfl rfl
 |opq i=>exact absurd rfl (ho i)
 | agg l=>
   simp only[SV.den,d']at h;obtain⟨vs,h1,rfl⟩:=h;simpa[SV.cells,Value.cells]using h1
 | ptr g off=>
   have h':=h;simp only[SV.den,d']at h;obtain⟨a,h1,rfl⟩:=h;exact Ee h' rfl
 | sl g off len cap own=>
   have h':=h;simp only[SV.den,d']at h;obtain⟨a,h1,rfl⟩:=h;exact Ee h' rfl
 | mp g=>
   have h':=h;simp only[SV.den,d']at h;obtain⟨a,h1,rfl⟩:=h;exact Ee h' rfl
 | fn f fi l=>
   have h':=h;obtain⟨us,vs,h1,U,rfl⟩:=uz h;exact Ee h' rfl
 | tup l=>
   have h':=h;simp only[SV.den,d']at h;obtain⟨a,h1,rfl⟩:=h;exact Ee h' rfl
def SV.isOpq:SV->Bool
 | .opq _=>true
 |_=>false
def SV.one:SV->Bool
 | .v x=>x.oneCell'
 | .ptr _ _=>true
 | .sl _ _ _ _ _=>true
 | .mp _=>true
 | .fn _ _ _=>true
 |_=>false
theorem SV.one_den {v:SV} {x:bc} (h:v.den ρ E=some x)(h1:v.one=true):x.oneCell'=true:=by
 cases v with
 |v y=>cases h;exact h1
 |ptr g off=>simp only[SV.den,d']at h;obtain⟨a,_,rfl⟩:=h;rfl
 |sl g off len cap own=>simp only[SV.den,d']at h;obtain⟨a,_,rfl⟩:=h;rfl
 |mp g=>simp only[SV.den,d']at h;obtain⟨a,_,rfl⟩:=h;rfl
 |fn f fi l=>obtain⟨us,vs,_,_,rfl⟩:=uz h;rfl
 |_=>cases h1
theorem oz {l:aq SV} {vs:aq bc} (h:SV.dens ρ E l=some vs)(h1:l.all SV.one=true):∀u∈vs,u.oneCell'=true:=λu hu=>by
 obtain⟨x,hx,U⟩:=Bu h u hu;exact SV.one_den U (d!.1 h1 x hx)
end den
inductive Tr where
 |nil
 |node (l:Tr) (x:Option SV) (r:Tr)
noncomputable def Tr.get (t:Tr):Nat->bf SV:=Tr.rec (motive:=λ_=>Nat->bf SV) (λ_=>none) (λ_ x _ U gr k=>Q' (Q' (gr (w! (l! k 2) 1)) (U (l! k 2)) (q' (x! k 2) 1)) x (q' k 0)) t
noncomputable def Tr.set (v:SV)(f:Nat):Tr->Nat->Tr:=Nat.rec (motive:=λ_=>Tr->Nat->Tr) (λt _=>t) (λ_ U t k=>Tr.rec (motive:=λ_=>Tr)
 (Q' (Q' (.node .nil none (U .nil (w! (l! k 2) 1))) (.node (U .nil (l! k 2)) none .nil) (q' (x! k 2) 1)) (.node .nil (some v) .nil) (q' k 0))
 (λl x r _ _=>Q' (Q' (.node l x (U r (w! (l! k 2) 1))) (.node (U l (l! k 2)) x r) (q' (x! k 2) 1)) (.node l (some v) r) (q' k 0)) t) f
theorem Of {a b:Nat} (h:q' a b=false):a≠b:=λe=>by rw[e,Nat.beq_refl]at h;cases h
theorem Qt {a b:Nat} (h:q' a b=true):a=b:=g! h
theorem Tr.get_node {l r:Tr} {x:bf SV} {k:Nat}:(Tr.node l x r).get k=if k=0 then x else if k%2=1 then l.get (k/2)else r.get (k/2-1):=by
 show(Q' (motive:=λ_=>bf SV) (Q' (motive:=λ_=>bf SV) (r.get (k/2-1)) (l.get (k/2)) (q' (k%2) 1)) x (q' k 0))=_;cases U:q' k 0 with
 |true=>have:=Qt U;subst this;rfl
 | false=>
   rw[if_neg (Of U)];cases h1:q' (k%2) 1 with
   |true=>rw[if_pos (Qt h1)]
   |false=>rw[if_neg (Of h1)]
theorem Tr.set_node {v:SV} {f:Nat} {l r:Tr} {x:bf SV} {k:Nat}:Tr.set v (f+1) (.node l x r) k=if k=0 then .node l (some v) r else if k%2=1 then .node (Tr.set v f l (k/2)) x r else .node l x (Tr.set v f r (k/2-1)):=by
 show(Q' (motive:=λ_=>Tr) (Q' (motive:=λ_=>Tr) (.node l x (Tr.set v f r (k/2-1))) (.node (Tr.set v f l (k/2)) x r) (q' (k%2) 1)) (.node l (some v) r) (q' k 0))=_;cases U:q' k 0 with
 |true=>have:=Qt U;subst this;rfl
 | false=>
   rw[if_neg (Of U)];cases h1:q' (k%2) 1 with
   |true=>rw[if_pos (Qt h1)]
   |false=>rw[if_neg (Of h1)]
theorem Tr.set_nil {v:SV} {f:Nat} {k:Nat}:Tr.set v (f+1) .nil k=Tr.set v (f+1) (.node .nil none .nil) k:=rfl
theorem Tr.nil_get {k:Nat}:Tr.nil.get k=(Tr.node .nil none .nil).get k:=by
 rw[Tr.get_node];have:∀j,Tr.nil.get j=none:=λ_=>rfl
 simp[this]
theorem Tr.get_set {v:SV}:∀(f:Nat) (t:Tr) (k j:Nat),k+1<2^f->(Tr.set v f t k).get j=if j=k then some v else t.get j
 |0,_,k,_,h=>by simp at h
 | f + 1,t,k,j,h=>by
   have key:∀l x r,(Tr.set v (f+1) (.node l x r) k).get j=if j=k then some v else(Tr.node l x r).get j:=by
    intro l x r;rw[Nat.pow_succ]at h;rw[Tr.set_node];by_cases h0:k=0
    ·subst h0;rw[if_pos rfl,Tr.get_node,Tr.get_node];by_cases U:j=0<;>simp[U]
    ·rw [if_neg h0];by_cases h1:k%2=1
     ·rw [if_pos h1,Tr.get_node,Tr.get_node,Tr.get_set f _ _ _ au];by_cases U:j=0;· rw[if_pos U,if_pos U,if_neg au]
      ·rw [if_neg U,if_neg U];by_cases Rl:j%2=1
       ·rw[if_pos Rl,if_pos Rl];by_cases e:j=k;· subst e;simp
        · rw[if_neg au,if_neg e]
       · rw[if_neg Rl,if_neg Rl,if_neg au]
     ·rw [if_neg h1,Tr.get_node,Tr.get_node,Tr.get_set f _ _ _ au];by_cases U:j=0;· rw[if_pos U,if_pos U,if_neg au]
      ·rw [if_neg U,if_neg U];by_cases Rl:j%2=1;· rw[if_pos Rl,if_pos Rl,if_neg au]
       ·rw[if_neg Rl,if_neg Rl];by_cases e:j=k;· subst e;simp
        · rw[if_neg au,if_neg e]
   cases t with
   |nil=>rw[Tr.set_nil,Tr.nil_get];exact key _ _ _
   |node l x r=>exact key l x r
noncomputable def Tr.put (t:Tr)(k:Nat)(v:SV):Tr:=Tr.set v 14 t k
inductive HO where
 |blk (cs:List SV) (ty:Nat)
 |row (cs:List SV) (n sz ty:Nat)
 |mp (es:List (SV×SV×Nat)) (clock:Nat)
 |it (m:Option Nat) (since:Nat) (seen:List Nat) (lp:Nat)
 |ro (cs:List SV)
abbrev eI:=aq (Nat×HO)
theorem A8 {w U:bx} {e sz b n cap:Nat} {xs:aq bc} (h:w.ownsRow 0 e sz (.slice (some ⟨b,0,none⟩) n cap) n xs)(hb:U.heap[b]? =w.heap[b]?):U.ownsRow 0 e sz (.slice (some ⟨b,0,none⟩) n cap) n xs:=by
 refine⟨h.1,?_⟩;rcases h.2 with⟨h0,_⟩|⟨g,c,cur,hv,h1,h2,h3⟩
 · cases h0
 · cases hv;exact .inr ⟨_,_,cur,rfl,h1,hb.trans h2,h3⟩
def Ac (e sz b n cap:Nat)(xs:aq bc):Fact:=
 .raw (λN w=>N b/\w.ownsRow 0 e sz (.slice (some ⟨b,0,none⟩) n cap) n xs) (λU ha h=>⟨U _ h.1,A8 h.2 (ha _ h.1)⟩)
def a1B (b:Nat)(o:Obj):Fact:=.raw (λN w=>N b/\w.heap[b]? =some o) (λU ha h=>⟨U _ h.1,(ha _ h.1).trans h.2⟩)
def Vo (b:Nat)(vs:aq bc):Fact:=.raw (λN w=>N b/\r6 w b 0 vs) (λU ha h=>⟨U _ h.1,h.2.agree ha h.1⟩)
def kf (ρ:Env)(E:aq bc):aq (SV×SV×Nat)->aq MapEntry->Prop
 |[],[]=>True
 |(k,v,b)::r,e::s=>k.den ρ E=some e.key/\v.den ρ E=some e.val/\b=e.born/\kf ρ E r s
 |_,_=>False
def IterM (ρ:Env):bf Nat->bf Nat->Prop
 |none,none=>True
 |some g,some b=>∃c,ρ g=some (b,c,0)
 |_,_=>False
def HO.isFact (ρ:Env)(E:aq bc)(g:Nat):HO->Fact->Prop
 | .blk cs ty,φ=>∃b c vs,ρ g=some (b,c,0)/\SV.dens ρ E cs=some vs/\φ=.blk b vs ty
 | .row cs n sz ty,φ=>∃b c vs,ρ g=some (b,c,0)/\SV.dens ρ E cs=some vs/\φ=Ac ty sz b n c vs
 | .mp es clock,φ=>∃b c U,ρ g=some (b,c,0)/\kf ρ E es U/\φ=a1B b (.map U.toArray clock)
 | .it m since seen lp,φ=>∃b c bm,ρ g=some (b,c,0)/\IterM ρ m bm/\φ=a1B b (.mapIter bm since seen.toArray lp)
 | .ro cs,φ=>∃b c vs,ρ g=some (b,c,0)/\SV.dens ρ E cs=some vs/\φ=Vo b vs
def ju (ρ:Env)(E:aq bc):eI->aq Fact->Prop
 |[],[]=>True
 |(g,o)::r,φ::H=>o.isFact ρ E g φ/\ju ρ E r H
 |_,_=>False
noncomputable def lN (hp:eI)(k:Nat):bf HO:=List.rec (motive:=λ_=>bf HO) none (λp _ U=>Q' U (some p.2) (q' p.1 k)) hp
theorem IC {g k:Nat} {o:HO} {r:eI}:lN ((g,o)::r) k=match q' g k with
  |true=>some o
  |false=>lN r k:=by
 show(Q' (motive:=λ_=>bf HO) (lN r k) (some o) (q' g k))=_;cases q' g k<;>rfl
def zI:eI->Nat->HO->eI
 |[],_,_=>[]
 | (g,o)::r,k,U=>match q' g k with
   |true=>(g,U)::r
   |false=>(g,o)::zI r k U
def IM:eI->Nat->Nat->HO->eI
 |[],_,_,_=>[]
 | (g,o)::r,k,U,o'=>match q' g k with
   |true=>(U,o')::r
   |false=>(g,o)::IM r k U o'
section heap
variable {ρ de:Env} {E:aq bc}
theorem IterM.mono (h:ρ.le de) {m U:bf Nat} (hm:IterM ρ m U):IterM de m U:=by
 cases m<;>cases U<;>first|exact hm|(obtain⟨c,hc⟩:=hm;exact⟨c,h _ _ hc⟩)
theorem kf.mono (h:ρ.le de):∀{l:aq (SV×SV×Nat)} {m:aq MapEntry},kf ρ E l m->kf de E l m
 |[],[],_=>trivial
 |(_,_,_)::_,_::_,U=>⟨SV.den_mono h _ _ U.1,SV.den_mono h _ _ U.2.1,U.2.2.1,kf.mono h U.2.2.2⟩
 |[],_::_,U=>U.elim
 |_::_,[],U=>U.elim
theorem HO.isFact_mono (h:ρ.le de) {g:Nat} {o:HO} {φ:Fact} (hf:o.isFact ρ E g φ):o.isFact de E g φ:=by
 cases o with
 |blk cs ty=>obtain⟨b,c,vs,h1,U,h3⟩:=hf;exact⟨b,c,vs,h _ _ h1,SV.dens_mono h _ _ U,h3⟩
 |row cs n sz ty=>obtain⟨b,c,vs,h1,U,h3⟩:=hf;exact⟨b,c,vs,h _ _ h1,SV.dens_mono h _ _ U,h3⟩
 |mp es c=>obtain⟨b,c',PV,h1,U,h3⟩:=hf;exact⟨b,c',PV,h _ _ h1,U.mono h,h3⟩
 |it m since seen lp=>obtain⟨b,c,bm,h1,U,h3⟩:=hf;exact⟨b,c,bm,h _ _ h1,IterM.mono h U,h3⟩
 |ro cs=>obtain⟨b,c,vs,h1,U,h3⟩:=hf;exact⟨b,c,vs,h _ _ h1,SV.dens_mono h _ _ U,h3⟩
theorem ju.mono (h:ρ.le de):∀{hp:eI} {H:aq Fact},ju ρ E hp H->ju de E hp H
 |[],[],_=>trivial
 |(_,_)::_,_::_,U=>⟨HO.isFact_mono h U.1,ju.mono h U.2⟩
 |[],_::_,U=>U.elim
 |_::_,[],U=>U.elim
theorem Pd:∀{hp:eI} {H:aq Fact} {g:Nat} {o:HO},ju ρ E hp H->lN hp g=some o->
   ∃k φ,H[k]? =some φ/\o.isFact ρ E g φ/\(∀de o' φ',ρ.le de->o'.isFact de E g φ'->ju de E (zI hp g o') (H.set k φ'))/\(∀de g' o' φ',ρ.le de->o'.isFact de E g' φ'->ju de E (IM hp g g' o') (H.set k φ'))
 |[],_,_,_,_,h=>by cases h
 |(g',o')::r,[],_,_,U,_=>U.elim
 | (g',o')::r,φ::H,g,o,U,h=>by
   rw[IC]at h;cases hb:q' g' g with
   | true=>
     simp only[hb,Option.some.injEq]at h;subst h;have:=Qt hb;subst this;refine⟨0,φ,rfl,U.1,λde o2 φ2 hle h2=>?_,λde g2 o2 φ2 hle h2=>?_⟩;· simp only[zI,hb];exact⟨h2,ju.mono hle U.2⟩
     · simp only[IM,hb];exact⟨h2,ju.mono hle U.2⟩
   | false=>
     simp only[hb]at h;obtain⟨k,ψ,h1,h2,h3,h4⟩:=Pd U.2 h;refine⟨k+1,ψ,by simpa using h1,h2,λde o2 φ2 hle h5=>?_,λde g2 o2 φ2 hle h5=>?_⟩;· simp only[zI,hb];exact⟨HO.isFact_mono hle U.1,h3 de o2 φ2 hle h5⟩
     · simp only[IM,hb];exact⟨HO.isFact_mono hle U.1,h4 de g2 o2 φ2 hle h5⟩
def HO.cs:HO->bf (aq SV)
 | .blk cs _=>some cs
 | .row cs _ _ _=>some cs
 | .ro cs=>some cs
 |_=>none
theorem x8 {w:bx} {e sz b n cap:Nat} {xs:aq bc} (h:w.ownsRow 0 e sz (.slice (some ⟨b,0,none⟩) n cap) n xs):r6 w b 0 xs:=λj u hu=>by
 have:=h.cells (g:=b) rfl j u hu;rw[z6]at this;exact this
theorem HO.cells_at {o:HO} {g:Nat} {φ:Fact} {cs:aq SV} (hf:o.isFact ρ E g φ)(hc:o.cs=some cs):∃b c vs,ρ g=some (b,c,0)/\SV.dens ρ E cs=some vs/\∀N F w,φ.op N F w->r6 w b 0 vs:=by
 cases o with
 | blk wh ty=>
   cases hc;obtain⟨b,c,vs,h1,U,rfl⟩:=hf;exact⟨b,c,vs,h1,U,λN F w h=>Zn h.2⟩
 | row wh n sz ty=>
   cases hc;obtain⟨b,c,vs,h1,U,rfl⟩:=hf;exact⟨b,c,vs,h1,U,λN F w h=>x8 h.2⟩
 | ro wh=>
   cases hc;obtain⟨b,c,vs,h1,U,rfl⟩:=hf;exact⟨b,c,vs,h1,U,λN F w h=>h.2⟩
 |mp es c=>cases hc
 |it m since seen lp=>cases hc
def nO (ρ:Env)(lo hi:Nat):Prop:=∀g,lo<=g->g<hi->ρ g=none
structure Ext (ρ de:Env) (lo hi:Nat):Prop where
 le:ρ.le de
 out:∀g,ρ g=none->g<lo\/hi<=g->de g=none
theorem Ext.refl (ρ:Env)(lo hi:Nat):Ext ρ ρ lo hi:=⟨λ_ _ h=>h,λ_ h _=>h⟩
theorem Ext.trans {ρ de U:Env} {lo eK hi eW:Nat} (h:Ext ρ de lo hi)(k:Ext de U eK eW)(hl:lo<=eK)(hh:eW<=hi):Ext ρ U lo hi:=
 ⟨λg e he=>k.le g e (h.le g e he),λg hg ho=>k.out g (h.out g hg ho) au⟩
def Env.put (ρ:Env)(g:Nat)(e:Nat×Nat×Nat):Env:=λk=>if k=g then some e else ρ k
theorem Env.put_ext {ρ:Env} {g hi:Nat} {e:Nat×Nat×Nat} (hg:ρ g=none)(U:g<hi):Ext ρ (ρ.put g e) g hi:=
 ⟨λk x hk=>by unfold Env.put;split<;>simp_all,λk hk ho=>by unfold Env.put;rw[if_neg au];exact hk⟩
theorem Env.put_same {ρ:Env} {g:Nat} {e:Nat×Nat×Nat}:(ρ.put g e) g=some e:=by simp[Env.put]
theorem Env.put_free {ρ:Env} {g hi:Nat} {e:Nat×Nat×Nat} (h:nO ρ g hi):nO (ρ.put g e) (g+1) hi:=λk h1 U=>by unfold Env.put;rw[if_neg au];exact h k au U
end heap
structure Rel (ρ:Env) (E:List Value) (fr:Tr) (hp:eI) (S:List (Nat×Value)) (H:List Fact):Prop where
 fr:∀k v,fr.get k=some v->∃x,v.den ρ E=some x/\look S k=some x
 hp:ju ρ E hp H
theorem Qd6 {d k:Nat} (U:k≠d):∀{S:aq (Nat×bc)},look (fk d S) k=look S k
 |[]=>rfl
 | (j,v)::r=>by
   unfold fk;split
   ·rename_i hb;have:=Qt hb;subst this;have:q' j k=false:=by cases h:q' j k with|false=>rfl|true=>exact absurd (Qt h).symm U
    simp only[look,this];exact Qd6 U
   ·simp only[look];cases q' j k with
    |true=>rfl
    |false=>exact Qd6 U
theorem Rel.put {ρ de:Env} {E:aq bc} {fr:Tr} {hp ew:eI} {S:aq (Nat×bc)} {H H':aq Fact} (h:Rel ρ E fr hp S H)(hle:ρ.le de) {d:Nat} {v:SV} {x:bc} (hd:d+1<2^14)(hv:v.den de E=some x)(hH:ju de E ew H'):
  Rel de E (fr.put d v) ew ((d,x)::fk d S) H':=by
 refine⟨λk u hk=>?_,hH⟩;unfold Tr.put at hk;rw[Tr.get_set 14 _ _ _ hd]at hk;split at hk
 ·rename_i e;subst e;cases hk;exact⟨x,hv,by simp[look]⟩
 ·rename_i U;obtain⟨y,h1,h2⟩:=h.fr k u hk;refine⟨y,SV.den_mono hle _ _ h1,?_⟩;have:q' d k=false:=by cases hb:q' d k with|false=>rfl|true=>exact absurd (Qt hb).symm U
  simp only[look,this];rw[Qd6 U];exact h2
theorem Rel.mono {ρ de:Env} {E:aq bc} {fr:Tr} {hp U:eI} {S:aq (Nat×bc)} {H H':aq Fact} (h:Rel ρ E fr hp S H)(hle:ρ.le de)(hH:ju de E U H'):Rel de E fr U S H':=
 ⟨λk u hk=>by obtain⟨y,h1,h2⟩:=h.fr k u hk;exact⟨y,SV.den_mono hle _ _ h1,h2⟩,hH⟩
end
end
section
open Go.RowKit
noncomputable section
def ku (fr:Tr):bw->bf SV
 | .tmp t=>fr.get t
 | .const v=>some (SV.of v)
 | .func f=>some (.fn f [] [])
 | .global _=>none
def Il (fr:Tr):aq bw->bf (aq SV)
 |[]=>some []
 | x::l=>match ku fr x,Il fr l with
   |some v,some vs=>some (v::vs)
   |_,_=>none
def HI (ops:Array Oper)(fr:Tr)(o:Oper):bf Bool:=
 match o.guard with
 |none=>some true
 | some (j,want)=>match(ops[j]?).bind (·.dst)with
   | some d=>match fr.get d with
     |some (.v (.bool true))=>some want
     |some (.v (.bool false))=>some (!want)
     |some (.v (.tuple _))=>some false
     |_=>none
   |none=>none
section ev
variable {ρ:Env} {E:aq bc} {fr:Tr} {hp:eI} {S:aq (Nat×bc)} {H:aq Fact}
theorem sR (h:Rel ρ E fr hp S H) {o:bw} {v:SV} (he:ku fr o=some v):∃x,v.den ρ E=some x/\dy S o=some x:=by
 cases o with
 |tmp t=>exact h.fr t v he
 |const c=>cases he;exact⟨c,SV.of_den c,rfl⟩
 |func f=>cases he;exact⟨_,rfl,rfl⟩
 |global g=>cases he
theorem nM (h:Rel ρ E fr hp S H) {o:bw} {x:bc} (he:ku fr o=some (.v x)):dy S o=some x:=by
 obtain⟨y,h1,U⟩:=sR h he;cases h1;exact U
theorem Qdw (h:Rel ρ E fr hp S H):∀{l:aq bw} {vs:aq SV},Il fr l=some vs->∃xs,SV.dens ρ E vs=some xs/\um S l=some xs
 |[],vs,he=>by cases he;exact⟨[],rfl,rfl⟩
 | x::l,vs,he=>by
   unfold Il at he;split at he
   ·rename_i v vs' h1 U;cases he;obtain⟨y,h3,h4⟩:=sR h h1;obtain⟨ys,h5,h6⟩:=Qdw h U;exact⟨y::ys,Ee h3 h5,by simp only[um,h4,h6]⟩
   · cases he
theorem QcB (h:Rel ρ E fr hp S H) {ops:Array Oper} {o:Oper} {b:Bool} (hw:HI ops fr o=some b):QM ops S o=some b:=by
 unfold HI at hw;unfold QM;rcases hg:o.guard with _|⟨j,want⟩
 · simpa[hg]using hw
 ·simp only[hg]at hw⊢;rcases hd:(ops[j]?).bind (·.dst)with _|d;· simp[hd]at hw
  ·simp only[hd]at hw⊢;split at hw
   ·rename_i hv;obtain⟨x,h1,U⟩:=h.fr _ _ hv;cases h1;simpa only[U]using hw
   ·rename_i hv;obtain⟨x,h1,U⟩:=h.fr _ _ hv;cases h1;simpa only[U]using hw
   ·rename_i hv;obtain⟨x,h1,U⟩:=h.fr _ _ hv;cases h1;simpa only[U]using hw
   · cases hw
end ev
def Hn (fr:Tr):Op->bf SV
 | .move x=>ku fr x
 | .assign x=>ku fr x
 | .pick c a b=>match ku fr c with
   |some (.v (.bool true))=>ku fr a
   |some (.v (.bool false))=>ku fr b
   |_=>none
 | .binOp op _ x y _=>match ku fr x,ku fr y with
   | some (.v a),some (.v b)=>match Vm op (some a) (some b)with
     |some r=>some (.v r)
     |none=>none
   |_,_=>none
 | .unOp .not _ x=>match ku fr x with
   |some (.v (.bool b))=>some (.v (.bool (!b)))
   |_=>none
 | .extract x i=>match ku fr x with
   |some (.tup vs)=>vs[i]?
   |_=>none
 | .nilCheck x=>match ku fr x with
   |some (.ptr g o)=>some (.ptr g o)
   |_=>none
 |_=>none
section pure
variable {ρ:Env} {E:aq bc} {fr:Tr} {hp:eI} {S:aq (Nat×bc)} {H:aq Fact}
theorem vm (h:Rel ρ E fr hp S H) {op:Op} {v:SV} (he:Hn fr op=some v):∃x,v.den ρ E=some x/\Ba S op=some x:=by
 unfold Hn at he;split at he;· exact sR h he
 · exact sR h he
 ·rename_i c a b;split at he
  ·rename_i hc;obtain⟨x,h1,U⟩:=sR h he;exact⟨x,h1,by simp only[Ba,nM h hc,U]⟩
  ·rename_i hc;obtain⟨x,h1,U⟩:=sR h he;exact⟨x,h1,by simp only[Ba,nM h hc,U]⟩
  · cases he
 ·rename_i op t x y u;split at he
  ·rename_i a b ha hb;split at he
   ·rename_i r hr;cases he;exact⟨r,rfl,by simp only[Ba,nM h ha,nM h hb,hr]⟩
   · cases he
  · cases he
 ·rename_i t x;split at he
  ·rename_i b hb;cases he;exact⟨_,rfl,by simp only[Ba,nM h hb]⟩
  · cases he
 ·rename_i x i;split at he
  ·rename_i vs hx;obtain⟨y,h1,U⟩:=sR h hx;simp only[SV.den,d']at h1;obtain⟨ws,h3,rfl⟩:=h1;obtain⟨z,h4,h5⟩:=Bt h3 he;exact⟨z,h5,by simp only[Ba,U];simpa using h4⟩
  · cases he
 ·rename_i x;split at he
  ·rename_i g o hx;cases he;obtain⟨y,h1,U⟩:=sR h hx;refine⟨y,h1,?_⟩;simp only[SV.den,d']at h1;obtain⟨e,_,rfl⟩:=h1;simp only[Ba,U]
  · cases he
 · cases he
end pure
def KZ (fr:Tr):aq (Nat×bw)->bf (aq (Nat×SV))
 |[]=>some []
 | (i,x)::l=>match ku fr x,KZ fr l with
   |some v,some vs=>some ((i,v)::vs)
   |_,_=>none
def S9 (all:aq SV)(j:Nat)(cs:aq SV):aq SV:=all.take j++cs++all.drop (j+cs.length)
def BB (place:Nat->bf (Nat×Nat)):aq SV->aq (Nat×SV)->bf (aq SV)
 |cs,[]=>some cs
 | cs,(i,v)::r=>match place i with
   |none=>none
   | some (off,sz)=>match q' v.cells.length sz&&K' (off+sz) cs.length&& !v.isOpq with
     |true=>BB place (S9 cs off v.cells) r
     |false=>none
section fill
variable {ρ:Env} {E:aq bc} {fr:Tr} {hp:eI} {S:aq (Nat×bc)} {H:aq Fact}
theorem uh {all cs:aq SV} {as xs:aq bc} (j:Nat)(h:SV.dens ρ E all=some as)(k:SV.dens ρ E cs=some xs):SV.dens ρ E (S9 all j cs)=some (xa as j xs):=by
 unfold S9 xa;rw[B6 k];exact SS (SS (Qdv j h) k) (Qdu _ h)
def Ed (ρ:Env)(E:aq bc):aq (Nat×SV)->aq (Nat×bc)->Prop
 |[],[]=>True
 |(i,v)::r,(j,x)::s=>i=j/\v.den ρ E=some x/\Ed ρ E r s
 |_,_=>False
theorem q9 (h:Rel ρ E fr hp S H):∀{l:aq (Nat×bw)} {vs:aq (Nat×SV)},KZ fr l=some vs->∃xs,Ed ρ E vs xs/\Tt S l=some xs
 |[],vs,he=>by cases he;exact⟨[],trivial,rfl⟩
 | (i,x)::l,vs,he=>by
   unfold KZ at he;split at he
   ·rename_i v vs' h1 U;cases he;obtain⟨y,h3,h4⟩:=sR h h1;obtain⟨ys,h5,h6⟩:=q9 h U;exact⟨(i,y)::ys,⟨rfl,h3,h5⟩,by simp only[Tt,h4,h6]⟩
   · cases he
theorem Hl {v:SV} (h:(!v.isOpq)=true):∀i,v≠.opq i:=λi e=>by subst e;cases h
theorem mJ {place:Nat->bf (Nat×Nat)}:∀{parts:aq (Nat×SV)} {xs:aq (Nat×bc)} {cs out:aq SV} {as:aq bc},SV.dens ρ E cs=some as->Ed ρ E parts xs->BB place cs parts=some out->∃os,SV.dens ρ E out=some os/\lT place as xs=some os
 |[],[],cs,out,as,h,_,U=>by cases U;exact⟨as,h,rfl⟩
 | (i,v)::r,(j,x)::s,cs,out,as,h,hp,U=>by
   obtain⟨rfl,hv,hr⟩:=hp;unfold BB at U;unfold lT;split at U;· cases U
   ·rename_i off sz hpl;split at U
    ·rename_i hb;simp only[i']at hb;have hc:=SV.cells_den hv (Hl hb.2);have hlen:=B6 hc;obtain⟨os,h1,h2⟩:=mJ (uh off h hc) hr U;refine⟨os,h1,?_⟩
     have e1:q' x.cells.size sz=true:=by
      have:=hb.1.1;rw[<-hlen,Array.length_toList]at this;exact this
     have e2:K' (off+sz) as.length=true:=by rw[B6 h];exact hb.1.2
     simp only[hpl,e1,e2,Bool.and_true];exact h2
    · cases U
 |[],_::_,_,_,_,_,hp,_=>hp.elim
 |_::_,[],_,_,_,_,hp,_=>hp.elim
end fill
def oH (P:da)(fr:Tr)(_:eI)(t:Nat)(x:bw)(k:Nat):bf (SV×bf Nat):=match ku fr x,QZ P t k with
 |some (.ptr g o),some f=>some (.ptr g (o+f),none)
 |_,_=>none
def Ho (P:da)(fr:Tr)(hp:eI)(t:Nat)(x:bw):bf (SV×bf Nat):=match ku fr x with
 | some (.ptr g o)=>match lN hp g,QV P t,fJ P t with
   | some ob,some sz,some U=>match ob.cs with
     | some cs=>match U with
       | true=>match q' ((cs.drop o).take sz).length sz with
         |true=>some (.agg ((cs.drop o).take sz),some g)
         |false=>none
       | false=>match q' sz 1,(cs.drop o).take sz with
         |true,[c]=>some (c,some g)
         |_,_=>none
     |none=>none
   |_,_,_=>none
 |_=>none
def oI (P:da)(fr:Tr)(_:eI)(t:Nat)(x:bw)(i:bw):bf (SV×bf Nat):=match ku fr x,ku fr i,gG P t with
 | some (.sl g off len _ _),some (.v (.int _ (.ofNat j))),some e=>match QV P e,A' j len with
   |some sz,true=>some (.ptr g (off+j*sz),none)
   |_,_=>none
 |_,_,_=>none
def rH (P:da)(fr:Tr)(_:eI)(f:Nat)(U:Array bw)(xs:Array bw):bf (SV×bf Nat):=match Il fr U.toList,Il fr xs.toList with
 |some us,some vs=>some (.fn f us vs,none)
 |_,_=>none
def CA (P:da)(fr:Tr)(_:eI)(op:BinOp)(t:Nat)(x:bw)(y:bw):bf (SV×bf Nat):=match ku fr x,ku fr y with
 | some (.v (.int k a)),some (.v (.int U b))=>match RA k U&& !decide (b=0),op with
   |true,.quo=>some (.v (.int k (k.wrap (a.tdiv b))),none)
   |true,.rem=>some (.v (.int k (a.tmod b)),none)
   |_,_=>none
 | some (.sl _ _ _ _ _),some (.v (.slice none _ _))=>match gG P t,op with
   |some _,.eql=>some (.v (.bool false),none)
   |some _,.neq=>some (.v (.bool true),none)
   |_,_=>none
 | some (.v (.slice none _ _)),some (.v (.slice none _ _))=>match gG P t,op with
   |some _,.eql=>some (.v (.bool true),none)
   |some _,.neq=>some (.v (.bool false),none)
   |_,_=>none
 | some (.ptr _ _),some (.v (.pointer none))=>match vI P t,op with
   |some _,.eql=>some (.v (.bool false),none)
   |some _,.neq=>some (.v (.bool true),none)
   |_,_=>none
 | some (.v (.pointer none)),some (.v (.pointer none))=>match vI P t,op with
   |some _,.eql=>some (.v (.bool true),none)
   |some _,.neq=>some (.v (.bool false),none)
   |_,_=>none
 |_,_=>none
def MU (P:da)(fr:Tr)(_:eI)(xs:Array bw)(U:Array Nat):bf (SV×bf Nat):=match xs.toList,U.toList with
 | [x],[t]=>match ku fr x with
   | some (.sl _ _ len _ _)=>match gG P t with
     |some _=>some (.v (.int .i64 (.ofNat len)),none)
     |none=>none
   | some (.v (.slice none len _))=>match gG P t with
     |some _=>some (.v (.int .i64 (.ofNat len)),none)
     |none=>none
   |_=>none
 |_,_=>none
def CB (P:da)(fr:Tr)(_:eI)(t:Nat)(U:Array (Nat×bw)):bf (SV×bf Nat):=match KZ fr U.toList,iL P t,tO P t with
 | some parts,some z,some pl=>match BB (Zx pl) (SV.of z).cells parts with
   |some out=>some (.agg out,none)
   |none=>none
 |_,_,_=>none
def MW (P:da)(fr:Tr)(hp:eI):Op->bf (SV×bf Nat)
 | .fieldAddr t x k=>oH P fr hp t x k
 | .load t x=>Ho P fr hp t x
 | .indexAddr t x i=>oI P fr hp t x i
 | .makeFunc (.func f) U xs=>rH P fr hp f U xs
 | .binOp op t x y _=>CA P fr hp op t x y
 | .call {callee:=.builtin .len,args:=xs,argTypes:=ts}=>MU P fr hp xs ts
 | .build t ps=>CB P fr hp t ps
 |_=>none
section read
variable {P:da} {n:FD} {ρ:Env} {E:aq bc} {fr:Tr} {hp:eI} {S:aq (Nat×bc)} {H:aq Fact}
variable {o:Oper}{v:SV}
def mA (P:da)(n:FD)(ρ:Env)(E:aq bc)(hp:eI)(S:aq (Nat×bc))(H:aq Fact)(o:Oper)(v:SV)(d:bf Nat):Prop:=
 ∃ x B m,v.den ρ E=some x/\QP H m=B/\(d=none->B=[])/\(∀g,d=some g->∃U φ,lN hp g=some U/\U.isFact ρ E g φ/\B=[φ])/\
   ∀a w,gm n S a->AZ [] B w->(execOp a.eval o).run P w=.ok (.value x) w
theorem z8 {x:bc} (hv:v.den ρ E=some x)(h:∀a w,gm n S a->(execOp a.eval o).run P w=.ok (.value x) w):mA P n ρ E hp S H o v none:=
 ⟨x,[],[],hv,rfl,(λ_=>rfl),(λ_ h=>by cases h),λa w U _=>h a w U⟩
theorem ug {l:aq SV} {vs:aq bc} (h:SV.dens ρ E l=some vs):(SV.agg l).den ρ E=some (.agg vs.toArray):=by simp[SV.den,h]
theorem yq {k:Nat} {φ:Fact} (h:H[k]? =some φ):QP H [k]=[φ]:=by simp[QP,h]
theorem Kk {op:BinOp} {t u:TypeId} {x y:bw} {a b v:bc} (ho:o.op=.binOp op t x y u)(hx:dy S x=some a)(hy:dy S y=some b)(hr:∀w,(do eqGuard op t x y a b;binOp op t a b:Sem bc).run P w=.ok v w):
  ∀(U:Act) w,gm n S U->(execOp U.eval o).run P w=.ok (.value v) w:=λU w hf=>by
 have h1:=hr w;unfold execOp;simp only[ho,hf.eval hx,hf.eval hy];rw[Sem.run_bind,h1];rfl
theorem Qcg {t e:Nat} (U:vI P t=some e)(op:BinOp)(x y:bw)(a:bf Addr)(w:bx):(op=.eql->(do eqGuard op t x y (.pointer a) (.pointer none);binOp op t (.pointer a) (.pointer none):Sem bc).run P w=.ok (.bool a.isNone) w)/\
  (op=.neq->(do eqGuard op t x y (.pointer a) (.pointer none);binOp op t (.pointer a) (.pointer none):Sem bc).run P w=.ok (.bool (!a.isNone)) w):=
 ⟨λe=>by subst e;exact Ik U x y a w,λe=>by subst e;exact a1y U x y a w⟩
theorem FG (h:Rel ρ E fr hp S H) {d:bf Nat} (he:MW P fr hp o.op=some (v,d)):mA P n ρ E hp S H o v d:=by
 unfold MW at he;split at he
 ·
  rename_i t x k U;unfold oH at he;split at he
  ·rename_i g q f hx hk;cases he;obtain⟨y,h1,h2⟩:=sR h hx;simp only[SV.den,d']at h1;obtain⟨e,h3,rfl⟩:=h1;refine z8 (x:=.pointer (some ⟨e.1,e.2.2+q+f,none⟩)) (by simp[SV.den,h3,M']) λa w hf=>?_
   simp[execOp,U,hf.eval h2,mK hk]
  · cases he
 ·
  rename_i t x U;unfold Ho at he;split at he
  ·rename_i g q hx;split at he
   ·rename_i ob sz ag hg hs ha;split at he
    ·rename_i cs hc;obtain⟨y,h1,h2⟩:=sR h hx;obtain⟨k,φ,h3,h4,_,_⟩:=Pd h.hp hg;obtain⟨b,c,vs,h5,h6,h7⟩:=HO.cells_at h4 hc;simp only[SV.den,h5,r!,Option.some.injEq]at h1;subst h1
     have iJ:∀w,AZ [] [φ] w->r6 w b q ((vs.drop q).take sz):=λw hw=>by
      obtain⟨N,F,h8⟩:=hw.2 φ bh;have:=QdB (j:=q) (h7 N F w h8) rfl (sz:=sz);rwa [W']at this
     have hd:=Qdv (ρ:=ρ) (E:=E) sz (Qdu q h6);split at he
     ·split at he
      ·rename_i hb;cases he;refine⟨.agg ((vs.drop q).take sz).toArray,[φ],[k],ug hd,yq h3,(λe=>by cases e),(λg' e=>by cases e;exact⟨ob,φ,hg,h4,rfl⟩),λa w hf hw=>?_⟩;have hl:((vs.drop q).take sz).length=sz:=by rw[B6 hd];exact Qt hb
       have:=Ux (P:=P) (iJ w hw) hs ha hl (v:=.agg ((vs.drop q).take sz).toArray) rfl;simp[execOp,U,hf.eval h2,Instr.loadAt,Instr.sureAddr,this]
      · cases he
     ·split at he
      ·rename_i c' hb th;cases he;rw[th]at hd;obtain⟨u,us,h8,h9,h10⟩:=QL hd;cases h10;refine⟨u,[φ],[k],h9,yq h3,(λe=>by cases e),(λg' e=>by cases e;exact⟨ob,φ,hg,h4,rfl⟩),λa w hf hw=>?_⟩;have:=Ux (P:=P) (iJ w hw) hs ha (by rw[h8];exact(Qt hb).symm) (v:=u) (by rw[h8];rfl);simp[execOp,U,hf.eval h2,Instr.loadAt,Instr.sureAddr,this]
      · cases he
    · cases he
   · cases he
  · cases he
 ·
  rename_i t x i U;unfold oI at he;split at he
  ·rename_i g off len cap own ik j e hx hi LZ;split at he
   ·rename_i sz hs hj;cases he;obtain⟨y,h1,h2⟩:=sR h hx;simp only[SV.den,d']at h1;obtain⟨en,h3,rfl⟩:=h1;have eW:=nM h hi;have cj:j<len:=f' hj;refine z8 (x:=.pointer (some ⟨en.1,en.2.2+off+j*sz,none⟩)) (by simp[SV.den,h3,M']) λa w hf=>?_
    have h9:(0:Int)<=(Int.ofNat j)/\(Int.ofNat j)<len:=by simp;omega
    simp[execOp,U,hf.eval h2,hf.eval eW,Instr.indexAt,asIntOf,run_underlying (r5 LZ),cj,w7 hs,Addr.add];try omega
   · cases he
  · cases he
 ·
  rename_i f fi xs U;unfold rH at he;split at he
  ·rename_i us vs ZM JZ;cases he;obtain⟨ys,h1,h2⟩:=Qdw h JZ;obtain⟨zs,h3,h4⟩:=Qdw h ZM;refine z8 (x:=.func (.func f) zs.toArray ys.toArray) (Lz h3 h1) λa w hf=>?_
   have fO:xs.map a.eval=ys.toArray:=by
    have:=hf.evalL h2;have h0:xs=xs.toList.toArray:=bh
    rw[<-this,h0,B']
   have WR:fi.map a.eval=zs.toArray:=by
    have:=hf.evalL h4;have h0:fi=fi.toList.toArray:=bh
    rw[<-this,h0,B']
   simp[execOp,U,Instr.makeFunc,fO,WR]
  · cases he
 ·
  rename_i op t x y u U;unfold CA at he;split at he
  ·rename_i k a k' b hx hy;split at he
   ·rename_i hb;cases he;simp only[i',z',decide_eq_false_iff_not]at hb;obtain rfl:=tk hb.1;exact z8 rfl (Kk U (nM h hx) (nM h hy) λw=>by simp[eqGuard,binOp,Op.intDiv,hb.2])
   ·rename_i hb;cases he;simp only[i',z',decide_eq_false_iff_not]at hb;obtain rfl:=tk hb.1;exact z8 rfl (Kk U (nM h hx) (nM h hy) λw=>by simp[eqGuard,binOp,Op.intDiv,hb.2])
   · cases he
  ·rename_i hx hy;obtain⟨y',h1,h2⟩:=sR h hx;simp only[SV.den,d']at h1;obtain⟨en,h3,rfl⟩:=h1;split at he
   ·rename_i ht;cases he;exact z8 rfl (Kk U h2 (nM h hy) λw=>nf ht _ _ _ _ _ _ _ w)
   ·rename_i ht;cases he;exact z8 rfl (Kk U h2 (nM h hy) λw=>ng ht _ _ _ _ _ _ _ w)
   · cases he
  ·rename_i hx hy;split at he
   ·rename_i ht;cases he;exact z8 rfl (Kk U (nM h hx) (nM h hy) λw=>nf ht _ _ _ _ _ _ _ w)
   ·rename_i ht;cases he;exact z8 rfl (Kk U (nM h hx) (nM h hy) λw=>ng ht _ _ _ _ _ _ _ w)
   · cases he
  ·rename_i hx hy;obtain⟨y',h1,h2⟩:=sR h hx;simp only[SV.den,d']at h1;obtain⟨en,h3,rfl⟩:=h1;split at he
   ·rename_i ht;cases he;exact z8 rfl (Kk U h2 (nM h hy) λw=>(Qcg ht _ _ _ _ w).1 rfl)
   ·rename_i ht;cases he;exact z8 rfl (Kk U h2 (nM h hy) λw=>(Qcg ht _ _ _ _ w).2 rfl)
   · cases he
  ·rename_i hx hy;split at he
   ·rename_i ht;cases he;exact z8 rfl (Kk U (nM h hx) (nM h hy) λw=>(Qcg ht _ _ _ _ w).1 rfl)
   ·rename_i ht;cases he;exact z8 rfl (Kk U (nM h hx) (nM h hy) λw=>(Qcg ht _ _ _ _ w).2 rfl)
   · cases he
  · cases he
 ·
  rename_i xs ts U;unfold MU at he;split at he
  ·rename_i x t JZ ZU;have Xr:xs=#[x]:=by cases xs;simp_all
   have Xl:ts=#[t]:=by cases ts;simp_all
   subst Xr;subst Xl;split at he
   ·rename_i g off len cap own hx;split at he
    ·rename_i e ht;cases he;obtain⟨y,h1,h2⟩:=sR h hx;simp only[SV.den,d']at h1;obtain⟨en,h3,rfl⟩:=h1;exact z8 rfl λa w hf=>by simp[execOp,U,resolve,invoke,builtin,Builtin.len_,hf.eval h2,run_underlying (r5 ht),goInt]
    · cases he
   ·rename_i len cap hx;split at he
    ·rename_i e ht;cases he;exact z8 rfl λa w hf=>by simp[execOp,U,resolve,invoke,builtin,Builtin.len_,hf.eval (nM h hx),run_underlying (r5 ht),goInt]
    · cases he
   · cases he
  · cases he
 ·
  rename_i t ps U;unfold CB at he;split at he
  ·rename_i parts z pl Ru hz hpl;split at he
   ·rename_i out Xf;cases he;obtain⟨xs,h1,h2⟩:=q9 h Ru;have hzd:SV.dens ρ E (SV.of z).cells=some z.cells.toList:=SV.cells_den (SV.of_den z) (λi=>by unfold SV.of;split<;>simp);obtain⟨os,h3,h4⟩:=mJ hzd h1 Xf;refine z8 (ug h3) λa w fC=>?_
    have h0:ps.map (λx=>(x.1,a.eval x.2))=xs.toArray:=by
     rw[<-fC.evalP h2,<-B']
    have h1:=run_build hz hpl h4 w;rw[<-h0]at h1;simp only[execOp,U,Sem.run_bind];rw[show(ps.map λx=>match x with|(i,x)=>(i,a.eval x))=ps.map (λx=>(x.1,a.eval x.2))from rfl,h1];rfl
   · cases he
  · cases he
 · cases he
end read
end
end
section
open Go.RowKit
noncomputable section
def LG (fr:Tr):bf bw->bf (bf Nat)
 |none=>some none
 | some x=>match ku fr x with
   |some (.v (.int _ (.ofNat j)))=>some (some j)
   |_=>none
def fy (o:bf Nat)(d:Nat):Nat:=match o with
 |some x=>x
 |none=>d
def HO.with (cs:aq SV):HO->HO
 | .blk _ ty=>.blk cs ty
 | .row _ n sz ty=>.row cs n sz ty
 |o=>o
def HO.wcs:HO->bf (aq SV)
 | .blk cs _=>some cs
 | .row cs _ _ _=>some cs
 |_=>none
def zJ (hp:eI)(g j:Nat)(cs:aq SV):bf eI:=match lN hp g with
 | some o=>match o.wcs with
   | some all=>match K' (j+cs.length) all.length&&cs.all SV.one with
     |true=>some (zI hp g (o.with (S9 all j cs)))
     |false=>none
   |none=>none
 |none=>none
def rD (hp:eI)(g j n:Nat):bf (aq SV):=match lN hp g with
 | some o=>match o.cs with
   | some all=>match K' (j+n) all.length with
     |true=>some ((all.drop j).take n)
     |false=>none
   |none=>none
 |none=>none
def Y0 (hp:eI)(sz:Nat):SV->bf (Nat×aq SV)
 | .v (.slice none 0 _)=>some (0,[])
 | .sl g off len _ _=>match q' len 0 with
   |true=>some (0,[])
   | false=>match rD hp g off (len*sz)with
     |some cs=>some (len,cs)
     |none=>none
 |_=>none
def ox (n jN sz:Nat)(z:bc):Bool:=K' n 9223372036854775807&&K' (n*jN) 140737488355328&&q' z.cells.size sz&&A' 0 sz
def zm (P:da) (hp:eI) (lo t:Nat) (x y:SV):bf (SV×eI×Nat):=match gG P t with
 |none=>none
 | some e=>match j0 P e with
   |none=>none
   | some (z,sz,jN)=>match Y0 hp sz y with
     |none=>none
     | some (m,U)=>match x with
       | .v (.slice none 0 0)=>match q' m 0 with
         |true=>some (.v (.slice none 0 0),hp,lo)
         | false=>match ox (0+m) jN sz z&&U.all SV.one with
           |true=>some (.sl lo 0 (0+m) 0 true,(lo,.row ([]++U) (0+m) sz e)::hp,lo+1)
           |false=>none
       | .sl g off len cap own=>match lN hp g with
         | some (.row cs n OO e')=>match q' OO sz&&q' off (cap*sz)&&own&&K' (cap+(len+m)) n with
           | true=>match zJ hp g (off+len*sz) U with
             |some ew=>some (.sl g off (len+m) cap own,ew,lo)
             |none=>none
           | false=>match own&&q' off 0&&q' cap 0&&q' len n&&q' OO sz&&q' e' e&&ox (n+m) jN sz z&&U.all SV.one with
             |true=>some (.sl lo 0 (n+m) 0 true,IM hp g lo (.row (cs++U) (n+m) sz e),lo+1)
             | false=>match !own&&q' len cap&&ox (len+m) jN sz z&&A' 0 m with
               | true=>match rD hp g off (len*sz)with
                 |some old=>some (.sl lo 0 (len+m) 0 true,(lo,.row (old++U) (len+m) sz e)::hp,lo+1)
                 |none=>none
               |false=>none
         | some (.blk cs e')=>match !own&&q' off 0&&q' len cap&&q' (cap*sz) cs.length&&q' e' e&&ox (cap+m) jN sz z&&U.all SV.one with
           |true=>some (.sl lo 0 (cap+m) 0 true,IM hp g lo (.row (cs++U) (cap+m) sz e),lo+1)
           |false=>none
         |_=>none
       |_=>none
def FM (P:da) (hp:eI) (lo t:Nat) (x:SV) (l h m:bf Nat):bf (SV×eI×Nat):=match gG P t with
 |none=>none
 | some e=>match QV P e with
   |none=>none
   | some sz=>match x with
     | .v (.slice none 0 0)=>match q' (fy l 0) 0&&q' (fy h 0) 0&&q' (fy m 0) 0 with
       |true=>some (.v (.slice none 0 0),hp,lo)
       |false=>none
     | .sl g off len cap own=>match own with
       | false=>match K' (fy l 0) (fy h len)&&K' (fy h len) (fy m cap)&&K' (fy m cap) cap with
         |true=>some (.sl g (match q' (fy m cap) (fy l 0)with|true=>off|false=>off+fy l 0*sz) (fy h len-fy l 0) (fy m cap-fy l 0) false,hp,lo)
         |false=>none
       | true=>match lN hp g with
         |  some (.row _ n _ _)=>match m with
            | some U=>match K' (fy l 0) (fy h len)&&K' (fy h len) U&&K' (cap+U) n with
              |true=>some (.sl g (match q' U (fy l 0)with|true=>off|false=>off+fy l 0*sz) (fy h len-fy l 0) (U-fy l 0) false,hp,lo)
              |false=>none
            | none=>match K' (fy l 0) (fy h len)&&K' (cap+fy h len) n with
              | true=>match q' (fy l 0) 0,A' (cap+fy l 0) n with
                |true,_=>some (.sl g off (fy h len) cap true,hp,lo)
                |false,true=>some (.sl g (off+fy l 0*sz) (fy h len-fy l 0) (cap+fy l 0) true,hp,lo)
                |false,false=>some (.sl lo 0 (fy h len-fy l 0) 0 true,hp,lo+1)
              |false=>none
         |_=>none
     |_=>none
def BV (P:da)(_:Tr)(hp:eI)(lo:Nat)(t:Nat):bf (bf SV×eI×Nat):=match iL P t with
 |some z=>some (some (.ptr lo 0),(lo,.blk (SV.of z).cells t)::hp,lo+1)
 |none=>none
def Mi (P:da)(fr:Tr)(hp:eI)(lo:Nat)(t:Nat)(x:bw):bf (bf SV×eI×Nat):=match ku fr x with
 | some v=>match v.isOpq with
   |false=>some (some (.ptr lo 0),(lo,.blk v.cells t)::hp,lo+1)
   |true=>none
 |none=>none
def QdS (P:da)(fr:Tr)(hp:eI)(lo:Nat)(t:Nat)(len:Nat)(U:Array (Nat×bw)):bf (bf SV×eI×Nat):=match gG P t with
 | some e=>match QV P e,iL P e,KZ fr U.toList with
   | some sz,some z,some parts=>match K' (len*sz) 16777216,BB (Qd8 sz) ((zo len sz z).map .v) parts with
     |true,some out=>some (some (.sl lo 0 len len false),(lo,.blk out e)::hp,lo+1)
     |_,_=>none
   |_,_,_=>none
 |none=>none
def BX (P:da)(fr:Tr)(hp:eI)(lo:Nat)(t:Nat)(x:bw)(y:bw):bf (bf SV×eI×Nat):=match ku fr x,ku fr y with
 | some (.ptr g off),some v=>match !v.isOpq&&(match QV P t with|some sz=>q' v.cells.length sz|none=>false)with
   | true=>match zJ hp g off v.cells with
     |some ew=>some (none,ew,lo)
     |none=>none
   |false=>none
 |_,_=>none
def BW (P:da)(fr:Tr)(hp:eI)(lo:Nat)(t:Nat)(x:bw)(l:bf bw)(h:bf bw)(m:bf bw):bf (bf SV×eI×Nat):=match ku fr x,LG fr l,LG fr h,LG fr m with
 | some v,some U,some h',some m'=>match m'.isNone||h'.isSome with
   | true=>match FM P hp lo t v U h' m' with
     |some (r,ew,eK)=>some (some r,ew,eK)
     |none=>none
   |false=>none
 |_,_,_,_=>none
def xY (P:da)(fr:Tr)(hp:eI)(lo:Nat)(xs:Array bw)(ts:Array Nat):bf (bf SV×eI×Nat):=match xs.toList,ts.toList with
 | [x,y],[t,U]=>match ku fr x,ku fr y,q' t U with
   | some v,some u,true=>match zm P hp lo t v u with
     |some (r,ew,eK)=>some (some r,ew,eK)
     |none=>none
   |_,_,_=>none
 |_,_=>none
def Fc (P:da)(fr:Tr)(hp:eI)(lo:Nat):Op->bf (bf SV×eI×Nat)
 | .alloc t=>BV P fr hp lo t
 | .box t x=>Mi P fr hp lo t x
 | .buildSlice t len U=>QdS P fr hp lo t len U
 | .store t x y=>BX P fr hp lo t x y
 | .slice t x l h m=>BW P fr hp lo t x l h m
 | .call {callee:=.builtin .append,args:=xs,argTypes:=ts}=>xY P fr hp lo xs ts
 |_=>none
section GX
variable {P:da} {C:Ctx} {n:FD} {ρ:Env} {E:aq bc} {fr:Tr} {hp:eI} {S:aq (Nat×bc)} {H:aq Fact}
variable {w:bx}{sz t m ty e lo hi c len j off jN cap eK g b:Nat}{ew:eI}{p:bf Addr}{xs vs:aq bc}{cs:aq SV}{r y:SV}{z v x u:bc}{l h:bf Nat}{lv hv mv:bf bc}
theorem Qdd:∀(cs l:aq bc)(j k:Nat),(JM l j cs).take k=JM (l.take k) j cs
 |[],_,_,_=>rfl
 | c::cs,l,j,k=>by
   unfold JM;rw[Qdd cs,List.take_set]
theorem mN (hd:ju ρ E hp H)(h:rD hp g j m=some cs):∃b c vs,ρ g=some (b,c,0)/\SV.dens ρ E cs=some vs/\cs.length=m/\∀w,Ql C [] H w->r6 w b j vs:=by
 unfold rD at h;split at h
 ·rename_i o ho;split at h
  ·rename_i all U;split at h
   ·rename_i hle;cases h;obtain⟨k,φ,h1,h2,_,_⟩:=Pd hd ho;obtain⟨b,c,vs,h3,h4,h5⟩:=HO.cells_at h2 U;have:=f' hle;refine⟨b,c,_,h3,Qdv m (Qdu j h4),by simp;omega,λw ⟨F,N,hi⟩=>?_⟩;have:=QdB (j:=j) (h5 _ _ _ (hi.owns k _ h1)) rfl (sz:=m);rwa [W']at this
   · cases h
  · cases h
 · cases h
theorem rE (hd:ju ρ E hp H) (h:zJ hp g j cs=some ew) (hx:SV.dens ρ E cs=some xs):
  ∃b c,ρ g=some (b,c,0)/\∃H',ju ρ E ew H'/\∀w,Ql C [] H w->(storeCells ⟨b,j,none⟩ xs 0).run P w=.ok () (DF w b j xs)/\Ql C [] H' (DF w b j xs):=by
 unfold zJ at h;split at h
 ·rename_i o ho;split at h
  ·rename_i all eZ;split at h
   ·rename_i hb;cases h;simp only[i']at hb;have hle:=f' hb.1;obtain⟨k,φ,h1,h2,h3,_⟩:=Pd hd ho;have Rt:=oz hx hb.2;have hlen:=B6 hx;cases o with
    | blk wh ty=>
      cases eZ;obtain⟨b,c,vs,h4,U,rfl⟩:=h2;refine⟨b,c,h4,_,h3 ρ _ (.blk b (xa vs j xs) ty) (λ_ _ h=>h) ⟨b,c,_,h4,uh j U hx,rfl⟩,λw hw=>⟨?_,hw.store j h1 (by rw[hlen,B6 U];omega) rfl rfl⟩⟩;obtain⟨F,N,hi⟩:=hw;have:=YW (P:=P) xs vs j 0 w (hi.owns k _ h1).2 (by rw[hlen,B6 U];omega) Rt;simpa using this
    | row wh m sz ty=>
      cases eZ;obtain⟨b,c,vs,h4,U,rfl⟩:=h2;have Mj:=B6 U;refine⟨b,c,h4,_,h3 ρ _ (Ac ty sz b m c (xa vs j xs)) (λ_ _ h=>h) ⟨b,c,_,h4,uh j U hx,rfl⟩,λw hw=>?_⟩;obtain⟨F,N,hi⟩:=hw;have cj:=(x'.1 h1).1;obtain⟨hNb,fU⟩:=hi.owns k _ h1;have hol:=fU.1;rcases fU.2 with⟨h0,_⟩|⟨g',cap,cur,hv,hbg,hg,AU,kb,th,gx⟩
      · cases h0
      ·cases hv;have hg':w.heap[b]? =some (.cells cur.toList.toArray ty):=by simpa using hg
       have hmc:m*sz<=c*sz:=Nat.mul_le_mul_right _ AU;have GY:j+xs.length<=m*sz:=by rw[<-hol,Mj,hlen];exact hle
       have hr:=YW (P:=P) xs cur.toList j 0 w hg' fh Rt;refine⟨by simpa using hr,F,N,hi.set k cj ((Qci b xs j w).mono λi _ e=>by subst e;exact hNb) _ ⟨hNb,?_⟩⟩;have hs:=Qch xs cur.toList j w hg';refine⟨?_,.inr ⟨b,c,_,rfl,p! _,hs,AU,kb,?_,?_⟩⟩
       ·rw[<-Qbd _ _ _ au,<-gx,<-Qdd,QbL xs cur.toList j fh];simp;omega
       · rw[QbL xs cur.toList j fh];simp;omega
       ·simp only;rw[Qdd,gx,Qbd _ _ _ au]
    |mp es c=>cases eZ
    |it m since seen lp=>cases eZ
    |ro cs=>cases eZ
   · cases h
  · cases h
 · cases h
def xj (C:Ctx)(ρ:Env)(E:aq bc)(lo hi:Nat)(r:bf SV)(ew:eI)(eK:Nat)(nx:Next)(w':bx):Prop:=
 ∃ U H',Ext ρ U lo hi/\ju U E ew H'/\nO U eK hi/\lo<=eK/\Ql C [] H' w'/\match r with
   |some v=>∃x,nx=.value x/\v.den U E=some x
   |none=>nx=.skip
theorem UK {H':aq Fact} (hf:nO ρ lo hi)(U:ju ρ E ew H')(hw:Ql C [] H' w)(hr:r.den ρ E=some x):xj C ρ E lo hi (some r) ew lo (.value x) w:=
 ⟨ρ,H',Ext.refl _ _ _,U,hf,E' _,hw,x,rfl,hr⟩
theorem pX (r:SV) (hf:nO ρ lo hi)(cj:lo+1<=hi)(hd:ju ρ E hp H)(hw:Ql C [] H w)(hx:SV.dens ρ E cs=some xs)(hr:∀U:Env,U lo=some (w.heap.size,off,0)->r.den U E=some x):
  xj C ρ E lo hi (some r) ((lo,.blk cs ty)::hp) (lo+1) (.value x) (w.alloc (.cells xs.toArray ty)):=by
 have hg:=hf lo (E' _) au;have he:=Env.put_ext (e:=(w.heap.size,off,0)) hg (show lo<hi by omega);refine⟨ρ.put lo (w.heap.size,off,0),.blk w.heap.size xs ty::H,he,⟨⟨_,_,xs,Env.put_same,SV.dens_mono he.le _ _ hx,rfl⟩,hd.mono he.le⟩,Env.put_free hf,au,?_,x,rfl,hr _ Env.put_same⟩;have:=hw.alloc xs.toArray ty;simpa using this
theorem Ql.swap {w w':bx} (hw:Ql C [] H w) {k:Nat} {ψ:Fact} {v:bc} {φ:Fact} (hk:H[k]? =some ψ)(hN:∀N F,ψ.op N F w->∀j,v.ownBlock=some j->N j)(U:w.grownBy w' v.ownBlock)(b:Nat)
  (hb:v.ownBlock=some b\/(b=w.heap.size/\b<w'.heap.size)) (kd:∀(N F:eL),N b->φ.op N F w'):Ql C [] (H.set k φ) w':=by
 obtain⟨F,N,hi⟩:=hw;have cj:=(x'.1 hk).1;have hNk:=hN _ _ (hi.owns k _ hk);have hM:Mod (N k) w w':=⟨U.os,U.tape,U.output,U.size,λj hj hn=>U.block j hj λe=>hn (hNk j e.symm)⟩
 exact ⟨F,_,hi.set' k cj hM (λj=>j=b) (λi e=>by
  subst e;rcases hb with hb|hb;· exact .inl (hNk _ hb)
  · exact .inr ⟨au,hb.2⟩) φ (kd _ F rfl)⟩
theorem Jg {ys:aq SV} (hd:ju ρ E hp H)(h:Y0 hp sz y=some (m,ys))(hu:y.den ρ E=some u):
  ∃p c vs,u=.slice p m c/\SV.dens ρ E ys=some vs/\vs.length=m*sz/\∀w,Ql C [] H w->(0<m->∃b off,p=some ⟨b,off,none⟩/\r6 w b off vs):=by
 unfold Y0 at h;split at h;· cases h;cases hu;exact⟨_,_,[],rfl,rfl,bh,λ_ _ h=>absurd h au⟩
 ·rename_i g off len cap own;simp only[SV.den,d']at hu;obtain⟨e,h1,rfl⟩:=hu;split at h
  ·rename_i h0;cases h;have:=Qt h0;subst this;exact⟨_,_,[],rfl,rfl,bh,λ_ _ h=>absurd h au⟩
  ·split at h
   ·rename_i cs hr;cases h;obtain⟨b,c,vs,U,h3,h4,h5⟩:=mN hd hr (C:=C);rw[h1]at U;cases U;exact⟨_,_,vs,rfl,h3,by rw[B6 h3,h4],λw hw _=>⟨b,off,bh,h5 w hw⟩⟩
   · cases h
 · cases h
theorem mB {k:Nat} (ht:gG P t=some e)(hr:j0 P e=some (z,sz,jN))(dh:ox (k+m) jN sz z=true)
  (fU:w.ownsRow 0 e sz v k xs) (hl:vs.length=m*sz) (hp:0<m->∃b off,p=some ⟨b,off,none⟩/\r6 w b off vs) (h1:∀u∈vs,u.oneCell'=true) (hm:0<k+m\/v≠.slice none 0 0):
  ∃b c' w',(Builtin.append_ #[t,t] ty #[v,.slice p m c]).run P w=.ok (.slice (some ⟨b,0,none⟩) (k+m) c') w'/\w'.ownsRow 0 e sz (.slice (some ⟨b,0,none⟩) (k+m) c') (k+m) (xs++vs)/\w.grownBy w' v.ownBlock/\(v.ownBlock=some b\/(b=w.heap.size/\b<w'.heap.size)):=by
 simp only[ox,i']at dh;obtain⟨⟨⟨a1,a2⟩,a3⟩,a4⟩:=dh;obtain⟨i,lV,hz,kC,hU⟩:=Zs hr;obtain⟨v',w',h2,h3,h4,U⟩:=Qdb (P:=P) (w:=w) t ty e i z sz jN (r5 ht) lV hz kC hU (Qt a3) (f' a4) v k xs fU p m c vs hl hp h1 (by unfold maxLen;exact f' a1) (f' a2);have LM:=h3;rcases h3.2 with⟨rfl,h0⟩|⟨g,cap,cur,rfl,hbg,hg,AU,kb,th,gx⟩
 ·rcases hm with hm|hm;· omega
  ·exfalso;rcases fU.2 with⟨h6,_⟩|⟨g,cap,cur,rfl,hbg,hg,AU,kb,th,gx⟩
   · exact hm h6
   · rcases U with U|U<;>cases U
 ·refine⟨g,cap,w',h2,LM,h4,?_⟩;rcases U with U|U;· exact .inl (by rw[<-U];rfl)
  ·have:=LM.lt g rfl;cases U;exact .inr ⟨rfl,this.2⟩
theorem Ql.pushNew {w w':bx} (hw:Ql C [] H w) {φ:Fact} (U:w.grownBy w' none)(iR:w.heap.size<w'.heap.size)(kd:∀(N F:eL),N w.heap.size->φ.op N F w'):Ql C [] (φ::H) w':=by
 obtain⟨F,N,hi⟩:=hw;have hb:Below w.heap.size w w':=⟨U.os,U.tape,U.output,U.size,λk hk=>U.block k hk bh⟩
 refine⟨F,uc (λk=>k=w.heap.size) N,(hi.grow hb).push _ _ (kd _ F rfl) ?_ ?_⟩
 ·rintro k rfl;exact⟨iR,.inl hi.mod.size,λhf=>u! _ (hi.flt _ hf)⟩
 ·rintro i k hl rfl hn;exact u! _ (hi.nlt i _ hl hn).1
theorem Qd2 (U:vs.length=m*sz)(hp:0<m->∃b off,p=some ⟨b,off,none⟩/\r6 w b off vs):(Builtin.firstCells sz m (.slice p m c)).run P w=.ok vs.toArray w:=by
 by_cases hm:0<m
 ·obtain⟨b,off,rfl,hc⟩:=hp hm;simp only[Builtin.firstCells];rw[<-U];exact run_loadCells_list (P:=P) w ⟨b,off,none⟩ vs (λj v hv=>by rw[z6];exact hc j v hv)
 ·have:m=0:=au
  subst this;have:vs=[]:=T' (du U);subst this;cases p<;>simp[Builtin.firstCells,loadCells,loadCellsFrom]
theorem tW (U:gG P t=some e)(hs:QV P e=some sz):(Builtin.append_ #[t,t] ty #[.slice none 0 0,.slice p 0 c]).run P w=.ok (.slice none 0 0) w:=by
 have:=Qd2 (P:=P) (sz:=sz) (m:=0) (c:=c) (p:=p) (vs:=[]) (w:=w) bh (λh=>absurd h au);simp[Builtin.append_,run_underlying (r5 U),w7 hs,Builtin.lenOf,this]
theorem wG {q:Nat} {w':bx} (U:gG P t=some e)(hs:QV P e=some sz)(hle:len+m<=cap)(hl:vs.length=m*sz)(hp:0<m->∃b off,p=some ⟨b,off,none⟩/\r6 w b off vs)
  (hq:off+len*sz=q) (cx:(storeCells ⟨b,q,none⟩ vs 0).run P w=.ok () w'):(Builtin.append_ #[t,t] ty #[.slice (some ⟨b,off,none⟩) len cap,.slice p m c]).run P w=.ok (.slice (some ⟨b,off,none⟩) (len+m) cap) w':=by
 have:=Qd2 (P:=P) (sz:=sz) (c:=c) hl hp;have hu:(underlying t).run P w=.ok (.slice e) w:=run_underlying (r5 U) w;subst hq;simp[Builtin.append_,run_underlying (r5 U),w7 hs,Builtin.lenOf,this,hle,z6,cx]
theorem Jk (h:j0 P e=some (z,sz,jN)):QV P e=some sz:=by
 obtain⟨i,hi,_,hs,_⟩:=Zs h;simp[QV,hi,hs]
theorem Bg (ht:gG P t=some e)(hr:j0 P e=some (z,sz,jN))(dh:ox (len+m) jN sz z=true)
  (hx:xs.length=len*sz) (hxc:r6 w b off xs) (hl:vs.length=m*sz) (hp:0<m->∃b off,p=some ⟨b,off,none⟩/\r6 w b off vs) (hm:0<m):
  ∃c' U,(Builtin.append_ #[t,t] ty #[.slice (some ⟨b,off,none⟩) len len,.slice p m c]).run P w=.ok (.slice (some ⟨w.heap.size,0,none⟩) (len+m) c') U/\U.ownsRow 0 e sz (.slice (some ⟨w.heap.size,0,none⟩) (len+m) c') (len+m) (xs++vs)/\w.grownBy U none/\w.heap.size<U.heap.size:=by
 simp only[ox,i']at dh;obtain⟨⟨⟨a1,a2⟩,a3⟩,a4⟩:=dh;obtain⟨i,lV,hz,kC,hU⟩:=Zs hr;have a1:=f' a1;have a2:=f' a2;have tj:=Qt a3;have hM:len+m<=maxLen:=by unfold maxLen;exact a1
 obtain⟨q,qo,rfl,hq⟩:=hp hm;subst kC;subst hU;have holds:∀j u,xs[j]? =some u->w.cell? ((⟨b,off,none⟩:Addr).add j)=some u:=λj u hj=>by rw[z6];exact hxc j u hj
 have xW:∀j u,vs[j]? =some u->w.cell? ((⟨q,qo,none⟩:Addr).add j)=some u:=λj u hj=>by rw[z6];exact hq j u hj
 have pN:=grownCap_ge w (len+m) len e;have kb:grownCap w (len+m) len e<=maxLen:=grownCap_le_maxLen w (len+m) len e hM;have hlen:(xs++vs).length=(len+m)*i.size:=by rw[List.length_append,hx,hl,v!]
 have eX:=run_append_grow (P:=P) (w:=w) t ty e i z (r5 ht) lV hz ⟨b,off,none⟩ len len xs hx holds ⟨q,qo,none⟩ m c vs hl xW au au (growslice_fits au a2);refine⟨_,_,eX,⟨hlen,.inr ⟨w.heap.size,_,_,rfl,p! _,heap_alloc_new w.drew _,pN,kb,?_,?_⟩⟩,⟨rfl,rfl,rfl,bh,λk hk _=>Go.heap_alloc_old w.drew _ (show k<w.drew.heap.size from hk)⟩,bh⟩
 ·simp only[Array.size_append,List.size_toArray,size_zeroCells,tj,hx,hl,<-v!];congr 1;omega
 ·simp only[Array.toList_append,n!];rw[<-n!,<-hlen];exact List.take_left
theorem zn {x:SV} (hf:nO ρ lo hi) (hd:ju ρ E hp H) (hv:x.den ρ E=some v) (hu:y.den ρ E=some u) (h:zm P hp lo t x y=some (r,ew,eK)) (DX:eK<=hi) (hw:Ql C [] H w):
  ∃val w',(Builtin.append_ #[t,t] ty #[v,u]).run P w=.ok val w'/\xj C ρ E lo hi (some r) ew eK (.value val) w':=by
 unfold zm at h;split at h;· cases h
 ·rename_i e ht;split at h;· cases h
  ·rename_i z sz jN hr;have hs:=Jk hr;split at h;· cases h
   ·rename_i m ys Xk;obtain⟨p,c,vs,rfl,Fo,Mj,a18⟩:=Jg hd Xk hu (C:=C);have hsw:=a18 w hw;split at h
    ·
     cases hv;split at h
     ·rename_i h0;have:=Qt h0;subst this;cases h;exact⟨_,w,tW ht hs,UK hf hd hw rfl⟩
     ·rename_i h0;split at h
      ·rename_i dh;cases h;simp only[i']at dh;have hm:=Of h0;obtain⟨b,c',w',h1,h2,h3,h4⟩:=mB (ty:=ty) (c:=c) ht hr dh.1 (World.ownsRow_nil w 0 e sz) Mj hsw (oz Fo dh.2) (.inl au);have hb:b=w.heap.size/\b<w'.heap.size:=by rcases h4 with h4|h4;cases h4;exact h4
       obtain⟨rfl,hb⟩:=hb;simp only[List.nil_append,W']at h1 h2⊢;refine⟨_,w',h1,?_⟩;have hg:=hf lo (E' _) au;have he:=Env.put_ext (e:=(w.heap.size,c',0)) hg (show lo<hi by omega)
       exact ⟨ρ.put lo (w.heap.size,c',0),Ac e sz w.heap.size m c' vs::H,he,⟨⟨_,_,vs,Env.put_same,SV.dens_mono he.le _ _ Fo,rfl⟩,hd.mono he.le⟩,Env.put_free hf,au,
        hw.pushNew h3 hb (λN F hN=>⟨hN,h2⟩),_,rfl,by simp[SV.den,Env.put_same]⟩
      · cases h
    ·rename_i g off len cap own;simp only[SV.den,d']at hv;obtain⟨en,Rj,rfl⟩:=hv;split at h
     ·rename_i cs n' OO e' ho;obtain⟨k,φ,k1,k2,k3,k4⟩:=Pd hd ho;obtain⟨b,cc,xs,k5,k6,rfl⟩:=k2;rw[k5]at Rj;cases Rj;obtain⟨_,_,kd⟩:∃N F,(Ac e' OO b n' cc xs).op N F w:=by obtain⟨F,N,hi⟩:=hw;exact⟨_,_,hi.owns k _ k1⟩
      have fU:=kd.2
      have AU:n'<=cc:=by
       rcases fU.2 with⟨h0,_⟩|⟨g',a06,cur,Rw,_,_,AU,_⟩
       · cases h0
       · cases Rw;exact AU
      split at h
      ·rename_i hb;simp only[i']at hb;obtain⟨⟨⟨b1,b2⟩,b3⟩,U⟩:=hb;have b1:=Qt b1;have b2:=Qt b2;have U:=f' U;subst b1;subst b2;subst b3;split at h
       ·rename_i jb cx;cases h;obtain⟨b',c2,l1,H2,l2,l3⟩:=rE (P:=P) (C:=C) hd cx Fo;rw[k5]at l1;cases l1;obtain⟨l4,l5⟩:=l3 w hw;refine⟨_,_,wG ht hs fh Mj hsw bh l4,?_⟩;exact UK hf l2 l5 (by simp[SV.den,k5])
       · cases h
      ·split at h
       ·rename_i hb;cases h;simp only[i']at hb;obtain⟨⟨⟨⟨⟨⟨⟨b1,b2⟩,b3⟩,U⟩,b5⟩,b6⟩,b7⟩,b8⟩:=hb;have b2:=Qt b2;have b3:=Qt b3;have U:=Qt U;have b5:=Qt b5;have b6:=Qt b6;subst b1;subst b2;subst b3;subst U;subst b5;subst b6;obtain⟨b',c',w',h1,h2,h3,h4⟩:=mB (ty:=ty) (c:=c) ht hr b7 fU Mj hsw (oz Fo b8) (.inr bh);refine⟨_,w',by simpa using h1,?_⟩;have hg:=hf lo (E' _) au;have he:=Env.put_ext (e:=(b',c',0)) hg (show lo<hi by omega)
        exact ⟨ρ.put lo (b',c',0),_,he,k4 _ lo _ (Ac e' OO b' (len+m) c' (xs++vs)) he.le ⟨_,_,_,Env.put_same,SV.dens_mono he.le _ _ (SS k6 Fo),rfl⟩,Env.put_free hf,au,
         hw.swap k1 (λN F h j hj=>by cases hj;exact h.1) h3 b' h4 (λN F hN=>⟨hN,h2⟩),_,rfl,by simp[SV.den,Env.put_same]⟩
       ·split at h
        ·rename_i hb;simp only[i',z']at hb;obtain⟨⟨⟨b1,b2⟩,b3⟩,U⟩:=hb;have b2:=Qt b2;have U:=f' U;subst b1;subst b2;split at h
         ·rename_i old IL;cases h;obtain⟨bb,c2,os,l1,l2,l3,l4⟩:=mN (C:=C) hd IL;rw[k5]at l1;cases l1;obtain⟨c',w',h1,h2,h3,h4⟩:=Bg (ty:=ty) (c:=c) ht hr b3 (by rw[B6 l2,l3]) (l4 w hw) Mj hsw U;refine⟨_,w',by simpa using h1,?_⟩;have hg:=hf lo (E' _) au;have he:=Env.put_ext (e:=(w.heap.size,c',0)) hg (show lo<hi by omega)
          exact ⟨ρ.put lo (w.heap.size,c',0),Ac e sz w.heap.size (len+m) c' (os++vs)::H,he,⟨⟨_,_,_,Env.put_same,SV.dens_mono he.le _ _ (SS l2 Fo),rfl⟩,hd.mono he.le⟩,Env.put_free hf,au,
           hw.pushNew h3 h4 (λN F hN=>⟨hN,h2⟩),_,rfl,by simp[SV.den,Env.put_same]⟩
         · cases h
        · cases h
     ·rename_i cs e' ho;obtain⟨k,φ,k1,k2,k3,k4⟩:=Pd hd ho;obtain⟨b,cc,xs,k5,k6,rfl⟩:=k2;rw[k5]at Rj;cases Rj;obtain⟨_,_,kd⟩:∃N F,(Fact.blk b xs e').op N F w:=by obtain⟨F,N,hi⟩:=hw;exact⟨_,_,hi.owns k _ k1⟩
      split at h
      ·rename_i hb;cases h;simp only[i',z']at hb;obtain⟨⟨⟨⟨⟨⟨b1,b2⟩,b3⟩,U⟩,b5⟩,b6⟩,b7⟩:=hb;have b2:=Qt b2;have b3:=Qt b3;have U:=Qt U;have b5:=Qt b5;subst b1;subst b2;subst b3;subst b5;have H5:=B6 k6
       have Xa:len<=maxLen:=by
        simp only[ox,i']at b6;have:=f' b6.1.1.1;unfold maxLen;omega
       have fU:w.ownsRow 0 e' sz (.slice (some ⟨b,0,none⟩) len len) len xs:=⟨by rw[H5,U],.inr ⟨b,len,xs.toArray,rfl,p! _,kd.2,E' _,Xa,by simp[H5,U],by simp[U,<-H5]⟩⟩
       obtain⟨b',c',w',h1,h2,h3,h4⟩:=mB (ty:=ty) (c:=c) ht hr b6 fU Mj hsw (oz Fo b7) (.inr bh);refine⟨_,w',by simpa using h1,?_⟩;have hg:=hf lo (E' _) au;have he:=Env.put_ext (e:=(b',c',0)) hg (show lo<hi by omega)
       exact ⟨ρ.put lo (b',c',0),_,he,k4 _ lo _ (Ac e' sz b' (len+m) c' (xs++vs)) he.le ⟨_,_,_,Env.put_same,SV.dens_mono he.le _ _ (SS k6 Fo),rfl⟩,Env.put_free hf,au,
        hw.swap (v:=.slice (some ⟨b,0,none⟩) len len) k1 (λN F h j hj=>by cases hj;exact h.1) h3 b' h4 (λN F hN=>⟨hN,h2⟩),_,rfl,by simp[SV.den,Env.put_same]⟩
      · cases h
     · cases h
    · cases h
def Oy:bf Nat->bf bc->Prop
 |none,none=>True
 |some j,some v=>∃k,v=.int k (j:Int)
 |_,_=>False
theorem qf (h:Rel ρ E fr hp S H) {o:bf bw} {b:bf Nat} (U:LG fr o=some b) {a:Act} (hf:gm n S a):Oy b (o.map a.eval):=by
 unfold LG at U;split at U;· cases U;trivial
 ·split at U
  ·rename_i x k j hx;cases U;exact⟨k,by simp[hf.eval (nM h hx)]⟩
  · cases U
theorem P1 {k:IntKind} {y:Nat} {c:BoundsCode} (h:j<=y):(Instr.sliceBound (.int k (j:Int)) y c).run P w=.ok j w:=by
 have:(0:Int)<=(j:Int)/\(j:Int)<=(y:Int):=au
 simp[Instr.sliceBound,asIntOf,h]
theorem sr {m:bf Nat} (hl:Oy l lv)(hh:Oy h hv)(hm:Oy m mv)(TN:(m.isNone||h.isSome)=true)
  (h1:fy l 0<=fy h len) (U:fy h len<=fy m cap) (h3:fy m cap<=cap):(Instr.sliceBounds true len cap lv hv mv).run P w=.ok (fy l 0,fy h len,fy m cap) w:=by
 cases m<;>cases mv<;>first|exact hm.elim|skip
 ·cases h<;>cases hv<;>first|exact hh.elim|skip
  ·cases l<;>cases lv<;>first|exact hl.elim|skip
   · simp[Instr.sliceBounds,fy]
   · obtain⟨k,rfl⟩:=hl;simp only[fy]at h1 U h3⊢;simp[Instr.sliceBounds,P1 h1]
  ·obtain⟨kh,rfl⟩:=hh;cases l<;>cases lv<;>first|exact hl.elim|skip
   · simp only[fy]at h1 U h3⊢;simp[Instr.sliceBounds,P1 U]
   · obtain⟨k,rfl⟩:=hl;simp only[fy]at h1 U h3⊢;simp[Instr.sliceBounds,P1 h1,P1 U]
 ·obtain ⟨km,rfl⟩:=hm;cases h<;>cases hv<;>first|exact hh.elim|skip
  · cases TN
  ·obtain⟨kh,rfl⟩:=hh;cases l<;>cases lv<;>first|exact hl.elim|skip
   · simp only[fy]at h1 U h3⊢;simp[Instr.sliceBounds,P1 U,P1 h3]
   · obtain⟨k,rfl⟩:=hl;simp only[fy]at h1 U h3⊢;simp[Instr.sliceBounds,P1 h1,P1 U,P1 h3]
theorem yz {U:bf Addr} {m:bf Nat} (ht:gG P t=some e)(hs:QV P e=some sz)(hl:Oy l lv)(hh:Oy h hv)(hm:Oy m mv)(TN:(m.isNone||h.isSome)=true)
  (h1:fy l 0<=fy h len) (h2:fy h len<=fy m cap) (h3:fy m cap<=cap):(Instr.sliceAt t (.slice U len cap) lv hv mv).run P w=.ok (.slice (if fy m cap=fy l 0 then U else U.map (·.add (fy l 0*sz))) (fy h len-fy l 0) (fy m cap-fy l 0)) w:=by
 have:=sr (P:=P) (w:=w) hl hh hm TN h1 h2 h3;simp[Instr.sliceAt,Instr.slice,run_underlying (r5 ht),this,w7 hs]
theorem CM {x:SV} {m:bf Nat} (hf:nO ρ lo hi) (hd:ju ρ E hp H) (hx:x.den ρ E=some v) (hl:Oy l lv) (hh:Oy h hv) (hm:Oy m mv) (TN:(m.isNone||h.isSome)=true)
  (he:FM P hp lo t x l h m=some (r,ew,eK)) (DX:eK<=hi) (hw:Ql C [] H w):
  ∃val,(Instr.sliceAt t v lv hv mv).run P w=.ok val w/\xj C ρ E lo hi (some r) ew eK (.value val) w:=by
 unfold FM at he;split at he;· cases he
 ·rename_i e ht;split at he;· cases he
  ·rename_i sz hs;split at he
   ·cases hx;split at he
    ·rename_i hb;cases he;simp only[i']at hb;obtain⟨⟨U,b2⟩,b3⟩:=hb;have U:=Qt U;have b2:=Qt b2;have b3:=Qt b3;refine⟨_,yz ht hs hl hh hm TN au au au,?_⟩;rw[U,b2,b3];exact UK hf hd hw rfl
    · cases he
   ·rename_i g off len cap own;simp only[SV.den,d']at hx;obtain⟨en,Rj,rfl⟩:=hx
    have key:∀(cp:Nat),(if own then en.2.1-cap else cap)=cp->fy l 0<=fy h len->fy h len<=fy m cp->fy m cp<=cp->
      (Instr.sliceAt t (.slice (some ⟨en.1,en.2.2+off,none⟩) len cp) lv hv mv).run P w=.ok (.slice (some ⟨en.1,en.2.2+(if fy m cp=fy l 0 then off else off+fy l 0*sz),none⟩) (fy h len-fy l 0) (fy m cp-fy l 0)) w:=by
     intro cp _ h1 h2 h3;rw[yz ht hs hl hh hm TN h1 h2 h3];split;· rfl
     · simp[z6,M']
    split at he
    ·split at he
     ·rename_i hb;cases he;simp only[i']at hb;obtain⟨⟨U,b2⟩,b3⟩:=hb;have U:=f' U;have b2:=f' b2;have b3:=f' b3;refine⟨_,by simpa using key cap rfl U b2 b3,UK hf hd hw ?_⟩;cases hbb:q' (fy m cap) (fy l 0)with
      |true=>simp[SV.den,Rj,Qt hbb]
      |false=>simp[SV.den,Rj,Of hbb]
     · cases he
    ·split at he
     ·rename_i cs n' OO e' ho;obtain⟨k,φ,k1,k2,k3,k4⟩:=Pd hd ho;obtain⟨b,cc,xs,k5,k6,rfl⟩:=k2;rw[k5]at Rj;cases Rj;obtain⟨_,_,kd⟩:∃N F,(Ac e' OO b n' cc xs).op N F w:=by obtain⟨F,N,hi⟩:=hw;exact⟨_,_,hi.owns k _ k1⟩
      have AU:n'<=cc:=by
       rcases kd.2.2 with⟨h0,_⟩|⟨g',a06,cur,Rw,_,_,AU,_⟩
       · cases h0
       · cases Rw;exact AU
      split at he
      ·rename_i mm;have e0:fy (some mm) (cc-cap)=mm:=rfl;split at he
       ·rename_i hb;cases he;simp only[i']at hb;obtain⟨⟨U,b2⟩,b3⟩:=hb;have U:=f' U;have b2:=f' b2;have b3:=f' b3;have eX:=key (cc-cap) bh U (by rw[e0];exact b2) (by rw[e0];omega);rw[e0]at eX;refine⟨_,by simpa using eX,UK hf hd hw ?_⟩;cases hbb:q' mm (fy l 0)with
        |true=>simp[SV.den,k5,Qt hbb]
        |false=>simp[SV.den,k5,Of hbb]
       · cases he
      ·have e0:fy none (cc-cap)=cc-cap:=rfl;split at he
       ·rename_i hb;simp only[i']at hb;have U:=f' hb.1;have b2:=f' hb.2;have eX:=key (cc-cap) bh U (by rw[e0];omega) (by rw[e0];omega);rw[e0]at eX;split at he
        ·rename_i h0;cases he;have h0:=Qt h0;refine⟨_,by simpa using eX,UK hf hd hw ?_⟩;rw[h0];simp[SV.den,k5]
        ·rename_i h0 cj;cases he;have h0:=Of h0;have cj:=f' cj;refine⟨_,by simpa using eX,UK hf hd hw ?_⟩;rw[if_neg au];simp[SV.den,k5,Nat.sub_add_eq]
        ·rename_i h0 cj;cases he;refine⟨_,by simpa using eX,?_⟩;have hg:=hf lo (E' _) au;have he:=Env.put_ext (e:=(b,cc-cap-fy l 0,0+(if cc-cap=fy l 0 then off else off+fy l 0*sz))) hg (show lo<hi by omega);exact⟨_,H,he,hd.mono he.le,Env.put_free hf,au,hw,_,rfl,by simp[SV.den,Env.put_same]⟩
       · cases he
     · cases he
   · cases he
theorem MB (z:bc):SV.dens ρ E (SV.of z).cells=some z.cells.toList:=SV.cells_den (SV.of_den z) (λi=>by unfold SV.of;split<;>simp)
theorem BM (h:Rel ρ E fr hp S H) {o:Oper} {r:bf SV} (hf:nO ρ lo hi)(he:Fc P fr hp lo o.op=some (r,ew,eK))(DX:eK<=hi):
  ∀(a:Act) w,gm n S a->Ql C [] H w->∃nx w',(execOp a.eval o).run P w=.ok nx w'/\xj C ρ E lo hi r ew eK nx w':=by
 intro a w fC hw;unfold Fc at he;split at he
 ·
  rename_i t U;unfold BV at he;split at he
  ·rename_i z hz;cases he;refine⟨.value (.pointer (some ⟨w.heap.size,0,none⟩)),w.alloc (.cells z.cells.toList.toArray t),?_,pX (off:=0) _ hf DX h.hp hw (MB z) (λde e=>by simp[SV.den,e])⟩;simp[execOp,U,Instr.alloc,Zt hz,newVar,Zm]
  · cases he
 ·
  rename_i t x U;unfold Mi at he;split at he
  ·rename_i v hx;obtain⟨u,h1,h2⟩:=sR h hx;split at he
   ·rename_i hq;cases he;refine⟨.value (.pointer (some ⟨w.heap.size,0,none⟩)),w.alloc (.cells u.cells.toList.toArray t),?_,pX (off:=0) _ hf DX h.hp hw (SV.cells_den h1 (λi e=>by subst e;cases hq)) (λde e=>by simp[SV.den,e])⟩;simp[execOp,U,Instr.box,fC.eval h2,newVar,Zm]
   · cases he
  · cases he
 ·
  rename_i t len ps U;unfold QdS at he;split at he
  ·rename_i e ht;split at he
   ·rename_i sz z parts hs hz Ru;split at he
    ·rename_i out hle Xf;cases he;obtain⟨xs,h1,h2⟩:=q9 h Ru;obtain⟨os,h3,h4⟩:=mJ (zx _) h1 Xf
     have h0:ps.map (λx=>(x.1,a.eval x.2))=xs.toArray:=by
      rw[<-fC.evalP h2,<-B']
     have h5:=Qdc ht hs hz hle rfl h4 w;rw[<-h0]at h5;refine⟨.value (.slice (some ⟨w.heap.size,0,none⟩) len len),_,?_,pX (off:=0) _ hf DX h.hp hw h3 (λde e=>by simp[SV.den,e])⟩;simp only[execOp,U,Sem.run_bind];rw[show(ps.map λx=>match x with|(i,x)=>(i,a.eval x))=ps.map (λx=>(x.1,a.eval x.2))from rfl,h5];rfl
    · cases he
   · cases he
  · cases he
 ·
  rename_i t x y U;unfold BX at he;split at he
  ·rename_i g off v hx hy;split at he
   ·rename_i hb;simp only[i']at hb;split at he
    ·rename_i jb cx;cases he;obtain⟨p,h1,h2⟩:=sR h hx;obtain⟨u,h3,h4⟩:=sR h hy;have hc:=SV.cells_den h3 (Hl hb.1);obtain⟨b,c,h5,H',h6,h7⟩:=rE (P:=P) (C:=C) h.hp cx hc;obtain⟨h8,h9⟩:=h7 w hw;simp only[SV.den,h5,r!,Option.some.injEq]at h1;subst h1;refine⟨.skip,_,?_,ρ,H',Ext.refl _ _ _,h6,hf,E' _,h9,rfl⟩;have uG:=hb.2;split at uG
     ·rename_i sz hs;have iR:u.cells.size=sz:=by rw[<-Qt uG,<-B6 hc];simp
      simp only[execOp,U,fC.eval h2,fC.eval h4,Instr.storeAt,Instr.sureAddr,storeVar,Sem.run_bind,Sem.run_pure,Result.andThen_ok,w7 hs,iR];simp[h8]
     · cases uG
    · cases he
   · cases he
  · cases he
 ·
  rename_i t x l hh m U;unfold BW at he;split at he
  ·rename_i v l' h' m' hx hl hhb hm;split at he
   ·rename_i TN;split at he
    ·rename_i r' jb ou hs;cases he;obtain⟨u,h1,h2⟩:=sR h hx;obtain⟨val,h3,h4⟩:=CM (P:=P) hf h.hp h1 (qf h hl fC) (qf h hhb fC) (qf h hm fC) TN hs DX hw;refine⟨.value val,w,?_,h4⟩;simp[execOp,U,fC.eval h2,h3]
    · cases he
   · cases he
  · cases he
 ·
  rename_i xs ts U;unfold xY at he;split at he
  ·rename_i x y t t' JZ ZU;have Xr:xs=#[x,y]:=by cases xs;simp_all
   have Xl:ts=#[t,t']:=by cases ts;simp_all
   subst Xr;subst Xl;split at he
   ·rename_i v u hx hy ht;have:=Qt ht;subst this;split at he
    ·rename_i r' jb ou hs;cases he;obtain⟨v',h1,h2⟩:=sR h hx;obtain⟨u',h3,h4⟩:=sR h hy;obtain⟨val,w',h5,h6⟩:=zn (P:=P) (ty:=o.type) hf h.hp h1 h3 hs DX hw;refine⟨.value val,w',?_,h6⟩;simp[execOp,U,resolve,invoke,builtin,fC.eval h2,fC.eval h4,h5]
    · cases he
   · cases he
  · cases he
 · cases he
end GX
end
end
section
open Go.RowKit
noncomputable section
def lg {α:Type} (P:da):Sem α->bf α
 | .pure a=>some a
 | .program k=>lg P (k P)
 | .mark _ k=>lg P k
 |_=>none
theorem Qd9 {α:Type} {P:da}:∀{s:Sem α} {a:α},lg P s=some a->∀w,s.run P w=.ok a w
 | .pure a,b,h,w=>by cases h;rfl
 | .program k,b,h,w=>by
   unfold lg at h;unfold Sem.run;exact Qd9 h w
 | .mark m k,b,h,w=>by
   unfold lg at h;unfold Sem.run;exact Qd9 h w
 | .load _ _ _,_,h,_=>by cases h
 | .store _ _ _ _,_,h,_=>by cases h
 | .new _ _,_,h,_=>by cases h
 | .shape _ _,_,h,_=>by cases h
 | .freeze _ _ _,_,h,_=>by cases h
 | .frozen _ _,_,h,_=>by cases h
 | .getObj _ _,_,h,_=>by cases h
 | .setObj _ _ _,_,h,_=>by cases h
 | .choose _ _,_,h,_=>by cases h
 | .sys _ _,_,h,_=>by cases h
 | .halt _,_,h,_=>by cases h
def yi:Env:=λ_=>none
def Vq (v:SV):bf bc:=SV.den yi [] v
mutual
theorem SV.close_den {ρ:Env} {E:aq bc}:∀(v:SV)(x:bc),v.den yi []=some x->v.den ρ E=some x
 | .v _,_,e=>e
 | .opq i,x,e=>by simp[SV.den]at e
 | .ptr g off,x,e=>by simp[SV.den,yi]at e
 | .sl g off len cap own,x,e=>by simp[SV.den,yi]at e
 | .mp g,x,e=>by simp[SV.den,yi]at e
 | .fn f fi fe,x,e=>by
   obtain⟨us,vs,h1,U,rfl⟩:=uz e;exact Lz (SV.close_dens fi us h1) (SV.close_dens fe vs U)
 | .agg l,x,e=>by
   simp only[SV.den,d']at e⊢;obtain⟨a,h1,U⟩:=e;exact⟨a,SV.close_dens l a h1,U⟩
 | .tup l,x,e=>by
   simp only[SV.den,d']at e⊢;obtain⟨a,h1,U⟩:=e;exact⟨a,SV.close_dens l a h1,U⟩
theorem SV.close_dens {ρ:Env} {E:aq bc}:∀(l:aq SV)(xs:aq bc),SV.dens yi [] l=some xs->SV.dens ρ E l=some xs
 |[],_,e=>e
 | x::l,xs,e=>by
   obtain⟨v,ws,rfl,h1,U⟩:=QL e;exact Ee (SV.close_den x v h1) (SV.close_dens l ws U)
end
def SV.ofT:bc->SV
 | .tuple vs=>.tup (vs.toList.map SV.of)
 |x=>SV.of x
theorem GI {ρ:Env} {E:aq bc}:∀(l:aq bc),SV.dens ρ E (l.map SV.of)=some l
 |[]=>rfl
 |x::l=>Ee (SV.of_den x) (GI l)
theorem SV.ofT_den {ρ:Env} {E:aq bc} (x:bc):(SV.ofT x).den ρ E=some x:=by
 unfold SV.ofT;split;· simp[SV.den,GI]
 · exact SV.of_den x
def sZ (fr:Tr)(x:bw):bf bc:=match ku fr x with
 |some v=>Vq v
 |none=>none
def YD (fr:Tr)(x:bw):bc:=match sZ fr x with
 |some y=>y
 |none=>undef
def Cc:Op->Bool
 | .select _ _=>true
 |_=>false
def R2 (P:da)(fr:Tr)(o:Oper):bf SV:=match(o.op.operands.toList.all λx=>(sZ fr x).isSome)&& !Cc o.op with
 | true=>match lg P (execOp (YD fr) o)with
   |some (.value v)=>some (SV.ofT v)
   |_=>none
 |false=>none
def Nr (P:da)(t:Nat):bf (Nat×Nat):=match P.underlying t with
 |some (.array n e)=>some (n,e)
 |_=>none
theorem Nt {P:da} {t n e:Nat} (h:Nr P t=some (n,e)):P.underlying t=some (.array n e):=by
 unfold Nr at h;split at h;· rename_i hu;cases h;exact hu
 · cases h
def Y3 (P:da)(fr:Tr):Op->bf SV
 | .binOp op _ x y _=>match ku fr x,ku fr y with
   | some (.v (.string a)),some (.v (.string b))=>match op with
     | .eql=>some (.v (.bool (a.data.toList==b.data.toList)))
     | .neq=>some (.v (.bool (!(a.data.toList==b.data.toList))))
     | .lss=>some (.v (.bool (Op.bytesLess a.data.toList b.data.toList)))
     | .gtr=>some (.v (.bool (!(Op.bytesLess a.data.toList b.data.toList||a.data.toList==b.data.toList))))
     |_=>none
   |_,_=>none
 | .indexAddr t x i=>match ku fr x,ku fr i,Nr P t with
   | some (.ptr g off),some (.v (.int _ (.ofNat j))),some (n,e)=>match QV P e,A' j n with
     |some sz,true=>some (.ptr g (off+j*sz))
     |_,_=>none
   |_,_,_=>none
 |_=>none
def MX (P:da)(fr:Tr)(hp:eI)(o:Oper):bf (SV×bf Nat):=match MW P fr hp o.op with
 |some r=>some r
 | none=>match Y3 P fr o.op with
   |some v=>some (v,none)
   | none=>match R2 P fr o with
     |some v=>some (v,none)
     |none=>none
section
variable {P:da} {n:FD} {ρ:Env} {E:aq bc} {fr:Tr} {hp:eI} {S:aq (Nat×bc)} {H:aq Fact}
variable {o:Oper}{v:SV}
theorem zp (h:Rel ρ E fr hp S H) {x:bw} {y:bc} (U:sZ fr x=some y):dy S x=some y:=by
 unfold sZ at U;split at U
 ·rename_i v hv;obtain⟨z,h1,h2⟩:=sR h hv;rw[SV.close_den v y U]at h1;cases h1;exact h2
 · cases U
theorem xT (h:Rel ρ E fr hp S H) (he:R2 P fr o=some v):mA P n ρ E hp S H o v none:=by
 unfold R2 at he;split at he
 ·rename_i U;simp only[i',d!,z']at U;split at he
  ·rename_i y hy;cases he;refine z8 (SV.ofT_den y) λa w hf=>?_
   have hc:execOp a.eval o=execOp (YD fr) o:=execOp_congr o (λcs b e=>by rw[e]at U;exact absurd U.2 (by simp[Cc])) (λx hx=>by
    have h1:=U.1 x (du hx);obtain⟨z,hz⟩:=Option.isSome_iff_exists.1 h1;rw[hf.eval (zp h hz)];simp[YD,hz])
   rw[hc];exact Qd9 hy w
  · cases he
 · cases he
theorem Jj (h:Rel ρ E fr hp S H) (he:Y3 P fr o.op=some v):mA P n ρ E hp S H o v none:=by
 unfold Y3 at he;split at he
 ·rename_i op t x y u U;split at he
  ·rename_i a b hx hy
   split at he<;>first|(cases he;done)|(
    cases he;exact z8 rfl (Kk U (nM h hx) (nM h hy) λw=>by simp[eqGuard,binOp,Op.stringOp,ByteArray.toList_eq]))
  · cases he
 ·rename_i t x i U;split at he
  ·rename_i g off ik j m e hx hi ht;split at he
   ·rename_i sz hs hj;cases he;obtain⟨y,h1,h2⟩:=sR h hx;simp only[SV.den,d']at h1;obtain⟨en,h3,rfl⟩:=h1;have eW:=nM h hi;have cj:j<m:=f' hj;refine z8 (x:=.pointer (some ⟨en.1,en.2.2+off+j*sz,none⟩)) (by simp[SV.den,h3,M']) λa w hf=>?_
    simp[execOp,U,hf.eval h2,hf.eval eW,Instr.indexAt,asIntOf,Instr.sureAddr,run_underlying (Nt ht),cj,w7 hs,z6]
   · cases he
  · cases he
 · cases he
theorem FH (h:Rel ρ E fr hp S H) {d:bf Nat} (he:MX P fr hp o=some (v,d)):mA P n ρ E hp S H o v d:=by
 unfold MX at he;split at he
 ·rename_i r hr;cases he;exact FG h hr
 ·split at he
  ·rename_i v' U;cases he;exact Jj h U
  ·split at he
   ·rename_i v' U;cases he;exact xT h U
   · cases he
end
end
end
end Go.Proofs.YtocfkfhdcnjklaaGreatDoor
