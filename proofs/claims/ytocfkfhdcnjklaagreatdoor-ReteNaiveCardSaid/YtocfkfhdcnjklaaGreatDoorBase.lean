import Derived.KernelRfl
import Derived.WalkKit
import Derived.WalkSpells
import Derived.WalkLawsBesides
import Derived.Deep.QuietTactic
import Derived.BigQuiet
import Derived.Lib.Hide
import Derived.Deep.RegionHeld3
import Derived.StillTailTactics
import Derived.Deep.DeepCutAuto
import Derived.Deep.MidRow
import Derived.Maps.AppendAt
import Derived.IntWalk
open List renaming getElem?_eq_some_iff->f',mem_cons->r',mem_cons_of_mem->t',all_eq_true->E',getElem?_eq_getElem->W',mem_of_getElem?->c!,range->g!,mem_range->i!,mem_filterMap->j!,replicate->l!,mem_append->n!,length_set->o!,mem_append_right->q!,getElem_mem->r!,eq_nil_of_length_eq_zero->u!,toList_toArray->w!,length_append->y!,getElem?_append_right->z!,getElem?_take->A!,getElem?_drop->B!,getElem?_append_left->C!,map_toArray->E!,take_of_length_le->F!,getElem?_set_self->G!,getElem?_set_ne->H!,mem_append_left->I!,replicate_succ->J!,map_congr_left->K!,append_assoc->O!,nodup_append->Q!,length_cons->R!,not_mem_nil->T!,nil_append->V!,getD->e?,mem_map->i?
open Nat renaming le_of_ble_eq_true->l',eq_of_beq_eq_true->y',lt_of_lt_of_le->z',blt->A',succ_mul->a!,beq->d!,le_refl->k!,le_trans->p!,mul_le_mul_right->t!,zero_add->x!,add_assoc->D!,eq_zero_or_pos->L!,add_comm->N!,beq_refl->P!,strongRecOn->W!,ble->Y!,lt_irrefl->Z!,zero_mul->f?,zero_le->j?
open Array renaming getElem?_eq_some_iff->q',getElem?_setIfInBounds_ne->u',getD_eq_getD_getElem?->e!,getElem?_setIfInBounds_self->h!,ext_getElem?->M!,range->U!,replicate->X!
open Bool renaming not_eq_true'->T',and_eq_true->b!,or_eq_true->v!,false_or->d?
open Option renaming bind_some->S!,isNone->b?
namespace Go.Proofs.YtocfkfhdcnjklaaGreatDoor
section
abbrev aq.{u}(α:Type u):=List α
abbrev bf.{u}(α:Type u):=Option α
abbrev cq:=ByteArray
abbrev bc:=Value
abbrev bx:=World
abbrev da:=Program
abbrev bw:=Operand
variable {p:Prop}
theorem cr(h:p:=by intro _ e;cases e):p:=h
theorem fh(h:p:=by simp;omega):p:=h
theorem au(h:p:=by omega):p:=h
theorem aw(h:p:=by kernel_rfl):p:=h
theorem bp(h:p:=by decide):p:=h
theorem bh(h:p:=by simp):p:=h
theorem Ev(h:p:=by rfl):p:=h
theorem cg.{u}{c:Prop}{d:Decidable c}{α:Sort u}{a b:α}{p:Prop}(h:p)(e:p->c:=by intro h;simpa using h):(if c then a else b)=a:=if_pos (e h)
theorem ct.{u}{c:Prop}{d:Decidable c}{α:Sort u}{a b:α}{p:Prop}(h:p)(e:p->¬c:=by intro h;simpa using h):(if c then a else b)=b:=if_neg (e h)
theorem du{c:Prop}(h:p)(e:p->c:=by intro h;simpa using h):c:=e h
abbrev ca(a:Nat):bc:=.pointer (some ⟨a,0,none⟩)
abbrev ay(a:Int):bc:=.int .i64 a
abbrev bu(a:Int):bc:=.int .u8 a
abbrev bg{α:Type}(p:bf Addr)(l:aq α)(c:Nat):bc:=.slice p l.length c
abbrev EB:cq:=⟨#[]⟩
theorem Pj.{u,v} {A:Type u} {B:Type v} {a c:A} {b d:B} (h:(a,b)=(c,d)):a=c/\b=d:=Prod.mk.inj h
theorem Z.{u} {α:Sort u} {a:α}:a=a:=rfl
abbrev V3.{u} {Y:Type u} (a b c:Y):aq Y:=[a,b,c]
abbrev V4.{u} {Y:Type u} (a b c d:Y):aq Y:=[a,b,c,d]
abbrev V5.{u} {Y:Type u} (a b c d e:Y):aq Y:=[a,b,c,d,e]
abbrev V6.{u} {Y:Type u} (a b c d e f:Y):aq Y:=[a,b,c,d,e,f]
abbrev V7.{u} {Y:Type u} (a b c d e f g:Y):aq Y:=[a,b,c,d,e,f,g]
abbrev V8.{u} {Y:Type u} (a b c d e f g h:Y):aq Y:=[a,b,c,d,e,f,g,h]
abbrev Gy.{u} {Y:Type u} (a b c d e f g h i j:Y):aq Y:=[a,b,c,d,e,f,g,h,i,j]
abbrev V13.{u} {Y:Type u} (a b c d e f g h i j k l m:Y):aq Y:=[a,b,c,d,e,f,g,h,i,j,k,l,m]
abbrev OA:=bf Addr
abbrev V1:bc:=.slice none 0 0
theorem Zi.{u} {Y:Type u} {a b:Y} (h:some a=some b):a=b:=Option.some.inj h
open Go.RowKit
abbrev eL:=Nat->Prop
attribute [go_sem] World.cell?_alloc_some
def fX (F:eL)(w w':bx):Prop:=∀k,F k->w'.heap[k]? =w.heap[k]?
theorem fX.refl (F:eL)(w:bx):fX F w w:=λ_ _=>rfl
theorem fX.cell {F:eL} {w w':bx} (h:fX F w w') {b o:Nat} (U:F b):w'.cell? ⟨b,o,none⟩=w.cell? ⟨b,o,none⟩:=
 World.cell?_of_block (w:=w) (h b U)
def fD {α:Type} (sz:Nat)(R:aq bc->α->Prop):aq bc->aq α->Prop
 |xs,[]=>xs=[]
 |xs,x::l=>∃cs rest,xs=cs++rest/\cs.length=sz/\R cs x/\fD sz R rest l
section
variable {α:Type} {sz:Nat} {R R':aq bc->α->Prop}
theorem fD.length:∀{l:aq α} {xs:aq bc},fD sz R xs l->xs.length=l.length*sz
 |[],xs,h=>by cases(h:xs=[]);simp
 | x::l,xs,h=>by
   obtain⟨cs,rest,rfl,h1,_,U⟩:=h;rw[y!,h1,fD.length U,R!,a!,N!]
theorem fD.append:∀{l m:aq α} {xs U:aq bc},fD sz R xs l->fD sz R U m->fD sz R (xs++U) (l++m)
 |[],m,xs,U,h,k=>by cases(h:xs=[]);exact k
 | x::l,m,xs,U,h,k=>by
   obtain⟨cs,rest,rfl,h1,h3,h2⟩:=h;exact⟨cs,rest++U,by rw[O!],h1,h3,fD.append h2 k⟩
theorem fD.one {x:α} {cs:aq bc} (h:R cs x)(U:cs.length=sz):fD sz R cs [x]:=⟨cs,[],bh,U,h,rfl⟩
theorem fD.mono:∀{l:aq α} {xs:aq bc},fD sz R xs l->(∀cs x,x∈l->R cs x->R' cs x)->fD sz R' xs l
 |[],_,h,_=>h
 | x::l,xs,h,U=>by
   obtain⟨cs,rest,rfl,h1,h3,h2⟩:=h;exact⟨cs,rest,rfl,h1,U _ _ bh h3,fD.mono h2 λcs x hx=>U cs x (by simp[hx])⟩
theorem fD.at:∀{l:aq α} {xs:aq bc} {k:Nat} {x:α},fD sz R xs l->l[k]? =some x->∃cs,cs.length=sz/\R cs x/\∀j u,cs[j]? =some u->xs[k*sz+j]? =some u
 |[],_,_,_,_,U=>by simp at U
 | y::l,xs,0,x,h,U=>by
   obtain⟨cs,rest,rfl,h1,h3,_⟩:=h;simp at U;subst U;refine⟨cs,h1,h3,λj u hu=>?_⟩;have:=(f'.1 hu).1;rw[f?,x!,C! this];exact hu
 | y::l,xs,k+1,x,h,U=>by
   obtain⟨cs,rest,rfl,h1,h3,h2⟩:=h;obtain⟨ds,e1,e2,e3⟩:=fD.at (k:=k) h2 (du U);refine⟨ds,e1,e2,λj u hu=>?_⟩;rw[z! (by rw[h1,a!];omega)];have:=e3 j u hu;rw[<-this];congr 1;rw[h1,a!];omega
theorem fD.take:∀{l:aq α} {xs:aq bc} (k:Nat),fD sz R xs l->fD sz R (xs.take (k*sz)) (l.take k)
 |[],xs,k,h=>by cases(h:xs=[]);simp[fD]
 |x::l,xs,0,h=>by simp[fD]
 | x::l,xs,k+1,h=>by
   obtain⟨cs,rest,rfl,h1,h3,U⟩:=h;rw[List.take_succ_cons];refine⟨cs,rest.take (k*sz),?_,h1,h3,fD.take k U⟩;rw[List.take_append,F! (by rw[h1,a!];omega)];congr 2;rw[h1,a!];omega
theorem fD.drop:∀{l:aq α} {xs:aq bc} (k:Nat),fD sz R xs l->fD sz R (xs.drop (k*sz)) (l.drop k)
 |[],xs,k,h=>by cases(h:xs=[]);simp[fD]
 |x::l,xs,0,h=>by simpa using h
 | x::l,xs,k+1,h=>by
   obtain⟨cs,rest,rfl,h1,h3,U⟩:=h;rw[List.drop_succ_cons,List.drop_append,List.drop_of_length_le (by rw[h1,a!];omega),V!];have:(k+1)*sz-cs.length=k*sz:=by rw[h1,a!];omega
   rw[this];exact fD.drop k U
theorem fD.all {p:bc->Prop} (hp:∀cs x,R cs x->∀u∈cs,p u):∀{l:aq α} {xs:aq bc},fD sz R xs l->∀u∈xs,p u
 |[],xs,h,u,hu=>by cases(h:xs=[]);cases hu
 | x::l,xs,h,u,hu=>by
   obtain⟨cs,rest,rfl,_,h3,U⟩:=h;rcases n!.1 hu with hu|hu;· exact hp _ _ h3 u hu
   · exact fD.all hp U u hu
theorem fD.flat (enc:α->aq bc)(he:∀x,(enc x).length=sz):∀l:aq α,fD sz (λcs x=>cs=enc x) (l.flatMap enc) l
 |[]=>rfl
 |x::l=>⟨enc x,l.flatMap enc,bh,he x,rfl,fD.flat enc he l⟩
theorem fD.flat_iff (enc:α->aq bc):∀{l:aq α} {xs:aq bc},fD sz (λcs x=>cs=enc x) xs l->xs=l.flatMap enc
 |[],xs,h=>h
 | x::l,xs,h=>by
   obtain⟨cs,rest,rfl,_,rfl,U⟩:=h;rw[fD.flat_iff enc U];simp
end
def r6 (w:bx)(b off:Nat)(xs:aq bc):Prop:=∀j u,xs[j]? =some u->w.cell? ⟨b,off+j,none⟩=some u
def xr {α:Type} (F:eL)(w:bx)(sz:Nat)(R:aq bc->α->Prop)(v:bc)(l:aq α):Prop:=
 ∃p n c xs,v=.slice p n c/\n=l.length/\n<=c/\c<=9223372036854775807/\fD sz R xs l/\(0<n->∃b off,p=some ⟨b,off,none⟩/\F b/\r6 w b off xs)
section
variable {α:Type} {F G:eL} {w w':bx} {sz:Nat} {R R':aq bc->α->Prop} {v:bc} {l:aq α}
theorem xr.keep (h:xr F w sz R v l)(ha:fX F w w')(hR:∀cs x,x∈l->R cs x->R' cs x):xr F w' sz R' v l:=by
 obtain⟨p,n,c,xs,hv,U,hc,hm,hx,fl⟩:=h;refine⟨p,n,c,xs,hv,U,hc,hm,hx.mono hR,λU=>?_⟩;obtain⟨b,off,hp,hF,iJ⟩:=fl U;exact⟨b,off,hp,hF,λj u hj=>(ha.cell hF).trans (iJ j u hj)⟩
theorem xr.foot (h:xr F w sz R v l)(hg:∀k,F k->G k):xr G w sz R v l:=by
 obtain⟨p,n,c,xs,hv,U,hc,hm,hx,fl⟩:=h;refine⟨p,n,c,xs,hv,U,hc,hm,hx,λU=>?_⟩;obtain⟨b,off,hp,hF,iJ⟩:=fl U;exact⟨b,off,hp,hg _ hF,iJ⟩
theorem xr.nil:xr F w sz R (.slice none 0 0) []:=⟨none,0,0,[],rfl,rfl,k! _,au,rfl,λh=>absurd h au⟩
end
theorem z6 (b off j:Nat):(⟨b,off,none⟩:Addr).add j=⟨b,off+j,none⟩:=by unfold Addr.add;split<;>simp_all
theorem vt {P:da} {t e:TypeId} {sz:Nat} {p:bf Addr} {n c k b off:Nat} (ht:P.underlying t=some (.slice e))(hs:∀w,(sizeOf e).run P w=.ok sz w)(hp:p=some ⟨b,off,none⟩)(hk:k<n):
  ∀w,(Instr.indexAt t (.slice p n c) (.int .i64 (k:Int))).run P w=.ok (.pointer (some ⟨b,off+k*sz,none⟩)) w:=by
 intro w;subst hp;have U:(0:Int)<=k/\(k:Int)<n:=au
 simp[Instr.indexAt,asIntOf,run_underlying ht,U,hs,Addr.add,hk]
structure V where
 k:Int
 n:Int
 s:ByteArray
theorem QbE {a b:cq}:a.toList=b.toList↔a=b:=by
 rw[ByteArray.toList_eq,ByteArray.toList_eq];constructor
 ·intro h;obtain⟨⟨x⟩⟩:=a;obtain⟨⟨y⟩⟩:=b;simp at h;subst h;rfl
 · rintro rfl;rfl
instance:DecidableEq V:=λa b=>by
 rcases a with⟨k,n,s⟩;rcases b with⟨k',n',s'⟩;exact if h:k=k'/\n=n'/\s.toList=s'.toList then .isTrue (by obtain⟨h1,h2,h3⟩:=h;rw[QbE]at h3;subst h1 h2 h3;rfl)else .isFalse (λe=>h (by injection e with h1 h2 h3;exact⟨h1,h2,by rw[h3]⟩))
theorem V.ext_iff' {a b:V}:a=b↔a.k=b.k/\a.n=b.n/\a.s.toList=b.s.toList:=by
 rcases a with⟨k,n,s⟩;rcases b with⟨U,n',s'⟩;simp only[V.mk.injEq,QbE]
def mx {α:Type} (B:Nat)(e:TypeId)(sz:Nat)(R:aq bc->α->Prop)(l:aq α)(v:bc)(w:bx):Prop:=
 ∃xs,w.ownsRow B e sz v l.length xs/\fD sz R xs l
section
variable {α:Type} {B B':Nat} {w w':bx} {e:TypeId} {sz:Nat} {R:aq bc->α->Prop} {l:aq α} {v:bc}
theorem mx.nil:mx B e sz R [] (.slice none 0 0) w:=⟨[],World.ownsRow_nil _ _ _ _,rfl⟩
theorem mx.shape (h:mx B e sz R l v w):∃p n c,v=.slice p n c:=by
 obtain⟨xs,ho,_⟩:=h;rcases ho.2 with⟨U,_⟩|⟨g,cap,cur,hv,_⟩
 · exact⟨_,_,_,U⟩
 · exact⟨_,_,_,hv⟩
theorem mx.len {p:bf Addr} {n c:Nat} (h:mx B e sz R l (.slice p n c) w):n=l.length:=by
 obtain⟨xs,ho,_⟩:=h;rcases ho.2 with⟨U,h1⟩|⟨g,cap,cur,hv,_⟩
 · cases U;omega
 · cases hv;rfl
theorem mx.mono (h:mx B e sz R l v w)(hB:B'<=B):mx B' e sz R l v w:=by
 obtain⟨xs,U,hc⟩:=h;refine⟨xs,⟨U.1,?_⟩,hc⟩;rcases U.2 with h0|⟨g,cap,cur,hv,hg,rest⟩
 · exact .inl h0
 · exact .inr ⟨g,cap,cur,hv,p! hB hg,rest⟩
theorem mx.keep (h:mx B e sz R l v w)(ha:∀k,v.ownBlock=some k->w'.heap[k]? =w.heap[k]?):mx B e sz R l v w':=by
 obtain⟨xs,U,hc⟩:=h;refine⟨xs,⟨U.1,?_⟩,hc⟩;rcases U.2 with h0|⟨g,cap,cur,hv,hg,hh,rest⟩
 · exact .inl h0
 · exact .inr ⟨g,cap,cur,hv,hg,by rw[ha g (by rw[hv];rfl)];exact hh,rest⟩
theorem mx.lt (h:mx B e sz R l v w):∀k,v.ownBlock=some k->B<=k/\k<w.heap.size:=by
 obtain⟨xs,U,_⟩:=h;exact U.lt
end
structure Mod (S:eL) (w w':World):Prop where
 os:w'.os=w.os
 tape:w'.tape=w.tape
 output:w'.output=w.output
 size:w.heap.size<=w'.heap.size
 block:∀k,k<w.heap.size->¬S k->w'.heap[k]? =w.heap[k]?
section
variable {S T:eL} {a b c w:bx}
theorem Mod.refl (S:eL)(w:bx):Mod S w w:=⟨rfl,rfl,rfl,k! _,λ_ _ _=>rfl⟩
theorem Mod.trans (h:Mod S a b)(k:Mod S b c):Mod S a c:=⟨k.os.trans h.os,k.tape.trans h.tape,k.output.trans h.output,p! h.size k.size,λi hi hs=>(k.block i (z' hi h.size) hs).trans (h.block i hi hs)⟩
theorem Mod.mono (h:Mod S a b)(hs:∀k,k<a.heap.size->S k->T k):Mod T a b:=⟨h.os,h.tape,h.output,h.size,λk hk U=>h.block k hk λh=>U (hs k hk h)⟩
theorem Mod.trans' (h:Mod S a b)(k:Mod T b c)(U:∀i,i<a.heap.size->T i->S i):Mod S a c:=⟨k.os.trans h.os,k.tape.trans h.tape,k.output.trans h.output,p! h.size k.size,λi hi hs=>(k.block i (z' hi h.size) λht=>hs (U i hi ht)).trans (h.block i hi hs)⟩
theorem Mod.of_below (h:Below w.heap.size w a):Mod S w a:=⟨h.os,h.tape,h.output,h.size,λk hk _=>h.block k hk⟩
theorem Mod.to_below {B:Nat} (h:Mod S w a)(hB:B<=w.heap.size)(U:∀k,S k->B<=k):Below B w a:=⟨h.os,h.tape,h.output,h.size,λk hk=>h.block k au λhs=>by have:=U k hs;omega⟩
theorem Mod.drew (h:Mod S a w):Mod S a w.drew:=⟨h.os,h.tape,h.output,h.size,h.block⟩
theorem Mod.setCell (h:Mod S a w) {p:Addr} (hp:p.block<a.heap.size->S p.block)(u:bc):Mod S a (w.setCell p u):=
 h.trans' (T:=λk=>k=p.block) ⟨rfl,rfl,rfl,by simp[World.setCell],λk _ hk=>Below.heap_setCell _ _ _ _ hk⟩ (λi hi e=>by subst e;exact hp hi)
end
theorem fD.set:∀{α:Type} {sz:Nat} {R:aq bc->α->Prop} {l:aq α} {xs:aq bc} (k:Nat) {x:α} {cs:aq bc},fD sz R xs l->R cs x->cs.length=sz->k<l.length->fD sz R (xs.take (k*sz)++cs++xs.drop ((k+1)*sz)) (l.set k x)
 |_,_,_,[],_,_,_,_,_,_,_,hk=>absurd hk bh
 | α,sz,R,y::l,xs,0,x,cs,h,hr,hc,_=>by
   obtain⟨ds,rest,rfl,h1,h3,U⟩:=h;refine⟨cs,rest,?_,hc,hr,U⟩;rw[f?,List.take_zero,V!,x!,Nat.one_mul,<-h1,List.drop_left]
 | α,sz,R,y::l,xs,k+1,x,cs,h,hr,hc,hk=>by
   obtain⟨ds,rest,rfl,h1,h3,U⟩:=h;refine⟨ds,rest.take (k*sz)++cs++rest.drop ((k+1)*sz),?_,h1,h3,fD.set k U hr hc (du hk)⟩;have e1:(k+1)*sz=ds.length+k*sz:=by rw[h1,a!];omega
   have e2:(k+1+1)*sz=ds.length+(k+1)*sz:=by rw[h1,a! (k+1)];omega
   rw[e2,e1,List.take_length_add_append,List.drop_length_add_append,<-e1];simp[O!]
def JM (xs:aq bc)(o:Nat):aq bc->aq bc
 |[]=>xs
 |c::cs=>JM (xs.set o c) (o+1) cs
theorem QbL:∀(cs xs:aq bc)(o:Nat),o+cs.length<=xs.length->JM xs o cs=xs.take o++cs++xs.drop (o+cs.length)
 |[],xs,o,_=>by simp[JM]
 | c::cs,xs,o,h=>by
   simp only[R!]at h⊢;rw[JM,QbL cs _ _ fh]
   have:(xs.set o c).take (o+1)=xs.take o++[c]:=by
    rw[List.take_succ_eq_append_getElem fh,List.take_set_of_le (k! _)];simp
   rw[this,List.drop_set_of_lt au];simp[D!,N! 1]
def DF (w:bx)(b o:Nat):aq bc->bx
 |[]=>w
 |c::cs=>DF (w.setCell ⟨b,o,none⟩ c) b (o+1) cs
theorem mx.put {α:Type} {B:Nat} {w:bx} {e:TypeId} {sz:Nat} {R:aq bc->α->Prop} {l:aq α} {g n c:Nat} (h:mx B e sz R l (.slice (some ⟨g,0,none⟩) n c) w)(hn:n=l.length)(k:Nat) {x:α} {cs:aq bc} (hr:R cs x)(U:cs.length=sz)(hk:k<l.length):
  mx B e sz R (l.set k x) (.slice (some ⟨g,0,none⟩) n c) (DF w g (k*sz) cs)/\Mod (λi=>i=g) w (DF w g (k*sz) cs):=by
 obtain⟨xs,ho,hx⟩:=h
 have key:∀(cs:aq bc) (xs:aq bc) (w:bx) (o:Nat),w.ownsRow B e sz (.slice (some ⟨g,0,none⟩) n c) l.length xs->
    (DF w g o cs).ownsRow B e sz (.slice (some ⟨g,0,none⟩) n c) l.length (JM xs o cs)/\Mod (λi=>i=g) w (DF w g o cs):=by
  intro cs;induction cs with
  |nil=>intro xs w o h;exact⟨h,Mod.refl _ _⟩
  | cons d ds ih=>
    intro xs w o h;subst hn;have h1:=h.stored o d;obtain⟨i1,i2⟩:=ih _ _ (o+1) h1.1;exact⟨i1,Mod.trans (S:=λi=>i=g) (Mod.setCell (S:=λi=>i=g) (Mod.refl _ w) (p:=⟨g,o,none⟩) (λ_=>rfl) d) i2⟩
 obtain⟨k1,k2⟩:=key cs xs w (k*sz) ho;have hlen:=hx.length;rw[QbL cs xs _ (by rw[U,hlen,<-a!];exact t! _ hk)]at k1;refine⟨⟨_,by rw[o!];exact k1,?_⟩,k2⟩;have:=hx.set k hr U hk;rwa [show(k+1)*sz=k*sz+cs.length from by rw[U,a!]]at this
theorem mx.head {α:Type} {B:Nat} {w:bx} {e:TypeId} {sz:Nat} {R:aq bc->α->Prop} {l:aq α} {p:bf Addr} {n c:Nat} (h:mx B e sz R l (.slice p n c) w)(h0:0<l.length):
  ∃g,p=some ⟨g,0,none⟩/\n=l.length/\B<=g/\g<w.heap.size/\∀j,w.frozen? ⟨g,j,none⟩=false:=by
 obtain⟨xs,U,hx⟩:=h;have hf:=U.2;rcases U.2 with⟨h1,h2⟩|⟨g,cap,cur,hv,hg,hh,rest⟩
 · omega
 ·cases hv;exact⟨g,rfl,rfl,hg,(q'.1 hh).1,λj=>U.frozenAt j⟩
theorem mx.of_block {α:Type} {B:Nat} {w:bx} {e:TypeId} {sz g n:Nat} {R:aq bc->α->Prop} {l:aq α} {cur:Array bc} (hg:w.heap[g]? =some (.cells cur e (0,0)))(hB:B<=g)(hx:fD sz R cur.toList l)(hn:n=l.length)(hm:n<=9223372036854775807):mx B e sz R l (.slice (some ⟨g,0,none⟩) n n) w:=by
 subst hn;have U:=hx.length;refine⟨cur.toList,⟨U,.inr ⟨g,_,cur,rfl,hB,hg,k! _,hm,by simpa using U,?_⟩⟩,hx⟩;rw[F! au]
end
section
open Go.RowKit
structure fc (α:Type) where
 p:eL->World->List Value->α->Prop
 good:∀{F G:eL} {w w':World} {cs:List Value} {x:α},(∀k,F k->G k)->fX F w w'->p F w cs x->p G w' cs x
 one:∀{F:eL} {w:World} {cs:List Value} {x:α},p F w cs x->∀u∈cs,u.oneCell'=true
inductive Fact:Type 1
 |cells (b o:Nat) (cs:List Value)
 |sli {α:Type} (sz:Nat) (R:fc α) (p:Option Addr) (c:Nat) (l:List α)
 |own {α:Type} (e sz:Nat) (R:fc α) (v:Value) (l:List α)
 |blk (g:Nat) (cs:List Value) (t:Nat)
 |rep {α:Type} (R:fc α) (cs:List Value) (x:α)
 |duo (p:eL->eL->World->Prop) (good:∀{N N' F G:eL} {w w':World},(∀k,N k->N' k)->fX N w w'->(∀k,F k->G k)->fX F w w'->p N F w->p N' G w')
 |raw (p:eL->World->Prop) (good:∀{F G:eL} {w w':World},(∀k,F k->G k)->fX F w w'->p F w->p G w')
def Fact.op:Fact->eL->eL->bx->Prop
 | .cells b o cs,N,_,w=>N b/\r6 w b o cs
 | .sli sz R p c l,N,_,w=>xr N w sz (R.p N w) (.slice p l.length c) l
 | .own e sz R v l,N,F,w=>(∀k,v.ownBlock=some k->N k)/\mx 0 e sz (R.p F w) l v w
 | .blk g cs t,N,_,w=>N g/\w.heap[g]? =some (.cells cs.toArray t)
 | .rep R cs x,N,_,w=>R.p N w cs x
 | .duo p _,N,F,w=>p N F w
 | .raw p _,N,_,w=>p N w
def Fact.p (φ:Fact)(F:eL)(w:bx):Prop:=φ.op F F w
theorem r6.agree {F:eL} {w U:bx} {b o:Nat} {cs:aq bc} (h:r6 w b o cs)(ha:fX F w U)(hb:F b):r6 U b o cs:=λj u hu=>(ha.cell hb).trans (h j u hu)
theorem mx.rel {α:Type} {B e sz:Nat} {R U:aq bc->α->Prop} {l:aq α} {v:bc} {w:bx} (h:mx B e sz R l v w)(hR:∀cs x,R cs x->U cs x):mx B e sz U l v w:=by
 obtain⟨xs,ho,hc⟩:=h;exact⟨xs,ho,hc.mono λcs x _=>hR cs x⟩
theorem Fact.opgood (φ:Fact) {N N' F G:eL} {w w':bx} (U:∀k,N k->N' k)(ha:fX N w w')(hF:∀k,F k->G k)(hb:fX F w w')(h:φ.op N F w):φ.op N' G w':=by
 cases φ with
 |cells b o cs=>exact⟨U _ h.1,h.2.agree ha h.1⟩
 |sli sz R p c l=>exact xr.foot (h.keep ha λcs x _ hr=>R.good U ha hr) U
 |own e sz R v l=>exact⟨λk hk=>U _ (h.1 k hk),(h.2.keep λk hk=>ha k (h.1 k hk)).rel λcs x hr=>R.good hF hb hr⟩
 |blk g cs t=>exact⟨U _ h.1,(ha g h.1).trans h.2⟩
 |rep R cs x=>exact R.good U ha h
 |duo p g=>exact g U ha hF hb h
 |raw p g=>exact g U ha h
theorem Fact.good (φ:Fact) {F G:eL} {w w':bx} (U:∀k,F k->G k)(ha:fX F w w')(h:φ.p F w):φ.p G w':=φ.opgood U ha U ha h
structure Ctx where
 w0:World
 S0:eL
 F0:eL
structure gX (C:Ctx) (Φ:List Fact) (H:List Fact) (F:eL) (N:Nat->eL) (w:World):Prop where
 flt:∀k,F k->k<w.heap.size
 fold:∀k,C.F0 k->F k
 fnew:∀k,F k->C.F0 k\/C.w0.heap.size<=k\/C.S0 k
 facts:∀φ∈Φ,φ.p F w
 owns:∀(i:Nat) (h:Fact),H[i]? =some h->h.op (N i) F w
 nlt:∀i k,i<H.length->N i k->k<w.heap.size/\(C.w0.heap.size<=k\/C.S0 k)/\¬F k
 apart:∀i j k,i<H.length->j<H.length->i≠j->N i k->¬N j k
 mod:Mod C.S0 C.w0 w
def Ql (C:Ctx)(Φ:aq Fact)(H:aq Fact)(w:bx):Prop:=∃F N,gX C Φ H F N w
structure FD where
 k:Nat
 D:List Deferred
instance:Coe FD Nat:=⟨FD.k⟩
structure gm (n:FD) (S:List (Nat×Value)) (a:Act):Prop where
 size:a.tmps.size=n.k
 defers:a.defers=n.D
 at_:∀x∈S,a.tmps[x.1]? =some x.2
def look:aq (Nat×bc)->Nat->bf bc
 |[],_=>none
 | (k,v)::r,t=>match d! k t with
   |true=>some v
   |false=>look r t
def dy (S:aq (Nat×bc)):bw->bf bc
 | .tmp t=>look S t
 | .const v=>some v
 | .func f=>some (.func (.func f) #[] #[])
 | .global g=>some (.pointer (some ⟨g,0,none⟩))
theorem Oi:∀{S:aq (Nat×bc)} {t:Nat} {v:bc},look S t=some v->(t,v)∈S
 | (k,u)::r,t,v,h=>by
   unfold look at h;split at h;· rename_i U;cases h;rw[y' U];simp
   · exact t' _ (Oi h)
theorem gm.eval {n:FD} {S:aq (Nat×bc)} {a:Act} (h:gm n S a) {x:bw} {v:bc} (U:dy S x=some v):a.eval x=v:=by
 cases x with
 | tmp t=>
   have:=h.at_ _ (Oi U);simp only[Act.eval,e!];rw[this];rfl
 |const c=>cases U;rfl
 |global g=>cases U;rfl
 |func f=>cases U;rfl
def fk (d:Nat):aq (Nat×bc)->aq (Nat×bc)
 |[]=>[]
 | (k,v)::r=>match d! k d with
   |true=>fk d r
   |false=>(k,v)::fk d r
theorem T4 {d:Nat}:∀{S:aq (Nat×bc)} {x:Nat×bc},x∈fk d S->x∈S/\x.1≠d
 | (k,v)::r,x,h=>by
   unfold fk at h;split at h;· exact⟨t' _ (T4 h).1,(T4 h).2⟩
   ·rename_i U;rcases r'.1 h with rfl|h;· exact⟨bh,λe=>by rw[show k=d from e]at U;exact absurd (P! d) (by rw[U];simp)⟩
    · exact⟨t' _ (T4 h).1,(T4 h).2⟩
theorem gm.put {n:FD} {S S':aq (Nat×bc)} {a:Act} (h:gm n S a) {d:Nat} {v:bc} (hd:d<n)(hS:fk d S=S'):gm n ((d,v)::S') (a.put (some d) v):=by
 subst hS;refine⟨by simp[Act.put,h.size],h.defers,λx U=>?_⟩;rcases r'.1 U with rfl|U;· simp[Act.put,h.size,hd]
 ·obtain⟨h1,h2⟩:=T4 U;simp only[Act.put];rw[u' (Ne.symm h2)];exact h.at_ _ h1
theorem gm.sub {n:FD} {S S':aq (Nat×bc)} {a:Act} (h:gm n S a)(hs:∀x∈S',x∈S):gm n S' a:=⟨h.size,h.defers,λx U=>h.at_ x (hs x U)⟩
def iP:aq Nat->aq (Nat×bc)->aq (Nat×bc)
 |[],_=>[]
 | t::l,S=>match look S t with
   |some v=>(t,v)::iP l S
   |none=>iP l S
theorem Qdx:∀{l:aq Nat} {S:aq (Nat×bc)} {x:Nat×bc},x∈iP l S->x∈S
 | t::l,S,x,h=>by
   unfold iP at h;split at h
   ·rename_i v U;rcases r'.1 h with rfl|h;· exact Oi U
    · exact Qdx h
   · exact Qdx h
section mQ
variable (P:da) (C:Ctx) (n:FD) (Q:Exit->Act->bx->Prop) (Φ:aq Fact) (H:aq Fact) (S:aq (Nat×bc))
def WL (ops:Array Oper)(rest:aq Oper):Prop:=∀a w,gm n S a->Ql C Φ H w->wpList P ops Q rest a w
def WC (c:Code):Prop:=∀a w,gm n S a->Ql C Φ H w->c.wp P Q a w
def WE (e:Exit):Prop:=∀a w,gm n S a->Ql C Φ H w->Q e a w
end mQ
section structural
variable {P:da} {C:Ctx} {n:FD} {Q:Exit->Act->bx->Prop} {Φ Φ':aq Fact} {H H':aq Fact} {S S':aq (Nat×bc)} {ops:Array Oper} {rest:aq Oper} {c x y:Code}
variable {id:Nat}{K:Act->bx->Prop}{t:Bool}
theorem Q5 (h:WC P C n (Exit.then (λa w=>y.wp P Q a w) Q) Φ H S x):WC P C n Q Φ H S (.seq x y):=λa w U hw=>wp_seq (h a w U hw)
theorem Qa {l:aq Oper} (h:WL P C n Q Φ H S l.toArray l):WC P C n Q Φ H S (.region id l.toArray false):=λa w U hw=>wp_region_lit (h a w U hw)
theorem Q2 (h:WE C n Q Φ H S .normal):WL P C n Q Φ H S ops []:=λa w U hw=>h a w U hw
theorem Qy (h:WC P C n Q Φ H S y):WE C n (Exit.then (λa w=>y.wp P Q a w) Q) Φ H S .normal:=h
theorem Q7 (h:WE C n Q Φ H S (.exit id)):WE C n (Exit.then K Q) Φ H S (.exit id):=h
theorem Q4 (h:WE C n Q Φ H S .ret):WE C n (Exit.then K Q) Φ H S .ret:=h
theorem Qv (h:WE C n Q Φ H S .normal):WE C n (Exit.inBlock id Q) Φ H S (.exit id):=λa w U hw=>by
 show(if id=id then _ else _);rw[if_pos rfl];exact h a w U hw
theorem xe {U:Nat} (ep:U≠id)(h:WE C n Q Φ H S (.exit U)):WE C n (Exit.inBlock id Q) Φ H S (.exit U):=λa w hf hw=>by
 show(if U=id then _ else _);rw[if_neg ep];exact h a w hf hw
theorem Q6 (h:WE C n Q Φ H S .normal):WE C n (Exit.inBlock id Q) Φ H S .normal:=h
theorem Qr (h:WE C n Q Φ H S .ret):WE C n (Exit.inBlock id Q) Φ H S .ret:=h
theorem QY (h:WE C n Q Φ H S .normal):WC P C n Q Φ H S .skip:=λa w U hw=>wp_skip (h a w U hw)
theorem Qn (h:WE C n Q Φ H S .ret):WC P C n Q Φ H S .ret:=λa w U hw=>wp_ret (h a w U hw)
theorem gW (h:WE C n Q Φ H S (.exit id)):WC P C n Q Φ H S (.exit id):=λa w U hw=>wp_exit (h a w U hw)
theorem Qk (h:WC P C n (Exit.inBlock id Q) Φ H S c):WC P C n Q Φ H S (.block id c):=λa w U hw=>wp_block (h a w U hw)
theorem iB {o:bw} (hc:dy S o=some (.bool t))(ht:t=true->WC P C n Q Φ H S x)(hf:t=false->WC P C n Q Φ H S y):WC P C n Q Φ H S (.cond o x y):=
 λa w U hw=>wp_cond_split (U.eval hc) (λh=>ht h a w U hw) (λh=>hf h a w U hw)
theorem Kj {o:bw} (hc:dy S o=some (.bool true))(ht:WC P C n Q Φ H S x):WC P C n Q Φ H S (.cond o x y):=
 λa w U hw=>wp_cond_true (U.eval hc) (ht a w U hw)
theorem DG {o:bw} (hc:dy S o=some (.bool false))(ht:WC P C n Q Φ H S y):WC P C n Q Φ H S (.cond o x y):=
 λa w U hw=>wp_cond_false (U.eval hc) (ht a w U hw)
theorem ly (l:aq Nat)(U:iP l S=S')(h:WC P C n Q Φ H S' c):WC P C n Q Φ H S c:=
 λa w hf hw=>h a w (hf.sub λx hx=>Qdx (by rw[U];exact hx)) hw
theorem pH {d:Nat} (hx:look S d=some (.bool t))(hS:fk d S=S')(ht:t=true->WL P C n Q Φ H ((d,.bool true)::S') ops rest)(hf:t=false->WL P C n Q Φ H ((d,.bool false)::S') ops rest):WL P C n Q Φ H S ops rest:=by
 subst hS;intro a w fC hw
 have h1:∀b,t=b->gm n ((d,.bool b)::fk d S) a:=λb hb=>fC.sub λx U=>by
  rcases r'.1 U with rfl|U;· rw[<-hb];exact Oi hx
  · exact(T4 U).1
 cases t;· exact hf rfl a w (h1 _ rfl) hw
 · exact ht rfl a w (h1 _ rfl) hw
theorem Ql.fact {w:bx} {φ:Fact} (h:Ql C Φ H w)(bs:∀F,(∀ψ∈Φ,ψ.p F w)->φ.p F w):Ql C (φ::Φ) H w:=by
 obtain⟨F,N,hi⟩:=h;refine⟨F,N,{hi with facts:=λψ U=>?_}⟩;rcases r'.1 U with rfl|U;· exact bs F hi.facts
 · exact hi.facts _ U
theorem AH (φ:Fact)(U:∀F w,(∀ψ∈Φ,ψ.p F w)->φ.p F w)(h:WL P C n Q (φ::Φ) H S ops rest):WL P C n Q Φ H S ops rest:=
 λa w hf hw=>h a w hf (hw.fact λF=>U F w)
theorem UY (φ:Fact)(U:∀F w,(∀ψ∈Φ,ψ.p F w)->φ.p F w)(h:WC P C n Q (φ::Φ) H S c):WC P C n Q Φ H S c:=
 λa w hf hw=>h a w hf (hw.fact λF=>U F w)
theorem Ql.sub {w:bx} (h:Ql C Φ H w)(hs:∀φ∈Φ',φ∈Φ):Ql C Φ' H w:=by
 obtain⟨F,N,hi⟩:=h;exact⟨F,N,{hi with facts:=λψ U=>hi.facts _ (hs _ U)}⟩
end structural
section rules
variable {P:da} {C:Ctx} {n:FD} {Q:Exit->Act->bx->Prop} {Φ Φ':aq Fact} {H H':aq Fact} {S S':aq (Nat×bc)} {ops:Array Oper} {rest:aq Oper} {o:Oper}
def QM (ops:Array Oper)(S:aq (Nat×bc))(o:Oper):bf Bool:=
 match o.guard with
 |none=>some true
 | some (j,want)=>match(ops[j]?).bind (·.dst)with
   | some d=>match look S d with
     |some (.bool true)=>some want
     |some (.bool false)=>some (!want)
     |some (.tuple _)=>some false
     |_=>none
   |none=>none
theorem Ef {b:Bool} {a:Act} (hf:gm n S a)(h:QM ops S o=some b):Region.wanted o (yielded ops a.tmps)=b:=by
 unfold QM at h;unfold Region.wanted;rcases hg:o.guard with _|⟨j,want⟩
 · simp only[hg]at h⊢;exact Option.some.inj h
 ·simp only[hg]at h⊢;rcases hd:(ops[j]?).bind (·.dst)with _|d;· simp[hd]at h
  ·simp only[hd]at h;simp only[yielded,hd,S!];split at h
   ·rename_i U;have:=hf.at_ _ (Oi U);simp only at this;rw[this];cases want<;>(cases h;rfl)
   ·rename_i U;have:=hf.at_ _ (Oi U);simp only at this;rw[this];cases want<;>(cases h;rfl)
   ·rename_i U;have:=hf.at_ _ (Oi U);simp only at this;rw[this];cases want<;>(cases h;rfl)
   · cases h
theorem xl {d:Nat} (hg:QM ops S o=some true)(hd:o.dst=some d)(hn:A' d n=true)(hS:fk d S=S')
  (run:∀a w,gm n S a->Ql C Φ H w->∃v w',(execOp a.eval o).run P w=.ok (.value v) w'/\∃Φ' H',Ql C Φ' H' w'/\WL P C n Q Φ' H' ((d,v)::S') ops rest):WL P C n Q Φ H S ops (o::rest):=by
 intro a w U hw;obtain⟨v,w',hr,Φ',H',h1,h2⟩:=run a w U hw;refine wpList_step λK hK=>?_
 rw[Ef U hg,if_pos rfl];unfold Oper.wp;rw[hr,Oper.upon_value,hd];exact hK _ _ (h2 _ _ (U.put (l' hn) hS) h1)
theorem JQ {d:Nat} {v:bc} (hg:QM ops S o=some true)(hd:o.dst=some d)(hn:A' d n=true)(U:fk d S=S')
  (run:∀a w,gm n S a->Ql C Φ H w->(execOp a.eval o).run P w=.ok (.value v) w) (next:WL P C n Q Φ H ((d,v)::S') ops rest):WL P C n Q Φ H S ops (o::rest):=
 xl hg hd hn U λa w hf hw=>⟨v,w,run a w hf hw,Φ,H,hw,next⟩
theorem O1 {d:Nat} (hg:QM ops S o=some false)(hd:o.dst=some d)(hn:A' d n=true)(hS:fk d S=S')(next:WL P C n Q Φ H ((d,undef)::S') ops rest):WL P C n Q Φ H S ops (o::rest):=by
 intro a w U hw;refine wpList_step λK hK=>?_
 rw[Ef U hg,hd];exact hK _ _ (next _ _ (U.put (l' hn) hS) hw)
end rules
end
section
open Go.RowKit
variable {t:Nat}{v:bc}
def QZ (P:da)(t k:Nat):bf Nat:=match P.underlying t with
 | some (.struct U)=>match U[k]? with
   | some f=>match P.info? f.type with
     |some i=>if i.size=0 then none else some f.offset
     |none=>none
   |none=>none
 |_=>none
def QV (P:da)(t:Nat):bf Nat:=(P.info? t).map (·.size)
def fJ (P:da)(t:Nat):bf Bool:=match P.underlying t with
 |some (.struct _)=>some true
 |some (.array _ _)=>some true
 |some _=>some false
 |none=>none
def iL (P:da)(t:Nat):bf bc:=(P.info? t).bind (·.zero)
def gG (P:da)(t:Nat):bf Nat:=match P.underlying t with
 |some (.slice e)=>some e
 |_=>none
theorem mK {P:da} {k off:Nat} (h:QZ P t k=some off)(b o:Nat)(w:bx):(Instr.fieldAt t (.pointer (some ⟨b,o,none⟩)) k).run P w=.ok (.pointer (some ⟨b,o+off,none⟩)) w:=by
 unfold QZ at h;split at h
 ·rename_i fs hu;split at h
  ·rename_i f U;split at h
   ·rename_i i hi;split at h;· cases h
    ·rename_i hz;cases h
     have hp:(fieldPlace ⟨b,o,none⟩ f).run P w=.ok ⟨b,o+f.offset,none⟩ w:=by
      simp[fieldPlace,sizeOf,typeInfo,hi,hz,Addr.add]
     simp[Instr.fieldAt,run_underlying hu,U,Instr.sureAddr,hp]
   · cases h
  · cases h
 · cases h
theorem w7 {P:da} {sz:Nat} (h:QV P t=some sz)(w:bx):(sizeOf t).run P w=.ok sz w:=by
 unfold QV at h;cases hi:P.info? t with
 |none=>simp[hi]at h
 |some i=>simp[hi]at h;simp[sizeOf,typeInfo,hi,h]
theorem vD {P:da} {b:Bool} (h:fJ P t=some b)(w:bx):(isAgg t).run P w=.ok b w:=by
 unfold fJ at h;split at h<;>rename_i hu<;>cases h;· simp[isAgg,run_underlying hu]
 · simp[isAgg,run_underlying hu]
 · simp only[isAgg,Sem.run_bind,run_underlying hu,Result.andThen_ok];rfl
theorem r5 {P:da} {e:Nat} (h:gG P t=some e):P.underlying t=some (.slice e):=by
 unfold gG at h;split at h;· rename_i hu;cases h;exact hu
 · cases h
theorem Zt {P:da} {z:bc} (h:iL P t=some z)(w:bx):(zeroValue t).run P w=.ok z w:=by
 unfold iL at h;cases hi:P.info? t with
 |none=>simp[hi]at h
 |some i=>simp[hi]at h;simp[zeroValue,typeInfo,hi,h]
def Vl (op:BinOp)(k:IntKind)(a b:Int):bf bc:=match op with
 | .add=>some (.int k (k.wrap (a+b)))
 | .sub=>some (.int k (k.wrap (a-b)))
 | .mul=>some (.int k (k.wrap (a*b)))
 | .eql=>some (.bool (a==b))
 | .neq=>some (.bool (a !=b))
 | .lss=>some (.bool (decide (a<b)))
 | .leq=>some (.bool (decide (a<=b)))
 | .gtr=>some (.bool (decide (a>b)))
 | .geq=>some (.bool (decide (a>=b)))
 |_=>none
def RA:IntKind->IntKind->Bool
 | .i8,.i8| .i16,.i16| .i32,.i32| .i64,.i64| .u8,.u8| .u16,.u16| .u32,.u32| .u64,.u64=>true
 |_,_=>false
theorem tk {a b:IntKind} (h:RA a b=true):a=b:=by cases a<;>cases b<;>first|rfl|cases h
def Vm (op:BinOp):bf bc->bf bc->bf bc
 | some (.int k a),some (.int U b)=>match RA k U with
   |true=>Vl op k a b
   |false=>none
 | some (.string a),some (.string b)=>match op with
   | .eql=>some (.bool (a.toList==b.toList))
   | .neq=>some (.bool (!(a.toList==b.toList)))
   | .add=>none
   |_=>none
 |_,_=>none
def Ba (S:aq (Nat×bc)):Op->bf bc
 | .move x=>dy S x
 | .assign x=>dy S x
 | .pick c a b=>match dy S c with
   |some (.bool true)=>dy S a
   |some (.bool false)=>dy S b
   |_=>none
 | .binOp op _ x y _=>Vm op (dy S x) (dy S y)
 | .unOp .not _ x=>match dy S x with
   |some (.bool b)=>some (.bool (!b))
   |_=>none
 | .extract x i=>match dy S x with
   |some (.tuple vs)=>vs[i]?
   |_=>none
 | .nilCheck x=>match dy S x with
   |some (.pointer (some a))=>some (.pointer (some a))
   |_=>none
 |_=>none
theorem KE {P:da} {op:BinOp} {k:IntKind} {a b:Int} {t:TypeId} (h:Vl op k a b=some v)(w:bx):(binOp op t (.int k a) (.int k b)).run P w=.ok v w:=by
 cases op<;>simp only[Vl,Option.some.injEq]at h<;>first|(cases h;done)|(subst h;simp[binOp,Op.intArith,Op.intCmp])
theorem mY {P:da} {n:FD} {S:aq (Nat×bc)} {a:Act} {o:Oper} (hf:gm n S a)(h:Ba S o.op=some v)(w:bx):(execOp a.eval o).run P w=.ok (.value v) w:=by
 unfold Ba at h;unfold execOp;split at h;· rename_i x U;simp[U,hf.eval h]
 · rename_i x U;simp[U,hf.eval h]
 ·rename_i c x y U;split at h;· rename_i hc;simp[U,hf.eval hc,hf.eval h,asBool]
  · rename_i hc;simp[U,hf.eval hc,hf.eval h,asBool]
  · cases h
 ·rename_i op t x y u U;unfold Vm at h;split at h
  ·rename_i k a' k' b' hx hy;split at h
   ·rename_i hk;obtain rfl:=tk hk;simp only[U,hf.eval hx,hf.eval hy];have:=KE (P:=P) (t:=t) h w;simp[eqGuard,this]
   · cases h
  ·rename_i a' b' hx hy;simp only[U,hf.eval hx,hf.eval hy];cases op<;>simp only[Option.some.injEq]at h<;>first|(cases h;done)|(subst h;simp[eqGuard,binOp,Op.stringOp])
  · cases h
 ·rename_i t x U;split at h;· rename_i b hx;cases h;simp[U,hf.eval hx,Op.unary]
  · cases h
 ·rename_i x i U;split at h;· rename_i vs hx;simp[U,hf.eval hx,Instr.extract,h]
  · cases h
 ·rename_i x U;split at h;· rename_i b hx;cases h;simp[U,hf.eval hx]
  · cases h
 · cases h
section rules
variable {P:da} {C:Ctx} {n:FD} {Q:Exit->Act->bx->Prop} {Φ Φ':aq Fact} {H H':aq Fact} {S S':aq (Nat×bc)} {ops:Array Oper} {rest:aq Oper} {o:Oper} {d:Nat}
variable {v:bc}{x:bw}{t b q sz k:Nat}{g:Bool}{cs all:aq bc}
theorem Qs (hg:QM ops S o=some true)(hd:o.dst=some d)(hn:A' d n=true)(U:fk d S=S')(hv:Ba S o.op=some v)(next:WL P C n Q Φ H ((d,v)::S') ops rest):WL P C n Q Φ H S ops (o::rest):=
 JQ hg hd hn U (λ_ w hf _=>mY hf hv w) next
theorem Ga {t:TypeId} {p:bf Addr} {c e:Nat} (hg:QM ops S o=some true)(hd:o.dst=some d)(hn:A' d n=true)(U:fk d S=S')(ho:o.op=.call {callee:=.builtin .len,args:=#[x],argTypes:=#[t]})
  (hx:dy S x=some (.slice p k c)) (ht:gG P t=some e) (next:WL P C n Q Φ H ((d,.int .i64 (k:Int))::S') ops rest):WL P C n Q Φ H S ops (o::rest):=
 JQ hg hd hn U (λa w hf _=>by simp[execOp,ho,resolve,invoke,builtin,Builtin.len_,hf.eval hx,run_underlying (r5 ht),goInt]) next
theorem QcH {off:Nat} (hg:QM ops S o=some true)(hd:o.dst=some d)(hn:A' d n=true)(U:fk d S=S')(ho:o.op=.fieldAddr t x k)(hx:dy S x=some (.pointer (some ⟨b,q,none⟩)))
  (hk:QZ P t k=some off) (next:WL P C n Q Φ H ((d,.pointer (some ⟨b,q+off,none⟩))::S') ops rest):WL P C n Q Φ H S ops (o::rest):=
 JQ hg hd hn U (λa w hf _=>by simp[execOp,ho,hf.eval hx,mK hk]) next
theorem rR {v':bc} (hx:look S d=some v)(hS:fk d S=S')(e:v=v')(next:WL P C n Q Φ H ((d,v')::S') ops rest):WL P C n Q Φ H S ops rest:=by
 subst e;subst hS
 exact λa w hf hw=>next a w (hf.sub λx U=>by
  rcases r'.1 U with rfl|U;· exact Oi hx
  · exact(T4 U).1) hw
theorem gv {φ:Fact} (h:Φ[k]? =some φ):φ∈Φ:=c! h
def lK (agg:Bool)(cs:aq bc):bf bc:=match agg,cs with
 |true,cs=>some (.agg cs.toArray)
 |false,[c]=>some c
 |false,_=>none
theorem Ux {t:TypeId} {w:bx} (hc:r6 w b q cs)(hs:QV P t=some sz)(ha:fJ P t=some g)(hl:cs.length=sz)(U:lK g cs=some v):
  (loadVar t ⟨b,q,none⟩).run P w=.ok v w:=by
 unfold loadVar;simp only[Sem.run_bind,vD ha,Result.andThen_ok];unfold lK at U;split at U
 ·cases U
  have h1:(loadCells ⟨b,q,none⟩ cs.length).run P w=.ok cs.toArray w:=
   run_loadCells_list (P:=P) w ⟨b,q,none⟩ cs (λj v U=>by rw[z6];exact hc j v U)
  rw[hl]at h1;simp[w7 hs,h1]
 ·cases U;have:=hc 0 v rfl;simp at this;simp[load,Sem.run,this]
 · cases U
theorem vW (hg:QM ops S o=some true)(hd:o.dst=some d)(hn:A' d n=true)(U:fk d S=S')(ho:o.op=.load t x)(hx:dy S x=some (.pointer (some ⟨b,q,none⟩)))
  (hc:∀w,Ql C Φ H w->r6 w b q cs) (hs:QV P t=some sz) (ha:fJ P t=some g) (hl:cs.length=sz) (hv:lK g cs=some v) (next:WL P C n Q Φ H ((d,v)::S') ops rest):WL P C n Q Φ H S ops (o::rest):=
 JQ hg hd hn U (λa w hf hw=>by simp[execOp,ho,hf.eval hx,Instr.loadAt,Instr.sureAddr,Ux (hc w hw) hs ha hl hv]) next
theorem Sx (k j:Nat)(hg:QM ops S o=some true)(hd:o.dst=some d)(hn:A' d n=true)(hS:fk d S=S')(ho:o.op=.load t x)
  (U:Φ[k]? =some (.cells b q all)) (hx:dy S x=some (.pointer (some ⟨b,q+j,none⟩))) (th:(all.drop j).take sz=cs)
  (hs:QV P t=some sz) (ha:fJ P t=some g) (hl:cs.length=sz) (hv:lK g cs=some v) (next:WL P C n Q Φ H ((d,v)::S') ops rest):WL P C n Q Φ H S ops (o::rest):=
 vW hg hd hn hS ho hx (λw ⟨F,N,hi⟩ i u hu=>by
  have:=(hi.facts _ (gv U)).2 (j+i) u (by rw[<-th,A!]at hu;split at hu<;>first|(rw[B!]at hu;exact hu)|cases hu);rwa [<-D!]at this) hs ha hl hv next
theorem Zn {w:bx} {g:Nat} (h:w.heap[g]? =some (.cells all.toArray t)):r6 w g 0 all:=λi u hu=>by
 rw[x!,cell_of_row w g i _ t (0,0) h];simpa using hu
theorem On {tb:Nat} (k j:Nat)(hg:QM ops S o=some true)(hd:o.dst=some d)(hn:A' d n=true)(hS:fk d S=S')(ho:o.op=.load t x)
  (U:H[k]? =some (.blk b all tb)) (hx:dy S x=some (.pointer (some ⟨b,j,none⟩))) (th:(all.drop j).take sz=cs)
  (hs:QV P t=some sz) (ha:fJ P t=some g) (hl:cs.length=sz) (hv:lK g cs=some v) (next:WL P C n Q Φ H ((d,v)::S') ops rest):WL P C n Q Φ H S ops (o::rest):=
 vW hg hd hn hS ho hx (λw ⟨F,N,hi⟩ i u hu=>by
  have:=Zn (hi.owns k _ U).2 (j+i) u (by rw[<-th,A!]at hu;split at hu<;>first|(rw[B!]at hu;exact hu)|cases hu);rwa [x!]at this) hs ha hl hv next
end rules
def uc (M:eL)(N:Nat->eL):Nat->eL
 |0=>M
 |i+1=>N i
section mem
variable {C:Ctx} {Φ H H':aq Fact} {F:eL} {N:Nat->eL} {w w':bx}
theorem gX.grow (h:gX C Φ H F N w)(U:Below w.heap.size w w'):gX C Φ H F N w':=
 ⟨λk hk=>z' (h.flt k hk) U.size,h.fold,h.fnew,λφ bs=>φ.good (λ_ h=>h) (λk hk=>U.block k (h.flt k hk)) (h.facts φ bs),
  λi φ hi=>φ.opgood (λ_ h=>h) (λk hk=>U.block k (h.nlt i k (f'.1 hi).1 hk).1) (λ_ h=>h) (λk hk=>U.block k (h.flt k hk)) (h.owns i φ hi),
  λi k hi hk=>⟨z' (h.nlt i k hi hk).1 U.size,(h.nlt i k hi hk).2⟩,h.apart,h.mod.trans' (T:=λ_=>False) (Mod.of_below U) (λ_ _ h=>h.elim)⟩
theorem gX.push (h:gX C Φ H F N w)(φ:Fact)(M:eL)(kd:φ.op M F w)(hM:∀k,M k->k<w.heap.size/\(C.w0.heap.size<=k\/C.S0 k)/\¬F k)(hd:∀i k,i<H.length->M k->¬N i k):gX C Φ (φ::H) F (uc M N) w:=by
 refine{h with owns:=?_,nlt:=?_,apart:=?_}
 ·intro i ψ hi;cases i with
  |zero=>cases hi;exact kd
  |succ i=>exact h.owns i ψ hi
 ·intro i k hi hk;cases i with
  |zero=>exact hM k hk
  |succ i=>exact h.nlt i k (du hi) hk
 ·intro i j k hi hj ep hk U;cases i with
  | zero=>cases j with
    |zero=>exact ep rfl
    |succ j=>exact hd j k (du hj) hk U
  | succ i=>cases j with
    |zero=>exact hd i k (du hi) U hk
    |succ j=>exact h.apart i j k (du hi) (du hj) au hk U
theorem gX.set (h:gX C Φ H F N w)(k:Nat)(hk:k<H.length)(hm:Mod (N k) w w')(φ:Fact)(kd:φ.op (N k) F w'):gX C Φ (H.set k φ) F N w':=by
 have hF:fX F w w':=λj U=>hm.block j (h.flt j U) (λhn=>(h.nlt k j hk hn).2.2 U);refine⟨λj U=>z' (h.flt j U) hm.size,h.fold,h.fnew,λψ iO=>ψ.good (λ_ h=>h) hF (h.facts ψ iO),?_,?_,?_,?_⟩
 ·intro i ψ hi;by_cases iW:i=k
  ·subst iW;rw[G! hk]at hi;cases hi;exact kd
  ·rw[H! (Ne.symm iW)]at hi;have eW:=(f'.1 hi).1;exact ψ.opgood (λ_ h=>h) (λj U=>hm.block j (h.nlt i j eW U).1 (λhn=>h.apart i k j eW hk iW U hn)) (λ_ h=>h) hF (h.owns i ψ hi)
 ·intro i j hi U;rw[o!]at hi;exact⟨z' (h.nlt i j hi U).1 hm.size,(h.nlt i j hi U).2⟩
 ·intro i j q hi U;rw[o!]at hi U;exact h.apart i j q hi U
 · exact h.mod.trans' (T:=N k) hm (λi hi hn=>by
   rcases(h.nlt k i hk hn).2.1 with h1|h1;· omega
   · exact h1)
theorem Ql.alloc (h:Ql C Φ H w)(cs:Array bc)(t:TypeId):Ql C Φ (.blk w.heap.size cs.toList t::H) (w.alloc (.cells cs t)):=by
 obtain⟨F,N,hi⟩:=h;have U:Below w.heap.size w (w.alloc (.cells cs t)):=(Below.refl _ _).alloc (k! _) _;refine⟨F,uc (λk=>k=w.heap.size) N,(hi.grow U).push _ _ ⟨rfl,by simpa using heap_alloc_new w (.cells cs t)⟩ ?_ ?_⟩
 ·rintro k rfl;exact⟨bh,.inl hi.mod.size,λhf=>Z! _ (hi.flt _ hf)⟩
 ·rintro i k hl rfl hn;exact Z! _ (hi.nlt i _ hl hn).1
theorem Ql.freeze (h:Ql C Φ H w)(k:Nat) {φ:Fact} (hk:H[k]? =some φ)(hE:H.eraseIdx k=H'):Ql C (φ::Φ) H' w:=by
 obtain⟨F,N,hi⟩:=h;have cj:=(f'.1 hk).1;subst hE;have iY:∀j,F j->(F j\/N k j):=λ_ h=>.inl h;have hlen:(H.eraseIdx k).length=H.length-1:=List.length_eraseIdx_of_lt cj;refine⟨λj=>F j\/N k j,λi=>N (if i<k then i else i+1),?_,λj U=>.inl (hi.fold j U),?_,?_,?_,?_,?_,hi.mod⟩
 ·rintro j (U|U);· exact hi.flt j U
  · exact(hi.nlt k j cj U).1
 ·rintro j (U|U);· exact hi.fnew j U
  · exact .inr (hi.nlt k j cj U).2.1
 ·intro ψ iO;rcases r'.1 iO with rfl|iO;· exact ψ.opgood (λ_ h=>.inr h) (fX.refl _ _) (λ_ h=>.inl h) (fX.refl _ _) (hi.owns k ψ hk)
  · exact ψ.good iY (fX.refl _ _) (hi.facts ψ iO)
 ·intro i ψ iO;rw[List.getElem?_eraseIdx]at iO;refine ψ.opgood (λ_ h=>h) (fX.refl _ _) iY (fX.refl _ _) ?_;split at iO<;>rename_i iW;· rw[if_pos iW];exact hi.owns i ψ iO
  · rw[if_neg iW];exact hi.owns (i+1) ψ iO
 ·intro i j hl U;rw[hlen]at hl;have h1:(if i<k then i else i+1)<H.length:=by split<;>omega
  refine⟨(hi.nlt _ j h1 U).1,(hi.nlt _ j h1 U).2.1,?_⟩;rintro(hf|hf);· exact(hi.nlt _ j h1 U).2.2 hf
  · exact hi.apart _ k j h1 cj (by split<;>omega) U hf
 ·intro i j q hl wQ ep;rw[hlen]at hl wQ;exact hi.apart _ _ q (by split<;>omega) (by split<;>omega) (by split<;>split<;>omega)
theorem Ql.drop (h:Ql C Φ H w)(k:Nat)(hk:k<H.length)(hE:H.eraseIdx k=H'):Ql C Φ H' w:=
 (h.freeze k (W' hk) hE).sub λφ U=>t' _ U
end mem
section XX
variable {P:da} {C:Ctx} {n:FD} {Q:Exit->Act->bx->Prop} {Φ Φ':aq Fact} {H H':aq Fact} {S S':aq (Nat×bc)} {ops:Array Oper} {rest:aq Oper} {o:Oper} {d:Nat}
variable {t:Nat}{φ:Fact}{x:bw}{v:bc}
theorem DE (k:Nat) (hk:H[k]? =some φ)(U:H.eraseIdx k=H')(h:WL P C n Q (φ::Φ) H' S ops rest):WL P C n Q Φ H S ops rest:=λa w hf hw=>h a w hf (hw.freeze k hk U)
theorem Zu {c:Code} (k:Nat) (hk:H[k]? =some φ)(U:H.eraseIdx k=H')(h:WC P C n Q (φ::Φ) H' S c):WC P C n Q Φ H S c:=λa w hf hw=>h a w hf (hw.freeze k hk U)
theorem B8 (k:Nat)(hk:A' k H.length=true)(U:H.eraseIdx k=H')(h:WL P C n Q Φ H' S ops rest):WL P C n Q Φ H S ops rest:=λa w hf hw=>h a w hf (hw.drop k (l' hk) U)
theorem Zm {P:da} (w:bx)(e:TypeId)(cs:Array bc):(newRow e cs).run P w=.ok ⟨w.heap.size,0,none⟩ (w.alloc (.cells cs e)):=by simp[newRow,newObj];rfl
theorem QG {z:bc} {zs:aq bc} (hg:QM ops S o=some true)(hd:o.dst=some d)(hn:A' d n=true)(U:fk d S=S')(ho:o.op=.alloc t)(hz:iL P t=some z)(tj:z.cells.toList=zs)
  (next:∀g,WL P C n Q Φ (.blk g zs t::H) ((d,.pointer (some ⟨g,0,none⟩))::S') ops rest):WL P C n Q Φ H S ops (o::rest):=
 xl hg hd hn U λa w hf hw=>⟨_,_,by simp[execOp,ho,Instr.alloc,Zt hz,newVar,Zm];exact⟨rfl,rfl⟩,_,_,hw.alloc _ _,by rw[tj];exact next _⟩
theorem vV {zs:aq bc} (hg:QM ops S o=some true)(hd:o.dst=some d)(hn:A' d n=true)(U:fk d S=S')(ho:o.op=.box t x)(hx:dy S x=some v)(tj:v.cells.toList=zs)
  (next:∀g,WL P C n Q Φ (.blk g zs t::H) ((d,.pointer (some ⟨g,0,none⟩))::S') ops rest):WL P C n Q Φ H S ops (o::rest):=
 xl hg hd hn U λa w hf hw=>⟨_,_,by simp[execOp,ho,Instr.box,hf.eval hx,newVar,Zm];exact⟨rfl,rfl⟩,_,_,hw.alloc _ _,by rw[tj];exact next _⟩
def xa (all:aq bc)(j:Nat)(cs:aq bc):aq bc:=all.take j++cs++all.drop (j+cs.length)
theorem Qbd (all:aq bc)(j:Nat)(cs:aq bc)(h:j+cs.length<=all.length):JM all j cs=xa all j cs:=QbL cs all j h
theorem Qch {t g:Nat}:∀(cs all:aq bc)(j:Nat)(w:bx),w.heap[g]? =some (.cells all.toArray t)->(DF w g j cs).heap[g]? =some (.cells (JM all j cs).toArray t)
 |[],all,j,w,h=>h
 | c::cs,all,j,w,h=>by
   refine Qch cs (all.set j c) (j+1) _ ?_;have:=heap_setCell_same w g j _ t c h;simpa using this
theorem Qci (g:Nat):∀(cs:aq bc)(j:Nat)(w:bx),Mod (λk=>k=g) w (DF w g j cs)
 |[],_,w=>Mod.refl _ _
 |c::cs,j,w=>(Mod.setCell (S:=λk=>k=g) (Mod.refl _ w) (p:=⟨g,j,none⟩) (λ_=>rfl) c).trans (Qci g cs (j+1) _)
theorem YW {P:da} {t g:Nat}:∀(cs all:aq bc)(q j:Nat)(w:bx),w.heap[g]? =some (.cells all.toArray t)->q+j+cs.length<=all.length->(∀u∈cs,u.oneCell'=true)->
   (storeCells ⟨g,q,none⟩ cs j).run P w=.ok () (DF w g (q+j) cs)
 |[],all,q,j,w,h,_,_=>rfl
 | c::cs,all,q,j,w,h,hl,h1=>by
   have hc:w.cell? ⟨g,q+j,none⟩=some (all[q+j]'(by simp at hl;omega)):=by
    rw[cell_of_row w g _ _ t (0,0) h];simp
   have U:w.frozen? ⟨g,q+j,none⟩=false:=frozen_of_row w g (q+j) _ t h;have Rt:=h1 c bh
   have cx:(store ⟨g,q+j,none⟩ c).run P w=.ok () (w.setCell ⟨g,q+j,none⟩ c):=by
    unfold store;cases c<;>first|(simp[Value.oneCell']at Rt;done)|simp[Sem.run,hc,U]
   unfold storeCells;rw[z6];simp only[Sem.run_bind,cx,Result.andThen_ok]
   have h2:(w.setCell ⟨g,q+j,none⟩ c).heap[g]? =some (.cells (all.set (q+j) c).toArray t):=by
    have:=heap_setCell_same w g (q+j) _ t c h;simpa using this
   have:=YW (P:=P) cs (all.set (q+j) c) q (j+1) _ h2 (by simp at hl⊢;omega) (λu hu=>h1 u (by simp[hu]));rw[this];rfl
theorem HM (hg:QM ops S o=some true)(hd:o.dst=none)(run:∀a w,gm n S a->Ql C Φ H w->∃w',(execOp a.eval o).run P w=.ok .skip w'/\Ql C Φ' H' w')(next:WL P C n Q Φ' H' S ops rest):WL P C n Q Φ H S ops (o::rest):=by
 intro a w U hw;obtain⟨w',hr,h1⟩:=run a w U hw;refine wpList_step λK hK=>?_
 rw[Ef U hg,if_pos rfl];unfold Oper.wp;rw[hr,Oper.upon_skip,hd];exact hK _ _ (next _ _ U h1)
theorem Ql.store {w:bx} (hw:Ql C Φ H w) {k g t:Nat} {all cs all':aq bc} (j:Nat)(hk:H[k]? =some (.blk g all t))(hl:j+cs.length<=all.length)(ha:xa all j cs=all')(hH:H.set k (.blk g all' t)=H'):Ql C Φ H' (DF w g j cs):=by
 obtain⟨F,N,hi⟩:=hw;have cj:=(f'.1 hk).1;have U:=hi.owns k _ hk;subst hH;exact⟨F,N,hi.set k cj ((Qci g cs j w).mono λi _ e=>by subst e;exact U.1) _ ⟨U.1,by rw[<-ha,<-Qbd _ _ _ hl];exact Qch cs all j w U.2⟩⟩
theorem Dt {sz b tb:Nat} {y:bw} {all cs all':aq bc} (k j:Nat)(hg:QM ops S o=some true)(hd:o.dst=none)(ho:o.op=.store t x y)
  (U:H[k]? =some (.blk b all tb)) (hx:dy S x=some (.pointer (some ⟨b,j,none⟩))) (hy:dy S y=some v) (hv:v.cells.toList=cs) (hs:QV P t=some sz) (hl:d! cs.length sz=true) (h1:cs.all (·.oneCell')=true)
  (hle:Y! (j+sz) all.length=true) (ha:xa all j cs=all') (hH:H.set k (.blk b all' tb)=H') (next:WL P C n Q Φ H' S ops rest):WL P C n Q Φ H S ops (o::rest):=by
 have wQ:=y' hl;have a0R:=l' hle;refine HM hg hd (λa w hf hw=>⟨_,?_,hw.store j U au ha hH⟩) next
 obtain⟨F,N,hi⟩:=hw;have kd:=hi.owns k _ U;have:=YW (P:=P) cs all j 0 w kd.2 au (λu hu=>E'.1 h1 u hu);have iR:v.cells.size=sz:=by rw[<-wQ,<-hv];simp
 simp only[execOp,ho,hf.eval hx,hf.eval hy,Instr.storeAt,Instr.sureAddr,storeVar,Sem.run_bind,Sem.run_pure,Result.andThen_ok,w7 hs,iR,hv];simp[this]
end XX
end
section
open Go.RowKit
def sf (C:Ctx)(R:bc->aq Fact->aq Fact->Prop)(e:Ending)(w:bx):Prop:=∃v bz Hr,e=.returned v/\R v bz Hr/\Ql C bz Hr w
def QF (P:da)(f:FuncId)(args:aq bc)(Φ U:aq Fact)(R:bc->aq Fact->aq Fact->Prop):Prop:=
 ∀ (F:eL) (N:Nat->eL) (w:bx),(∀k,F k->k<w.heap.size)->(∀φ∈Φ,φ.p F w)->(∀(i:Nat) (h:Fact),U[i]? =some h->h.op (N i) F w)->
   (∀i k,i<U.length->N i k->k<w.heap.size/\¬F k)->(∀i j k,i<U.length->j<U.length->i≠j->N i k->¬N j k)->
   Calls P f args.toArray w (sf ⟨w,λk=>∃i,i<U.length/\N i k,F⟩ R)
def xh:Nat->aq bc->aq (Nat×bc)
 |_,[]=>[]
 |k,v::l=>(k,v)::xh (k+1) l
theorem Qdt:∀{l:aq bc} {k:Nat} {x:Nat×bc},x∈xh k l->k<=x.1/\l[x.1-k]? =some x.2
 | v::l,k,x,h=>by
   rcases r'.1 h with rfl|h;· simp
   ·obtain⟨h1,U⟩:=Qdt h;refine⟨au,?_⟩;rw[show x.1-k=(x.1-(k+1))+1 from by omega];simpa using U
theorem Qm {P:da} {f:FuncId} {fn:Func} {body:Code} {n:Nat} {args:aq bc} {S:aq (Nat×bc)} {Φ iE:aq Fact} {R:bc->aq Fact->aq Fact->Prop}
  (hf:P.funcs[f]? =some fn) (hb:fn.body=some body) (hn:fn.ntmps=n) (hle:Y! args.length n=true) (hS:xh 0 args=S) (h:∀C,WC P C ⟨n,[]⟩ (bodyPost P fn (sf C R)) Φ iE S body):QF P f args Φ iE R:=by
 intro F N w hF eN hH cj qi;refine calls_of_wp hf hb (h ⟨w,λk=>∃i,i<iE.length/\N i k,F⟩ _ w ⟨?_,rfl,?_⟩ ⟨F,N,hF,λ_ h=>h,λ_ h=>.inl h,eN,hH,λi k hi hk=>⟨(cj i k hi hk).1,.inr ⟨i,hi,hk⟩,(cj i k hi hk).2⟩,qi,Mod.refl _ _⟩)
 ·have:=l' hle;simp[hn];try omega
 ·intro x hx;rw[<-hS]at hx;obtain⟨_,U⟩:=Qdt hx;rw[Nat.sub_zero]at U;have hl:=(f'.1 U).1;rw[Array.getElem?_append_left (du hl)];simpa using U
def QP (H:aq Fact)(l:aq Nat):aq Fact:=l.filterMap λi=>H[i]?
def fR:aq Nat->Nat->Bool
 |[],_=>true
 |i::l,m=>A' i m&& !(l.any λj=>d! i j)&&fR l m
theorem QaE:∀{l:aq Nat} {m:Nat},fR l m=true->(∀i∈l,i<m)/\l.Nodup
 |[],_,_=>⟨bh,List.nodup_nil⟩
 | i::l,m,h=>by
   simp only[fR,b!,T',List.any_eq_false]at h;obtain⟨⟨h1,h2⟩,h3⟩:=h;obtain⟨h4,h5⟩:=QaE h3;refine⟨λj U=>?_,List.nodup_cons.2 ⟨λhm=>h2 i hm (P! i),h5⟩⟩;rcases r'.1 U with rfl|U;· exact l' h1
   · exact h4 j U
theorem Zk (H:aq Fact):∀(l:aq Nat),(∀i∈l,i<H.length)->(QP H l).length=l.length/\∀(i:Nat)(h:Fact),(QP H l)[i]? =some h->∃j,l[i]? =some j/\H[j]? =some h
 |[],_=>⟨rfl,λi h hi=>by simp[QP]at hi⟩
 | j::l,U=>by
   obtain⟨h1,h2⟩:=Zk H l λi hi=>U i (by simp[hi]);have hj:H[j]? =some (H[j]'(U j bh)):=W' _;have he:QP H (j::l)=H[j]'(U j bh)::QP H l:=by simp[QP,hj]
   rw[he];refine⟨by simp[h1],λi h hi=>?_⟩;cases i with
   |zero=>exact⟨j,rfl,by simp at hi;rw[hj,hi]⟩
   |succ i=>exact h2 i h (du hi)
theorem yj {l:aq Nat} (h:l.Nodup) {i j a:Nat} (hi:l[i]? =some a)(hj:l[j]? =some a):i=j:=by
 obtain⟨h1,U⟩:=f'.1 hi;obtain⟨h3,h4⟩:=f'.1 hj;have:=U.trans h4.symm;exact(List.getElem_inj h).1 this
section
variable {C:Ctx} {Φ H:aq Fact} {F:eL} {N:Nat->eL} {w:bx}
theorem gX.pick (h:gX C Φ H F N w)(l:aq Nat)(hl:fR l H.length=true):gX C Φ (QP H l) F (λi=>N (l.getD i 0)) w:=by
 obtain⟨h1,h2⟩:=QaE hl;obtain⟨h3,h4⟩:=Zk H l h1
 have key:∀i,i<(QP H l).length->∃j,l[i]? =some j/\l.getD i 0=j/\j<H.length:=by
  intro i hi;rw[h3]at hi;exact⟨l[i],W' hi,by simp[hi],h1 _ (r! hi)⟩
 refine{h with owns:=?_,nlt:=?_,apart:=?_}
 ·intro i φ hi;obtain⟨j,U,bs⟩:=h4 i φ hi;have:l.getD i 0=j:=by simp[e?,U]
  simp only[this];exact h.owns j φ bs
 ·intro i k hi hk;obtain⟨j,_,e,U⟩:=key i hi;simp only[e]at hk;exact h.nlt j k U hk
 ·intro i i' k hi eW ep hk eO;obtain⟨j,U,e,GY⟩:=key i hi;obtain⟨j',M5,e',a2R⟩:=key i' eW;simp only[e,e']at hk eO;exact h.apart j j' k GY a2R (λejj=>ep (by subst ejj;exact yj h2 U M5)) hk eO
end
theorem Ql.pick {C:Ctx} {Φ H:aq Fact} {w:bx} (h:Ql C Φ H w)(l:aq Nat)(U:fR l H.length=true):Ql C Φ (QP H l) w:=by
 obtain⟨F,N,hi⟩:=h;exact⟨F,_,hi.pick l U⟩
theorem gX.after {C:Ctx} {Φ H:aq Fact} {F:eL} {N:Nat->eL} {w w':bx} (h:gX C Φ H F N w) {l m:aq Nat} (hl:fR (l++m) H.length=true) {bz Hr:aq Fact}
  (hr:Ql ⟨w,λk=>∃i,i<(QP H l).length/\N (l.getD i 0) k,F⟩ bz Hr w'):Ql C (bz++Φ) (Hr++QP H m) w':=by
 obtain⟨F',N',hr⟩:=hr;obtain⟨h1,h2⟩:=QaE hl;obtain⟨h3,h4⟩:=Zk H l λi hi=>h1 i (by simp[hi]);obtain⟨h5,h6⟩:=Zk H m λi hi=>h1 i (by simp[hi])
 have hS:∀k,(∃i,i<(QP H l).length/\N (l.getD i 0) k)->∃j,j∈l/\j<H.length/\N j k:=by
  rintro k ⟨i,hi,hk⟩;rw[h3]at hi;refine⟨l[i],r! hi,h1 _ (by simp[r! hi]),?_⟩;simpa[e?,hi]using hk
 have hSF:∀k,(∃i,i<(QP H l).length/\N (l.getD i 0) k)->¬F k:=λk hk hf=>by
  obtain⟨j,_,U,hn⟩:=hS k hk;exact(h.nlt j k U hn).2.2 hf
 have hSm:∀j,j∈m->∀k,N j k->¬∃i,i<(QP H l).length/\N (l.getD i 0) k:=λj U k hk hs=>by
  obtain⟨j',M5,cj,hn⟩:=hS k hs
  have ep:j≠j':=by
   rintro rfl;exact(Q!.1 h2).2.2 j M5 j U rfl
  exact h.apart j j' k (h1 j (by simp[U])) cj ep hk hn
 have aF:fX F w w':=λk hk=>hr.mod.block k (h.flt k hk) λhs=>hSF k hs hk;have aN:∀j,j∈m->fX (N j) w w':=λj U k hk=>hr.mod.block k (h.nlt j k (h1 j (by simp[U])) hk).1 (hSm j U k hk);have hmi:∀i,i<m.length->∃j,m[i]? =some j/\j∈m/\m.getD i 0=j:=λi hi=>⟨m[i],W' hi,r! hi,by simp[hi]⟩
 refine⟨F',λi=>if i<Hr.length then N' i else N (m.getD (i-Hr.length) 0),hr.flt,λk hk=>hr.fold k (h.fold k hk),?_,?_,?_,?_,?_,?_⟩
 ·intro k hk;rcases hr.fnew k hk with h0|h0|h0;· exact h.fnew k h0
  · exact .inr (.inl (p! h.mod.size h0))
  ·obtain⟨j,_,U,hn⟩:=hS k h0;exact .inr (h.nlt j k U hn).2.1
 ·intro φ bs;rcases n!.1 bs with bs|bs;· exact hr.facts φ bs
  · exact φ.good hr.fold aF (h.facts φ bs)
 ·intro i φ hi;by_cases cj:i<Hr.length
  ·rw[C! cj]at hi;simp only[cj,if_true];exact hr.owns i φ hi
  ·rw[z! au]at hi;simp only[cj,if_false];obtain⟨j,U,bs⟩:=h6 _ φ hi;have X7:j∈m:=c! U;have e:m.getD (i-Hr.length) 0=j:=by simp[e?,U]
   rw[e];exact φ.opgood (λ_ h=>h) (aN j X7) hr.fold aF (h.owns j φ bs)
 ·intro i k hi hk;by_cases cj:i<Hr.length
  ·simp only[cj,if_true]at hk;obtain⟨a,b,c⟩:=hr.nlt i k cj hk;refine⟨a,?_,c⟩;rcases b with b|b;· exact .inl (p! h.mod.size b)
   ·obtain⟨j,_,U,hn⟩:=hS k b;exact(h.nlt j k U hn).2.1
  ·simp only[cj,if_false]at hk;have eW:i-Hr.length<m.length:=by rw[y!,h5]at hi;omega
   obtain⟨j,_,X7,e⟩:=hmi _ eW;rw[e]at hk;obtain⟨a,b,c⟩:=h.nlt j k (h1 j (by simp[X7])) hk;refine⟨z' a hr.mod.size,b,λhf=>?_⟩;rcases hr.fnew k hf with h0|h0|h0;· exact c h0
   · exact absurd a (by simp at h0;omega)
   · exact hSm j X7 k hk h0
 ·have Tp:∀i j k,i<Hr.length->¬j<Hr.length->j<Hr.length+m.length->N' i k->¬N (m.getD (j-Hr.length) 0) k:=by
   intro i j k hi U M5 hk eO;obtain⟨j',_,X7,e⟩:=hmi (j-Hr.length) au;rw[e]at eO;obtain⟨_,b,_⟩:=hr.nlt i k hi hk;rcases b with b|b;· exact absurd (h.nlt j' k (h1 j' (by simp[X7])) eO).1 (by simp at b;omega)
   · exact hSm j' X7 k eO b
  intro i j k hi U ep hk eO;rw[y!,h5]at hi U;by_cases cj:i<Hr.length<;>by_cases uJ:j<Hr.length
  ·simp only[cj,uJ,if_true]at hk eO;exact hr.apart i j k cj uJ ep hk eO
  ·simp only[cj,uJ,if_true,if_false]at hk eO;exact Tp i j k cj uJ U hk eO
  ·simp only[cj,uJ,if_true,if_false]at hk eO;exact Tp j i k uJ cj hi eO hk
  ·simp only[cj,uJ,if_false]at hk eO;obtain⟨a,ha,ham,ea⟩:=hmi (i-Hr.length) au;obtain⟨b,hb,JS,eb⟩:=hmi (j-Hr.length) au;rw[ea]at hk;rw[eb]at eO;refine h.apart a b k (h1 a (by simp[ham])) (h1 b (by simp[JS])) (λeab=>ep ?_) hk eO;subst eab;have:=yj (Q!.1 h2).2.1 ha hb;omega
 ·refine h.mod.trans' hr.mod λi hi hs=>?_;obtain⟨j,_,U,hn⟩:=hS i hs;rcases(h.nlt j i U hn).2.1 with h0|h0;· omega
  · exact h0
def um (S:aq (Nat×bc)):aq bw->bf (aq bc)
 |[]=>some []
 | x::l=>match dy S x,um S l with
   |some v,some vs=>some (v::vs)
   |_,_=>none
theorem gm.evalL {n:FD} {S:aq (Nat×bc)} {a:Act} (h:gm n S a):∀{l:aq bw} {vs:aq bc},um S l=some vs->l.map a.eval=vs
 |[],_,e=>by cases e;rfl
 | x::l,vs,e=>by
   unfold um at e;split at e;· rename_i v vs' hv U;cases e;simp[h.eval hv,h.evalL U]
   · cases e
def dq (P:da)(f:FuncId):Bool:=match P.funcs[f]? with
 |some fn=>fn.body.isSome&& !(fn.name== "runtime.NumGoroutine")
 |none=>false
theorem Pr {P:da} {f:FuncId} (h:dq P f=true)(args:Array bc)(w:bx):(callFunc f args).run P w=.ok (.enter f args) w:=by
 unfold dq at h;split at h
 ·rename_i fn hf;simp only[b!,T']at h;have U:fn.body.isNone=false:=by cases U:fn.body<;>simp_all
  have hn:¬fn.name= "runtime.NumGoroutine":=λe=>by rw[e]at h;simp at h
  have lU:¬fn.body=none:=λe=>by rw[e]at U;simp at U
  simp[callFunc,hf,hn,lU]
 · cases h
section rules
variable {P:da} {C:Ctx} {n:FD} {Q:Exit->Act->bx->Prop} {Φ Φ':aq Fact} {H H':aq Fact} {S S':aq (Nat×bc)} {ops:Array Oper} {rest:aq Oper} {o:Oper} {d:Nat} {c x y:Code}
variable {f:FuncId}{xs:Array bw}{ts:Array TypeId}{args:aq bc}{Φf Hf:aq Fact}{R:bc->aq Fact->aq Fact->Prop}
theorem Ig (l m:aq Nat)(hg:QM ops S o=some true)
  (ho:o.op=.call {callee:=.value (.func f),args:=xs,argTypes:=ts}) (hx:um S xs.toList=some args) (ja:dq P f=true)
  (hH:QP H l=Hf) (spec:QF P f args Φf Hf R) (eN:∀F w,(∀ψ∈Φ,ψ.p F w)->∀φ∈Φf,φ.p F w) (hl:fR (l++m) H.length=true) (hm:QP H m=H')
  (next:∀v bz Hr,R v bz Hr->∀a w,gm n S a->Ql C (bz++Φ) (Hr++H') w->wpList P ops Q rest (a.put o.dst v) w):WL P C n Q Φ H S ops (o::rest):=by
 subst hH;subst hm;intro a w U ⟨F,N,hi⟩
 have jx:fR l H.length=true:=by
  clear spec next
  have:∀(l:aq Nat),fR (l++m) H.length=true->fR l H.length=true:=by
   intro l;induction l with
   |nil=>intro _;rfl
   | cons i l ih=>
     intro h;simp only[List.cons_append,fR,b!,T',List.any_append,Bool.or_eq_false_iff]at h⊢;exact⟨⟨h.1.1,h.1.2.1⟩,ih h.2⟩
  exact this l hl
 have hp:=hi.pick l jx;have eS:=spec F _ w hi.flt (λφ bs=>eN F w hi.facts φ bs) hp.owns (λi k iW hk=>⟨(hp.nlt i k iW hk).1,(hp.nlt i k iW hk).2.2⟩) hp.apart;refine wpList_step λK hK=>?_;rw[Ef U hg,if_pos rfl];unfold Oper.wp
 have fO:xs.map a.eval=args.toArray:=by
  have:=U.evalL hx;have h0:xs=xs.toList.toArray:=bh
  rw[<-this,h0,E!]
 have eX:(execOp a.eval o).run P w=.ok (.enter f args.toArray) w:=by
  have DT:a.eval (.func f)=.func (.func f) #[] #[]:=rfl
  have h2:(resolve a.eval {callee:=.value (.func f),args:=xs,argTypes:=ts} o.type).run P w=.ok {target:=.fn (.func f) #[],args:=args.toArray} w:=by
   simp[resolve,DT,Deferred.ofValue,fO]
  unfold execOp;simp only[ho,Sem.run_bind,h2,Result.andThen_ok];simp[invoke,Pr ja]
 rw[eX,Oper.upon_enter];refine eS.mono ?_;rintro e w' ⟨v,bz,Hr,rfl,hR,hh⟩;exact hK _ _ (next v bz Hr hR a w' U (hi.after hl hh))
theorem AD (l m:aq Nat)(hg:QM ops S o=some true)(hd:o.dst=some d)(hn:A' d n=true)(hS:fk d S=S')
  (ho:o.op=.call {callee:=.value (.func f),args:=xs,argTypes:=ts}) (hx:um S xs.toList=some args) (ja:dq P f=true)
  (hH:QP H l=Hf) (spec:QF P f args Φf Hf R) (U:∀F w,(∀ψ∈Φ,ψ.p F w)->∀φ∈Φf,φ.p F w) (hl:fR (l++m) H.length=true) (hm:QP H m=H')
  (next:∀v bz Hr,R v bz Hr->WL P C n Q (bz++Φ) (Hr++H') ((d,v)::S') ops rest):WL P C n Q Φ H S ops (o::rest):=
 Ig l m hg ho hx ja hH spec U hl hm λv bz Hr hR a w hf hw=>by rw[hd];exact next v bz Hr hR _ w (hf.put (l' hn) hS) hw
theorem uW {P:da} {c:Code} {Q:Exit->Act->bx->Prop} (I:Nat->Act->bx->Prop)(round:∀m a w,I m a w->c.wp P (Exit.then (λa' w'=>∃m',m'<m/\I m' a' w') Q) a w):
  ∀m a w,I m a w->(Code.loop c).wp P Q a w:=by
 intro m a w h;intro b k cs
 have key:∀m a w,I m a w->∃e a' w',Q e a' w'/\Arrives P (lone (b.at a (.code c::.inLoop c::k)) cs w) b k cs e a' w':=by
  intro m;induction m using W! with
  | _ m ih=>
    intro a w hI;obtain⟨e,wH,xf,hq,U⟩:=round m a w hI b (.inLoop c::k) cs;cases e with
    | normal=>
      obtain⟨m',cj,a0x⟩:=hq;obtain⟨a2o,a2f,Gc,a13,Rc⟩:=ih m' cj wH xf a0x;exact⟨a2o,a2f,Gc,a13,.of_steps (Steps.trans U (.one step_inLoop)) Rc⟩
    |exit id=>exact⟨_,wH,xf,hq,.pass (x:=.inLoop c) rfl (λ_ _=>.inl bh) U⟩
    |goto l=>exact⟨_,wH,xf,hq,.pass (x:=.inLoop c) rfl (λ_ _=>.inl bh) U⟩
    |ret=>exact⟨_,wH,xf,hq,.pass (x:=.inLoop c) rfl (λ_ _=>.inl bh) U⟩
    |panic ch=>exact⟨_,wH,xf,hq,.pass (x:=.inLoop c) rfl (λ_ _=>.inl bh) U⟩
    |outgrown=>exact⟨_,wH,xf,hq,.pass (x:=.inLoop c) rfl (λ_ _=>.inl bh) U⟩
 obtain⟨e,a',w',hq,U⟩:=key m a w h;exact⟨e,a',w',hq,.of_steps (.one step_loop) U⟩
def pT {σ:Type} (ok:σ->Prop)(sg:σ->aq (Nat×bc))(iG rT:σ->aq Fact)(C:Ctx)(n:FD)(s:σ)(a:Act)(w:bx):Prop:=ok s/\gm n (sg s) a/\Ql C (iG s) (rT s) w
section
variable {σ:Type} {ok:σ->Prop} {sg:σ->aq (Nat×bc)} {iG rT:σ->aq Fact} {μ:σ->Nat}
theorem CS (s':σ)(h0:ok s')(l:aq Nat)(hS:iP l S=sg s')(U:∀F w,(∀ψ∈Φ,ψ.p F w)->∀φ∈iG s',φ.p F w)(hH:H=rT s') {a:Act} {w:bx} (hf:gm n S a)(hw:Ql C Φ H w):pT ok sg iG rT C n s' a w:=by
 obtain⟨F,N,hi⟩:=hw;subst hH;exact⟨h0,hf.sub λx hx=>Qdx (by rw[hS];exact hx),F,N,{hi with facts:=U F w hi.facts}⟩
theorem UZ (ok:σ->Prop)(μ:σ->Nat)(sg:σ->aq (Nat×bc))(iG rT:σ->aq Fact)(U:σ)(h0:ok U)(l:aq Nat)(hS:iP l S=sg U)(eN:∀F w,(∀ψ∈Φ,ψ.p F w)->∀φ∈iG U,φ.p F w)(hH:H=rT U)
  (round:∀s,ok s->WC P C n (Exit.then (λa' w'=>∃s',μ s'<μ s/\pT ok sg iG rT C n s' a' w') Q) (iG s) (rT s) (sg s) c):WC P C n Q Φ H S (.loop c):=by
 intro a w hf hw;refine uW (λm a w=>∃s,μ s=m/\pT ok sg iG rT C n s a w) ?_ (μ U) a w ⟨U,rfl,CS U h0 l hS eN hH hf hw⟩;rintro m a w ⟨s,rfl,dh,hf,hw⟩;refine wp_mono (round s dh a w hf hw) λe a' w' hq=>?_
 cases e with
 |normal=>obtain⟨s',h1,h2⟩:=hq;exact⟨_,h1,s',rfl,h2⟩
 |_=>exact hq
theorem nu (ok:σ->Prop)(sg:σ->aq (Nat×bc))(iG rT:σ->aq Fact)(hx:WC P C n (Exit.then (λa w=>∃s,pT ok sg iG rT C n s a w) Q) Φ H S x)(hy:∀s,ok s->WC P C n Q (iG s) (rT s) (sg s) y):WC P C n (Exit.then (λa w=>y.wp P Q a w) Q) Φ H S x:=
 fun a w hf hw=>wp_mono (hx a w hf hw) λe a' w' U=>by
  cases e with
  |normal=>obtain⟨s,h1,h2,h3⟩:=U;exact hy s h1 a' w' h2 h3
  |_=>exact U
theorem Qj {H':aq Fact} {e:Exit} (l:aq Nat)(hl:fR l H.length=true)(hH:QP H l=H')(h:WE C n Q Φ H' S e):WE C n Q Φ H S e:=λa w U hw=>h a w U (by rw[<-hH];exact hw.pick l hl)
theorem HP {H':aq Fact} (l:aq Nat)(hl:fR l H.length=true)(hH:QP H l=H')(h:WL P C n Q Φ H' S ops rest):WL P C n Q Φ H S ops rest:=λa w U hw=>h a w U (by rw[<-hH];exact hw.pick l hl)
theorem Ei (s':σ)(h0:ok s')(l:aq Nat)(hS:iP l S=sg s')(U:∀F w,(∀ψ∈Φ,ψ.p F w)->∀φ∈iG s',φ.p F w)(hH:H=rT s'):
 WE C n (Exit.then (λa w=>∃s,pT ok sg iG rT C n s a w) Q) Φ H S .normal:=λa w hf hw=>⟨s',CS s' h0 l hS U hH hf hw⟩
end
variable {v:bc}{fn:Func}{m t:Nat}{R:bc->aq Fact->aq Fact->Prop}{bz Hr:aq Fact}{e:Exit}{r:ResultVar}
def Kl (tmps:Array bc):ResultVar->Sem bc
 | .tmp t=>pure (tmps.getD t undef)
 | .cell a t=>do loadVar t (<-asAddr (tmps.getD a undef))
theorem Qce (fn:Func)(tmps:Array bc):results fn tmps=(do let vs <-fn.results.mapM (Kl tmps);pure (if h:vs.size=1 then vs[0]else .tuple vs)):=by
 unfold results;congr
def Bf (P:da)(C:Ctx)(n:FD)(Φ H:aq Fact)(S:aq (Nat×bc))(r:ResultVar)(v:bc):Prop:=
 ∀a w,gm n S a->Ql C Φ H w->(Kl a.tmps r).run P w=.ok v w
theorem jt (h:look S t=some v):Bf P C n Φ H S (.tmp t) v:=λa w U _=>by
 have:=U.eval (x:=.tmp t) h;simp only[Act.eval]at this;simp[Kl,this]
theorem lG {q b tb sz:Nat} {g:Bool} {all:aq bc} (k:Nat)(hq:look S q=some (.pointer (some ⟨b,0,none⟩)))(U:H[k]? =some (.blk b all tb))(hs:QV P t=some sz)(ha:fJ P t=some g)(hl:d! all.length sz=true)(hv:lK g all=some v):
  Bf P C n Φ H S (.cell q t) v:=λa w hf ⟨F,N,hi⟩=>by
 have:=hf.eval (x:=.tmp q) hq;simp only[Act.eval]at this;simp only[Kl,this,Sem.run_bind];simp[asAddr,Ux (Zn (hi.owns k _ U).2) hs ha (y' hl) hv]
theorem vp (l:aq Nat)(hr:∀a w,gm ⟨m,[]⟩ S a->Ql C Φ H w->(results fn a.tmps).run P w=.ok v w)(hR:R v bz Hr)(eN:∀F w,(∀ψ∈Φ,ψ.p F w)->∀φ∈bz,φ.p F w)
  (hl:fR l H.length=true) (hH:QP H l=Hr) (he:e=.ret\/e=.normal):WE C ⟨m,[]⟩ (bodyPost P fn (sf C R)) Φ H S e:=by
 subst hH;intro a w U hw
 have h1:bodyPost P fn (sf C R) .ret a w:=by
  refine⟨U.defers,v,hr a w U hw,v,bz,_,rfl,hR,?_⟩;obtain⟨F,N,hi⟩:=hw.pick l hl;exact⟨F,N,{hi with facts:=eN F w hi.facts}⟩
 rcases he with rfl|rfl<;>exact h1
theorem pR (l:aq Nat)(mO:fn.results=#[r])(h1:Bf P C ⟨m,[]⟩ Φ H S r v)(hR:R v bz Hr)(eN:∀F w,(∀ψ∈Φ,ψ.p F w)->∀φ∈bz,φ.p F w)
  (hl:fR l H.length=true) (hH:QP H l=Hr) (he:e=.ret\/e=.normal):WE C ⟨m,[]⟩ (bodyPost P fn (sf C R)) Φ H S e:=
 vp l (λa w hf hw=>by
  have U:=h1 a w hf hw;simp[Qce,mO,U]) hR eN hl hH he
theorem vq (l:aq Nat)(mO:fn.results=#[])(hR:R (.tuple #[]) bz Hr)(U:∀F w,(∀ψ∈Φ,ψ.p F w)->∀φ∈bz,φ.p F w)
  (hl:fR l H.length=true) (hH:QP H l=Hr) (he:e=.ret\/e=.normal):WE C ⟨m,[]⟩ (bodyPost P fn (sf C R)) Φ H S e:=
 vp l (λa w hf hw=>by simp[Qce,mO]) hR U hl hH he
theorem w8 {u:bc} {s:ResultVar} (l:aq Nat)(mO:fn.results=#[r,s])(h1:Bf P C ⟨m,[]⟩ Φ H S r v)(h2:Bf P C ⟨m,[]⟩ Φ H S s u)(hR:R (.tuple #[v,u]) bz Hr)(eN:∀F w,(∀ψ∈Φ,ψ.p F w)->∀φ∈bz,φ.p F w)
  (hl:fR l H.length=true) (hH:QP H l=Hr) (he:e=.ret\/e=.normal):WE C ⟨m,[]⟩ (bodyPost P fn (sf C R)) Φ H S e:=
 vp l (λa w U hw=>by
  have e1:=h1 a w U hw;have e2:=h2 a w U hw;simp[Qce,mO,e1,e2]) hR eN hl hH he
end rules
end
section
open Go.RowKit
def ra {α Λ:Type} (R:fc α)(cells:α->Λ->aq bc)(pure:α->Λ->Prop)(facts:α->Λ->aq Fact):Prop:=
 ∀F w cs x,R.p F w cs x->∃r:Λ,cs=cells x r/\pure x r/\∀φ∈facts x r,φ.p F w
def j0 (P:da)(e:Nat):bf (bc×Nat×Nat):=match P.info? e with
 |some i=>i.zero.map λz=>(z,i.size,i.bytes)
 |none=>none
theorem Zs {P:da} {e:Nat} {z:bc} {sz jN:Nat} (h:j0 P e=some (z,sz,jN)):∃i,P.info? e=some i/\i.zero=some z/\i.size=sz/\i.bytes=jN:=by
 unfold j0 at h;split at h
 ·rename_i i hi;cases hz:i.zero with
  |none=>simp[hz]at h
  |some U=>simp[hz]at h;exact⟨i,hi,by rw[hz,h.1],h.2.1,h.2.2⟩
 · cases h
section idx
variable {P:da} {C:Ctx} {n:FD} {Q:Exit->Act->bx->Prop} {Φ Φ':aq Fact} {H H':aq Fact} {S S':aq (Nat×bc)} {ops:Array Oper} {rest:aq Oper} {o:Oper} {d:Nat} {c:Code}
variable {α Λ:Type}{R:fc α}{sz t e cp m g:Nat}{l:aq α}{x i:bw}{p:bf Addr}{w:bx}{cells:α->Λ->aq bc}{pure:α->Λ->Prop}{facts:α->Λ->aq Fact}{cs:aq bc}{ik:IntKind}{z:Int}
theorem ym {pure:Λ->Prop} {facts:Λ->aq Fact} (h:Ql C Φ H w)(kd:∀F,(∀ψ∈Φ,ψ.p F w)->∃r:Λ,pure r/\∀φ∈facts r,φ.p F w):∃r,pure r/\Ql C (facts r++Φ) H w:=by
 obtain⟨F,N,hi⟩:=h;obtain⟨r,h1,h2⟩:=kd F hi.facts;refine⟨r,h1,F,N,{hi with facts:=λφ U=>?_}⟩;rcases n!.1 U with U|U;· exact h2 φ U
 · exact hi.facts φ U
theorem jA {x:α} (op:ra R cells pure facts)(k:Nat)(hk:Φ[k]? =some (.rep R cs x))
  (next:∀r:Λ,cs=cells x r->pure x r->WL P C n Q (facts x r++Φ) H S ops rest):WL P C n Q Φ H S ops rest:=λa w hf hw=>by
 obtain ⟨r,⟨h1,U⟩,h3⟩:=ym (pure:=λr=>cs=cells x r/\pure x r) (facts:=facts x) hw λF eN=>by
  obtain⟨r,h1,U,h3⟩:=op F w cs x (eN _ (gv hk));exact⟨r,⟨h1,U⟩,h3⟩
 exact next r h1 U a w hf h3
theorem lx {p:Prop} (hp:∀F w,(∀ψ∈Φ,ψ.p F w)->p)(next:p->WC P C n Q Φ H S c):WC P C n Q Φ H S c:=λa w U hw=>by
 have:p:=by obtain⟨F,N,hi⟩:=hw;exact hp F w hi.facts
 exact next this a w U hw
theorem Ah {c:Nat} {F:eL} (h:(Fact.sli sz R p c l).p F w):l.length<=c/\c<=9223372036854775807:=by
 obtain⟨p',n',c',xs,e,hn,U,hm,_⟩:=h;cases e;exact⟨U,hm⟩
theorem O0 (k j:Nat)(hg:QM ops S o=some true)(hd:o.dst=some d)(hn:A' d n=true)(hS:fk d S=S')(ho:o.op=.indexAddr t x i)
  (bs:Φ[k]? =some (.sli sz R p cp l)) (hx:dy S x=some (.slice p l.length cp)) (hi:dy S i=some (.int ik z)) (hz:z=(j:Int)) (hj:j<l.length) (he:gG P t=some e) (hs:QV P e=some sz)
  (next:∀b q cs y,l[j]? =some y->cs.length=sz->WL P C n Q (.cells b q cs::.rep R cs y::Φ) H ((d,.pointer (some ⟨b,q,none⟩))::S') ops rest):WL P C n Q Φ H S ops (o::rest):=by
 refine xl hg hd hn hS λa w hf hw=>?_;obtain⟨F,N,eW⟩:=hw;obtain⟨p',n',c',xs,GW,JU,hc,hm,kY,fl⟩:=(eW.facts _ (gv bs):xr F w sz (R.p F w) (.slice p l.length cp) l)
 cases GW;obtain⟨b,off,hp,hF,iJ⟩:=fl au;obtain⟨cs,hl,hr,hu⟩:=kY.at (W' hj)
 subst hp;subst hz;have eX:=vt (P:=P) (c:=cp) (r5 he) (w7 hs) rfl hj w (p:=some ⟨b,off,none⟩) (b:=b) (off:=off);refine⟨.pointer (some ⟨b,off+j*sz,none⟩),w,?_,.cells b (off+j*sz) cs::.rep R cs l[j]::Φ,H,⟨F,N,{eW with facts:=λφ U=>?_}⟩,next b _ cs _ (W' hj) hl⟩
 ·have h0:(Instr.indexAt t (.slice (some ⟨b,off,none⟩) l.length cp) (.int ik (j:Int))).run P w=.ok (.pointer (some ⟨b,off+j*sz,none⟩)) w:=by
   have h1:(0:Int)<=j/\(j:Int)<l.length:=au
   simp[Instr.indexAt,asIntOf,run_underlying (r5 he),h1,w7 hs,Addr.add,hj]
  simp[execOp,ho,hf.eval hx,hf.eval hi,h0]
 ·rcases r'.1 U with rfl|U
  ·refine⟨hF,λi u jT=>?_⟩;rw[D!];exact iJ _ u (hu i u jT)
  ·rcases r'.1 U with rfl|U;· exact hr
   · exact eW.facts φ U
theorem HX (k j:Nat)(hg:QM ops S o=some true)(hd:o.dst=some d)(hn:A' d n=true)(hS:fk d S=S')(ho:o.op=.indexAddr t x i)
  (bs:H[k]? =some (.own e sz R (.slice p m cp) l)) (hx:dy S x=some (.slice p m cp)) (hi:dy S i=some (.int ik z)) (hz:z=(j:Int)) (hj:j<l.length) (he:gG P t=some e) (hs:QV P e=some sz)
  (next:∀g,p=some ⟨g,0,none⟩->WL P C n Q Φ H ((d,.pointer (some ⟨g,j*sz,none⟩))::S') ops rest):WL P C n Q Φ H S ops (o::rest):=by
 refine xl hg hd hn hS λa w U hw=>?_;have jC:=hw;obtain⟨F,N,eW⟩:=hw;obtain⟨hN,fU⟩:=eW.owns k _ bs;obtain⟨g,hp,hm,_⟩:=fU.head au;subst hp;subst hz;refine⟨.pointer (some ⟨g,j*sz,none⟩),w,?_,Φ,H,jC,next g rfl⟩;have h1:(0:Int)<=j/\(j:Int)<m:=au
 have h2:j<m:=au
 simp[execOp,ho,U.eval hx,U.eval hi,Instr.indexAt,asIntOf,run_underlying (r5 he),h1,h2,w7 hs];unfold Addr.add;split<;>simp_all
theorem Og {st:Nat} {ag:Bool} {y:α} {v:Λ->bc} (op:ra R cells pure facts)(k j i:Nat)
  (hg:QM ops S o=some true) (hd:o.dst=some d) (hn:A' d n=true) (hS:fk d S=S') (ho:o.op=.load t x)
  (bs:H[k]? =some (.own e sz R (.slice (some ⟨g,0,none⟩) m cp) l)) (hx:dy S x=some (.pointer (some ⟨g,j*sz+i,none⟩))) (hj:l[j]? =some y) (hs:QV P t=some st) (ha:fJ P t=some ag)
  (hl:∀r,(((cells y r).drop i).take st).length=st) (hv:∀r,lK ag (((cells y r).drop i).take st)=some (v r)) (next:∀r,pure y r->WL P C n Q (facts y r++Φ) H ((d,v r)::S') ops rest):WL P C n Q Φ H S ops (o::rest):=by
 refine xl hg hd hn hS λa w hf hw=>?_;obtain⟨F,N,eW⟩:=hw;obtain⟨hN,xs,rA,kY⟩:=eW.owns k _ bs;obtain⟨cs,AO,hr,hu⟩:=kY.at hj;obtain⟨r,h1,h2,h3⟩:=op F w cs y hr;subst h1;refine⟨v r,w,?_,facts y r++Φ,H,⟨F,N,{eW with facts:=λφ U=>?_}⟩,next r h2⟩
 ·have hc:r6 w g (j*sz+i) (((cells y r).drop i).take st):=λq u hq=>by
   have:=rA.cells (g:=g) rfl (j*sz+(i+q)) u (hu _ u (by rw[A!]at hq;split at hq<;>first|(rw[B!]at hq;exact hq)|cases hq));rw[z6]at this;rw[x!]at this;rwa [D!]
  simp[execOp,ho,hf.eval hx,Instr.loadAt,Instr.sureAddr,Ux hc hs ha (hl r) (hv r)]
 ·rcases n!.1 U with U|U;· exact h3 φ U
  · exact eW.facts φ U
theorem Q9J {y:bw} {v:bc} {u:α} (k j:Nat)
  (hg:QM ops S o=some true) (hd:o.dst=none) (ho:o.op=.store t x y)
  (bs:H[k]? =some (.own e sz R (.slice (some ⟨g,0,none⟩) m cp) l)) (hx:dy S x=some (.pointer (some ⟨g,j*sz,none⟩))) (hj:j<l.length) (hy:dy S y=some v) (hv:v.cells.toList=cs) (hs:QV P t=some sz) (hl:d! cs.length sz=true)
  (hr:∀F w,(∀ψ∈Φ,ψ.p F w)->R.p F w cs u) (hH:H.set k (.own e sz R (.slice (some ⟨g,0,none⟩) m cp) (l.set j u))=H') (next:WL P C n Q Φ H' S ops rest):WL P C n Q Φ H S ops (o::rest):=by
 have wQ:=y' hl;subst hH;refine HM hg hd (λa w hf hw=>?_) next
 obtain⟨F,N,hi⟩:=hw;have cj:=(f'.1 bs).1;obtain⟨hN,U⟩:=hi.owns k _ bs;have hlen:m=l.length:=U.len;have hR:=hr F w hi.facts;obtain⟨h1,h2⟩:=U.put hlen j hR wQ hj;have hM:Mod (N k) w (DF w g (j*sz) cs):=h2.mono λi _ e=>by rw[e];exact hN g rfl
 refine⟨DF w g (j*sz) cs,?_,⟨F,N,hi.set k cj hM _ ⟨hN,h1.rel λwh x' h=>R.good (λ_ h=>h) (λq hq=>hM.block q (hi.flt q hq) λhn=>(hi.nlt k q cj hn).2.2 hq) h⟩⟩⟩;have iR:v.cells.size=sz:=by rw[<-wQ,<-hv];simp
 obtain⟨xs,rA,kY⟩:=U;rcases rA.2 with⟨h0,_⟩|⟨g',cap,cur,Rw,_,hh,AU,_,th,_⟩
 · cases h0
 ·cases Rw;have hh':w.heap[g]? =some (.cells cur.toList.toArray e):=by simpa using hh
  have hle:j*sz+sz<=l.length*sz:=by rw[<-a!];exact t! _ hj
  have a3P:l.length*sz<=cp*sz:=t! _ AU;have:=YW (P:=P) cs cur.toList (j*sz) 0 w hh' (by simp[th,wQ];omega) (λu hu=>R.one hR u hu);simp only[execOp,ho,hf.eval hx,hf.eval hy,Instr.storeAt,Instr.sureAddr,storeVar,Sem.run_bind,Sem.run_pure,Result.andThen_ok,w7 hs,iR,hv];simp[this]
end idx
def lT (place:Nat->bf (Nat×Nat)):aq bc->aq (Nat×bc)->bf (aq bc)
 |cs,[]=>some cs
 | cs,(i,v)::r=>match place i with
   |none=>none
   | some (off,sz)=>match d! v.cells.size sz&&Y! (off+sz) cs.length with
     |true=>lT place (xa cs off v.cells.toList) r
     |false=>none
theorem xQ (off:Nat):∀(l:aq bc)(k:Nat)(A:aq bc),(l.zipIdx k).foldl (λ(cs:Array bc)(x:bc×Nat)=>cs.setIfInBounds (off+x.2) x.1) A.toArray=(JM A (off+k) l).toArray
 |[],_,_=>rfl
 | v::l,k,A=>by
   rw[List.zipIdx_cons,List.foldl_cons,JM];have:=xQ off l (k+1) (A.set (off+k) v);rw[List.setIfInBounds_toArray];exact this
theorem uu {place:Nat->bf (Nat×Nat)}:∀{parts:aq (Nat×bc)} {cs out:aq bc},lT place cs parts=some out->Instr.fill place cs.toArray parts=some out.toArray
 |[],cs,out,h=>by cases h;rfl
 | (i,v)::r,cs,out,h=>by
   unfold lT at h;unfold Instr.fill;split at h;· cases h
   ·rename_i off sz hp;split at h
    ·rename_i U;simp only[b!]at U;have h1:=y' U.1;have h2:=l' U.2;have h3:v.cells.toList.length=sz:=by simpa using h1
     have h4:v.cells.zipIdx.foldl (λcs (x:bc×Nat)=>match x with|(c,j)=>cs.setIfInBounds (off+j) c) cs.toArray=(xa cs off v.cells.toList).toArray:=by
      rw[<-Qbd _ _ _ au];have:=xQ off v.cells.toList 0 cs;rw[Nat.add_zero]at this;rw[<-this,<-Array.foldl_toList];simp[Array.toList_zipIdx]
     simp only[hp,h1];have h5:¬(sz≠sz||off+sz>cs.length)=true:=by simp;omega
     simp only[List.size_toArray];rw[if_neg h5,h4];exact uu h
    · cases h
def Zx (l:aq (Nat×Nat))(i:Nat):bf (Nat×Nat):=l[i]?
def tO (P:da)(t:Nat):bf (aq (Nat×Nat)):=match P.underlying t with
 |some (.struct U)=>U.toList.mapM λf=>(P.info? f.type).map λi=>(f.offset,i.size)
 |_=>none
theorem rF {P:da} (w:bx):∀{U:aq Field} {l:aq (Nat×Nat)},U.mapM (λf=>(P.info? f.type).map λi=>(f.offset,i.size))=some l->
   (U.mapM (λ(f:Field)=>do pure (f.offset,<-sizeOf f.type):Field->Sem (Nat×Nat))).run P w=.ok l w
 |[],l,h=>by simp at h;subst h;rfl
 | f ::U,l,h=>by
   rw[List.mapM_cons]at h;cases hi:P.info? f.type with
   |none=>simp[hi]at h
   | some i=>
     cases hr:U.mapM (λf=>(P.info? f.type).map λi=>(f.offset,i.size))with
     |none=>simp[hi,hr]at h
     | some r=>
       simp[hi,hr]at h;subst h;have:=rF (P:=P) w hr;simp[sizeOf,typeInfo,hi]at this⊢;simp[this]
theorem run_build {P:da} {t:Nat} {z:bc} {pl:aq (Nat×Nat)} {parts:aq (Nat×bc)} {out:aq bc} (hz:iL P t=some z)(hp:tO P t=some pl)(hf:lT (Zx pl) z.cells.toList parts=some out)(w:bx):
  (Instr.build t parts.toArray).run P w=.ok (.agg out.toArray) w:=by
 unfold tO at hp;split at hp
 ·rename_i fs hu;have h1:=rF w hp;have h2:=uu hf
  have U:(fs.mapM (λ(f:Field)=>do pure (f.offset,<-sizeOf f.type):Field->Sem (Nat×Nat))).run P w=.ok pl.toArray w:=by
   rw[Array.mapM_eq_mapM_toList];simp at h1⊢;simp[h1]
  unfold Instr.build;simp only[Sem.run_bind,Zt hz,Result.andThen_ok,run_underlying hu,Sem.run_pure]at U⊢;simp only[U,Result.andThen_ok];have h4:(λi=>pl.toArray[i]?)=Zx pl:=by funext i;simp[Zx]
  have h5:z.cells=z.cells.toList.toArray:=bh
  simp only[h4,w!];rw[h5,h2];rfl
 · cases hp
def Tt (S:aq (Nat×bc)):aq (Nat×bw)->bf (aq (Nat×bc))
 |[]=>some []
 | (i,x)::l=>match dy S x,Tt S l with
   |some v,some vs=>some ((i,v)::vs)
   |_,_=>none
theorem gm.evalP {n:FD} {S:aq (Nat×bc)} {a:Act} (h:gm n S a):∀{l:aq (Nat×bw)} {vs:aq (Nat×bc)},Tt S l=some vs->l.map (λx=>(x.1,a.eval x.2))=vs
 |[],_,e=>by cases e;rfl
 | (i,x)::l,vs,e=>by
   unfold Tt at e;split at e;· rename_i v vs' hv U;cases e;simp[h.eval hv,h.evalP U]
   · cases e
def yQ (z:aq bc):Nat->aq bc
 |0=>[]
 |m+1=>z++yQ z m
section lit
variable {P:da} {C:Ctx} {n:FD} {Q:Exit->Act->bx->Prop} {Φ Φ':aq Fact} {H H':aq Fact} {S S':aq (Nat×bc)} {ops:Array Oper} {rest:aq Oper} {o:Oper} {d:Nat} {c:Code}
variable {t e sz jN cp len g m:Nat}{z v:bc}{α:Type}{x s:bw}{parts:aq (Nat×bc)}{out cs:aq bc}{R:fc α}{l:aq α}{H2:bf Addr->Nat->aq Fact}{ps:Array (Nat×bw)}{l2:aq α}{p:bf Addr}
theorem nC {pl:aq (Nat×Nat)} (hg:QM ops S o=some true)(hd:o.dst=some d)(hn:A' d n=true)(hS:fk d S=S')(ho:o.op=.build t ps)
  (hz:iL P t=some z) (hp:tO P t=some pl) (he:Tt S ps.toList=some parts) (hf:lT (Zx pl) z.cells.toList parts=some out) (next:WL P C n Q Φ H ((d,.agg out.toArray)::S') ops rest):WL P C n Q Φ H S ops (o::rest):=
 JQ hg hd hn hS (λa w U _=>by
  have h0:ps.map (λx=>(x.1,a.eval x.2))=parts.toArray:=by
   rw[<-U.evalP he,<-E!]
  have h1:=run_build hz hp hf w;rw[<-h0]at h1;simp only[execOp,ho,Sem.run_bind];rw[show(ps.map λx=>match x with|(i,x)=>(i,a.eval x))=ps.map (λx=>(x.1,a.eval x.2))from rfl,h1];rfl) next
def zo (len sz:Nat)(z:bc):aq bc:=((U! (len*sz)).map (λi=>z.cells[i%z.cells.size]!)).toList
def Qd8 (sz i:Nat):bf (Nat×Nat):=some (i*sz,sz)
theorem Qdc {P:da} {zs:aq bc} (he:gG P t=some e)(hs:QV P e=some sz)(hz:iL P e=some z)(hle:Y! (len*sz) 16777216=true)(tj:zo len sz z=zs)
  (hf:lT (Qd8 sz) zs parts=some out) (w:bx):(Instr.buildSlice t len parts.toArray).run P w=.ok (.slice (some ⟨w.heap.size,0,none⟩) len len) (w.alloc (.cells out.toArray e)):=by
 have a0R:=l' hle;have hgt:¬len*sz>2^24:=au
 have h2:=uu hf;unfold Instr.buildSlice;simp only[Sem.run_bind,run_underlying (r5 he),Result.andThen_ok,w7 hs,if_neg hgt,Sem.run_pure];by_cases U:len*sz=0
 ·have Xs:zs=[]:=by rw[<-tj];simp[zo,U]
  subst Xs;rw[if_pos U];have e1:(λi=>some (i*sz,sz))=Qd8 sz:=rfl;have e3:∀f:Nat->bc,(U! (len*sz)).map f=([]:aq bc).toArray:=λf=>by apply Array.ext';simp[U]
  simp only[Sem.run_pure,Result.andThen_ok,e1,e3];try simp only[w!]
  rw[h2];simp[Zm]
 ·rw[if_neg U];simp only[Sem.run_bind,Zt hz,Result.andThen_ok,Sem.run_pure];have e1:(λi=>some (i*sz,sz))=Qd8 sz:=rfl;have e2:(U! (len*sz)).map (λi=>z.cells[i%z.cells.size]!)=zs.toArray:=by rw[<-tj];exact Array.toArray_toList.symm
  rw[e1,e2];try simp only[w!]
  rw[h2];simp[Zm]
theorem QB {zs:aq bc} (hg:QM ops S o=some true)(hd:o.dst=some d)(hn:A' d n=true)(hS:fk d S=S')(ho:o.op=.buildSlice t len ps)
  (hE:gG P t=some e) (hs:QV P e=some sz) (hz:iL P e=some z) (hle:Y! (len*sz) 16777216=true) (tj:zo len sz z=zs) (he:Tt S ps.toList=some parts) (hf:lT (Qd8 sz) zs parts=some out)
  (next:∀g,WL P C n Q Φ (.blk g out e::H) ((d,.slice (some ⟨g,0,none⟩) len len)::S') ops rest):WL P C n Q Φ H S ops (o::rest):=
 xl hg hd hn hS λa w U hw=>⟨_,_,by
  have h0:ps.map (λx=>(x.1,a.eval x.2))=parts.toArray:=by
   rw[<-U.evalP he,<-E!]
  have h1:=Qdc hE hs hz hle tj hf w;rw[<-h0]at h1;simp only[execOp,ho,Sem.run_bind];rw[show(ps.map λx=>match x with|(i,x)=>(i,a.eval x))=ps.map (λx=>(x.1,a.eval x.2))from rfl,h1];exact rfl,_,_,hw.alloc _ _,by simpa using next _⟩
theorem Ql.row {α:Type} {w:bx} {g e sz m:Nat} {cs:aq bc} {R:fc α} {l:aq α} (h:Ql C Φ H w)(k:Nat)(hk:H[k]? =some (.blk g cs e))(kY:∀F,(∀ψ∈Φ,ψ.p F w)->fD sz (R.p F w) cs l)(hm:m=l.length)(hle:m<=9223372036854775807)
  (hH:H.set k (.own e sz R (.slice (some ⟨g,0,none⟩) m m) l)=H'):Ql C Φ H' w:=by
 subst hH;obtain⟨F,N,hi⟩:=h;have cj:=(f'.1 hk).1;have U:=hi.owns k _ hk;refine⟨F,N,hi.set k cj (Mod.refl _ _) _ ⟨λi eW=>by cases eW;exact U.1,?_⟩⟩;exact mx.of_block U.2 (j? _) (du (kY F hi.facts)) hm hle
theorem sU (R:fc α)(l:aq α)(k:Nat)(hk:H[k]? =some (.blk g cs e))(kY:∀F w,(∀ψ∈Φ,ψ.p F w)->fD sz (R.p F w) cs l)(hm:m=l.length)(hle:m<=9223372036854775807)
 (hH:H.set k (.own e sz R (.slice (some ⟨g,0,none⟩) m m) l)=H') (next:WL P C n Q Φ H' S ops rest):WL P C n Q Φ H S ops rest:=λa w U hw=>next a w U (hw.row k hk (λF=>kY F w) hm hle hH)
theorem Ql.rowNil {α:Type} {w:bx} (e sz:Nat)(R:fc α)(h:Ql C Φ H w):Ql C Φ (.own e sz R (.slice none 0 0) []::H) w:=by
 obtain⟨F,N,hi⟩:=h;exact⟨F,_,hi.push (.own e sz R (.slice none 0 0) []) (λ_=>False) ⟨λk hk=>(by cases hk),mx.nil⟩ (λk hk=>hk.elim) (λ_ k _ hk=>hk.elim)⟩
theorem yM (e sz:Nat)(R:fc α)(next:WL P C n Q Φ (.own e sz R (.slice none 0 0) []::H) S ops rest):WL P C n Q Φ H S ops rest:=λa w U hw=>next a w U (hw.rowNil e sz R)
theorem Pe (e sz:Nat)(R:fc α)(next:WC P C n Q Φ (.own e sz R (.slice none 0 0) []::H) S c):WC P C n Q Φ H S c:=λa w U hw=>next a w U (hw.rowNil e sz R)
theorem Qdb {P:da} {w:bx} (t ty:TypeId)(e:TypeId)(i:TypeInfo)(z:bc)(size bytes:Nat)(ht:P.underlying t=some (.slice e))(hi:P.info? e=some i)(hz:i.zero=some z)
  (kC:i.size=size) (Iz:i.bytes=bytes) (tj:z.cells.size=size) (iR:0<size)
  (v:bc) (n:Nat) (xs:aq bc) (fU:w.ownsRow 0 e size v n xs)
  (p:bf Addr) (m c:Nat) (U:aq bc) (hl:U.length=m*size) (hp:0<m->∃b off,p=some ⟨b,off,none⟩/\r6 w b off U) (h1:∀u∈U,u.oneCell'=true)
  (Iw:n+m<=maxLen) (hU:(n+m)*bytes<=140737488355328):
  ∃v' w',(Builtin.append_ #[t,t] ty #[v,.slice p m c]).run P w=.ok v' w'/\w'.ownsRow 0 e size v' (n+m) (xs++U)/\w.grownBy w' v.ownBlock/\(v'.ownBlock=v.ownBlock\/v'.ownBlock=some w.heap.size):=by
 rcases p with _|ad
 ·have hm:m=0:=by
   rcases L! m with h0|h0;· exact h0
   · obtain⟨b,off,hb,_⟩:=hp h0;cases hb
  subst hm;have hy:U=[]:=u! (du hl);subst hy
  have hr:(Builtin.append_ #[t,t] ty #[v,.slice none 0 c]).run P w=.ok v w:=by
   rcases fU.2 with⟨rfl,rfl⟩|⟨g,cap,cur,rfl,hbg,hg,AU,kb,th,gx⟩
   · simp[Builtin.append_,run_underlying ht,sizeOf,typeInfo,hi,Builtin.lenOf,Builtin.firstCells]
   · simp[Builtin.append_,run_underlying ht,sizeOf,typeInfo,hi,Builtin.lenOf,Builtin.firstCells,AU,storeCells]
  exact⟨v,w,hr,by simpa using fU,⟨rfl,rfl,rfl,k! _,λ_ _ _=>rfl⟩,.inl rfl⟩
 ·have xW:∀j u,U[j]? =some u->w.cell? (ad.add j)=some u:=by
   intro j u hj
   have hm:0<m:=by
    rcases L! m with h0|h0
    ·subst h0;have:U=[]:=u! (du hl);subst this;simp at hj
    · exact h0
   obtain⟨b,off,hb,hc⟩:=hp hm;cases hb;rw[z6];exact hc j u hj
  obtain⟨v',w',h2,h3,h4,_,h5⟩:=run_append_own_at (P:=P) w 0 t ty e i z size bytes ht hi hz kC Iz tj iR v n xs fU ad m c U hl xW h1 Iw hU (j? _);exact⟨v',w',h2,h3,h4,h5⟩
theorem gX.set' {F:eL} {N:Nat->eL} {w w':bx} (h:gX C Φ H F N w)(k:Nat)(hk:k<H.length)(hm:Mod (N k) w w')(M':eL)(hM:∀i,M' i->N k i\/(w.heap.size<=i/\i<w'.heap.size))(φ:Fact)(kd:φ.op M' F w'):
  gX C Φ (H.set k φ) F (λi=>if i=k then M' else N i) w':=by
 have hF:fX F w w':=λj U=>hm.block j (h.flt j U) (λhn=>(h.nlt k j hk hn).2.2 U)
 have hM2:∀i q,i<H.length->i≠k->N i q->¬M' q:=λi q hi ep hq hM'=>by
  rcases hM q hM' with h1|h1;· exact h.apart i k q hi hk ep hq h1
  · have:=(h.nlt i q hi hq).1;omega
 refine⟨λj U=>z' (h.flt j U) hm.size,h.fold,h.fnew,λψ iO=>ψ.good (λ_ h=>h) hF (h.facts ψ iO),?_,?_,?_,?_⟩
 ·intro i ψ hi;by_cases iW:i=k
  ·subst iW;rw[G! hk]at hi;cases hi;simpa using kd
  ·rw[H! (Ne.symm iW)]at hi;have eW:=(f'.1 hi).1;simp only[iW,if_false];exact ψ.opgood (λ_ h=>h) (λj U=>hm.block j (h.nlt i j eW U).1 (λhn=>h.apart i k j eW hk iW U hn)) (λ_ h=>h) hF (h.owns i ψ hi)
 ·intro i j hi U;rw[o!]at hi;by_cases iW:i=k
  ·simp only[iW,if_true]at U;rcases hM j U with h1|h1;· exact⟨z' (h.nlt k j hk h1).1 hm.size,(h.nlt k j hk h1).2⟩
   · exact⟨h1.2,.inl (p! h.mod.size h1.1),λhf=>by have:=h.flt j hf;omega⟩
  ·simp only[iW,if_false]at U;exact⟨z' (h.nlt i j hi U).1 hm.size,(h.nlt i j hi U).2⟩
 ·intro i j q hi U ep hq eR;rw[o!]at hi U;by_cases iW:i=k<;>by_cases BR:j=k;· omega
  ·simp only[iW,BR,if_true,if_false]at hq eR;exact hM2 j q U BR eR hq
  ·simp only[iW,BR,if_true,if_false]at hq eR;exact hM2 i q hi iW hq eR
  ·simp only[iW,BR,if_false]at hq eR;exact h.apart i j q hi U ep hq eR
 · exact h.mod.trans' (T:=N k) hm (λi hi hn=>by
   rcases(h.nlt k i hk hn).2.1 with h1|h1;· omega
   · exact h1)
theorem QcV (k:Nat)(hg:QM ops S o=some true)(hd:o.dst=some d)(hn:A' d n=true)(hS:fk d S=S')
  (ho:o.op=.call {callee:=.builtin .append,args:=#[s,x],argTypes:=#[t,t]}) (bs:H[k]? =some (.own e sz R v l)) (hs:dy S s=some v) (hx:dy S x=some (.slice p l2.length cp))
  (Xk:∀F N w,gX C Φ H F N w->∃ys,fD sz (R.p F w) ys l2/\(0<l2.length->∃b off,p=some ⟨b,off,none⟩/\r6 w b off ys))
  (he:gG P t=some e) (hr:j0 P e=some (z,sz,jN)) (tj:d! z.cells.size sz=true) (iR:A' 0 sz=true) (Iw:l.length+l2.length<=9223372036854775807) (Iz:(l.length+l2.length)*jN<=140737488355328) (hH:∀p' U,H.set k (.own e sz R (.slice p' (l++l2).length U) (l++l2))=H2 p' U) (next:∀p' U,WL P C n Q Φ (H2 p' U) ((d,.slice p' (l++l2).length U)::S') ops rest):WL P C n Q Φ H S ops (o::rest):=by
 refine xl hg hd hn hS λa w hf hw=>?_;obtain⟨F,N,hi⟩:=hw;have cj:=(f'.1 bs).1;obtain⟨hN,xs,fU,kY⟩:=hi.owns k _ bs;obtain⟨ys,Fo,a16⟩:=Xk F N w hi;obtain⟨i,lV,hz,kC,hU⟩:=Zs hr
 obtain ⟨v',w',eX,Mg,fP,GV⟩:=Qdb (P:=P) (w:=w) t o.type e i z sz jN (r5 he) lV hz kC hU (y' tj) (l' iR) v l.length xs fU p l2.length cp ys Fo.length a16
  (λu hu=>Fo.all (p:=λu=>u.oneCell'=true) (λcs y hr=>R.one hr) u hu) (by unfold maxLen;exact Iw) Iz
 have hM:Mod (N k) w w':=⟨fP.os,fP.tape,fP.output,fP.size,λj hj hn=>fP.block j hj λe=>hn (hN j e.symm)⟩
 have hF:fX F w w':=λj hj=>hM.block j (hi.flt j hj) (λhn=>(hi.nlt k j cj hn).2.2 hj);have R9:mx 0 e sz (R.p F w') (l++l2) v' w':=⟨xs++ys,by simpa using Mg,(kY.append Fo).mono λcs y _ h=>R.good (λ_ h=>h) hF h⟩
 obtain⟨p',n',U,rfl⟩:=R9.shape;obtain rfl:=R9.len;refine⟨_,w',?_,Φ,_,⟨F,_,hi.set' k cj hM (λq=>(Value.slice p' (l++l2).length U).ownBlock=some q) ?_ (.own e sz R (.slice p' (l++l2).length U) (l++l2)) ⟨λq hq=>hq,R9⟩⟩,by rw[hH];exact next p' U⟩;· simp[execOp,ho,resolve,invoke,builtin,hf.eval hs,hf.eval hx,eX]
 ·intro q hq;rcases GV with h0|h0;· exact .inl (hN q (by rw[<-h0];exact hq))
  ·right;have:=R9.lt q hq;rw[h0]at hq;cases hq;exact⟨k! _,this.2⟩
theorem rW (k j:Nat)(hg:QM ops S o=some true)(hd:o.dst=some d)(hn:A' d n=true)(hS:fk d S=S')
  (ho:o.op=.call {callee:=.builtin .append,args:=#[s,x],argTypes:=#[t,t]}) (bs:H[k]? =some (.own e sz R v l)) (hs:dy S s=some v) (iO:Φ[j]? =some (.sli sz R p cp l2)) (hx:dy S x=some (.slice p l2.length cp))
  (he:gG P t=some e) (hr:j0 P e=some (z,sz,jN)) (tj:d! z.cells.size sz=true) (iR:A' 0 sz=true) (Iw:l.length+l2.length<=9223372036854775807) (Iz:(l.length+l2.length)*jN<=140737488355328) (hH:∀p' U,H.set k (.own e sz R (.slice p' (l++l2).length U) (l++l2))=H2 p' U) (next:∀p' U,WL P C n Q Φ (H2 p' U) ((d,.slice p' (l++l2).length U)::S') ops rest):WL P C n Q Φ H S ops (o::rest):=
 QcV k hg hd hn hS ho bs hs hx (λF N w hi=>by
  obtain⟨p',n',U,xs,e1,_,_,_,kY,fl⟩:=(hi.facts _ (gv iO):xr F w sz (R.p F w) (.slice p l2.length cp) l2)
  cases e1;exact⟨xs,kY,λh=>by obtain⟨b,off,h1,_,h2⟩:=fl h;exact⟨b,off,h1,h2⟩⟩) he hr tj iR Iw Iz hH next
theorem B4 {tb:Nat} (l2:aq α)(k j:Nat)(hg:QM ops S o=some true)(hd:o.dst=some d)(hn:A' d n=true)(hS:fk d S=S')
  (ho:o.op=.call {callee:=.builtin .append,args:=#[s,x],argTypes:=#[t,t]}) (bs:H[k]? =some (.own e sz R v l)) (hs:dy S s=some v) (iO:H[j]? =some (.blk g cs tb)) (hx:dy S x=some (.slice (some ⟨g,0,none⟩) l2.length cp))
  (kY:∀F w,(∀ψ∈Φ,ψ.p F w)->fD sz (R.p F w) cs l2)
  (he:gG P t=some e) (hr:j0 P e=some (z,sz,jN)) (tj:d! z.cells.size sz=true) (iR:A' 0 sz=true) (Iw:l.length+l2.length<=9223372036854775807) (Iz:(l.length+l2.length)*jN<=140737488355328) (hH:∀p' U,H.set k (.own e sz R (.slice p' (l++l2).length U) (l++l2))=H2 p' U) (next:∀p' U,WL P C n Q Φ (H2 p' U) ((d,.slice p' (l++l2).length U)::S') ops rest):WL P C n Q Φ H S ops (o::rest):=
 QcV k hg hd hn hS ho bs hs hx (λF N w hi=>⟨cs,kY F w hi.facts,λ_=>⟨g,0,rfl,Zn (hi.owns j _ iO).2⟩⟩) he hr tj iR Iw Iz hH next
theorem Dy (z:aq bc):∀m,yQ z m=(l! m z).flatten
 |0=>rfl
 |m+1=>by rw[yQ,Dy z m];simp[J!]
theorem pI {α:Type} {sz:Nat} {R:aq bc->α->Prop} {z:aq bc} {x:α} (h:R z x)(U:z.length=sz):∀m,fD sz R (yQ z m) (l! m x)
 |0=>rfl
 |m+1=>⟨z,yQ z m,rfl,U,h,pI h U m⟩
theorem He {β:Type} (f:Nat->β)(sz:Nat)(U:0<sz):∀n,(g! (n*sz)).map (λi=>f (i%sz))=(l! n ((g! sz).map f)).flatten
 |0=>bh
 | n+1=>by
   rw[a!,N!,List.range_add,List.map_append,List.map_map,J!,List.flatten_cons,<-He f sz U n];congr 1;· exact K! λi hi=>by rw[Nat.mod_eq_of_lt (i!.1 hi)]
   · exact K! λi _=>bh
theorem Fy (z:Array bc)(sz n:Nat)(U:z.size=sz)(iR:0<sz):(madeCells z (n*sz)).toList=yQ z.toList n:=by
 rw[Dy];unfold madeCells;subst U
 have h1:(g! z.size).map (λi=>z[i]!)=z.toList:=by
  apply List.ext_getElem;· simp
  ·intro i h1 h2;simp at h1;simp[h1]
 have:=He (λi=>z[i]!) z.size iR n;rw[h1]at this;rw[<-this];simp[Array.toList_map]
theorem Qak {y:bw} {kx ky:IntKind} {ex ey:Int} (R:fc α)(u:α)(hg:QM ops S o=some true)(hd:o.dst=some d)(hn:A' d n=true)(hS:fk d S=S')(ho:o.op=.makeSlice t x y)
  (hx:dy S x=some (.int kx ex)) (hy:dy S y=some (.int ky ey)) (hex:ex=(m:Int)) (hey:ey=(m:Int)) (he:gG P t=some e) (hr:j0 P e=some (z,sz,jN)) (tj:d! z.cells.size sz=true) (iR:A' 0 sz=true)
  (hR:∀F w,R.p F w z.cells.toList u) (Iz:jN*m<=281474976710656) (Iw:m<=9223372036854775807)
  (next:∀g,WL P C n Q Φ (.own e sz R (.slice (some ⟨g,0,none⟩) m m) (l! m u)::H) ((d,.slice (some ⟨g,0,none⟩) m m)::S') ops rest):WL P C n Q Φ H S ops (o::rest):=by
 subst hex;subst hey;refine xl hg hd hn hS λa w hf hw=>?_
 obtain⟨i,lV,hz,kC,hU⟩:=Zs hr;have Ry:=y' tj;have U:=l' iR;subst hU
 have hb:(i.bytes:Int)*(m:Int)<=281474976710656:=by
  have h:((i.bytes*m:Nat):Int)<=281474976710656:=au
  rwa [Int.natCast_mul]at h
 have eX:=run_make (P:=P) (w:=w) t e i z (r5 he) lV hz kx ky (m:Int) (m:Int) au au hb au;simp only[Int.toNat_natCast,kC]at eX;refine⟨_,_,by simp[execOp,ho,hf.eval hx,hf.eval hy,eX];try exact⟨rfl,rfl⟩,Φ,_,((hw.alloc (madeCells z.cells (m*sz)) e).row 0 rfl (R:=R) (l:=l! m u) (sz:=sz) (λF _=>?_) bh Iw rfl),next _⟩;rw[Fy _ sz m Ry U];exact pI (hR F _) (du Ry) m
end lit
end
section
open Go.RowKit
def inI (x:Int):Prop:=-9223372036854775808<=x/\x<=9223372036854775807
def OC (x:V)(_:Unit):aq bc:=[.int .u8 x.k,.int .i64 x.n,.string x.s]
structure Qg where
 id:Int
 ty:Int
 args:List V
structure fK where
 k:Int
 var:Int
 v:V
variable {α:Type}{F:eL}{w:bx}{p:bf α}
theorem lh {sz:Nat} {R:fc α} {p:bf Addr} {c:Nat} {l:aq α} (h:(Fact.sli sz R p c l).p F w)(hp:p=none):l=[]:=by
 obtain⟨p',n',c',xs,e,hn,hc,hm,_,fl⟩:=h;cases e;cases l with
 |nil=>rfl
 |cons x l=>obtain⟨b,off,U,_⟩:=fl bh;rw[hp]at U;cases U
theorem Zg (h:b? p=true):p=none:=by simpa using h
theorem Zd (h:b? p=false):∃a,p=some a:=by cases p<;>simp_all
theorem ask {Φ Φ':aq Fact} (l:aq Nat)(h:QP Φ l=Φ') (eN:∀ψ∈Φ,ψ.p F w):∀φ∈Φ',φ.p F w:=by
 subst h;intro φ U;obtain⟨i,_,hi⟩:=j!.1 U;exact eN φ (c! hi)
theorem Q0 {d:Nat}:∀{S:aq (Nat×bc)},(S.all λx=> !(d! x.1 d))=true->fk d S=S
 |[],_=>rfl
 | (k,v)::r,h=>by
   simp only[List.all_cons,b!,T']at h;unfold fk;rw[h.1,Q0 h.2]
theorem Zq {d:Nat} {S:aq (Nat×bc)} (h:(S.all λx=>!(d! x.1 d))=true:=by rfl):fk d S=S:=Q0 h
theorem j7 {a b:Nat} (h:a+b<=9223372036854775807):Value.int .i64 (IntKind.wrap .i64 ((a:Int)+(b:Int)))=.int .i64 ((a+b:Nat):Int):=by
 rw[show((a+b:Nat):Int)=(a:Int)+b from Int.natCast_add a b,IntWalk.i64_in _ au]
end
section
open Go.RowKit
noncomputable section
def mZ (ops:Array Oper)(o:Oper):aq Nat:=
 (o.op.operands.toList.filterMap λ| .tmp t=>some t|_=>none)++(match o.guard with|some (j,_)=>((ops[j]?).bind (·.dst)).toList|none=>[])
def Ek (ops:Array Oper)(k i:Nat):Bool:=match ops[k]? with
 |some o=>o.after.toList.any λe=>Region.binds .any e&&d! e.on i
 |none=>false
noncomputable def iQ (l:aq Nat)(i:Nat):Bool:=List.rec (motive:=λ_=>Bool) false (λx _ U=>Bool.rec U true (d! i x)) l
theorem JE {i:Nat}:∀{l:aq Nat},iQ l i=true↔i∈l
 |[]=>⟨λh=>(by cases h),λh=>(by cases h)⟩
 | x::l=>by
   show(Bool.rec (motive:=λ_=>Bool) (iQ l i) true (d! i x))=true↔_;rw[r',<-JE (l:=l)];cases h:d! i x with
   |true=>exact⟨λ_=>.inl (y' h),λ_=>rfl⟩
   |false=>exact⟨.inr,λq=>q.resolve_left λe=>by rw[e,P!]at h;cases h⟩
def j2 (ops:Array Oper) (ax:aq Nat):Bool:=
 (g! ops.size).all λi=>match ops[i]? with
  |none=>false
  | some o=>
    (o.after.toList.all λe=>!Region.binds .any e||A' e.on i)&&
    (match o.op with| .select _ _=>false| .defer _=>false|_=>true)&&
    (!iQ ax i||match o.dst with|some d=>!iQ (mZ ops o) d|none=>false)&&
    (g! ops.size).all λj=>d! i j||match ops[j]? with
     |none=>false
     | some U=>match o.dst with
       |none=>true
       | some d=>
         (match U.dst with|some d'=>!Nat.beq d d'|none=>true)&&
         (!iQ (mZ ops U) d||(if iQ ax i then Ek ops j i else(!iQ ax j||Ek ops i j||Ek ops j i)))
def kL (ops:Array Oper)(ax L:aq Nat):aq Nat:=
 (g! ops.size).filter λi=> !iQ L i&&match ops[i]? with
  |some o=>o.after.toList.all λe=>!Region.binds .any e||iQ L e.on
  |none=>false
section draw
variable (P:da) (C:Ctx) (n:FD) (Q:Exit->Act->bx->Prop) (ops:Array Oper) (ax:aq Nat)
def AZ (Φ B:aq Fact)(w:bx):Prop:=(∃F,∀φ∈Φ,φ.p F w)/\∀b∈B,∃N F,b.op N F w
structure a2d (L:List Nat) (D:List (Nat×Fact)) (Φ:List Fact) (av:Act) (i:Nat):Prop where
 ex:∃(o:Oper) (d:Nat) (v:Value) (K2 B:List Fact),ops[i]? =some o/\o.dst=some d/\d<n/\iQ ax i=true/\av.tmps[d]? =some v/\(∀e∈o.after,Region.binds .any e=true->e.on∈L)/\
  (∀φ∈K2,φ∈Φ)/\(∀b∈B,(i,b)∈D)/\
  ∀(a:Act) (w:World),(∀t∈mZ ops o,a.tmps[t]? =av.tmps[t]?)->AZ K2 B w->(Region.wanted o (yielded ops a.tmps)=true/\(execOp a.eval o).run P w=.ok (.value v) w)\/(Region.wanted o (yielded ops a.tmps)=false/\v=undef)
structure wE (L:List Nat) (D:List (Nat×Fact)) (Φ H:List Fact) (S:List (Nat×Value)) (listed:Array Bool) (a av:Act) (w:World):Prop where
 frm:gm n S av
 asize:a.tmps.size=n
 adef:a.defers=n.D
 holds:Ql C Φ H w
 lsize:listed.size=ops.size
 sub:∀i,listed.getD i false=true->i∈L
 inL:∀i∈L,i<ops.size
 agree:∀t,(∀i o,i∈L->listed.getD i false=false->ops[i]? =some o->o.dst≠some t)->a.tmps[t]? =av.tmps[t]?
 owed:∀i∈L,listed.getD i false=false->a2d P n ops ax L D Φ av i
 deps:∀x∈D,listed.getD x.1 false=false->x.2∈H
def WX (L:aq Nat)(D:aq (Nat×Fact))(Φ H:aq Fact)(S:aq (Nat×bc)):Prop:=
 ∀listed a U w,wE P C n ops ax L D Φ H S listed a U w->∀fuel,(listed.toList.filter (! ·)).length<=fuel->wpAny P .any ops Q fuel listed a w
end draw
variable {o:Oper}{i:Nat}{a b:Act}
theorem Q9y {ops:Array Oper} {ax:aq Nat} (h:j2 ops ax=true) (ho:ops[i]? =some o):
  (∀e∈o.after,Region.binds .any e=true->e.on<i)/\(∀cs b,o.op≠.select cs b)/\(∀c,o.op≠.defer c)/\(iQ ax i=true->∀d,o.dst=some d->d∉mZ ops o):=by
 have cj:=(q'.1 ho).1;have:=E'.1 h i (i!.2 cj);simp only[ho,b!,E',v!,T']at this;obtain⟨⟨⟨h1,h2⟩,U⟩,_⟩:=this;refine⟨λe he hb=>?_,λcs b e=>(by rw[e]at h2;cases h2),λc e=>(by rw[e]at h2;cases h2),λhl d hd hm=>?_⟩;rotate_left
 ·rcases U with U|U;· rw[hl]at U;cases U
  ·rw[hd]at U;simp only[T']at U;rw[JE.2 hm]at U;cases U
 rcases h1 e (du he)with h3|h3;· rw[hb]at h3;cases h3
 · exact l' h3
theorem Qbb {ops:Array Oper} {ax:aq Nat} (h:j2 ops ax=true) {j d:Nat} {o':Oper} (ho:ops[i]? =some o)(rA:ops[j]? =some o')(ep:i≠j)(hd:o.dst=some d):
  o'.dst≠some d/\(d∈mZ ops o'->(iQ ax i=true->Ek ops j i=true)/\(iQ ax i=false->iQ ax j=true->Ek ops i j=true\/Ek ops j i=true)):=by
 have cj:=(q'.1 ho).1;have uJ:=(q'.1 rA).1;have h1:=E'.1 h i (i!.2 cj);simp only[ho,b!]at h1;have h2:=E'.1 h1.2 j (i!.2 uJ)
 have hnb:d! i j=false:=by
  cases hb:d! i j with
  |true=>exact absurd (y' hb) ep
  |false=>rfl
 simp only[rA,hd,hnb,d?,b!,v!,T']at h2;obtain⟨h3,U⟩:=h2;refine⟨λe=>?_,λhr=>?_⟩;· rw[e]at h3;simp at h3
 ·rcases U with U|U;· rw[JE.2 hr]at U;cases U
  ·refine⟨λhl=>by rw[if_pos hl]at U;exact U,λhl hj=>?_⟩;rw[if_neg (by rw[hl];simp)]at U;simp only[v!,T']at U;rcases U with(U|U)|U;· rw[hj]at U;cases U
   · exact .inl U
   · exact .inr U
theorem Zl {ops:Array Oper} {k:Nat} (ho:ops[k]? =some o)(h:Ek ops k i=true):∃e∈o.after,Region.binds .any e=true/\e.on=i:=by
 simp only[Ek,ho,List.any_eq_true,b!]at h;obtain⟨e,he,h1,U⟩:=h;exact⟨e,by simpa using he,h1,y' U⟩
theorem uo {ops:Array Oper} (h:∀t∈mZ ops o,a.tmps[t]? =b.tmps[t]?):∀x∈o.op.operands,a.eval x=b.eval x:=by
 intro x U;cases x with
 | tmp t=>
   have:t∈mZ ops o:=I! _ (j!.2 ⟨.tmp t,by simpa using U,rfl⟩);simp only[Act.eval,e!,h t this]
 |const c=>rfl
 |global g=>rfl
 |func f=>rfl
theorem QcC {ops:Array Oper} (h:∀t∈mZ ops o,a.tmps[t]? =b.tmps[t]?):Region.wanted o (yielded ops a.tmps)=Region.wanted o (yielded ops b.tmps):=by
 unfold Region.wanted;rcases hg:o.guard with _|⟨j,want⟩
 · rfl
 ·simp only[yielded];rcases U:(ops[j]?).bind (·.dst)with _|d;· rfl
  ·have:d∈mZ ops o:=by
    refine q! _ ?_;simp[hg,U]
   simp only[S!,h d this]
section count
variable {listed:Array Bool}{i:Nat}
theorem EM:∀(l:aq Bool)(i:Nat)(h:i<l.length),l[i]=false->((l.set i true).filter (! ·)).length+1=(l.filter (! ·)).length:=by
 intro l;induction l with
 |nil=>intro i h;simp at h
 | cons b l ih=>
   intro i h U;cases i with
   |zero=>simp at U;subst U;simp
   | succ i=>
     have:=ih i (du h) (du U);cases b<;>simp[List.filter_cons]<;>omega
theorem nV (hi:i<listed.size)(h:listed.getD i false=false):((listed.setIfInBounds i true).toList.filter (! ·)).length+1=(listed.toList.filter (! ·)).length:=by
 have U:listed[i]=false:=by simpa[hi]using h
 have:=EM listed.toList i (du hi) (du U);simpa using this
theorem Oh {j:Nat} (hi:i<listed.size):(listed.setIfInBounds i true).getD j false=if j=i then true else listed.getD j false:=by
 by_cases h:j=i;· subst h;simp[hi]
 ·rw[if_neg h];simp[e!,u' (Ne.symm h)]
end count
section core
variable {P:da} {C:Ctx} {n:FD} {Q:Exit->Act->bx->Prop} {ops:Array Oper} {ax L:aq Nat} {D:aq (Nat×Fact)} {Φ H:aq Fact} {S:aq (Nat×bc)}
variable {listed:Array Bool}{S':aq (Nat×bc)}{w:bx}{k d:Nat}
theorem vn (dh:j2 ops ax=true) (hs:listed.size=ops.size)(h:Region.ready .any ops listed=[]):∀i,i<ops.size->listed.getD i false=true:=by
 intro i;induction i using W! with
 | _ i ih=>
   intro hi;cases hb:listed.getD i false with
   |true=>rfl
   | false=>
     have U:ops[i]? =some ops[i]:=Array.getElem?_eq_getElem hi
     have hm:i∈Region.ready .any ops listed:=mem_ready.2 ⟨by simpa[hs,hi]using hb,_,U,λe he WV=>by
      have:=(Q9y dh U).1 e he WV;exact ih e.on this (Nat.lt_trans this hi)⟩
     rw[h]at hm;cases hm
theorem J6 (dh:j2 ops ax=true) {a av:Act} (U:wE P C n ops ax L D Φ H S listed a av w) {i:Nat} (hi:i∈L)(hu:listed.getD i false=false) {o:Oper} (ho:ops[i]? =some o)
  (gh:∀e∈o.after,Region.binds .any e=true->listed.getD e.on false=true) {K:Act->bx->Prop} (hK:∀a',wE P C n ops ax L D Φ H S (listed.setIfInBounds i true) a' av w->K a' w):wpOp P ops Q i K a w:=by
 obtain⟨o',d,v,K2,B,rA,hd,rz,cj,hv,BQ,eN,hB,F7⟩:=(U.owed i hi hu).ex;rw[ho]at rA;cases rA;have AR:i<listed.size:=by rw[U.lsize];exact U.inL i hi
 have IL:∀t∈mZ ops o,a.tmps[t]? =av.tmps[t]?:=λt ht=>U.agree t λj oj hj oh uL xU=>by
  by_cases DW:j=i
  ·subst DW;rw[ho]at uL;cases uL;exact(Q9y dh ho).2.2.2 cj t xU ht
  ·obtain⟨_,_,_,_,_,_,_,_,OJ,_⟩:=(U.owed j hj oh).ex;have:=((Qbb dh uL ho DW xU).2 ht).1 OJ;obtain⟨e,he,hb,rfl⟩:=Zl ho this;rw[gh e he hb]at oh;cases oh
 have zF:AZ K2 B w:=by
  obtain⟨F,N,hm⟩:=U.holds;refine⟨⟨F,λφ bs=>hm.facts φ (eN φ bs)⟩,λb hb=>?_⟩;have:=U.deps _ (hB b hb) hu;obtain⟨k,hk⟩:=List.getElem?_of_mem this;exact⟨N k,F,hm.owns k b hk⟩
 have IJ:wE P C n ops ax L D Φ H S (listed.setIfInBounds i true) (a.put (some d) v) av w:=by
  refine⟨U.frm,by simp[Act.put,U.asize],U.adef,U.holds,by simpa using U.lsize,λj hj=>?_,U.inL,λt ht=>?_,λj hj oh=>?_,λx hx JY=>?_⟩
  ·rw[Oh AR]at hj;split at hj;· rename_i e;rw[e];exact hi
   · exact U.sub j hj
  ·by_cases OK:t=d
   ·subst OK;simp only[Act.put];rw[h!];simp[U.asize,rz,hv]
   ·simp only[Act.put];rw[u' (Ne.symm OK)];refine U.agree t λj oj hj oh uL xU=>?_
    by_cases DW:j=i;· subst DW;rw[ho]at uL;cases uL;rw[hd]at xU;cases xU;exact OK rfl
    · exact ht j oj hj (by rw[Oh AR,if_neg DW];exact oh) uL xU
  ·rw[Oh AR]at oh;split at oh;· cases oh
   · exact U.owed j hj oh
  ·rw[Oh AR]at JY;split at JY;· cases JY
   · exact U.deps x hx JY
 unfold wpOp;simp only[ho];rcases F7 a w IL zF with⟨h1,h2⟩|⟨h1,h2⟩
 ·rw[if_pos h1];left;unfold Oper.wp;rw[h2,Oper.upon_value,hd];exact hK _ IJ
 ·rw[if_neg (by rw[h1];simp),hd,<-h2];exact hK _ IJ
theorem HQ (dh:j2 ops ax=true)
   (gC:∀i o listed a av w,ops[i]? =some o->i∉L->(∀e∈o.after,Region.binds .any e=true->listed.getD e.on false=true)->wE P C n ops ax L D Φ H S listed a av w->
    wpOp P ops Q i (λa' w'=>∀fuel,((listed.setIfInBounds i true).toList.filter (! ·)).length<=fuel->wpAny P .any ops Q fuel (listed.setIfInBounds i true) a' w') a w)
   (TI:(∀i,i<ops.size->i∈L)->WE C n Q Φ H S .normal):WX P C n Q ops ax L D Φ H S:=by
 intro listed a av w U fuel;induction fuel generalizing listed a with
 | zero=>
   intro hf
   have eZ:Region.ready .any ops listed=[]:=by
    refine List.eq_nil_iff_forall_not_mem.2 λi hi=>?_;have h1:=(mem_ready.1 hi).1;obtain⟨o,ho,_⟩:=(mem_ready.1 hi).2;have cj:i<listed.size:=by rw[U.lsize];exact(q'.1 ho).1
    have:=nV cj (by simpa[cj]using h1);omega
   refine⟨eZ,?_⟩;have hl:=vn dh U.lsize eZ
   have ha:a.tmps=av.tmps:=by
    apply M!;intro t;exact U.agree t λi o hi hu _=>by rw[hl i (U.inL i hi)]at hu;cases hu
   have:a=av:=by
    rcases a with⟨at_,ad⟩;rcases av with⟨bt,bd⟩;have h1:=U.adef;have h2:=U.frm.defers;simp only at ha h1 h2;rw[ha,h1,h2]
   rw[this];exact TI (λi hi=>U.sub i (hl i hi)) av w U.frm U.holds
 | succ fuel ih=>
   intro hf;refine⟨λeZ=>?_,λi hi=>?_⟩
   ·have hl:=vn dh U.lsize eZ
    have ha:a.tmps=av.tmps:=by
     apply M!;intro t;exact U.agree t λi o hi hu _=>by rw[hl i (U.inL i hi)]at hu;cases hu
    have:a=av:=by
     rcases a with⟨at_,ad⟩;rcases av with⟨bt,bd⟩;have h1:=U.adef;have h2:=U.frm.defers;simp only at ha h1 h2;rw[ha,h1,h2]
    rw[this];exact TI (λi hi=>U.sub i (hl i hi)) av w U.frm U.holds
   ·obtain⟨h1,o,ho,gh⟩:=mem_ready.1 hi;have cj:i<listed.size:=by rw[U.lsize];exact(q'.1 ho).1
    have hu:listed.getD i false=false:=by simpa[cj]using h1
    have a2B:=nV cj hu;by_cases hL:i∈L;· exact J6 dh U hL hu ho gh λa' ei=>ih _ a' ei au
    · exact wpOp_mono (λa' w' h=>h fuel au) (gC i o listed a av w ho hL gh U)
def QX (P:da)(C:Ctx)(n:FD)(Q:Exit->Act->bx->Prop)(ops:Array Oper)(ax L:aq Nat)(D:aq (Nat×Fact))(Φ:aq Fact)(k:Nat):Exit->Act->bx->Prop
 | .normal,a,w=>∃Φ' H' S',gm n S' a/\Ql C Φ' H' w/\(∀φ∈Φ,φ∈Φ')/\(∀x∈D,Ek ops k x.1=false->x.2∈H')/\WX P C n Q ops ax (k::L) D Φ' H' S'
 |_,_,_=>False
def yd (ops:Array Oper)(k:Nat):aq (Nat×Fact)->aq Fact
 |[]=>[]
 | (i,b)::r=>match Ek ops k i with
   |true=>yd ops k r
   |false=>b::yd ops k r
theorem qs {k:Nat}:∀{D:aq (Nat×Fact)} {x:Nat×Fact},x∈D->Ek ops k x.1=false->x.2∈yd ops k D
 | (i,b)::r,x,U,hp=>by
   unfold yd;rcases r'.1 U with rfl|U;· simp only at hp;rw[hp];simp
   ·split;· exact qs U hp
    · exact t' _ (qs U hp)
theorem gB {Φ' H':aq Fact} (l m:aq Nat)(eN:QP Φ' l=Φ)(hD:QP H' m=yd ops k D)(next:WX P C n Q ops ax (k::L) D Φ' H' S'):WE C n (QX P C n Q ops ax L D Φ k) Φ' H' S' .normal:=by
 intro a w hf hw;refine⟨Φ',H',S',hf,hw,λφ U=>?_,λx hx hp=>?_,next⟩
 ·rw[<-eN]at U;obtain⟨i,_,hi⟩:=j!.1 U;exact c! hi
 ·have:=qs hx hp;rw[<-hD]at this;obtain⟨i,_,hi⟩:=j!.1 this;exact c! hi
theorem Oper.wp_put {o:Oper} {a b:Act} {w:bx} {K K':Act->bx->Prop} {Q' Q'':Exit->Act->bx->Prop} (hs:∀cs b,o.op≠.select cs b)(DT:∀x∈o.op.operands,a.eval x=b.eval x)
   (a2C:∀d v U,¬K ({b with defers:=d::b.defers}.put o.dst v) U) (hK:∀v U,K (b.put o.dst v) U->K' (a.put o.dst v) U) (Fe:∀e b U,e≠.normal->¬Q' e b U) (h:o.wp P b w K Q'):o.wp P a w K' Q'':=by
 unfold Oper.wp at*;rw[execOp_congr o hs DT];generalize (execOp b.eval o).run P w=r at*;cases r with
 | ok nx U=>
   cases nx<;>simp only[Oper.upon]at h⊢
   all_goals first
    |exact hK _ _ h
    |exact h
    |exact absurd h (a2C _ _ _)
    |exact Calls.mono h (λe w'' he=>by
     cases e with
     |returned v=>exact hK _ _ he
     |panicked ch=>exact absurd he (Fe _ _ _ bh)
     |outgrown=>obtain⟨_,_,he⟩:=he;exact absurd he (Fe _ _ _ bh))
    |exact Rows.mono h (λ_ _ he=>hK _ _ he)
 |halt x U=>cases x<;>simp only[Oper.upon]at h⊢<;>first|exact h|exact absurd h (Fe _ _ _ bh)
theorem Act.put_defers {a:Act} {dst:bf Nat} {v:bc}:(a.put dst v).defers=a.defers:=by cases dst<;>rfl
theorem Act.put_size {a:Act} {dst:bf Nat} {v:bc}:(a.put dst v).tmps.size=a.tmps.size:=by cases dst<;>simp[Act.put]
theorem met (dh:j2 ops ax=true) {o:Oper} (ho:ops[k]? =some o)(hk:k∉L)(Rp:iQ ax k=false)(h:WL P C n (QX P C n Q ops ax L D Φ k) Φ H S ops [o]) {a av:Act} (gh:∀e∈o.after,Region.binds .any e=true->listed.getD e.on false=true) (U:wE P C n ops ax L D Φ H S listed a av w):
  wpOp P ops Q k (λa' w'=>∀fuel,((listed.setIfInBounds k true).toList.filter (! ·)).length<=fuel->wpAny P .any ops Q fuel (listed.setIfInBounds k true) a' w') a w:=by
 have kZ:k<listed.size:=by rw[U.lsize];exact(q'.1 ho).1
 have hku:listed.getD k false=false:=by
  cases hb:listed.getD k false with
  |false=>rfl
  |true=>exact absurd (U.sub k hb) hk
 have IL:∀t∈mZ ops o,a.tmps[t]? =av.tmps[t]?:=λt ht=>U.agree t λj oj hj oh uL xU=>by
  have DW:j≠k:=λe=>hk (e▸hj);obtain⟨_,_,_,_,_,_,_,_,OJ,_⟩:=(U.owed j hj oh).ex;have:=((Qbb dh uL ho DW xU).2 ht).1 OJ;obtain⟨e,he,hb,rfl⟩:=Zl ho this;rw[gh e he hb]at oh;cases oh
 have key:∀v w',(∃Φ' H' S',gm n S' (av.put o.dst v)/\Ql C Φ' H' w'/\(∀φ∈Φ,φ∈Φ')/\(∀x∈D,Ek ops k x.1=false->x.2∈H')/\WX P C n Q ops ax (k::L) D Φ' H' S')->
   ∀fuel,((listed.setIfInBounds k true).toList.filter (! ·)).length<=fuel->wpAny P .any ops Q fuel (listed.setIfInBounds k true) (a.put o.dst v) w':=by
  rintro v w' ⟨Φ',H',S',hf',jC,Mm,hD',hx⟩;refine hx _ _ (av.put o.dst v) w' ⟨hf',by rw[Act.put_size];exact U.asize,by rw[Act.put_defers];exact U.adef,jC,by simpa using U.lsize,λj hj=>?_,λj hj=>?_,λt ht=>?_,λj hj oh=>?_,λx nH JY=>?_⟩
  ·rw[Oh kZ]at hj;split at hj;· rename_i e;rw[e];simp
   · exact t' _ (U.sub j hj)
  ·rcases r'.1 hj with rfl|hj;· rw[<-U.lsize];exact kZ
   · exact U.inL j hj
  ·have gQ:a.tmps[t]? =av.tmps[t]? \/o.dst=some t:=by
     by_cases hd:o.dst=some t;· exact .inr hd
     · refine .inl (U.agree t λj oj hj oh uL xU=>ht j oj (t' _ hj) ?_ uL xU);rw[Oh kZ,if_neg (λ(e:j=k)=>hk (e▸hj))];exact oh
   cases hd:o.dst with
   | none=>
     rcases gQ with h0|h0;· exact h0
     · rw[hd]at h0;cases h0
   | some d=>
     simp only[Act.put];by_cases OK:t=d
     · subst OK;have h1:=U.asize;have h2:=U.frm.size;by_cases cj:t<n;· rw[h!,h!];simp[h1,h2,cj]
       · simp[Array.getElem?_eq_none,h1,h2,Nat.not_lt.1 cj]
     · rw[u' (Ne.symm OK),u' (Ne.symm OK)];rcases gQ with h0|h0;· exact h0
       · rw[hd]at h0;cases h0;exact absurd rfl OK
  ·have BR:j≠k:=λe=>by subst e;rw[Oh kZ,if_pos rfl]at oh;cases oh
   rw[Oh kZ,if_neg BR]at oh;have hjL:j∈L:=(r'.1 hj).resolve_left BR;obtain⟨oj,d,vj,K2,B,uL,xU,rz,OJ,hvj,BQ,Mn,hB,F7⟩:=(U.owed j hjL oh).ex
   have Xe:∀t,(o.dst=some t->t≠d/\t∉mZ ops oj):=by
     intro t ht;obtain⟨p1,p2⟩:=Qbb dh ho uL (Ne.symm BR) ht;refine⟨λe=>p1 (by rw[e];exact xU),λhm=>?_⟩;rcases(p2 hm).2 Rp OJ with h0|h0
     · obtain⟨e,he,hb,rfl⟩:=Zl ho h0;rw[gh e he hb]at oh;cases oh
     · obtain⟨e,he,hb,rfl⟩:=Zl uL h0;exact hk (BQ e he hb)
   have iX:∀t,(t=d\/t∈mZ ops oj)->(av.put o.dst v).tmps[t]? =av.tmps[t]?:=by
     intro t ht;cases hd:o.dst with
     |none=>rfl
     | some d'=>
       obtain⟨q1,q2⟩:=Xe d' hd;simp only[Act.put];rw[u'];rintro rfl;rcases ht with ht|ht;· exact q1 ht
       · exact q2 ht
   exact ⟨oj,d,vj,K2,B,uL,xU,rz,OJ,(iX d (.inl rfl)).trans hvj,λe he hb=>t' _ (BQ e he hb),λφ bs=>Mm φ (Mn φ bs),hB,
     λa' w'' F2 zF=>F7 a' w'' (λt ht=>(F2 t ht).trans (iX t (.inr ht))) zF⟩
  ·have ep:x.1≠k:=λe=>by rw[Oh kZ,if_pos e]at JY;cases JY
   rw[Oh kZ,if_neg ep]at JY;refine hD' x nH ?_;cases hb:Ek ops k x.1 with
   |false=>rfl
   | true=>
     obtain⟨e,he,lU,heq⟩:=Zl ho hb;rw[<-heq,gh e he lU]at JY;cases JY
 unfold wpOp;simp only[ho];have TU:=h av w U.frm U.holds;unfold wpList at TU;rw[QcC IL];have TG:∀v w',wpList P ops (QX P C n Q ops ax L D Φ k) [] (av.put o.dst v) w'->∀fuel,((listed.setIfInBounds k true).toList.filter (! ·)).length<=fuel->wpAny P .any ops Q fuel (listed.setIfInBounds k true) (a.put o.dst v) w':=λv w' h=>key v w' h
 split
 ·rename_i uO;rw[if_pos uO]at TU;left;rcases TU with TU|⟨_,_,_,hf⟩
  ·refine Oper.wp_put (Q9y dh ho).2.1 (uo IL) (λd v w' hh=>?_) TG (λe b w' ep hq=>?_) TU
   · obtain⟨Φ',H',S',hf',_⟩:=(hh:QX P C n Q ops ax L D Φ k .normal _ _)
     have h3:=congrArg List.length (hf'.defers);rw[Act.put_defers,<-U.frm.defers]at h3;simp at h3
   · cases e<;>first|exact ep rfl|exact hq
  · exact hf.elim
 ·rename_i uO;rw[if_neg uO]at TU;exact TG _ _ TU
theorem Qz (U:j2 ops ax=true)(eZ:(g! ops.size).all (iQ L)=true)(h:WE C n Q Φ H S .normal):WX P C n Q ops ax L D Φ H S:=
 HQ U (λi o listed a av w ho hi _ _=>absurd (JE.1 (E'.1 eZ i (i!.2 (q'.1 ho).1))) hi) (λ_=>h)
theorem tG (dh:j2 ops ax=true)(l:aq Nat)(hl:kL ops ax L=l)(Rp:l.all (λk=> !iQ ax k)=true)(ep:(g! ops.size).all (iQ L)=false)
  (h:∀k∈l,∀o,ops[k]? =some o->WL P C n (QX P C n Q ops ax L D Φ k) Φ H S ops [o]):WX P C n Q ops ax L D Φ H S:=
 HQ dh (λi o listed a av w U hi gh hr=>by
  have hm:i∈l:=by
   rw[<-hl];refine List.mem_filter.2 ⟨i!.2 (q'.1 U).1,?_⟩
   have h1:iQ L i=false:=by
    cases hb:iQ L i with
    |false=>rfl
    |true=>exact absurd (JE.1 hb) hi
   simp only[h1,U,Bool.not_false,Bool.true_and,E',v!,T'];intro e he;cases hb:Region.binds .any e with
   |false=>exact .inl rfl
   |true=>exact .inr (JE.2 (hr.sub _ (gh e (du he) hb)))
  have hn:iQ ax i=false:=by
   have:=E'.1 Rp i hm;simpa using this
  exact met dh U hi hn (h i hm o U) gh hr) (λeZ=>by
  have:(g! ops.size).all (iQ L)=true:=E'.2 λi hi=>JE.2 (eZ i (i!.1 hi));rw[this]at ep;cases ep)
theorem O7 (dh:j2 ops ax=true)(k:Nat) {o:Oper} (hl:kL ops ax L=[k])(Rp:iQ ax k=false)(ep:(g! ops.size).all (iQ L)=false)(ho:ops[k]? =some o)
  (h:WL P C n (QX P C n Q ops ax L D Φ k) Φ H S ops [o]):WX P C n Q ops ax L D Φ H S:=
 tG dh [k] hl (by simp[Rp]) ep λk' U o' rA=>by
  simp only[List.mem_singleton]at U;subst U;rw[ho]at rA;cases rA;exact h
theorem rX (dh:j2 ops ax=true)(k j:Nat) {o p:Oper} (hl:kL ops ax L=[k,j])(Rp:iQ ax k=false)(Xd:iQ ax j=false)(ep:(g! ops.size).all (iQ L)=false)(ho:ops[k]? =some o)(hp:ops[j]? =some p)
  (h:WL P C n (QX P C n Q ops ax L D Φ k) Φ H S ops [o]) (h':WL P C n (QX P C n Q ops ax L D Φ j) Φ H S ops [p]):WX P C n Q ops ax L D Φ H S:=
 tG dh [k,j] hl (by simp[Rp,Xd]) ep λk' eO o' U=>by
  simp only[r',T!,or_false]at eO;rcases eO with rfl|rfl;· rw[ho]at U;cases U;exact h
  · rw[hp]at U;cases U;exact h'
theorem Dw (dh:j2 ops ax=true)(k j i:Nat) {o p q:Oper} (hl:kL ops ax L=[k,j,i])(Rp:iQ ax k=false)(Xd:iQ ax j=false)(a34:iQ ax i=false)(ep:(g! ops.size).all (iQ L)=false)(ho:ops[k]? =some o)(hp:ops[j]? =some p)(hq:ops[i]? =some q)
  (h:WL P C n (QX P C n Q ops ax L D Φ k) Φ H S ops [o]) (h':WL P C n (QX P C n Q ops ax L D Φ j) Φ H S ops [p]) (h2:WL P C n (QX P C n Q ops ax L D Φ i) Φ H S ops [q]):WX P C n Q ops ax L D Φ H S:=
 tG dh [k,j,i] hl (by simp[Rp,Xd,a34]) ep λk' eO o' U=>by
  simp only[r',T!,or_false]at eO;rcases eO with rfl|rfl|rfl;· rw[ho]at U;cases U;exact h
  · rw[hp]at U;cases U;exact h'
  · rw[hq]at U;cases U;exact h2
theorem Du (dh:j2 ops ax=true)(i:Nat) {o:Oper} {v:bc} (B:aq Fact)(m:aq Nat)(hi:ops[i]? =some o)(hli:iQ ax i=true)(hL:iQ L i=false)(gh:(o.after.toList.all λe=> !Region.binds .any e||iQ L e.on)=true)
  (hd:o.dst=some d) (rz:A' d n=true) (hS:fk d S=S') (hB:QP H m=B)
  (det:(QM ops S o=some true/\∀a w,gm n S a->AZ Φ B w->(execOp a.eval o).run P w=.ok (.value v) w)\/(QM ops S o=some false/\v=undef))
  (next:WX P C n Q ops ax (i::L) (B.map (λb=>(i,b))++D) Φ H ((d,v)::S')):WX P C n Q ops ax L D Φ H S:=by
 intro listed a av w hr;have hiL:i∉L:=λh=>by rw[JE.2 h]at hL;cases hL
 have hio:i<ops.size:=(q'.1 hi).1;have WZ:d<n:=l' rz
 have BQ:∀e∈o.after,Region.binds .any e=true->e.on∈L:=λe he U=>by
  have:=E'.1 gh e (du he);simp only[U,Bool.not_true,d?]at this;exact JE.1 this
 have iX:∀t,t≠d->(av.put (some d) v).tmps[t]? =av.tmps[t]?:=λt ht=>by
  simp only[Act.put];rw[u' (Ne.symm ht)]
 have hB':∀b∈B,b∈H:=λb U=>by
  rw[<-hB]at U;obtain⟨q,_,hq⟩:=j!.1 U;exact c! hq
 refine next listed a (av.put (some d) v) w ⟨hr.frm.put WZ hS,hr.asize,hr.adef,hr.holds,hr.lsize,λj hj=>t' _ (hr.sub j hj),λj hj=>?_,λt ht=>?_,λj hj oh=>?_,λx hx JY=>?_⟩
 ·rcases r'.1 hj with rfl|hj;· exact hio
  · exact hr.inL j hj
 ·have OK:t≠d:=λe=>by
   subst e
   have hu:listed.getD i false=false:=by
    cases U:listed.getD i false with
    |false=>rfl
    |true=>exact absurd (hr.sub i U) hiL
   exact ht i o bh hu hi hd
  rw[iX t OK];exact hr.agree t λj oj hj oh uL xU=>ht j oj (t' _ hj) oh uL xU
 ·rcases r'.1 hj with rfl|hj
  ·refine ⟨o,d,v,Φ,B,hi,hd,WZ,hli,?_,λe he U=>t' _ (BQ e he U),λ_ h=>h,λb U=>I! _ (i?.2 ⟨b,U,rfl⟩),λa' w' F2 zF=>?_⟩;· simp[Act.put,hr.frm.size,WZ]
   ·have IL:∀t∈mZ ops o,a'.tmps[t]? =av.tmps[t]?:=λt ht=>(F2 t ht).trans (iX t λe=>by
     subst e;exact(Q9y dh hi).2.2.2 hli t hd ht)
    rcases det with⟨h1,h2⟩|⟨h1,h2⟩
    ·left;rw[QcC IL];refine⟨Ef hr.frm h1,?_⟩;rw[execOp_congr o (Q9y dh hi).2.1 (uo IL)];exact h2 av w' hr.frm zF
    ·right;rw[QcC IL];exact⟨Ef hr.frm h1,h2⟩
  ·obtain⟨oj,dj,vj,K2,Bj,uL,xU,X0,OJ,hvj,wL,Mn,hBj,F7⟩:=(hr.owed j hj oh).ex;have DW:i≠j:=λe=>hiL (e▸hj);obtain⟨p1,p2⟩:=Qbb dh hi uL DW hd;have hdd:dj≠d:=λe=>p1 (by rw[<-e];exact xU);refine⟨oj,dj,vj,K2,Bj,uL,xU,X0,OJ,(iX dj hdd).trans hvj,λe he U=>t' _ (wL e he U),Mn,λb U=>q! _ (hBj b U),λa' w' F2 zF=>?_⟩;refine F7 a' w' (λt ht=>(F2 t ht).trans (iX t λe=>?_)) zF;subst e;obtain⟨e,he,U,heq⟩:=Zl uL ((p2 ht).1 hli);exact hiL (heq▸wL e he U)
 ·rcases n!.1 hx with hx|hx
  ·obtain⟨b,U,rfl⟩:=i?.1 hx;exact hB' b U
  · exact hr.deps x hx JY
theorem wE.more {listed:Array Bool} {a av:Act} {w:bx} {Φ':aq Fact} (U:wE P C n ops ax L D Φ H S listed a av w)(iY:∀φ∈Φ,φ∈Φ')(hw:Ql C Φ' H w):wE P C n ops ax L D Φ' H S listed a av w:=
 ⟨U.frm,U.asize,U.adef,hw,U.lsize,U.sub,U.inL,U.agree,λj hj oh=>by
  obtain⟨oj,dj,vj,K2,Bj,uL,xU,X0,OJ,hvj,wL,Mn,hBj,F7⟩:=(U.owed j hj oh).ex;exact⟨oj,dj,vj,K2,Bj,uL,xU,X0,OJ,hvj,wL,λφ bs=>iY φ (Mn φ bs),hBj,F7⟩,U.deps⟩
theorem HR {Λ:Type} {pure:Λ->Prop} {facts:Λ->aq Fact} (kd:∀F w,(∀ψ∈Φ,ψ.p F w)->∃r:Λ,pure r/\∀φ∈facts r,φ.p F w)(next:∀r,pure r->WX P C n Q ops ax L D (facts r++Φ) H S):WX P C n Q ops ax L D Φ H S:=λlisted a av w U=>by
 obtain⟨r,h1,h2⟩:=ym U.holds λF=>kd F w;exact next r h1 listed a av w (U.more (λφ bs=>q! _ bs) h2)
theorem ZG {t:Bool} (hx:look S d=some (.bool t))(hS:fk d S=S')(ht:t=true->WX P C n Q ops ax L D Φ H ((d,.bool true)::S'))(hf:t=false->WX P C n Q ops ax L D Φ H ((d,.bool false)::S')):WX P C n Q ops ax L D Φ H S:=by
 subst hS;intro listed a U w hr
 have h1:∀b,t=b->gm n ((d,.bool b)::fk d S) U:=λb hb=>hr.frm.sub λx nH=>by
  rcases r'.1 nH with rfl|nH;· rw[<-hb];exact Oi hx
  · exact(T4 nH).1
 have h2:∀Vd,gm n Vd U->wE P C n ops ax L D Φ H Vd listed a U w:=λVd hf=>{hr with frm:=hf}
 cases t;· exact hf rfl listed a U w (h2 _ (h1 _ rfl))
 · exact ht rfl listed a U w (h2 _ (h1 _ rfl))
theorem Ql.drew' {w U:bx} (h:Ql C Φ H w)(hb:Below w.heap.size w U):Ql C Φ H U:=by
 obtain⟨F,N,hi⟩:=h;exact⟨F,N,hi.grow hb⟩
theorem QE {id:Nat} {l:aq Oper} (ax:aq Nat)(hm:P.follows .mixedOrders=true)(dh:j2 l.toArray ax=true)(h':j2 l.toArray ax=true->WX P C n Q l.toArray ax [] [] Φ H S):WC P C n Q Φ H S (.region id l.toArray true):=by
 intro a w U hw;have h:=h' dh;refine wp_region_any hm (h (X! l.toArray.size false) a a {w with drawn:=w.drawn+1} ⟨U,U.size,U.defers,hw.drew' ⟨rfl,rfl,rfl,k! _,λ_ _=>rfl⟩,bh,λi hi=>?_,bh,λt _=>rfl,bh,bh⟩ _ ?_)
 ·have:(X! l.toArray.size false).getD i false=false:=by
   simp only[e!,Array.getElem?_replicate];split<;>rfl
  rw[this]at hi;cases hi
 ·have:∀m:Nat,((l! m false).filter (! ·)).length<=m:=λm=>bh
  simp
end core
end
end
end Go.Proofs.YtocfkfhdcnjklaaGreatDoor
