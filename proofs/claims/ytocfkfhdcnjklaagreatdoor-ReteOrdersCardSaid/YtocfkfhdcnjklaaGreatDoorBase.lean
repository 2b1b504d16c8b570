import Derived.KernelRfl
import Derived.WalkKit
import Derived.WalkSpells
import Derived.WalkLawsBesides
import Derived.Deep.QuietTactic
import Derived.BigQuiet
import Derived.Lib.Hide
import Derived.Deep.RegionHeld3
import Derived.StillTailTactics
import Derived.Deep.DeepCutAuto
import Derived.Deep.MidRow
import Derived.Maps.AppendAt
import Derived.IntWalk
open List renaming getElem?_eq_some_iff->f',mem_cons_of_mem->r',mem_cons->t',all_eq_true->C',getElem?_eq_getElem->E',mem_of_getElem?->I',range->T',mem_range->U',mem_filterMap->V',replicate->X',mem_append->Y',length_set->Z',mem_append_right->b!,getElem_mem->c!,eq_nil_of_length_eq_zero->e!,toList_toArray->h!,length_append->j!,getElem?_append_right->k!,getElem?_take->l!,getElem?_drop->n!,getElem?_append_left->o!,map_toArray->q!,getElem?_set_self->r!,getElem?_set_ne->t!,mem_append_left->u!,replicate_succ->v!,map_congr_left->w!,append_assoc->A!,nodup_append->C!,length_cons->D!,getD->M!,mem_map->O!
open Nat renaming le_of_ble_eq_true->l',eq_of_beq_eq_true->y',lt_of_lt_of_le->z',blt->A',beq->J',succ_mul->P',le_refl->W',le_trans->a!,mul_le_mul_right->d!,zero_add->i!,add_assoc->p!,eq_zero_or_pos->x!,add_comm->z!,beq_refl->B!,strongRecOn->G!,ble->I!,lt_irrefl->J!,zero_mul->N!,zero_le->P!
open Array renaming getElem?_eq_some_iff->q',getElem?_setIfInBounds_ne->u',getD_eq_getD_getElem?->L',getElem?_setIfInBounds_self->O',ext_getElem?->y!,range->F!,replicate->H!
open Bool renaming not_eq_true'->D',and_eq_true->G',or_eq_true->g!,false_or->L!
open Option renaming bind_some->E!,isNone->K!
namespace Go.Proofs.YtocfkfhdcnjklaaGreatDoor
section
variable {p:Prop}
theorem an(h:p:=by omega):p:=h
theorem aq(h:p:=by kernel_rfl):p:=h
theorem bf(h:p:=by decide):p:=h
theorem ax(h:p:=by simp):p:=h
theorem Kk(h:p:=by rfl):p:=h
theorem bq.{u}{c:Prop}{d:Decidable c}{α:Sort u}{a b:α}{p:Prop}(h:p)(e:p->c:=by intro h;simpa using h):(if c then a else b)=a:=if_pos (e h)
theorem br.{u}{c:Prop}{d:Decidable c}{α:Sort u}{a b:α}{p:Prop}(h:p)(e:p->¬c:=by intro h;simpa using h):(if c then a else b)=b:=if_neg (e h)
theorem cx{c:Prop}(h:p)(e:p->c:=by intro h;simpa using h):c:=e h
abbrev bs(a:Nat):Value:=.pointer (some ⟨a,0,none⟩)
abbrev ao(a:Int):Value:=.int .i64 a
abbrev bc(a:Int):Value:=.int .u8 a
abbrev aw{α:Type}(p:Option Addr)(l:List α)(c:Nat):Value:=.slice p l.length c
abbrev EB:ByteArray:=⟨#[]⟩
theorem Pj.{u,v} {A:Type u} {B:Type v} {a c:A} {b d:B} (h:(a,b)=(c,d)):a=c/\b=d:=Prod.mk.inj h
theorem Z.{u} {α:Sort u} {a:α}:a=a:=rfl
abbrev V3.{u} {Y:Type u} (a b c:Y):List Y:=[a,b,c]
abbrev V4.{u} {Y:Type u} (a b c d:Y):List Y:=[a,b,c,d]
abbrev V5.{u} {Y:Type u} (a b c d e:Y):List Y:=[a,b,c,d,e]
abbrev V6.{u} {Y:Type u} (a b c d e f:Y):List Y:=[a,b,c,d,e,f]
abbrev V7.{u} {Y:Type u} (a b c d e f g:Y):List Y:=[a,b,c,d,e,f,g]
abbrev V8.{u} {Y:Type u} (a b c d e f g h:Y):List Y:=[a,b,c,d,e,f,g,h]
abbrev V9.{u} {Y:Type u} (a b c d e f g h i:Y):List Y:=[a,b,c,d,e,f,g,h,i]
abbrev AM.{u} {Y:Type u} (a b c d e f g h i j:Y):List Y:=[a,b,c,d,e,f,g,h,i,j]
abbrev V11.{u} {Y:Type u} (a b c d e f g h i j k:Y):List Y:=[a,b,c,d,e,f,g,h,i,j,k]
abbrev V12.{u} {Y:Type u} (a b c d e f g h i j k l:Y):List Y:=[a,b,c,d,e,f,g,h,i,j,k,l]
abbrev Us.{u} {Y:Type u} (a b c d e f g h i j k l m:Y):List Y:=[a,b,c,d,e,f,g,h,i,j,k,l,m]
abbrev Pb.{u} {Y:Type u} (a b c d e f g h i j k l m n:Y):List Y:=[a,b,c,d,e,f,g,h,i,j,k,l,m,n]
abbrev V15.{u} {Y:Type u} (a b c d e f g h i j k l m n o:Y):List Y:=[a,b,c,d,e,f,g,h,i,j,k,l,m,n,o]
abbrev V16.{u} {Y:Type u} (a b c d e f g h i j k l m n o p:Y):List Y:=[a,b,c,d,e,f,g,h,i,j,k,l,m,n,o,p]
abbrev V17.{u} {Y:Type u} (a b c d e f g h i j k l m n o p q:Y):List Y:=[a,b,c,d,e,f,g,h,i,j,k,l,m,n,o,p,q]
abbrev V22.{u} {Y:Type u} (a b c d e f g h i j k l m n o p q r s t u v:Y):List Y:=[a,b,c,d,e,f,g,h,i,j,k,l,m,n,o,p,q,r,s,t,u,v]
abbrev V25.{u} {Y:Type u} (a b c d e f g h i j k l m n o p q r s t u v w x y:Y):List Y:=[a,b,c,d,e,f,g,h,i,j,k,l,m,n,o,p,q,r,s,t,u,v,w,x,y]
abbrev V40.{u} {Y:Type u} (a b c d e f g h i j k l m n o p q r s t u v w x y z A B C D E F G H I J K L M N:Y):List Y:=[a,b,c,d,e,f,g,h,i,j,k,l,m,n,o,p,q,r,s,t,u,v,w,x,y,z,A,B,C,D,E,F,G,H,I,J,K,L,M,N]
abbrev OA:=Option Addr
abbrev V1:Value:=.slice none 0 0
theorem Zi.{u} {Y:Type u} {a b:Y} (h:some a=some b):a=b:=Option.some.inj h
open Go.RowKit
abbrev ep:=Nat->Prop
attribute [go_sem] World.cell?_alloc_some
def ia (F:ep)(w w':World):Prop:=∀k,F k->w'.heap[k]? =w.heap[k]?
theorem ia.refl (F:ep)(w:World):ia F w w:=λ_ _=>rfl
theorem ia.cell {F:ep} {w w':World} (h:ia F w w') {b o:Nat} (U:F b):w'.cell? ⟨b,o,none⟩=w.cell? ⟨b,o,none⟩:=
 World.cell?_of_block (w:=w) (h b U)
def hY {α:Type} (sz:Nat)(R:List Value->α->Prop):List Value->List α->Prop
 |xs,[]=>xs=[]
 |xs,x::l=>∃cs rest,xs=cs++rest/\cs.length=sz/\R cs x/\hY sz R rest l
section
variable {α:Type} {sz:Nat} {R R':List Value->α->Prop}
theorem hY.length:∀{l:List α} {xs:List Value},hY sz R xs l->xs.length=l.length*sz
 |[],xs,h=>by cases(h:xs=[]);simp
 | x::l,xs,h=>by
   obtain⟨cs,rest,rfl,h1,_,U⟩:=h;rw[j!,h1,hY.length U,D!,P',z!]
theorem hY.append:∀{l m:List α} {xs U:List Value},hY sz R xs l->hY sz R U m->hY sz R (xs++U) (l++m)
 |[],m,xs,U,h,k=>by cases(h:xs=[]);exact k
 | x::l,m,xs,U,h,k=>by
   obtain⟨cs,rest,rfl,h1,h3,h2⟩:=h;exact⟨cs,rest++U,by rw[A!],h1,h3,hY.append h2 k⟩
theorem hY.one {x:α} {cs:List Value} (h:R cs x)(U:cs.length=sz):hY sz R cs [x]:=⟨cs,[],ax,U,h,rfl⟩
theorem hY.mono:∀{l:List α} {xs:List Value},hY sz R xs l->(∀cs x,x∈l->R cs x->R' cs x)->hY sz R' xs l
 |[],_,h,_=>h
 | x::l,xs,h,U=>by
   obtain⟨cs,rest,rfl,h1,h3,h2⟩:=h;exact⟨cs,rest,rfl,h1,U _ _ ax h3,hY.mono h2 λcs x hx=>U cs x (by simp[hx])⟩
theorem hY.at:∀{l:List α} {xs:List Value} {k:Nat} {x:α},hY sz R xs l->l[k]? =some x->∃cs,cs.length=sz/\R cs x/\∀j u,cs[j]? =some u->xs[k*sz+j]? =some u
 |[],_,_,_,_,U=>by simp at U
 | y::l,xs,0,x,h,U=>by
   obtain⟨cs,rest,rfl,h1,h3,_⟩:=h;simp at U;subst U;refine⟨cs,h1,h3,λj u hu=>?_⟩;have:=(f'.1 hu).1;rw[N!,i!,o! this];exact hu
 | y::l,xs,k+1,x,h,U=>by
   obtain⟨cs,rest,rfl,h1,h3,h2⟩:=h;obtain⟨ds,e1,e2,e3⟩:=hY.at (k:=k) h2 (cx U);refine⟨ds,e1,e2,λj u hu=>?_⟩;rw[k! (by rw[h1,P'];omega)];have:=e3 j u hu;rw[<-this];congr 1;rw[h1,P'];omega
theorem hY.all {p:Value->Prop} (hp:∀cs x,R cs x->∀u∈cs,p u):∀{l:List α} {xs:List Value},hY sz R xs l->∀u∈xs,p u
 |[],xs,h,u,hu=>by cases(h:xs=[]);cases hu
 | x::l,xs,h,u,hu=>by
   obtain⟨cs,rest,rfl,_,h3,U⟩:=h;rcases Y'.1 hu with hu|hu;· exact hp _ _ h3 u hu
   · exact hY.all hp U u hu
theorem hY.flat (enc:α->List Value)(he:∀x,(enc x).length=sz):∀l:List α,hY sz (λcs x=>cs=enc x) (l.flatMap enc) l
 |[]=>rfl
 |x::l=>⟨enc x,l.flatMap enc,ax,he x,rfl,hY.flat enc he l⟩
theorem hY.flat_iff (enc:α->List Value):∀{l:List α} {xs:List Value},hY sz (λcs x=>cs=enc x) xs l->xs=l.flatMap enc
 |[],xs,h=>h
 | x::l,xs,h=>by
   obtain⟨cs,rest,rfl,_,rfl,U⟩:=h;rw[hY.flat_iff enc U];simp
end
def qV (w:World)(b off:Nat)(xs:List Value):Prop:=∀j u,xs[j]? =some u->w.cell? ⟨b,off+j,none⟩=some u
def zh {α:Type} (F:ep)(w:World)(sz:Nat)(R:List Value->α->Prop)(v:Value)(l:List α):Prop:=
 ∃p n c xs,v=.slice p n c/\n=l.length/\n<=c/\c<=9223372036854775807/\hY sz R xs l/\(0<n->∃b off,p=some ⟨b,off,none⟩/\F b/\qV w b off xs)
section
variable {α:Type} {F G:ep} {w w':World} {sz:Nat} {R R':List Value->α->Prop} {v:Value} {l:List α}
theorem zh.keep (h:zh F w sz R v l)(ha:ia F w w')(hR:∀cs x,x∈l->R cs x->R' cs x):zh F w' sz R' v l:=by
 obtain⟨p,n,c,xs,hv,U,hc,hm,hx,gm⟩:=h;refine⟨p,n,c,xs,hv,U,hc,hm,hx.mono hR,λU=>?_⟩;obtain⟨b,off,hp,hF,kq⟩:=gm U;exact⟨b,off,hp,hF,λj u hj=>(ha.cell hF).trans (kq j u hj)⟩
theorem zh.foot (h:zh F w sz R v l)(hg:∀k,F k->G k):zh G w sz R v l:=by
 obtain⟨p,n,c,xs,hv,U,hc,hm,hx,gm⟩:=h;refine⟨p,n,c,xs,hv,U,hc,hm,hx,λU=>?_⟩;obtain⟨b,off,hp,hF,kq⟩:=gm U;exact⟨b,off,hp,hg _ hF,kq⟩
theorem zh.nil:zh F w sz R (.slice none 0 0) []:=⟨none,0,0,[],rfl,rfl,W' _,an,rfl,λh=>absurd h an⟩
end
theorem DC (b off j:Nat):(⟨b,off,none⟩:Addr).add j=⟨b,off+j,none⟩:=by unfold Addr.add;split<;>simp_all
theorem va {P:Program} {t e:TypeId} {sz:Nat} {p:Option Addr} {n c k b off:Nat} (ht:P.underlying t=some (.slice e))(hs:∀w,(sizeOf e).run P w=.ok sz w)(hp:p=some ⟨b,off,none⟩)(hk:k<n):
  ∀w,(Instr.indexAt t (.slice p n c) (.int .i64 (k:Int))).run P w=.ok (.pointer (some ⟨b,off+k*sz,none⟩)) w:=by
 intro w;subst hp;have U:(0:Int)<=k/\(k:Int)<n:=an
 simp[Instr.indexAt,asIntOf,run_underlying ht,U,hs,Addr.add,hk]
structure V where
 k:Int
 n:Int
 s:ByteArray
theorem QaR {a b:ByteArray}:a.toList=b.toList↔a=b:=by
 rw[ByteArray.toList_eq,ByteArray.toList_eq];constructor
 ·intro h;obtain⟨⟨x⟩⟩:=a;obtain⟨⟨y⟩⟩:=b;simp at h;subst h;rfl
 · rintro rfl;rfl
instance:DecidableEq V:=λa b=>by
 rcases a with⟨k,n,s⟩;rcases b with⟨k',n',s'⟩;exact if h:k=k'/\n=n'/\s.toList=s'.toList then .isTrue (by obtain⟨h1,h2,h3⟩:=h;rw[QaR]at h3;subst h1 h2 h3;rfl)else .isFalse (λe=>h (by injection e with h1 h2 h3;exact⟨h1,h2,by rw[h3]⟩))
theorem V.ext_iff' {a b:V}:a=b↔a.k=b.k/\a.n=b.n/\a.s.toList=b.s.toList:=by
 rcases a with⟨k,n,s⟩;rcases b with⟨U,n',s'⟩;simp only[V.mk.injEq,QaR]
def nI {α:Type} (B:Nat)(e:TypeId)(sz:Nat)(R:List Value->α->Prop)(l:List α)(v:Value)(w:World):Prop:=
 ∃xs,w.ownsRow B e sz v l.length xs/\hY sz R xs l
section
variable {α:Type} {B B':Nat} {w w':World} {e:TypeId} {sz:Nat} {R:List Value->α->Prop} {l:List α} {v:Value}
theorem nI.nil:nI B e sz R [] (.slice none 0 0) w:=⟨[],World.ownsRow_nil _ _ _ _,rfl⟩
theorem nI.shape (h:nI B e sz R l v w):∃p n c,v=.slice p n c:=by
 obtain⟨xs,ho,_⟩:=h;rcases ho.2 with⟨U,_⟩|⟨g,cap,cur,hv,_⟩
 · exact⟨_,_,_,U⟩
 · exact⟨_,_,_,hv⟩
theorem nI.len {p:Option Addr} {n c:Nat} (h:nI B e sz R l (.slice p n c) w):n=l.length:=by
 obtain⟨xs,ho,_⟩:=h;rcases ho.2 with⟨U,h1⟩|⟨g,cap,cur,hv,_⟩
 · cases U;omega
 · cases hv;rfl
theorem nI.mono (h:nI B e sz R l v w)(hB:B'<=B):nI B' e sz R l v w:=by
 obtain⟨xs,U,hc⟩:=h;refine⟨xs,⟨U.1,?_⟩,hc⟩;rcases U.2 with h0|⟨g,cap,cur,hv,hg,rest⟩
 · exact .inl h0
 · exact .inr ⟨g,cap,cur,hv,a! hB hg,rest⟩
theorem nI.keep (h:nI B e sz R l v w)(ha:∀k,v.ownBlock=some k->w'.heap[k]? =w.heap[k]?):nI B e sz R l v w':=by
 obtain⟨xs,U,hc⟩:=h;refine⟨xs,⟨U.1,?_⟩,hc⟩;rcases U.2 with h0|⟨g,cap,cur,hv,hg,hh,rest⟩
 · exact .inl h0
 · exact .inr ⟨g,cap,cur,hv,hg,by rw[ha g (by rw[hv];rfl)];exact hh,rest⟩
theorem nI.lt (h:nI B e sz R l v w):∀k,v.ownBlock=some k->B<=k/\k<w.heap.size:=by
 obtain⟨xs,U,_⟩:=h;exact U.lt
end
structure Mod (S:ep) (w w':World):Prop where
 os:w'.os=w.os
 tape:w'.tape=w.tape
 output:w'.output=w.output
 size:w.heap.size<=w'.heap.size
 block:∀k,k<w.heap.size->¬S k->w'.heap[k]? =w.heap[k]?
section
variable {S T:ep} {a b c w:World}
theorem Mod.refl (S:ep)(w:World):Mod S w w:=⟨rfl,rfl,rfl,W' _,λ_ _ _=>rfl⟩
theorem Mod.trans (h:Mod S a b)(k:Mod S b c):Mod S a c:=⟨k.os.trans h.os,k.tape.trans h.tape,k.output.trans h.output,a! h.size k.size,λi hi hs=>(k.block i (z' hi h.size) hs).trans (h.block i hi hs)⟩
theorem Mod.mono (h:Mod S a b)(hs:∀k,k<a.heap.size->S k->T k):Mod T a b:=⟨h.os,h.tape,h.output,h.size,λk hk U=>h.block k hk λh=>U (hs k hk h)⟩
theorem Mod.trans' (h:Mod S a b)(k:Mod T b c)(U:∀i,i<a.heap.size->T i->S i):Mod S a c:=⟨k.os.trans h.os,k.tape.trans h.tape,k.output.trans h.output,a! h.size k.size,λi hi hs=>(k.block i (z' hi h.size) λht=>hs (U i hi ht)).trans (h.block i hi hs)⟩
theorem Mod.of_below (h:Below w.heap.size w a):Mod S w a:=⟨h.os,h.tape,h.output,h.size,λk hk _=>h.block k hk⟩
theorem Mod.to_below {B:Nat} (h:Mod S w a)(hB:B<=w.heap.size)(U:∀k,S k->B<=k):Below B w a:=⟨h.os,h.tape,h.output,h.size,λk hk=>h.block k an λhs=>by have:=U k hs;omega⟩
theorem Mod.drew (h:Mod S a w):Mod S a w.drew:=⟨h.os,h.tape,h.output,h.size,h.block⟩
theorem Mod.setCell (h:Mod S a w) {p:Addr} (hp:p.block<a.heap.size->S p.block)(u:Value):Mod S a (w.setCell p u):=
 h.trans' (T:=λk=>k=p.block) ⟨rfl,rfl,rfl,by simp[World.setCell],λk _ hk=>Below.heap_setCell _ _ _ _ hk⟩ (λi hi e=>by subst e;exact hp hi)
end
theorem hY.set:∀{α:Type} {sz:Nat} {R:List Value->α->Prop} {l:List α} {xs:List Value} (k:Nat) {x:α} {cs:List Value},hY sz R xs l->R cs x->cs.length=sz->k<l.length->hY sz R (xs.take (k*sz)++cs++xs.drop ((k+1)*sz)) (l.set k x)
 |_,_,_,[],_,_,_,_,_,_,_,hk=>absurd hk ax
 | α,sz,R,y::l,xs,0,x,cs,h,hr,hc,_=>by
   obtain⟨ds,rest,rfl,h1,h3,U⟩:=h;refine⟨cs,rest,?_,hc,hr,U⟩;rw[N!,List.take_zero,List.nil_append,i!,Nat.one_mul,<-h1,List.drop_left]
 | α,sz,R,y::l,xs,k+1,x,cs,h,hr,hc,hk=>by
   obtain⟨ds,rest,rfl,h1,h3,U⟩:=h;refine⟨ds,rest.take (k*sz)++cs++rest.drop ((k+1)*sz),?_,h1,h3,hY.set k U hr hc (cx hk)⟩;have e1:(k+1)*sz=ds.length+k*sz:=by rw[h1,P'];omega
   have e2:(k+1+1)*sz=ds.length+(k+1)*sz:=by rw[h1,P' (k+1)];omega
   rw[e2,e1,List.take_length_add_append,List.drop_length_add_append,<-e1];simp[A!]
def Jr (xs:List Value)(o:Nat):List Value->List Value
 |[]=>xs
 |c::cs=>Jr (xs.set o c) (o+1) cs
theorem QaY:∀(cs xs:List Value)(o:Nat),o+cs.length<=xs.length->Jr xs o cs=xs.take o++cs++xs.drop (o+cs.length)
 |[],xs,o,_=>by simp[Jr]
 | c::cs,xs,o,h=>by
   simp only[D!]at h⊢;rw[Jr,QaY cs _ _ (by simp;omega)]
   have:(xs.set o c).take (o+1)=xs.take o++[c]:=by
    rw[List.take_succ_eq_append_getElem (by simp;omega),List.take_set_of_le (W' _)];simp
   rw[this,List.drop_set_of_lt an];simp[p!,z! 1]
def HH (w:World)(b o:Nat):List Value->World
 |[]=>w
 |c::cs=>HH (w.setCell ⟨b,o,none⟩ c) b (o+1) cs
theorem nI.put {α:Type} {B:Nat} {w:World} {e:TypeId} {sz:Nat} {R:List Value->α->Prop} {l:List α} {g n c:Nat} (h:nI B e sz R l (.slice (some ⟨g,0,none⟩) n c) w)(hn:n=l.length)(k:Nat) {x:α} {cs:List Value} (hr:R cs x)(U:cs.length=sz)(hk:k<l.length):
  nI B e sz R (l.set k x) (.slice (some ⟨g,0,none⟩) n c) (HH w g (k*sz) cs)/\Mod (λi=>i=g) w (HH w g (k*sz) cs):=by
 obtain⟨xs,ho,hx⟩:=h
 have key:∀(cs:List Value) (xs:List Value) (w:World) (o:Nat),w.ownsRow B e sz (.slice (some ⟨g,0,none⟩) n c) l.length xs->
    (HH w g o cs).ownsRow B e sz (.slice (some ⟨g,0,none⟩) n c) l.length (Jr xs o cs)/\Mod (λi=>i=g) w (HH w g o cs):=by
  intro cs;induction cs with
  |nil=>intro xs w o h;exact⟨h,Mod.refl _ _⟩
  | cons d ds ih=>
    intro xs w o h;subst hn;have h1:=h.stored o d;obtain⟨i1,i2⟩:=ih _ _ (o+1) h1.1;exact⟨i1,Mod.trans (S:=λi=>i=g) (Mod.setCell (S:=λi=>i=g) (Mod.refl _ w) (p:=⟨g,o,none⟩) (λ_=>rfl) d) i2⟩
 obtain⟨k1,k2⟩:=key cs xs w (k*sz) ho;have hlen:=hx.length;rw[QaY cs xs _ (by rw[U,hlen,<-P'];exact d! _ hk)]at k1;refine⟨⟨_,by rw[Z'];exact k1,?_⟩,k2⟩;have:=hx.set k hr U hk;rwa [show(k+1)*sz=k*sz+cs.length from by rw[U,P']]at this
theorem nI.head {α:Type} {B:Nat} {w:World} {e:TypeId} {sz:Nat} {R:List Value->α->Prop} {l:List α} {p:Option Addr} {n c:Nat} (h:nI B e sz R l (.slice p n c) w)(h0:0<l.length):
  ∃g,p=some ⟨g,0,none⟩/\n=l.length/\B<=g/\g<w.heap.size/\∀j,w.frozen? ⟨g,j,none⟩=false:=by
 obtain⟨xs,U,hx⟩:=h;have hf:=U.2;rcases U.2 with⟨h1,h2⟩|⟨g,cap,cur,hv,hg,hh,rest⟩
 · omega
 ·cases hv;exact⟨g,rfl,rfl,hg,(q'.1 hh).1,λj=>U.frozenAt j⟩
theorem nI.of_block {α:Type} {B:Nat} {w:World} {e:TypeId} {sz g n:Nat} {R:List Value->α->Prop} {l:List α} {cur:Array Value} (hg:w.heap[g]? =some (.cells cur e (0,0)))(hB:B<=g)(hx:hY sz R cur.toList l)(hn:n=l.length)(hm:n<=9223372036854775807):nI B e sz R l (.slice (some ⟨g,0,none⟩) n n) w:=by
 subst hn;have U:=hx.length;refine⟨cur.toList,⟨U,.inr ⟨g,_,cur,rfl,hB,hg,W' _,hm,by simpa using U,?_⟩⟩,hx⟩;rw[List.take_of_length_le an]
end
section
open Go.RowKit
structure fq (α:Type) where
 p:ep->World->List Value->α->Prop
 good:∀{F G:ep} {w w':World} {cs:List Value} {x:α},(∀k,F k->G k)->ia F w w'->p F w cs x->p G w' cs x
 one:∀{F:ep} {w:World} {cs:List Value} {x:α},p F w cs x->∀u∈cs,u.oneCell'=true
inductive Fact:Type 1
 |cells (b o:Nat) (cs:List Value)
 |sli {α:Type} (sz:Nat) (R:fq α) (p:Option Addr) (c:Nat) (l:List α)
 |own {α:Type} (e sz:Nat) (R:fq α) (v:Value) (l:List α)
 |blk (g:Nat) (cs:List Value) (t:Nat)
 |rep {α:Type} (R:fq α) (cs:List Value) (x:α)
 |duo (p:ep->ep->World->Prop) (good:∀{N N' F G:ep} {w w':World},(∀k,N k->N' k)->ia N w w'->(∀k,F k->G k)->ia F w w'->p N F w->p N' G w')
 |raw (p:ep->World->Prop) (good:∀{F G:ep} {w w':World},(∀k,F k->G k)->ia F w w'->p F w->p G w')
def Fact.op:Fact->ep->ep->World->Prop
 | .cells b o cs,N,_,w=>N b/\qV w b o cs
 | .sli sz R p c l,N,_,w=>zh N w sz (R.p N w) (.slice p l.length c) l
 | .own e sz R v l,N,F,w=>(∀k,v.ownBlock=some k->N k)/\nI 0 e sz (R.p F w) l v w
 | .blk g cs t,N,_,w=>N g/\w.heap[g]? =some (.cells cs.toArray t)
 | .rep R cs x,N,_,w=>R.p N w cs x
 | .duo p _,N,F,w=>p N F w
 | .raw p _,N,_,w=>p N w
def Fact.p (φ:Fact)(F:ep)(w:World):Prop:=φ.op F F w
theorem qV.agree {F:ep} {w U:World} {b o:Nat} {cs:List Value} (h:qV w b o cs)(ha:ia F w U)(hb:F b):qV U b o cs:=λj u hu=>(ha.cell hb).trans (h j u hu)
theorem nI.rel {α:Type} {B e sz:Nat} {R U:List Value->α->Prop} {l:List α} {v:Value} {w:World} (h:nI B e sz R l v w)(hR:∀cs x,R cs x->U cs x):nI B e sz U l v w:=by
 obtain⟨xs,ho,hc⟩:=h;exact⟨xs,ho,hc.mono λcs x _=>hR cs x⟩
theorem Fact.opgood (φ:Fact) {N N' F G:ep} {w w':World} (U:∀k,N k->N' k)(ha:ia N w w')(hF:∀k,F k->G k)(hb:ia F w w')(h:φ.op N F w):φ.op N' G w':=by
 cases φ with
 |cells b o cs=>exact⟨U _ h.1,h.2.agree ha h.1⟩
 |sli sz R p c l=>exact zh.foot (h.keep ha λcs x _ hr=>R.good U ha hr) U
 |own e sz R v l=>exact⟨λk hk=>U _ (h.1 k hk),(h.2.keep λk hk=>ha k (h.1 k hk)).rel λcs x hr=>R.good hF hb hr⟩
 |blk g cs t=>exact⟨U _ h.1,(ha g h.1).trans h.2⟩
 |rep R cs x=>exact R.good U ha h
 |duo p g=>exact g U ha hF hb h
 |raw p g=>exact g U ha h
theorem Fact.good (φ:Fact) {F G:ep} {w w':World} (U:∀k,F k->G k)(ha:ia F w w')(h:φ.p F w):φ.p G w':=φ.opgood U ha U ha h
structure Ctx where
 w0:World
 S0:ep
 F0:ep
structure iD (C:Ctx) (Φ:List Fact) (H:List Fact) (F:ep) (N:Nat->ep) (w:World):Prop where
 flt:∀k,F k->k<w.heap.size
 fold:∀k,C.F0 k->F k
 fnew:∀k,F k->C.F0 k\/C.w0.heap.size<=k\/C.S0 k
 facts:∀φ∈Φ,φ.p F w
 owns:∀(i:Nat) (h:Fact),H[i]? =some h->h.op (N i) F w
 nlt:∀i k,i<H.length->N i k->k<w.heap.size/\(C.w0.heap.size<=k\/C.S0 k)/\¬F k
 apart:∀i j k,i<H.length->j<H.length->i≠j->N i k->¬N j k
 mod:Mod C.S0 C.w0 w
def Ql (C:Ctx)(Φ:List Fact)(H:List Fact)(w:World):Prop:=∃F N,iD C Φ H F N w
structure FD where
 k:Nat
 D:List Deferred
instance:Coe FD Nat:=⟨FD.k⟩
structure gU (n:FD) (S:List (Nat×Value)) (a:Act):Prop where
 size:a.tmps.size=n.k
 defers:a.defers=n.D
 at_:∀x∈S,a.tmps[x.1]? =some x.2
def look:List (Nat×Value)->Nat->Option Value
 |[],_=>none
 | (k,v)::r,t=>match J' k t with
   |true=>some v
   |false=>look r t
def da (S:List (Nat×Value)):Operand->Option Value
 | .tmp t=>look S t
 | .const v=>some v
 | .func f=>some (.func (.func f) #[] #[])
 | .global g=>some (.pointer (some ⟨g,0,none⟩))
theorem NY:∀{S:List (Nat×Value)} {t:Nat} {v:Value},look S t=some v->(t,v)∈S
 | (k,u)::r,t,v,h=>by
   unfold look at h;split at h;· rename_i U;cases h;rw[y' U];simp
   · exact r' _ (NY h)
theorem gU.eval {n:FD} {S:List (Nat×Value)} {a:Act} (h:gU n S a) {x:Operand} {v:Value} (U:da S x=some v):a.eval x=v:=by
 cases x with
 | tmp t=>
   have:=h.at_ _ (NY U);simp only[Act.eval,L'];rw[this];rfl
 |const c=>cases U;rfl
 |global g=>cases U;rfl
 |func f=>cases U;rfl
def ft (d:Nat):List (Nat×Value)->List (Nat×Value)
 |[]=>[]
 | (k,v)::r=>match J' k d with
   |true=>ft d r
   |false=>(k,v)::ft d r
theorem Ss {d:Nat}:∀{S:List (Nat×Value)} {x:Nat×Value},x∈ft d S->x∈S/\x.1≠d
 | (k,v)::r,x,h=>by
   unfold ft at h;split at h;· exact⟨r' _ (Ss h).1,(Ss h).2⟩
   ·rename_i U;rcases t'.1 h with rfl|h;· exact⟨ax,λe=>by rw[show k=d from e]at U;exact absurd (B! d) (by rw[U];simp)⟩
    · exact⟨r' _ (Ss h).1,(Ss h).2⟩
theorem gU.put {n:FD} {S S':List (Nat×Value)} {a:Act} (h:gU n S a) {d:Nat} {v:Value} (hd:d<n)(hS:ft d S=S'):gU n ((d,v)::S') (a.put (some d) v):=by
 subst hS;refine⟨by simp[Act.put,h.size],h.defers,λx U=>?_⟩;rcases t'.1 U with rfl|U;· simp[Act.put,h.size,hd]
 ·obtain⟨h1,h2⟩:=Ss U;simp only[Act.put];rw[u' (Ne.symm h2)];exact h.at_ _ h1
theorem gU.sub {n:FD} {S S':List (Nat×Value)} {a:Act} (h:gU n S a)(hs:∀x∈S',x∈S):gU n S' a:=⟨h.size,h.defers,λx U=>h.at_ x (hs x U)⟩
def j0:List Nat->List (Nat×Value)->List (Nat×Value)
 |[],_=>[]
 | t::l,S=>match look S t with
   |some v=>(t,v)::j0 l S
   |none=>j0 l S
theorem QcJ:∀{l:List Nat} {S:List (Nat×Value)} {x:Nat×Value},x∈j0 l S->x∈S
 | t::l,S,x,h=>by
   unfold j0 at h;split at h
   ·rename_i v U;rcases t'.1 h with rfl|h;· exact NY U
    · exact QcJ h
   · exact QcJ h
section mT
variable (P:Program) (C:Ctx) (n:FD) (Q:Exit->Act->World->Prop) (Φ:List Fact) (H:List Fact) (S:List (Nat×Value))
def WL (ops:Array Oper)(rest:List Oper):Prop:=∀a w,gU n S a->Ql C Φ H w->wpList P ops Q rest a w
def WC (c:Code):Prop:=∀a w,gU n S a->Ql C Φ H w->c.wp P Q a w
def WE (e:Exit):Prop:=∀a w,gU n S a->Ql C Φ H w->Q e a w
end mT
section structural
variable {P:Program} {C:Ctx} {n:FD} {Q:Exit->Act->World->Prop} {Φ Φ':List Fact} {H H':List Fact} {S S':List (Nat×Value)} {ops:Array Oper} {rest:List Oper} {c x y:Code}
variable {id:Nat}{K:Act->World->Prop}{t:Bool}
theorem Q6 (h:WC P C n (Exit.then (λa w=>y.wp P Q a w) Q) Φ H S x):WC P C n Q Φ H S (.seq x y):=λa w U hw=>wp_seq (h a w U hw)
theorem Qb {l:List Oper} (h:WL P C n Q Φ H S l.toArray l):WC P C n Q Φ H S (.region id l.toArray false):=λa w U hw=>wp_region_lit (h a w U hw)
theorem Q2 (h:WE C n Q Φ H S .normal):WL P C n Q Φ H S ops []:=λa w U hw=>h a w U hw
theorem Qw (h:WC P C n Q Φ H S y):WE C n (Exit.then (λa w=>y.wp P Q a w) Q) Φ H S .normal:=h
theorem Q8 (h:WE C n Q Φ H S (.exit id)):WE C n (Exit.then K Q) Φ H S (.exit id):=h
theorem Q5 (h:WE C n Q Φ H S .ret):WE C n (Exit.then K Q) Φ H S .ret:=h
theorem Qt (h:WE C n Q Φ H S .normal):WE C n (Exit.inBlock id Q) Φ H S (.exit id):=λa w U hw=>by
 show(if id=id then _ else _);rw[if_pos rfl];exact h a w U hw
theorem wT {U:Nat} (de:U≠id)(h:WE C n Q Φ H S (.exit U)):WE C n (Exit.inBlock id Q) Φ H S (.exit U):=λa w hf hw=>by
 show(if U=id then _ else _);rw[if_neg de];exact h a w hf hw
theorem Q7 (h:WE C n Q Φ H S .normal):WE C n (Exit.inBlock id Q) Φ H S .normal:=h
theorem Qr (h:WE C n Q Φ H S .ret):WE C n (Exit.inBlock id Q) Φ H S .ret:=h
theorem QV (h:WE C n Q Φ H S .normal):WC P C n Q Φ H S .skip:=λa w U hw=>wp_skip (h a w U hw)
theorem Qm (h:WE C n Q Φ H S .ret):WC P C n Q Φ H S .ret:=λa w U hw=>wp_ret (h a w U hw)
theorem iT (h:WE C n Q Φ H S (.exit id)):WC P C n Q Φ H S (.exit id):=λa w U hw=>wp_exit (h a w U hw)
theorem Qi (h:WC P C n (Exit.inBlock id Q) Φ H S c):WC P C n Q Φ H S (.block id c):=λa w U hw=>wp_block (h a w U hw)
theorem iS {o:Operand} (hc:da S o=some (.bool t))(ht:t=true->WC P C n Q Φ H S x)(hf:t=false->WC P C n Q Φ H S y):WC P C n Q Φ H S (.cond o x y):=
 λa w U hw=>wp_cond_split (U.eval hc) (λh=>ht h a w U hw) (λh=>hf h a w U hw)
theorem O6 {o:Operand} (hc:da S o=some (.bool true))(ht:WC P C n Q Φ H S x):WC P C n Q Φ H S (.cond o x y):=
 λa w U hw=>wp_cond_true (U.eval hc) (ht a w U hw)
theorem Ed {o:Operand} (hc:da S o=some (.bool false))(ht:WC P C n Q Φ H S y):WC P C n Q Φ H S (.cond o x y):=
 λa w U hw=>wp_cond_false (U.eval hc) (ht a w U hw)
theorem lM (l:List Nat)(U:j0 l S=S')(h:WC P C n Q Φ H S' c):WC P C n Q Φ H S c:=
 λa w hf hw=>h a w (hf.sub λx hx=>QcJ (by rw[U];exact hx)) hw
theorem pI {d:Nat} (hx:look S d=some (.bool t))(hS:ft d S=S')(ht:t=true->WL P C n Q Φ H ((d,.bool true)::S') ops rest)(hf:t=false->WL P C n Q Φ H ((d,.bool false)::S') ops rest):WL P C n Q Φ H S ops rest:=by
 subst hS;intro a w gj hw
 have h1:∀b,t=b->gU n ((d,.bool b)::ft d S) a:=λb hb=>gj.sub λx U=>by
  rcases t'.1 U with rfl|U;· rw[<-hb];exact NY hx
  · exact(Ss U).1
 cases t;· exact hf rfl a w (h1 _ rfl) hw
 · exact ht rfl a w (h1 _ rfl) hw
theorem Ql.fact {w:World} {φ:Fact} (h:Ql C Φ H w)(bj:∀F,(∀ψ∈Φ,ψ.p F w)->φ.p F w):Ql C (φ::Φ) H w:=by
 obtain⟨F,N,hi⟩:=h;refine⟨F,N,{hi with facts:=λψ U=>?_}⟩;rcases t'.1 U with rfl|U;· exact bj F hi.facts
 · exact hi.facts _ U
theorem P3 (φ:Fact)(U:∀F w,(∀ψ∈Φ,ψ.p F w)->φ.p F w)(h:WL P C n Q (φ::Φ) H S ops rest):WL P C n Q Φ H S ops rest:=
 λa w hf hw=>h a w hf (hw.fact λF=>U F w)
theorem lK (φ:Fact)(U:∀F w,(∀ψ∈Φ,ψ.p F w)->φ.p F w)(h:WC P C n Q (φ::Φ) H S c):WC P C n Q Φ H S c:=
 λa w hf hw=>h a w hf (hw.fact λF=>U F w)
theorem Ql.sub {w:World} (h:Ql C Φ H w)(hs:∀φ∈Φ',φ∈Φ):Ql C Φ' H w:=by
 obtain⟨F,N,hi⟩:=h;exact⟨F,N,{hi with facts:=λψ U=>hi.facts _ (hs _ U)}⟩
end structural
section rules
variable {P:Program} {C:Ctx} {n:FD} {Q:Exit->Act->World->Prop} {Φ Φ':List Fact} {H H':List Fact} {S S':List (Nat×Value)} {ops:Array Oper} {rest:List Oper} {o:Oper}
def QM (ops:Array Oper)(S:List (Nat×Value))(o:Oper):Option Bool:=
 match o.guard with
 |none=>some true
 | some (j,want)=>match(ops[j]?).bind (·.dst)with
   | some d=>match look S d with
     |some (.bool true)=>some want
     |some (.bool false)=>some (!want)
     |some (.tuple _)=>some false
     |_=>none
   |none=>none
theorem Jf {b:Bool} {a:Act} (hf:gU n S a)(h:QM ops S o=some b):Region.wanted o (yielded ops a.tmps)=b:=by
 unfold QM at h;unfold Region.wanted;rcases hg:o.guard with _|⟨j,want⟩
 · simp only[hg]at h⊢;exact Option.some.inj h
 ·simp only[hg]at h⊢;rcases hd:(ops[j]?).bind (·.dst)with _|d;· simp[hd]at h
  ·simp only[hd]at h;simp only[yielded,hd,E!];split at h
   ·rename_i U;have:=hf.at_ _ (NY U);simp only at this;rw[this];cases want<;>(cases h;rfl)
   ·rename_i U;have:=hf.at_ _ (NY U);simp only at this;rw[this];cases want<;>(cases h;rfl)
   ·rename_i U;have:=hf.at_ _ (NY U);simp only at this;rw[this];cases want<;>(cases h;rfl)
   · cases h
theorem B8 {d:Nat} (hg:QM ops S o=some true)(hd:o.dst=some d)(hn:A' d n=true)(hS:ft d S=S')
  (run:∀a w,gU n S a->Ql C Φ H w->∃v w',(execOp a.eval o).run P w=.ok (.value v) w'/\∃Φ' H',Ql C Φ' H' w'/\WL P C n Q Φ' H' ((d,v)::S') ops rest):WL P C n Q Φ H S ops (o::rest):=by
 intro a w U hw;obtain⟨v,w',hr,Φ',H',h1,h2⟩:=run a w U hw;refine wpList_step λK hK=>?_
 rw[Jf U hg,if_pos rfl];unfold Oper.wp;rw[hr,Oper.upon_value,hd];exact hK _ _ (h2 _ _ (U.put (l' hn) hS) h1)
theorem HT {d:Nat} {v:Value} (hg:QM ops S o=some true)(hd:o.dst=some d)(hn:A' d n=true)(U:ft d S=S')
  (run:∀a w,gU n S a->Ql C Φ H w->(execOp a.eval o).run P w=.ok (.value v) w) (next:WL P C n Q Φ H ((d,v)::S') ops rest):WL P C n Q Φ H S ops (o::rest):=
 B8 hg hd hn U λa w hf hw=>⟨v,w,run a w hf hw,Φ,H,hw,next⟩
theorem ND {d:Nat} (hg:QM ops S o=some false)(hd:o.dst=some d)(hn:A' d n=true)(hS:ft d S=S')(next:WL P C n Q Φ H ((d,undef)::S') ops rest):WL P C n Q Φ H S ops (o::rest):=by
 intro a w U hw;refine wpList_step λK hK=>?_
 rw[Jf U hg,hd];exact hK _ _ (next _ _ (U.put (l' hn) hS) hw)
end rules
end
section
open Go.RowKit
variable {t:Nat}{v:Value}
def QW (P:Program)(t k:Nat):Option Nat:=match P.underlying t with
 | some (.struct U)=>match U[k]? with
   | some f=>match P.info? f.type with
     |some i=>if i.size=0 then none else some f.offset
     |none=>none
   |none=>none
 |_=>none
def QT (P:Program)(t:Nat):Option Nat:=(P.info? t).map (·.size)
def gx (P:Program)(t:Nat):Option Bool:=match P.underlying t with
 |some (.struct _)=>some true
 |some (.array _ _)=>some true
 |some _=>some false
 |none=>none
def j1 (P:Program)(t:Nat):Option Value:=(P.info? t).bind (·.zero)
def iA (P:Program)(t:Nat):Option Nat:=match P.underlying t with
 |some (.slice e)=>some e
 |_=>none
theorem mN {P:Program} {k off:Nat} (h:QW P t k=some off)(b o:Nat)(w:World):(Instr.fieldAt t (.pointer (some ⟨b,o,none⟩)) k).run P w=.ok (.pointer (some ⟨b,o+off,none⟩)) w:=by
 unfold QW at h;split at h
 ·rename_i fs hu;split at h
  ·rename_i f U;split at h
   ·rename_i i hi;split at h;· cases h
    ·rename_i hz;cases h
     have hp:(fieldPlace ⟨b,o,none⟩ f).run P w=.ok ⟨b,o+f.offset,none⟩ w:=by
      simp[fieldPlace,sizeOf,typeInfo,hi,hz,Addr.add]
     simp[Instr.fieldAt,run_underlying hu,U,Instr.sureAddr,hp]
   · cases h
  · cases h
 · cases h
theorem AD {P:Program} {sz:Nat} (h:QT P t=some sz)(w:World):(sizeOf t).run P w=.ok sz w:=by
 unfold QT at h;cases hi:P.info? t with
 |none=>simp[hi]at h
 |some i=>simp[hi]at h;simp[sizeOf,typeInfo,hi,h]
theorem vo {P:Program} {b:Bool} (h:gx P t=some b)(w:World):(isAgg t).run P w=.ok b w:=by
 unfold gx at h;split at h<;>rename_i hu<;>cases h;· simp[isAgg,run_underlying hu]
 · simp[isAgg,run_underlying hu]
 · simp only[isAgg,Sem.run_bind,run_underlying hu,Result.andThen_ok];rfl
theorem w5 {P:Program} {e:Nat} (h:iA P t=some e):P.underlying t=some (.slice e):=by
 unfold iA at h;split at h;· rename_i hu;cases h;exact hu
 · cases h
theorem U6 {P:Program} {z:Value} (h:j1 P t=some z)(w:World):(zeroValue t).run P w=.ok z w:=by
 unfold j1 at h;cases hi:P.info? t with
 |none=>simp[hi]at h
 |some i=>simp[hi]at h;simp[zeroValue,typeInfo,hi,h]
def Uz (op:BinOp)(k:IntKind)(a b:Int):Option Value:=match op with
 | .add=>some (.int k (k.wrap (a+b)))
 | .sub=>some (.int k (k.wrap (a-b)))
 | .mul=>some (.int k (k.wrap (a*b)))
 | .eql=>some (.bool (a==b))
 | .neq=>some (.bool (a !=b))
 | .lss=>some (.bool (decide (a<b)))
 | .leq=>some (.bool (decide (a<=b)))
 | .gtr=>some (.bool (decide (a>b)))
 | .geq=>some (.bool (decide (a>=b)))
 |_=>none
def R7:IntKind->IntKind->Bool
 | .i8,.i8| .i16,.i16| .i32,.i32| .i64,.i64| .u8,.u8| .u16,.u16| .u32,.u32| .u64,.u64=>true
 |_,_=>false
theorem sT {a b:IntKind} (h:R7 a b=true):a=b:=by cases a<;>cases b<;>first|rfl|cases h
def UA (op:BinOp):Option Value->Option Value->Option Value
 | some (.int k a),some (.int U b)=>match R7 k U with
   |true=>Uz op k a b
   |false=>none
 | some (.string a),some (.string b)=>match op with
   | .eql=>some (.bool (a.toList==b.toList))
   | .neq=>some (.bool (!(a.toList==b.toList)))
   | .add=>none
   |_=>none
 |_,_=>none
def B6 (S:List (Nat×Value)):Op->Option Value
 | .move x=>da S x
 | .assign x=>da S x
 | .pick c a b=>match da S c with
   |some (.bool true)=>da S a
   |some (.bool false)=>da S b
   |_=>none
 | .binOp op _ x y _=>UA op (da S x) (da S y)
 | .unOp .not _ x=>match da S x with
   |some (.bool b)=>some (.bool (!b))
   |_=>none
 | .extract x i=>match da S x with
   |some (.tuple vs)=>vs[i]?
   |_=>none
 | .nilCheck x=>match da S x with
   |some (.pointer (some a))=>some (.pointer (some a))
   |_=>none
 |_=>none
theorem Km {P:Program} {op:BinOp} {k:IntKind} {a b:Int} {t:TypeId} (h:Uz op k a b=some v)(w:World):(binOp op t (.int k a) (.int k b)).run P w=.ok v w:=by
 cases op<;>simp only[Uz,Option.some.injEq]at h<;>first|(cases h;done)|(subst h;simp[binOp,Op.intArith,Op.intCmp])
theorem nc {P:Program} {n:FD} {S:List (Nat×Value)} {a:Act} {o:Oper} (hf:gU n S a)(h:B6 S o.op=some v)(w:World):(execOp a.eval o).run P w=.ok (.value v) w:=by
 unfold B6 at h;unfold execOp;split at h;· rename_i x U;simp[U,hf.eval h]
 · rename_i x U;simp[U,hf.eval h]
 ·rename_i c x y U;split at h;· rename_i hc;simp[U,hf.eval hc,hf.eval h,asBool]
  · rename_i hc;simp[U,hf.eval hc,hf.eval h,asBool]
  · cases h
 ·rename_i op t x y u U;unfold UA at h;split at h
  ·rename_i k a' k' b' hx hy;split at h
   ·rename_i hk;obtain rfl:=sT hk;simp only[U,hf.eval hx,hf.eval hy];have:=Km (P:=P) (t:=t) h w;simp[eqGuard,this]
   · cases h
  ·rename_i a' b' hx hy;simp only[U,hf.eval hx,hf.eval hy];cases op<;>simp only[Option.some.injEq]at h<;>first|(cases h;done)|(subst h;simp[eqGuard,binOp,Op.stringOp])
  · cases h
 ·rename_i t x U;split at h;· rename_i b hx;cases h;simp[U,hf.eval hx,Op.unary]
  · cases h
 ·rename_i x i U;split at h;· rename_i vs hx;simp[U,hf.eval hx,Instr.extract,h]
  · cases h
 ·rename_i x U;split at h;· rename_i b hx;cases h;simp[U,hf.eval hx]
  · cases h
 · cases h
section rules
variable {P:Program} {C:Ctx} {n:FD} {Q:Exit->Act->World->Prop} {Φ Φ':List Fact} {H H':List Fact} {S S':List (Nat×Value)} {ops:Array Oper} {rest:List Oper} {o:Oper} {d:Nat}
variable {v:Value}{x:Operand}{t b q sz k:Nat}{g:Bool}{cs all:List Value}
theorem Qq (hg:QM ops S o=some true)(hd:o.dst=some d)(hn:A' d n=true)(U:ft d S=S')(hv:B6 S o.op=some v)(next:WL P C n Q Φ H ((d,v)::S') ops rest):WL P C n Q Φ H S ops (o::rest):=
 HT hg hd hn U (λ_ w hf _=>nc hf hv w) next
theorem G3 {t:TypeId} {p:Option Addr} {c e:Nat} (hg:QM ops S o=some true)(hd:o.dst=some d)(hn:A' d n=true)(U:ft d S=S')(ho:o.op=.call {callee:=.builtin .len,args:=#[x],argTypes:=#[t]})
  (hx:da S x=some (.slice p k c)) (ht:iA P t=some e) (next:WL P C n Q Φ H ((d,.int .i64 (k:Int))::S') ops rest):WL P C n Q Φ H S ops (o::rest):=
 HT hg hd hn U (λa w hf _=>by simp[execOp,ho,resolve,invoke,builtin,Builtin.len_,hf.eval hx,run_underlying (w5 ht),goInt]) next
theorem QbX {off:Nat} (hg:QM ops S o=some true)(hd:o.dst=some d)(hn:A' d n=true)(U:ft d S=S')(ho:o.op=.fieldAddr t x k)(hx:da S x=some (.pointer (some ⟨b,q,none⟩)))
  (hk:QW P t k=some off) (next:WL P C n Q Φ H ((d,.pointer (some ⟨b,q+off,none⟩))::S') ops rest):WL P C n Q Φ H S ops (o::rest):=
 HT hg hd hn U (λa w hf _=>by simp[execOp,ho,hf.eval hx,mN hk]) next
theorem vF {v':Value} (hx:look S d=some v)(hS:ft d S=S')(e:v=v')(next:WL P C n Q Φ H ((d,v')::S') ops rest):WL P C n Q Φ H S ops rest:=by
 subst e;subst hS
 exact λa w hf hw=>next a w (hf.sub λx U=>by
  rcases t'.1 U with rfl|U;· exact NY hx
  · exact(Ss U).1) hw
theorem iZ {φ:Fact} (h:Φ[k]? =some φ):φ∈Φ:=I' h
def lY (agg:Bool)(cs:List Value):Option Value:=match agg,cs with
 |true,cs=>some (.agg cs.toArray)
 |false,[c]=>some c
 |false,_=>none
theorem TT {t:TypeId} {w:World} (hc:qV w b q cs)(hs:QT P t=some sz)(ha:gx P t=some g)(hl:cs.length=sz)(U:lY g cs=some v):
  (loadVar t ⟨b,q,none⟩).run P w=.ok v w:=by
 unfold loadVar;simp only[Sem.run_bind,vo ha,Result.andThen_ok];unfold lY at U;split at U
 ·cases U
  have h1:(loadCells ⟨b,q,none⟩ cs.length).run P w=.ok cs.toArray w:=
   run_loadCells_list (P:=P) w ⟨b,q,none⟩ cs (λj v U=>by rw[DC];exact hc j v U)
  rw[hl]at h1;simp[AD hs,h1]
 ·cases U;have:=hc 0 v rfl;simp at this;simp[load,Sem.run,this]
 · cases U
theorem vH (hg:QM ops S o=some true)(hd:o.dst=some d)(hn:A' d n=true)(U:ft d S=S')(ho:o.op=.load t x)(hx:da S x=some (.pointer (some ⟨b,q,none⟩)))
  (hc:∀w,Ql C Φ H w->qV w b q cs) (hs:QT P t=some sz) (ha:gx P t=some g) (hl:cs.length=sz) (hv:lY g cs=some v) (next:WL P C n Q Φ H ((d,v)::S') ops rest):WL P C n Q Φ H S ops (o::rest):=
 HT hg hd hn U (λa w hf hw=>by simp[execOp,ho,hf.eval hx,Instr.loadAt,Instr.sureAddr,TT (hc w hw) hs ha hl hv]) next
theorem RW (k j:Nat)(hg:QM ops S o=some true)(hd:o.dst=some d)(hn:A' d n=true)(hS:ft d S=S')(ho:o.op=.load t x)
  (U:Φ[k]? =some (.cells b q all)) (hx:da S x=some (.pointer (some ⟨b,q+j,none⟩))) (sQ:(all.drop j).take sz=cs)
  (hs:QT P t=some sz) (ha:gx P t=some g) (hl:cs.length=sz) (hv:lY g cs=some v) (next:WL P C n Q Φ H ((d,v)::S') ops rest):WL P C n Q Φ H S ops (o::rest):=
 vH hg hd hn hS ho hx (λw ⟨F,N,hi⟩ i u hu=>by
  have:=(hi.facts _ (iZ U)).2 (j+i) u (by rw[<-sQ,l!]at hu;split at hu<;>first|(rw[n!]at hu;exact hu)|cases hu);rwa [<-p!]at this) hs ha hl hv next
theorem QaQ {w:World} {g:Nat} (h:w.heap[g]? =some (.cells all.toArray t)):qV w g 0 all:=λi u hu=>by
 rw[i!,cell_of_row w g i _ t (0,0) h];simpa using hu
theorem O2 {tb:Nat} (k j:Nat)(hg:QM ops S o=some true)(hd:o.dst=some d)(hn:A' d n=true)(hS:ft d S=S')(ho:o.op=.load t x)
  (U:H[k]? =some (.blk b all tb)) (hx:da S x=some (.pointer (some ⟨b,j,none⟩))) (sQ:(all.drop j).take sz=cs)
  (hs:QT P t=some sz) (ha:gx P t=some g) (hl:cs.length=sz) (hv:lY g cs=some v) (next:WL P C n Q Φ H ((d,v)::S') ops rest):WL P C n Q Φ H S ops (o::rest):=
 vH hg hd hn hS ho hx (λw ⟨F,N,hi⟩ i u hu=>by
  have:=QaQ (hi.owns k _ U).2 (j+i) u (by rw[<-sQ,l!]at hu;split at hu<;>first|(rw[n!]at hu;exact hu)|cases hu);rwa [i!]at this) hs ha hl hv next
end rules
def r6 (M:ep)(N:Nat->ep):Nat->ep
 |0=>M
 |i+1=>N i
section mem
variable {C:Ctx} {Φ H H':List Fact} {F:ep} {N:Nat->ep} {w w':World}
theorem iD.grow (h:iD C Φ H F N w)(U:Below w.heap.size w w'):iD C Φ H F N w':=
 ⟨λk hk=>z' (h.flt k hk) U.size,h.fold,h.fnew,λφ bj=>φ.good (λ_ h=>h) (λk hk=>U.block k (h.flt k hk)) (h.facts φ bj),
  λi φ hi=>φ.opgood (λ_ h=>h) (λk hk=>U.block k (h.nlt i k (f'.1 hi).1 hk).1) (λ_ h=>h) (λk hk=>U.block k (h.flt k hk)) (h.owns i φ hi),
  λi k hi hk=>⟨z' (h.nlt i k hi hk).1 U.size,(h.nlt i k hi hk).2⟩,h.apart,h.mod.trans' (T:=λ_=>False) (Mod.of_below U) (λ_ _ h=>h.elim)⟩
theorem iD.push (h:iD C Φ H F N w)(φ:Fact)(M:ep)(ku:φ.op M F w)(hM:∀k,M k->k<w.heap.size/\(C.w0.heap.size<=k\/C.S0 k)/\¬F k)(hd:∀i k,i<H.length->M k->¬N i k):iD C Φ (φ::H) F (r6 M N) w:=by
 refine{h with owns:=?_,nlt:=?_,apart:=?_}
 ·intro i ψ hi;cases i with
  |zero=>cases hi;exact ku
  |succ i=>exact h.owns i ψ hi
 ·intro i k hi hk;cases i with
  |zero=>exact hM k hk
  |succ i=>exact h.nlt i k (cx hi) hk
 ·intro i j k hi hj de hk U;cases i with
  | zero=>cases j with
    |zero=>exact de rfl
    |succ j=>exact hd j k (cx hj) hk U
  | succ i=>cases j with
    |zero=>exact hd i k (cx hi) U hk
    |succ j=>exact h.apart i j k (cx hi) (cx hj) an hk U
theorem iD.set (h:iD C Φ H F N w)(k:Nat)(hk:k<H.length)(hm:Mod (N k) w w')(φ:Fact)(ku:φ.op (N k) F w'):iD C Φ (H.set k φ) F N w':=by
 have hF:ia F w w':=λj U=>hm.block j (h.flt j U) (λhn=>(h.nlt k j hk hn).2.2 U);refine⟨λj U=>z' (h.flt j U) hm.size,h.fold,h.fnew,λψ j7=>ψ.good (λ_ h=>h) hF (h.facts ψ j7),?_,?_,?_,?_⟩
 ·intro i ψ hi;by_cases jq:i=k
  ·subst jq;rw[r! hk]at hi;cases hi;exact ku
  ·rw[t! (Ne.symm jq)]at hi;have fb:=(f'.1 hi).1;exact ψ.opgood (λ_ h=>h) (λj U=>hm.block j (h.nlt i j fb U).1 (λhn=>h.apart i k j fb hk jq U hn)) (λ_ h=>h) hF (h.owns i ψ hi)
 ·intro i j hi U;rw[Z']at hi;exact⟨z' (h.nlt i j hi U).1 hm.size,(h.nlt i j hi U).2⟩
 ·intro i j q hi U;rw[Z']at hi U;exact h.apart i j q hi U
 · exact h.mod.trans' (T:=N k) hm (λi hi hn=>by
   rcases(h.nlt k i hk hn).2.1 with h1|h1;· omega
   · exact h1)
theorem Ql.alloc (h:Ql C Φ H w)(cs:Array Value)(t:TypeId):Ql C Φ (.blk w.heap.size cs.toList t::H) (w.alloc (.cells cs t)):=by
 obtain⟨F,N,hi⟩:=h;have U:Below w.heap.size w (w.alloc (.cells cs t)):=(Below.refl _ _).alloc (W' _) _;refine⟨F,r6 (λk=>k=w.heap.size) N,(hi.grow U).push _ _ ⟨rfl,by simpa using heap_alloc_new w (.cells cs t)⟩ ?_ ?_⟩
 ·rintro k rfl;exact⟨ax,.inl hi.mod.size,λhf=>J! _ (hi.flt _ hf)⟩
 ·rintro i k hl rfl hn;exact J! _ (hi.nlt i _ hl hn).1
theorem Ql.freeze (h:Ql C Φ H w)(k:Nat) {φ:Fact} (hk:H[k]? =some φ)(hE:H.eraseIdx k=H'):Ql C (φ::Φ) H' w:=by
 obtain⟨F,N,hi⟩:=h;have bp:=(f'.1 hk).1;subst hE;have j6:∀j,F j->(F j\/N k j):=λ_ h=>.inl h;have hlen:(H.eraseIdx k).length=H.length-1:=List.length_eraseIdx_of_lt bp;refine⟨λj=>F j\/N k j,λi=>N (if i<k then i else i+1),?_,λj U=>.inl (hi.fold j U),?_,?_,?_,?_,?_,hi.mod⟩
 ·rintro j (U|U);· exact hi.flt j U
  · exact(hi.nlt k j bp U).1
 ·rintro j (U|U);· exact hi.fnew j U
  · exact .inr (hi.nlt k j bp U).2.1
 ·intro ψ j7;rcases t'.1 j7 with rfl|j7;· exact ψ.opgood (λ_ h=>.inr h) (ia.refl _ _) (λ_ h=>.inl h) (ia.refl _ _) (hi.owns k ψ hk)
  · exact ψ.good j6 (ia.refl _ _) (hi.facts ψ j7)
 ·intro i ψ j7;rw[List.getElem?_eraseIdx]at j7;refine ψ.opgood (λ_ h=>h) (ia.refl _ _) j6 (ia.refl _ _) ?_;split at j7<;>rename_i jq;· rw[if_pos jq];exact hi.owns i ψ j7
  · rw[if_neg jq];exact hi.owns (i+1) ψ j7
 ·intro i j hl U;rw[hlen]at hl;have h1:(if i<k then i else i+1)<H.length:=by split<;>omega
  refine⟨(hi.nlt _ j h1 U).1,(hi.nlt _ j h1 U).2.1,?_⟩;rintro(hf|hf);· exact(hi.nlt _ j h1 U).2.2 hf
  · exact hi.apart _ k j h1 bp (by split<;>omega) U hf
 ·intro i j q hl wv de;rw[hlen]at hl wv;exact hi.apart _ _ q (by split<;>omega) (by split<;>omega) (by split<;>split<;>omega)
theorem Ql.drop (h:Ql C Φ H w)(k:Nat)(hk:k<H.length)(hE:H.eraseIdx k=H'):Ql C Φ H' w:=
 (h.freeze k (E' hk) hE).sub λφ U=>r' _ U
end mem
section WZ
variable {P:Program} {C:Ctx} {n:FD} {Q:Exit->Act->World->Prop} {Φ Φ':List Fact} {H H':List Fact} {S S':List (Nat×Value)} {ops:Array Oper} {rest:List Oper} {o:Oper} {d:Nat}
variable {t:Nat}{φ:Fact}{x:Operand}{v:Value}
theorem OQ (k:Nat) (hk:H[k]? =some φ)(U:H.eraseIdx k=H')(h:WL P C n Q (φ::Φ) H' S ops rest):WL P C n Q Φ H S ops rest:=λa w hf hw=>h a w hf (hw.freeze k hk U)
theorem Yk {c:Code} (k:Nat) (hk:H[k]? =some φ)(U:H.eraseIdx k=H')(h:WC P C n Q (φ::Φ) H' S c):WC P C n Q Φ H S c:=λa w hf hw=>h a w hf (hw.freeze k hk U)
theorem Jl (k:Nat)(hk:A' k H.length=true)(U:H.eraseIdx k=H')(h:WL P C n Q Φ H' S ops rest):WL P C n Q Φ H S ops rest:=λa w hf hw=>h a w hf (hw.drop k (l' hk) U)
theorem Yh {P:Program} (w:World)(e:TypeId)(cs:Array Value):(newRow e cs).run P w=.ok ⟨w.heap.size,0,none⟩ (w.alloc (.cells cs e)):=by simp[newRow,newObj];rfl
theorem QP {z:Value} {zs:List Value} (hg:QM ops S o=some true)(hd:o.dst=some d)(hn:A' d n=true)(U:ft d S=S')(ho:o.op=.alloc t)(hz:j1 P t=some z)(vU:z.cells.toList=zs)
  (next:∀g,WL P C n Q Φ (.blk g zs t::H) ((d,.pointer (some ⟨g,0,none⟩))::S') ops rest):WL P C n Q Φ H S ops (o::rest):=
 B8 hg hd hn U λa w hf hw=>⟨_,_,by simp[execOp,ho,Instr.alloc,U6 hz,newVar,Yh];exact⟨rfl,rfl⟩,_,_,hw.alloc _ _,by rw[vU];exact next _⟩
theorem vG {zs:List Value} (hg:QM ops S o=some true)(hd:o.dst=some d)(hn:A' d n=true)(U:ft d S=S')(ho:o.op=.box t x)(hx:da S x=some v)(vU:v.cells.toList=zs)
  (next:∀g,WL P C n Q Φ (.blk g zs t::H) ((d,.pointer (some ⟨g,0,none⟩))::S') ops rest):WL P C n Q Φ H S ops (o::rest):=
 B8 hg hd hn U λa w hf hw=>⟨_,_,by simp[execOp,ho,Instr.box,hf.eval hx,newVar,Yh];exact⟨rfl,rfl⟩,_,_,hw.alloc _ _,by rw[vU];exact next _⟩
def wL (all:List Value)(j:Nat)(cs:List Value):List Value:=all.take j++cs++all.drop (j+cs.length)
theorem Qau (all:List Value)(j:Nat)(cs:List Value)(h:j+cs.length<=all.length):Jr all j cs=wL all j cs:=QaY cs all j h
theorem Qbv {t g:Nat}:∀(cs all:List Value)(j:Nat)(w:World),w.heap[g]? =some (.cells all.toArray t)->(HH w g j cs).heap[g]? =some (.cells (Jr all j cs).toArray t)
 |[],all,j,w,h=>h
 | c::cs,all,j,w,h=>by
   refine Qbv cs (all.set j c) (j+1) _ ?_;have:=heap_setCell_same w g j _ t c h;simpa using this
theorem Qbw (g:Nat):∀(cs:List Value)(j:Nat)(w:World),Mod (λk=>k=g) w (HH w g j cs)
 |[],_,w=>Mod.refl _ _
 |c::cs,j,w=>(Mod.setCell (S:=λk=>k=g) (Mod.refl _ w) (p:=⟨g,j,none⟩) (λ_=>rfl) c).trans (Qbw g cs (j+1) _)
theorem Zw {P:Program} {t g:Nat}:∀(cs all:List Value)(q j:Nat)(w:World),w.heap[g]? =some (.cells all.toArray t)->q+j+cs.length<=all.length->(∀u∈cs,u.oneCell'=true)->
   (storeCells ⟨g,q,none⟩ cs j).run P w=.ok () (HH w g (q+j) cs)
 |[],all,q,j,w,h,_,_=>rfl
 | c::cs,all,q,j,w,h,hl,h1=>by
   have hc:w.cell? ⟨g,q+j,none⟩=some (all[q+j]'(by simp at hl;omega)):=by
    rw[cell_of_row w g _ _ t (0,0) h];simp
   have U:w.frozen? ⟨g,q+j,none⟩=false:=frozen_of_row w g (q+j) _ t h;have PZ:=h1 c ax
   have ca:(store ⟨g,q+j,none⟩ c).run P w=.ok () (w.setCell ⟨g,q+j,none⟩ c):=by
    unfold store;cases c<;>first|(simp[Value.oneCell']at PZ;done)|simp[Sem.run,hc,U]
   unfold storeCells;rw[DC];simp only[Sem.run_bind,ca,Result.andThen_ok]
   have h2:(w.setCell ⟨g,q+j,none⟩ c).heap[g]? =some (.cells (all.set (q+j) c).toArray t):=by
    have:=heap_setCell_same w g (q+j) _ t c h;simpa using this
   have:=Zw (P:=P) cs (all.set (q+j) c) q (j+1) _ h2 (by simp at hl⊢;omega) (λu hu=>h1 u (by simp[hu]));rw[this];rfl
theorem Dn (hg:QM ops S o=some true)(hd:o.dst=none)(run:∀a w,gU n S a->Ql C Φ H w->∃w',(execOp a.eval o).run P w=.ok .skip w'/\Ql C Φ' H' w')(next:WL P C n Q Φ' H' S ops rest):WL P C n Q Φ H S ops (o::rest):=by
 intro a w U hw;obtain⟨w',hr,h1⟩:=run a w U hw;refine wpList_step λK hK=>?_
 rw[Jf U hg,if_pos rfl];unfold Oper.wp;rw[hr,Oper.upon_skip,hd];exact hK _ _ (next _ _ U h1)
theorem Ql.store {w:World} (hw:Ql C Φ H w) {k g t:Nat} {all cs all':List Value} (j:Nat)(hk:H[k]? =some (.blk g all t))(hl:j+cs.length<=all.length)(ha:wL all j cs=all')(hH:H.set k (.blk g all' t)=H'):Ql C Φ H' (HH w g j cs):=by
 obtain⟨F,N,hi⟩:=hw;have bp:=(f'.1 hk).1;have U:=hi.owns k _ hk;subst hH;exact⟨F,N,hi.set k bp ((Qbw g cs j w).mono λi _ e=>by subst e;exact U.1) _ ⟨U.1,by rw[<-ha,<-Qau _ _ _ hl];exact Qbv cs all j w U.2⟩⟩
theorem Dq {sz b tb:Nat} {y:Operand} {all cs all':List Value} (k j:Nat)(hg:QM ops S o=some true)(hd:o.dst=none)(ho:o.op=.store t x y)
  (U:H[k]? =some (.blk b all tb)) (hx:da S x=some (.pointer (some ⟨b,j,none⟩))) (hy:da S y=some v) (hv:v.cells.toList=cs) (hs:QT P t=some sz) (hl:J' cs.length sz=true) (h1:cs.all (·.oneCell')=true)
  (hle:I! (j+sz) all.length=true) (ha:wL all j cs=all') (hH:H.set k (.blk b all' tb)=H') (next:WL P C n Q Φ H' S ops rest):WL P C n Q Φ H S ops (o::rest):=by
 have wv:=y' hl;have a0U:=l' hle;refine Dn hg hd (λa w hf hw=>⟨_,?_,hw.store j U an ha hH⟩) next
 obtain⟨F,N,hi⟩:=hw;have ku:=hi.owns k _ U;have:=Zw (P:=P) cs all j 0 w ku.2 an (λu hu=>C'.1 h1 u hu);have j9:v.cells.size=sz:=by rw[<-wv,<-hv];simp
 simp only[execOp,ho,hf.eval hx,hf.eval hy,Instr.storeAt,Instr.sureAddr,storeVar,Sem.run_bind,Sem.run_pure,Result.andThen_ok,AD hs,j9,hv];simp[this]
end WZ
end
section
open Go.RowKit
def tD (C:Ctx)(R:Value->List Fact->List Fact->Prop)(e:Ending)(w:World):Prop:=∃v bo Hr,e=.returned v/\R v bo Hr/\Ql C bo Hr w
def QD (P:Program)(f:FuncId)(args:List Value)(Φ U:List Fact)(R:Value->List Fact->List Fact->Prop):Prop:=
 ∀ (F:ep) (N:Nat->ep) (w:World),(∀k,F k->k<w.heap.size)->(∀φ∈Φ,φ.p F w)->(∀(i:Nat) (h:Fact),U[i]? =some h->h.op (N i) F w)->
   (∀i k,i<U.length->N i k->k<w.heap.size/\¬F k)->(∀i j k,i<U.length->j<U.length->i≠j->N i k->¬N j k)->
   Calls P f args.toArray w (tD ⟨w,λk=>∃i,i<U.length/\N i k,F⟩ R)
def Dw:Nat->List Value->List (Nat×Value)
 |_,[]=>[]
 |k,v::l=>(k,v)::Dw (k+1) l
theorem vJ:∀{l:List Value} {k:Nat} {x:Nat×Value},x∈Dw k l->k<=x.1/\l[x.1-k]? =some x.2
 | v::l,k,x,h=>by
   rcases t'.1 h with rfl|h;· simp
   ·obtain⟨h1,U⟩:=vJ h;refine⟨an,?_⟩;rw[show x.1-k=(x.1-(k+1))+1 from by omega];simpa using U
theorem Qp {P:Program} {f:FuncId} {fn:Func} {body:Code} {n:Nat} {args:List Value} {S:List (Nat×Value)} {Φ rI:List Fact} {R:Value->List Fact->List Fact->Prop}
  (hf:P.funcs[f]? =some fn) (hb:fn.body=some body) (hn:fn.ntmps=n) (hle:I! args.length n=true) (hS:Dw 0 args=S) (h:∀C,WC P C ⟨n,[]⟩ (bodyPost P fn (tD C R)) Φ rI S body):QD P f args Φ rI R:=by
 intro F N w hF eo hH bp uo;refine calls_of_wp hf hb (h ⟨w,λk=>∃i,i<rI.length/\N i k,F⟩ _ w ⟨?_,rfl,?_⟩ ⟨F,N,hF,λ_ h=>h,λ_ h=>.inl h,eo,hH,λi k hi hk=>⟨(bp i k hi hk).1,.inr ⟨i,hi,hk⟩,(bp i k hi hk).2⟩,uo,Mod.refl _ _⟩)
 ·have:=l' hle;simp[hn];try omega
 ·intro x hx;rw[<-hS]at hx;obtain⟨_,U⟩:=vJ hx;rw[Nat.sub_zero]at U;have hl:=(f'.1 U).1;rw[Array.getElem?_append_left (cx hl)];simpa using U
def QQ (H:List Fact)(l:List Nat):List Fact:=l.filterMap λi=>H[i]?
def ig:List Nat->Nat->Bool
 |[],_=>true
 |i::l,m=>A' i m&& !(l.any λj=>J' i j)&&ig l m
theorem ZY:∀{l:List Nat} {m:Nat},ig l m=true->(∀i∈l,i<m)/\l.Nodup
 |[],_,_=>⟨ax,List.nodup_nil⟩
 | i::l,m,h=>by
   simp only[ig,G',D',List.any_eq_false]at h;obtain⟨⟨h1,h2⟩,h3⟩:=h;obtain⟨h4,h5⟩:=ZY h3;refine⟨λj U=>?_,List.nodup_cons.2 ⟨λhm=>h2 i hm (B! i),h5⟩⟩;rcases t'.1 U with rfl|U;· exact l' h1
   · exact h4 j U
theorem Yf (H:List Fact):∀(l:List Nat),(∀i∈l,i<H.length)->(QQ H l).length=l.length/\∀(i:Nat)(h:Fact),(QQ H l)[i]? =some h->∃j,l[i]? =some j/\H[j]? =some h
 |[],_=>⟨rfl,λi h hi=>by simp[QQ]at hi⟩
 | j::l,U=>by
   obtain⟨h1,h2⟩:=Yf H l λi hi=>U i (by simp[hi]);have hj:H[j]? =some (H[j]'(U j ax)):=E' _;have he:QQ H (j::l)=H[j]'(U j ax)::QQ H l:=by simp[QQ,hj]
   rw[he];refine⟨by simp[h1],λi h hi=>?_⟩;cases i with
   |zero=>exact⟨j,rfl,by simp at hi;rw[hj,hi]⟩
   |succ i=>exact h2 i h (cx hi)
theorem xZ {l:List Nat} (h:l.Nodup) {i j a:Nat} (hi:l[i]? =some a)(hj:l[j]? =some a):i=j:=by
 obtain⟨h1,U⟩:=f'.1 hi;obtain⟨h3,h4⟩:=f'.1 hj;have:=U.trans h4.symm;exact(List.getElem_inj h).1 this
section
variable {C:Ctx} {Φ H:List Fact} {F:ep} {N:Nat->ep} {w:World}
theorem iD.pick (h:iD C Φ H F N w)(l:List Nat)(hl:ig l H.length=true):iD C Φ (QQ H l) F (λi=>N (l.getD i 0)) w:=by
 obtain⟨h1,h2⟩:=ZY hl;obtain⟨h3,h4⟩:=Yf H l h1
 have key:∀i,i<(QQ H l).length->∃j,l[i]? =some j/\l.getD i 0=j/\j<H.length:=by
  intro i hi;rw[h3]at hi;exact⟨l[i],E' hi,by simp[hi],h1 _ (c! hi)⟩
 refine{h with owns:=?_,nlt:=?_,apart:=?_}
 ·intro i φ hi;obtain⟨j,U,bj⟩:=h4 i φ hi;have:l.getD i 0=j:=by simp[M!,U]
  simp only[this];exact h.owns j φ bj
 ·intro i k hi hk;obtain⟨j,_,e,U⟩:=key i hi;simp only[e]at hk;exact h.nlt j k U hk
 ·intro i i' k hi fb de hk ec;obtain⟨j,U,e,GK⟩:=key i hi;obtain⟨j',PT,e',a2C⟩:=key i' fb;simp only[e,e']at hk ec;exact h.apart j j' k GK a2C (λejj=>de (by subst ejj;exact xZ h2 U PT)) hk ec
end
theorem Ql.pick {C:Ctx} {Φ H:List Fact} {w:World} (h:Ql C Φ H w)(l:List Nat)(U:ig l H.length=true):Ql C Φ (QQ H l) w:=by
 obtain⟨F,N,hi⟩:=h;exact⟨F,_,hi.pick l U⟩
theorem iD.after {C:Ctx} {Φ H:List Fact} {F:ep} {N:Nat->ep} {w w':World} (h:iD C Φ H F N w) {l m:List Nat} (hl:ig (l++m) H.length=true) {bo Hr:List Fact}
  (hr:Ql ⟨w,λk=>∃i,i<(QQ H l).length/\N (l.getD i 0) k,F⟩ bo Hr w'):Ql C (bo++Φ) (Hr++QQ H m) w':=by
 obtain⟨F',N',hr⟩:=hr;obtain⟨h1,h2⟩:=ZY hl;obtain⟨h3,h4⟩:=Yf H l λi hi=>h1 i (by simp[hi]);obtain⟨h5,h6⟩:=Yf H m λi hi=>h1 i (by simp[hi])
 have hS:∀k,(∃i,i<(QQ H l).length/\N (l.getD i 0) k)->∃j,j∈l/\j<H.length/\N j k:=by
  rintro k ⟨i,hi,hk⟩;rw[h3]at hi;refine⟨l[i],c! hi,h1 _ (by simp[c! hi]),?_⟩;simpa[M!,hi]using hk
 have hSF:∀k,(∃i,i<(QQ H l).length/\N (l.getD i 0) k)->¬F k:=λk hk hf=>by
  obtain⟨j,_,U,hn⟩:=hS k hk;exact(h.nlt j k U hn).2.2 hf
 have hSm:∀j,j∈m->∀k,N j k->¬∃i,i<(QQ H l).length/\N (l.getD i 0) k:=λj U k hk hs=>by
  obtain⟨j',PT,bp,hn⟩:=hS k hs
  have de:j≠j':=by
   rintro rfl;exact(C!.1 h2).2.2 j PT j U rfl
  exact h.apart j j' k (h1 j (by simp[U])) bp de hk hn
 have aF:ia F w w':=λk hk=>hr.mod.block k (h.flt k hk) λhs=>hSF k hs hk;have aN:∀j,j∈m->ia (N j) w w':=λj U k hk=>hr.mod.block k (h.nlt j k (h1 j (by simp[U])) hk).1 (hSm j U k hk);have hmi:∀i,i<m.length->∃j,m[i]? =some j/\j∈m/\m.getD i 0=j:=λi hi=>⟨m[i],E' hi,c! hi,by simp[hi]⟩
 refine⟨F',λi=>if i<Hr.length then N' i else N (m.getD (i-Hr.length) 0),hr.flt,λk hk=>hr.fold k (h.fold k hk),?_,?_,?_,?_,?_,?_⟩
 ·intro k hk;rcases hr.fnew k hk with h0|h0|h0;· exact h.fnew k h0
  · exact .inr (.inl (a! h.mod.size h0))
  ·obtain⟨j,_,U,hn⟩:=hS k h0;exact .inr (h.nlt j k U hn).2.1
 ·intro φ bj;rcases Y'.1 bj with bj|bj;· exact hr.facts φ bj
  · exact φ.good hr.fold aF (h.facts φ bj)
 ·intro i φ hi;by_cases bp:i<Hr.length
  ·rw[o! bp]at hi;simp only[bp,if_true];exact hr.owns i φ hi
  ·rw[k! an]at hi;simp only[bp,if_false];obtain⟨j,U,bj⟩:=h6 _ φ hi;have Wa:j∈m:=I' U;have e:m.getD (i-Hr.length) 0=j:=by simp[M!,U]
   rw[e];exact φ.opgood (λ_ h=>h) (aN j Wa) hr.fold aF (h.owns j φ bj)
 ·intro i k hi hk;by_cases bp:i<Hr.length
  ·simp only[bp,if_true]at hk;obtain⟨a,b,c⟩:=hr.nlt i k bp hk;refine⟨a,?_,c⟩;rcases b with b|b;· exact .inl (a! h.mod.size b)
   ·obtain⟨j,_,U,hn⟩:=hS k b;exact(h.nlt j k U hn).2.1
  ·simp only[bp,if_false]at hk;have fb:i-Hr.length<m.length:=by rw[j!,h5]at hi;omega
   obtain⟨j,_,Wa,e⟩:=hmi _ fb;rw[e]at hk;obtain⟨a,b,c⟩:=h.nlt j k (h1 j (by simp[Wa])) hk;refine⟨z' a hr.mod.size,b,λhf=>?_⟩;rcases hr.fnew k hf with h0|h0|h0;· exact c h0
   · exact absurd a (by simp at h0;omega)
   · exact hSm j Wa k hk h0
 ·have SE:∀i j k,i<Hr.length->¬j<Hr.length->j<Hr.length+m.length->N' i k->¬N (m.getD (j-Hr.length) 0) k:=by
   intro i j k hi U PT hk ec;obtain⟨j',_,Wa,e⟩:=hmi (j-Hr.length) an;rw[e]at ec;obtain⟨_,b,_⟩:=hr.nlt i k hi hk;rcases b with b|b;· exact absurd (h.nlt j' k (h1 j' (by simp[Wa])) ec).1 (by simp at b;omega)
   · exact hSm j' Wa k ec b
  intro i j k hi U de hk ec;rw[j!,h5]at hi U;by_cases bp:i<Hr.length<;>by_cases zH:j<Hr.length
  ·simp only[bp,zH,if_true]at hk ec;exact hr.apart i j k bp zH de hk ec
  ·simp only[bp,zH,if_true,if_false]at hk ec;exact SE i j k bp zH U hk ec
  ·simp only[bp,zH,if_true,if_false]at hk ec;exact SE j i k zH bp hi ec hk
  ·simp only[bp,zH,if_false]at hk ec;obtain⟨a,ha,ham,ea⟩:=hmi (i-Hr.length) an;obtain⟨b,hb,Jv,eb⟩:=hmi (j-Hr.length) an;rw[ea]at hk;rw[eb]at ec;refine h.apart a b k (h1 a (by simp[ham])) (h1 b (by simp[Jv])) (λeab=>de ?_) hk ec;subst eab;have:=xZ (C!.1 h2).2.1 ha hb;omega
 ·refine h.mod.trans' hr.mod λi hi hs=>?_;obtain⟨j,_,U,hn⟩:=hS i hs;rcases(h.nlt j i U hn).2.1 with h0|h0;· omega
  · exact h0
def xm (S:List (Nat×Value)):List Operand->Option (List Value)
 |[]=>some []
 | x::l=>match da S x,xm S l with
   |some v,some vs=>some (v::vs)
   |_,_=>none
theorem gU.evalL {n:FD} {S:List (Nat×Value)} {a:Act} (h:gU n S a):∀{l:List Operand} {vs:List Value},xm S l=some vs->l.map a.eval=vs
 |[],_,e=>by cases e;rfl
 | x::l,vs,e=>by
   unfold xm at e;split at e;· rename_i v vs' hv U;cases e;simp[h.eval hv,h.evalL U]
   · cases e
def cy (P:Program)(f:FuncId):Bool:=match P.funcs[f]? with
 |some fn=>fn.body.isSome&& !(fn.name== "runtime.NumGoroutine")
 |none=>false
theorem Yl {P:Program} {f:FuncId} (h:cy P f=true)(args:Array Value)(w:World):(callFunc f args).run P w=.ok (.enter f args) w:=by
 unfold cy at h;split at h
 ·rename_i fn hf;simp only[G',D']at h;have U:fn.body.isNone=false:=by cases U:fn.body<;>simp_all
  have hn:¬fn.name= "runtime.NumGoroutine":=λe=>by rw[e]at h;simp at h
  have mj:¬fn.body=none:=λe=>by rw[e]at U;simp at U
  simp[callFunc,hf,hn,mj]
 · cases h
section rules
variable {P:Program} {C:Ctx} {n:FD} {Q:Exit->Act->World->Prop} {Φ Φ':List Fact} {H H':List Fact} {S S':List (Nat×Value)} {ops:Array Oper} {rest:List Oper} {o:Oper} {d:Nat} {c x y:Code}
variable {f:FuncId}{xs:Array Operand}{ts:Array TypeId}{args:List Value}{Φf Hf:List Fact}{R:Value->List Fact->List Fact->Prop}
theorem I1 (l m:List Nat)(hg:QM ops S o=some true)
  (ho:o.op=.call {callee:=.value (.func f),args:=xs,argTypes:=ts}) (hx:xm S xs.toList=some args) (kS:cy P f=true)
  (hH:QQ H l=Hf) (spec:QD P f args Φf Hf R) (eo:∀F w,(∀ψ∈Φ,ψ.p F w)->∀φ∈Φf,φ.p F w) (hl:ig (l++m) H.length=true) (hm:QQ H m=H')
  (next:∀v bo Hr,R v bo Hr->∀a w,gU n S a->Ql C (bo++Φ) (Hr++H') w->wpList P ops Q rest (a.put o.dst v) w):WL P C n Q Φ H S ops (o::rest):=by
 subst hH;subst hm;intro a w U ⟨F,N,hi⟩
 have kr:ig l H.length=true:=by
  clear spec next
  have:∀(l:List Nat),ig (l++m) H.length=true->ig l H.length=true:=by
   intro l;induction l with
   |nil=>intro _;rfl
   | cons i l ih=>
     intro h;simp only[List.cons_append,ig,G',D',List.any_append,Bool.or_eq_false_iff]at h⊢;exact⟨⟨h.1.1,h.1.2.1⟩,ih h.2⟩
  exact this l hl
 have hp:=hi.pick l kr;have fa:=spec F _ w hi.flt (λφ bj=>eo F w hi.facts φ bj) hp.owns (λi k jq hk=>⟨(hp.nlt i k jq hk).1,(hp.nlt i k jq hk).2.2⟩) hp.apart;refine wpList_step λK hK=>?_;rw[Jf U hg,if_pos rfl];unfold Oper.wp
 have gY:xs.map a.eval=args.toArray:=by
  have:=U.evalL hx;have h0:xs=xs.toList.toArray:=ax
  rw[<-this,h0,q!]
 have fk:(execOp a.eval o).run P w=.ok (.enter f args.toArray) w:=by
  have Jx:a.eval (.func f)=.func (.func f) #[] #[]:=rfl
  have h2:(resolve a.eval {callee:=.value (.func f),args:=xs,argTypes:=ts} o.type).run P w=.ok {target:=.fn (.func f) #[],args:=args.toArray} w:=by
   simp[resolve,Jx,Deferred.ofValue,gY]
  unfold execOp;simp only[ho,Sem.run_bind,h2,Result.andThen_ok];simp[invoke,Yl kS]
 rw[fk,Oper.upon_enter];refine fa.mono ?_;rintro e w' ⟨v,bo,Hr,rfl,hR,hh⟩;exact hK _ _ (next v bo Hr hR a w' U (hi.after hl hh))
theorem Ax (l m:List Nat)(hg:QM ops S o=some true)(hd:o.dst=some d)(hn:A' d n=true)(hS:ft d S=S')
  (ho:o.op=.call {callee:=.value (.func f),args:=xs,argTypes:=ts}) (hx:xm S xs.toList=some args) (kS:cy P f=true)
  (hH:QQ H l=Hf) (spec:QD P f args Φf Hf R) (U:∀F w,(∀ψ∈Φ,ψ.p F w)->∀φ∈Φf,φ.p F w) (hl:ig (l++m) H.length=true) (hm:QQ H m=H')
  (next:∀v bo Hr,R v bo Hr->WL P C n Q (bo++Φ) (Hr++H') ((d,v)::S') ops rest):WL P C n Q Φ H S ops (o::rest):=
 I1 l m hg ho hx kS hH spec U hl hm λv bo Hr hR a w hf hw=>by rw[hd];exact next v bo Hr hR _ w (hf.put (l' hn) hS) hw
theorem uF {P:Program} {c:Code} {Q:Exit->Act->World->Prop} (I:Nat->Act->World->Prop)(round:∀m a w,I m a w->c.wp P (Exit.then (λa' w'=>∃m',m'<m/\I m' a' w') Q) a w):
  ∀m a w,I m a w->(Code.loop c).wp P Q a w:=by
 intro m a w h;intro b k cs
 have key:∀m a w,I m a w->∃e a' w',Q e a' w'/\Arrives P (lone (b.at a (.code c::.inLoop c::k)) cs w) b k cs e a' w':=by
  intro m;induction m using G! with
  | _ m ih=>
    intro a w hI;obtain⟨e,wk,wV,hq,U⟩:=round m a w hI b (.inLoop c::k) cs;cases e with
    | normal=>
      obtain⟨m',bp,a0C⟩:=hq;obtain⟨a2j,a2c,G8,a14,PI⟩:=ih m' bp wk wV a0C;exact⟨a2j,a2c,G8,a14,.of_steps (Steps.trans U (.one step_inLoop)) PI⟩
    |exit id=>exact⟨_,wk,wV,hq,.pass (x:=.inLoop c) rfl (λ_ _=>.inl ax) U⟩
    |goto l=>exact⟨_,wk,wV,hq,.pass (x:=.inLoop c) rfl (λ_ _=>.inl ax) U⟩
    |ret=>exact⟨_,wk,wV,hq,.pass (x:=.inLoop c) rfl (λ_ _=>.inl ax) U⟩
    |panic ch=>exact⟨_,wk,wV,hq,.pass (x:=.inLoop c) rfl (λ_ _=>.inl ax) U⟩
    |outgrown=>exact⟨_,wk,wV,hq,.pass (x:=.inLoop c) rfl (λ_ _=>.inl ax) U⟩
 obtain⟨e,a',w',hq,U⟩:=key m a w h;exact⟨e,a',w',hq,.of_steps (.one step_loop) U⟩
def pQ {σ:Type} (ok:σ->Prop)(rT:σ->List (Nat×Value))(iV rJ:σ->List Fact)(C:Ctx)(n:FD)(s:σ)(a:Act)(w:World):Prop:=ok s/\gU n (rT s) a/\Ql C (iV s) (rJ s) w
section
variable {σ:Type} {ok:σ->Prop} {rT:σ->List (Nat×Value)} {iV rJ:σ->List Fact} {μ:σ->Nat}
theorem CS (s':σ)(h0:ok s')(l:List Nat)(hS:j0 l S=rT s')(U:∀F w,(∀ψ∈Φ,ψ.p F w)->∀φ∈iV s',φ.p F w)(hH:H=rJ s') {a:Act} {w:World} (hf:gU n S a)(hw:Ql C Φ H w):pQ ok rT iV rJ C n s' a w:=by
 obtain⟨F,N,hi⟩:=hw;subst hH;exact⟨h0,hf.sub λx hx=>QcJ (by rw[hS];exact hx),F,N,{hi with facts:=U F w hi.facts}⟩
theorem Ul (ok:σ->Prop)(μ:σ->Nat)(rT:σ->List (Nat×Value))(iV rJ:σ->List Fact)(U:σ)(h0:ok U)(l:List Nat)(hS:j0 l S=rT U)(eo:∀F w,(∀ψ∈Φ,ψ.p F w)->∀φ∈iV U,φ.p F w)(hH:H=rJ U)
  (round:∀s,ok s->WC P C n (Exit.then (λa' w'=>∃s',μ s'<μ s/\pQ ok rT iV rJ C n s' a' w') Q) (iV s) (rJ s) (rT s) c):WC P C n Q Φ H S (.loop c):=by
 intro a w hf hw;refine uF (λm a w=>∃s,μ s=m/\pQ ok rT iV rJ C n s a w) ?_ (μ U) a w ⟨U,rfl,CS U h0 l hS eo hH hf hw⟩;rintro m a w ⟨s,rfl,cr,hf,hw⟩;refine wp_mono (round s cr a w hf hw) λe a' w' hq=>?_
 cases e with
 |normal=>obtain⟨s',h1,h2⟩:=hq;exact⟨_,h1,s',rfl,h2⟩
 |_=>exact hq
theorem Au (ok:σ->Prop)(rT:σ->List (Nat×Value))(iV rJ:σ->List Fact)(hx:WC P C n (Exit.then (λa w=>∃s,pQ ok rT iV rJ C n s a w) Q) Φ H S x)(hy:∀s,ok s->WC P C n Q (iV s) (rJ s) (rT s) y):WC P C n (Exit.then (λa w=>y.wp P Q a w) Q) Φ H S x:=
 fun a w hf hw=>wp_mono (hx a w hf hw) λe a' w' U=>by
  cases e with
  |normal=>obtain⟨s,h1,h2,h3⟩:=U;exact hy s h1 a' w' h2 h3
  |_=>exact U
theorem Qh {H':List Fact} {e:Exit} (l:List Nat)(hl:ig l H.length=true)(hH:QQ H l=H')(h:WE C n Q Φ H' S e):WE C n Q Φ H S e:=λa w U hw=>h a w U (by rw[<-hH];exact hw.pick l hl)
theorem RX {H':List Fact} (l:List Nat)(hl:ig l H.length=true)(hH:QQ H l=H')(h:WL P C n Q Φ H' S ops rest):WL P C n Q Φ H S ops rest:=λa w U hw=>h a w U (by rw[<-hH];exact hw.pick l hl)
theorem lL (s':σ)(h0:ok s')(l:List Nat)(hS:j0 l S=rT s')(U:∀F w,(∀ψ∈Φ,ψ.p F w)->∀φ∈iV s',φ.p F w)(hH:H=rJ s'):
 WE C n (Exit.then (λa w=>∃s,pQ ok rT iV rJ C n s a w) Q) Φ H S .normal:=λa w hf hw=>⟨s',CS s' h0 l hS U hH hf hw⟩
end
variable {v:Value}{fn:Func}{m t:Nat}{R:Value->List Fact->List Fact->Prop}{bo Hr:List Fact}{e:Exit}{r:ResultVar}
def K6 (tmps:Array Value):ResultVar->Sem Value
 | .tmp t=>pure (tmps.getD t undef)
 | .cell a t=>do loadVar t (<-asAddr (tmps.getD a undef))
theorem Qbs (fn:Func)(tmps:Array Value):results fn tmps=(do let vs <-fn.results.mapM (K6 tmps);pure (if h:vs.size=1 then vs[0]else .tuple vs)):=by
 unfold results;congr
def Be (P:Program)(C:Ctx)(n:FD)(Φ H:List Fact)(S:List (Nat×Value))(r:ResultVar)(v:Value):Prop:=
 ∀a w,gU n S a->Ql C Φ H w->(K6 a.tmps r).run P w=.ok v w
theorem kd (h:look S t=some v):Be P C n Φ H S (.tmp t) v:=λa w U _=>by
 have:=U.eval (x:=.tmp t) h;simp only[Act.eval]at this;simp[K6,this]
theorem nD {q b tb sz:Nat} {g:Bool} {all:List Value} (k:Nat)(hq:look S q=some (.pointer (some ⟨b,0,none⟩)))(U:H[k]? =some (.blk b all tb))(hs:QT P t=some sz)(ha:gx P t=some g)(hl:J' all.length sz=true)(hv:lY g all=some v):
  Be P C n Φ H S (.cell q t) v:=λa w hf ⟨F,N,hi⟩=>by
 have:=hf.eval (x:=.tmp q) hq;simp only[Act.eval]at this;simp only[K6,this,Sem.run_bind];simp[asAddr,TT (QaQ (hi.owns k _ U).2) hs ha (y' hl) hv]
theorem uV (l:List Nat)(hr:∀a w,gU ⟨m,[]⟩ S a->Ql C Φ H w->(results fn a.tmps).run P w=.ok v w)(hR:R v bo Hr)(eo:∀F w,(∀ψ∈Φ,ψ.p F w)->∀φ∈bo,φ.p F w)
  (hl:ig l H.length=true) (hH:QQ H l=Hr) (he:e=.ret\/e=.normal):WE C ⟨m,[]⟩ (bodyPost P fn (tD C R)) Φ H S e:=by
 subst hH;intro a w U hw
 have h1:bodyPost P fn (tD C R) .ret a w:=by
  refine⟨U.defers,v,hr a w U hw,v,bo,_,rfl,hR,?_⟩;obtain⟨F,N,hi⟩:=hw.pick l hl;exact⟨F,N,{hi with facts:=eo F w hi.facts}⟩
 rcases he with rfl|rfl<;>exact h1
theorem tA (l:List Nat)(mR:fn.results=#[r])(h1:Be P C ⟨m,[]⟩ Φ H S r v)(hR:R v bo Hr)(eo:∀F w,(∀ψ∈Φ,ψ.p F w)->∀φ∈bo,φ.p F w)
  (hl:ig l H.length=true) (hH:QQ H l=Hr) (he:e=.ret\/e=.normal):WE C ⟨m,[]⟩ (bodyPost P fn (tD C R)) Φ H S e:=
 uV l (λa w hf hw=>by
  have U:=h1 a w hf hw;simp[Qbs,mR,U]) hR eo hl hH he
theorem uW (l:List Nat)(mR:fn.results=#[])(hR:R (.tuple #[]) bo Hr)(U:∀F w,(∀ψ∈Φ,ψ.p F w)->∀φ∈bo,φ.p F w)
  (hl:ig l H.length=true) (hH:QQ H l=Hr) (he:e=.ret\/e=.normal):WE C ⟨m,[]⟩ (bodyPost P fn (tD C R)) Φ H S e:=
 uV l (λa w hf hw=>by simp[Qbs,mR]) hR U hl hH he
theorem vO {u:Value} {s:ResultVar} (l:List Nat)(mR:fn.results=#[r,s])(h1:Be P C ⟨m,[]⟩ Φ H S r v)(h2:Be P C ⟨m,[]⟩ Φ H S s u)(hR:R (.tuple #[v,u]) bo Hr)(eo:∀F w,(∀ψ∈Φ,ψ.p F w)->∀φ∈bo,φ.p F w)
  (hl:ig l H.length=true) (hH:QQ H l=Hr) (he:e=.ret\/e=.normal):WE C ⟨m,[]⟩ (bodyPost P fn (tD C R)) Φ H S e:=
 uV l (λa w U hw=>by
  have e1:=h1 a w U hw;have e2:=h2 a w U hw;simp[Qbs,mR,e1,e2]) hR eo hl hH he
end rules
end
section
open Go.RowKit
def qW {α Λ:Type} (R:fq α)(cells:α->Λ->List Value)(pure:α->Λ->Prop)(facts:α->Λ->List Fact):Prop:=
 ∀F w cs x,R.p F w cs x->∃r:Λ,cs=cells x r/\pure x r/\∀φ∈facts x r,φ.p F w
def jj (P:Program)(e:Nat):Option (Value×Nat×Nat):=match P.info? e with
 |some i=>i.zero.map λz=>(z,i.size,i.bytes)
 |none=>none
theorem Qb5 {P:Program} {e:Nat} {z:Value} {sz kP:Nat} (h:jj P e=some (z,sz,kP)):∃i,P.info? e=some i/\i.zero=some z/\i.size=sz/\i.bytes=kP:=by
 unfold jj at h;split at h
 ·rename_i i hi;cases hz:i.zero with
  |none=>simp[hz]at h
  |some U=>simp[hz]at h;exact⟨i,hi,by rw[hz,h.1],h.2.1,h.2.2⟩
 · cases h
section idx
variable {P:Program} {C:Ctx} {n:FD} {Q:Exit->Act->World->Prop} {Φ Φ':List Fact} {H H':List Fact} {S S':List (Nat×Value)} {ops:Array Oper} {rest:List Oper} {o:Oper} {d:Nat} {c:Code}
variable {α Λ:Type}{R:fq α}{t e sz cp m g:Nat}{x i:Operand}{l:List α}{cells:α->Λ->List Value}{pure:α->Λ->Prop}{facts:α->Λ->List Fact}{cs:List Value}{p:Option Addr}{ik:IntKind}{z:Int}
theorem ya {pure:Λ->Prop} {facts:Λ->List Fact} {w:World} (h:Ql C Φ H w)(ku:∀F,(∀ψ∈Φ,ψ.p F w)->∃r:Λ,pure r/\∀φ∈facts r,φ.p F w):∃r,pure r/\Ql C (facts r++Φ) H w:=by
 obtain⟨F,N,hi⟩:=h;obtain⟨r,h1,h2⟩:=ku F hi.facts;refine⟨r,h1,F,N,{hi with facts:=λφ U=>?_}⟩;rcases Y'.1 U with U|U;· exact h2 φ U
 · exact hi.facts φ U
theorem jV {x:α} (op:qW R cells pure facts)(k:Nat)(hk:Φ[k]? =some (.rep R cs x))
  (next:∀r:Λ,cs=cells x r->pure x r->WL P C n Q (facts x r++Φ) H S ops rest):WL P C n Q Φ H S ops rest:=λa w hf hw=>by
 obtain ⟨r,⟨h1,U⟩,h3⟩:=ya (pure:=λr=>cs=cells x r/\pure x r) (facts:=facts x) hw λF eo=>by
  obtain⟨r,h1,U,h3⟩:=op F w cs x (eo _ (iZ hk));exact⟨r,⟨h1,U⟩,h3⟩
 exact next r h1 U a w hf h3
theorem pE {p:Prop} (hp:∀F w,(∀ψ∈Φ,ψ.p F w)->p)(next:p->WC P C n Q Φ H S c):WC P C n Q Φ H S c:=λa w U hw=>by
 have:p:=by obtain⟨F,N,hi⟩:=hw;exact hp F w hi.facts
 exact next this a w U hw
theorem NC (k j:Nat)(hg:QM ops S o=some true)(hd:o.dst=some d)(hn:A' d n=true)(hS:ft d S=S')(ho:o.op=.indexAddr t x i)
  (bj:Φ[k]? =some (.sli sz R p cp l)) (hx:da S x=some (.slice p l.length cp)) (hi:da S i=some (.int ik z)) (hz:z=(j:Int)) (hj:j<l.length) (he:iA P t=some e) (hs:QT P e=some sz)
  (next:∀b q cs y,l[j]? =some y->cs.length=sz->WL P C n Q (.cells b q cs::.rep R cs y::Φ) H ((d,.pointer (some ⟨b,q,none⟩))::S') ops rest):WL P C n Q Φ H S ops (o::rest):=by
 refine B8 hg hd hn hS λa w hf hw=>?_;obtain⟨F,N,fb⟩:=hw;obtain⟨p',n',c',xs,GI,Jy,hc,hm,ml,gm⟩:=(fb.facts _ (iZ bj):zh F w sz (R.p F w) (.slice p l.length cp) l)
 cases GI;obtain⟨b,off,hp,hF,kq⟩:=gm an;obtain⟨cs,hl,hr,hu⟩:=ml.at (E' hj)
 subst hp;subst hz;have fk:=va (P:=P) (c:=cp) (w5 he) (AD hs) rfl hj w (p:=some ⟨b,off,none⟩) (b:=b) (off:=off);refine⟨.pointer (some ⟨b,off+j*sz,none⟩),w,?_,.cells b (off+j*sz) cs::.rep R cs l[j]::Φ,H,⟨F,N,{fb with facts:=λφ U=>?_}⟩,next b _ cs _ (E' hj) hl⟩
 ·have h0:(Instr.indexAt t (.slice (some ⟨b,off,none⟩) l.length cp) (.int ik (j:Int))).run P w=.ok (.pointer (some ⟨b,off+j*sz,none⟩)) w:=by
   have h1:(0:Int)<=j/\(j:Int)<l.length:=an
   simp[Instr.indexAt,asIntOf,run_underlying (w5 he),h1,AD hs,Addr.add,hj]
  simp[execOp,ho,hf.eval hx,hf.eval hi,h0]
 ·rcases t'.1 U with rfl|U
  ·refine⟨hF,λi u kF=>?_⟩;rw[p!];exact kq _ u (hu i u kF)
  ·rcases t'.1 U with rfl|U;· exact hr
   · exact fb.facts φ U
theorem Gd (k j:Nat)(hg:QM ops S o=some true)(hd:o.dst=some d)(hn:A' d n=true)(hS:ft d S=S')(ho:o.op=.indexAddr t x i)
  (bj:H[k]? =some (.own e sz R (.slice p m cp) l)) (hx:da S x=some (.slice p m cp)) (hi:da S i=some (.int ik z)) (hz:z=(j:Int)) (hj:j<l.length) (he:iA P t=some e) (hs:QT P e=some sz)
  (next:∀g,p=some ⟨g,0,none⟩->WL P C n Q Φ H ((d,.pointer (some ⟨g,j*sz,none⟩))::S') ops rest):WL P C n Q Φ H S ops (o::rest):=by
 refine B8 hg hd hn hS λa w U hw=>?_;have jY:=hw;obtain⟨F,N,fb⟩:=hw;obtain⟨hN,gw⟩:=fb.owns k _ bj;obtain⟨g,hp,hm,_⟩:=gw.head an;subst hp;subst hz;refine⟨.pointer (some ⟨g,j*sz,none⟩),w,?_,Φ,H,jY,next g rfl⟩;have h1:(0:Int)<=j/\(j:Int)<m:=an
 have h2:j<m:=an
 simp[execOp,ho,U.eval hx,U.eval hi,Instr.indexAt,asIntOf,run_underlying (w5 he),h1,h2,AD hs];unfold Addr.add;split<;>simp_all
theorem JU {st:Nat} {ag:Bool} {y:α} {v:Λ->Value} (op:qW R cells pure facts)(k j i:Nat)
  (hg:QM ops S o=some true) (hd:o.dst=some d) (hn:A' d n=true) (hS:ft d S=S') (ho:o.op=.load t x)
  (bj:H[k]? =some (.own e sz R (.slice (some ⟨g,0,none⟩) m cp) l)) (hx:da S x=some (.pointer (some ⟨g,j*sz+i,none⟩))) (hj:l[j]? =some y) (hs:QT P t=some st) (ha:gx P t=some ag)
  (hl:∀r,(((cells y r).drop i).take st).length=st) (hv:∀r,lY ag (((cells y r).drop i).take st)=some (v r)) (next:∀r,pure y r->WL P C n Q (facts y r++Φ) H ((d,v r)::S') ops rest):WL P C n Q Φ H S ops (o::rest):=by
 refine B8 hg hd hn hS λa w hf hw=>?_;obtain⟨F,N,fb⟩:=hw;obtain⟨hN,xs,zI,ml⟩:=fb.owns k _ bj;obtain⟨cs,Oi,hr,hu⟩:=ml.at hj;obtain⟨r,h1,h2,h3⟩:=op F w cs y hr;subst h1;refine⟨v r,w,?_,facts y r++Φ,H,⟨F,N,{fb with facts:=λφ U=>?_}⟩,next r h2⟩
 ·have hc:qV w g (j*sz+i) (((cells y r).drop i).take st):=λq u hq=>by
   have:=zI.cells (g:=g) rfl (j*sz+(i+q)) u (hu _ u (by rw[l!]at hq;split at hq<;>first|(rw[n!]at hq;exact hq)|cases hq));rw[DC]at this;rw[i!]at this;rwa [p!]
  simp[execOp,ho,hf.eval hx,Instr.loadAt,Instr.sureAddr,TT hc hs ha (hl r) (hv r)]
 ·rcases Y'.1 U with U|U;· exact h3 φ U
  · exact fb.facts φ U
theorem ZZ {y:Operand} {v:Value} {u:α} (k j:Nat)
  (hg:QM ops S o=some true) (hd:o.dst=none) (ho:o.op=.store t x y)
  (bj:H[k]? =some (.own e sz R (.slice (some ⟨g,0,none⟩) m cp) l)) (hx:da S x=some (.pointer (some ⟨g,j*sz,none⟩))) (hj:j<l.length) (hy:da S y=some v) (hv:v.cells.toList=cs) (hs:QT P t=some sz) (hl:J' cs.length sz=true)
  (hr:∀F w,(∀ψ∈Φ,ψ.p F w)->R.p F w cs u) (hH:H.set k (.own e sz R (.slice (some ⟨g,0,none⟩) m cp) (l.set j u))=H') (next:WL P C n Q Φ H' S ops rest):WL P C n Q Φ H S ops (o::rest):=by
 have wv:=y' hl;subst hH;refine Dn hg hd (λa w hf hw=>?_) next
 obtain⟨F,N,hi⟩:=hw;have bp:=(f'.1 bj).1;obtain⟨hN,U⟩:=hi.owns k _ bj;have hlen:m=l.length:=U.len;have hR:=hr F w hi.facts;obtain⟨h1,h2⟩:=U.put hlen j hR wv hj;have hM:Mod (N k) w (HH w g (j*sz) cs):=h2.mono λi _ e=>by rw[e];exact hN g rfl
 refine⟨HH w g (j*sz) cs,?_,⟨F,N,hi.set k bp hM _ ⟨hN,h1.rel λvS x' h=>R.good (λ_ h=>h) (λq hq=>hM.block q (hi.flt q hq) λhn=>(hi.nlt k q bp hn).2.2 hq) h⟩⟩⟩;have j9:v.cells.size=sz:=by rw[<-wv,<-hv];simp
 obtain⟨xs,zI,ml⟩:=U;rcases zI.2 with⟨h0,_⟩|⟨g',cap,cur,R3,_,hh,AQ,_,sQ,_⟩
 · cases h0
 ·cases R3;have hh':w.heap[g]? =some (.cells cur.toList.toArray e):=by simpa using hh
  have hle:j*sz+sz<=l.length*sz:=by rw[<-P'];exact d! _ hj
  have a3z:l.length*sz<=cp*sz:=d! _ AQ;have:=Zw (P:=P) cs cur.toList (j*sz) 0 w hh' (by simp[sQ,wv];omega) (λu hu=>R.one hR u hu);simp only[execOp,ho,hf.eval hx,hf.eval hy,Instr.storeAt,Instr.sureAddr,storeVar,Sem.run_bind,Sem.run_pure,Result.andThen_ok,AD hs,j9,hv];simp[this]
end idx
def mi (place:Nat->Option (Nat×Nat)):List Value->List (Nat×Value)->Option (List Value)
 |cs,[]=>some cs
 | cs,(i,v)::r=>match place i with
   |none=>none
   | some (off,sz)=>match J' v.cells.size sz&&I! (off+sz) cs.length with
     |true=>mi place (wL cs off v.cells.toList) r
     |false=>none
theorem xw (off:Nat):∀(l:List Value)(k:Nat)(A:List Value),(l.zipIdx k).foldl (λ(cs:Array Value)(x:Value×Nat)=>cs.setIfInBounds (off+x.2) x.1) A.toArray=(Jr A (off+k) l).toArray
 |[],_,_=>rfl
 | v::l,k,A=>by
   rw[List.zipIdx_cons,List.foldl_cons,Jr];have:=xw off l (k+1) (A.set (off+k) v);rw[List.setIfInBounds_toArray];exact this
theorem uc {place:Nat->Option (Nat×Nat)}:∀{parts:List (Nat×Value)} {cs out:List Value},mi place cs parts=some out->Instr.fill place cs.toArray parts=some out.toArray
 |[],cs,out,h=>by cases h;rfl
 | (i,v)::r,cs,out,h=>by
   unfold mi at h;unfold Instr.fill;split at h;· cases h
   ·rename_i off sz hp;split at h
    ·rename_i U;simp only[G']at U;have h1:=y' U.1;have h2:=l' U.2;have h3:v.cells.toList.length=sz:=by simpa using h1
     have h4:v.cells.zipIdx.foldl (λcs (x:Value×Nat)=>match x with|(c,j)=>cs.setIfInBounds (off+j) c) cs.toArray=(wL cs off v.cells.toList).toArray:=by
      rw[<-Qau _ _ _ an];have:=xw off v.cells.toList 0 cs;rw[Nat.add_zero]at this;rw[<-this,<-Array.foldl_toList];simp[Array.toList_zipIdx]
     simp only[hp,h1];have h5:¬(sz≠sz||off+sz>cs.length)=true:=by simp;omega
     simp only[List.size_toArray];rw[if_neg h5,h4];exact uc h
    · cases h
def Ym (l:List (Nat×Nat))(i:Nat):Option (Nat×Nat):=l[i]?
def vP (P:Program)(t:Nat):Option (List (Nat×Nat)):=match P.underlying t with
 |some (.struct U)=>U.toList.mapM λf=>(P.info? f.type).map λi=>(f.offset,i.size)
 |_=>none
theorem rq {P:Program} (w:World):∀{U:List Field} {l:List (Nat×Nat)},U.mapM (λf=>(P.info? f.type).map λi=>(f.offset,i.size))=some l->
   (U.mapM (λ(f:Field)=>do pure (f.offset,<-sizeOf f.type):Field->Sem (Nat×Nat))).run P w=.ok l w
 |[],l,h=>by simp at h;subst h;rfl
 | f ::U,l,h=>by
   rw[List.mapM_cons]at h;cases hi:P.info? f.type with
   |none=>simp[hi]at h
   | some i=>
     cases hr:U.mapM (λf=>(P.info? f.type).map λi=>(f.offset,i.size))with
     |none=>simp[hi,hr]at h
     | some r=>
       simp[hi,hr]at h;subst h;have:=rq (P:=P) w hr;simp[sizeOf,typeInfo,hi]at this⊢;simp[this]
theorem run_build {P:Program} {t:Nat} {z:Value} {pl:List (Nat×Nat)} {parts:List (Nat×Value)} {out:List Value} (hz:j1 P t=some z)(hp:vP P t=some pl)(hf:mi (Ym pl) z.cells.toList parts=some out)(w:World):
  (Instr.build t parts.toArray).run P w=.ok (.agg out.toArray) w:=by
 unfold vP at hp;split at hp
 ·rename_i fs hu;have h1:=rq w hp;have h2:=uc hf
  have U:(fs.mapM (λ(f:Field)=>do pure (f.offset,<-sizeOf f.type):Field->Sem (Nat×Nat))).run P w=.ok pl.toArray w:=by
   rw[Array.mapM_eq_mapM_toList];simp at h1⊢;simp[h1]
  unfold Instr.build;simp only[Sem.run_bind,U6 hz,Result.andThen_ok,run_underlying hu,Sem.run_pure]at U⊢;simp only[U,Result.andThen_ok];have h4:(λi=>pl.toArray[i]?)=Ym pl:=by funext i;simp[Ym]
  have h5:z.cells=z.cells.toList.toArray:=ax
  simp only[h4,h!];rw[h5,h2];rfl
 · cases hp
def SH (S:List (Nat×Value)):List (Nat×Operand)->Option (List (Nat×Value))
 |[]=>some []
 | (i,x)::l=>match da S x,SH S l with
   |some v,some vs=>some ((i,v)::vs)
   |_,_=>none
theorem gU.evalP {n:FD} {S:List (Nat×Value)} {a:Act} (h:gU n S a):∀{l:List (Nat×Operand)} {vs:List (Nat×Value)},SH S l=some vs->l.map (λx=>(x.1,a.eval x.2))=vs
 |[],_,e=>by cases e;rfl
 | (i,x)::l,vs,e=>by
   unfold SH at e;split at e;· rename_i v vs' hv U;cases e;simp[h.eval hv,h.evalP U]
   · cases e
def yK (z:List Value):Nat->List Value
 |0=>[]
 |m+1=>z++yK z m
section lit
variable {P:Program} {C:Ctx} {n:FD} {Q:Exit->Act->World->Prop} {Φ Φ':List Fact} {H H':List Fact} {S S':List (Nat×Value)} {ops:Array Oper} {rest:List Oper} {o:Oper} {d:Nat} {c:Code}
variable {t e sz kP cp len g m:Nat}{z v:Value}{α:Type}{x s:Operand}{parts:List (Nat×Value)}{out cs:List Value}{R:fq α}{l:List α}{H2:Option Addr->Nat->List Fact}{ps:Array (Nat×Operand)}{l2:List α}{p:Option Addr}
theorem mC {pl:List (Nat×Nat)} (hg:QM ops S o=some true)(hd:o.dst=some d)(hn:A' d n=true)(hS:ft d S=S')(ho:o.op=.build t ps)
  (hz:j1 P t=some z) (hp:vP P t=some pl) (he:SH S ps.toList=some parts) (hf:mi (Ym pl) z.cells.toList parts=some out) (next:WL P C n Q Φ H ((d,.agg out.toArray)::S') ops rest):WL P C n Q Φ H S ops (o::rest):=
 HT hg hd hn hS (λa w U _=>by
  have h0:ps.map (λx=>(x.1,a.eval x.2))=parts.toArray:=by
   rw[<-U.evalP he,<-q!]
  have h1:=run_build hz hp hf w;rw[<-h0]at h1;simp only[execOp,ho,Sem.run_bind];rw[show(ps.map λx=>match x with|(i,x)=>(i,a.eval x))=ps.map (λx=>(x.1,a.eval x.2))from rfl,h1];rfl) next
def zp (len sz:Nat)(z:Value):List Value:=((F! (len*sz)).map (λi=>z.cells[i%z.cells.size]!)).toList
def Qcn (sz i:Nat):Option (Nat×Nat):=some (i*sz,sz)
theorem Qcq {P:Program} {zs:List Value} (he:iA P t=some e)(hs:QT P e=some sz)(hz:j1 P e=some z)(hle:I! (len*sz) 16777216=true)(vU:zp len sz z=zs)
  (hf:mi (Qcn sz) zs parts=some out) (w:World):(Instr.buildSlice t len parts.toArray).run P w=.ok (.slice (some ⟨w.heap.size,0,none⟩) len len) (w.alloc (.cells out.toArray e)):=by
 have a0U:=l' hle;have hgt:¬len*sz>2^24:=an
 have h2:=uc hf;unfold Instr.buildSlice;simp only[Sem.run_bind,run_underlying (w5 he),Result.andThen_ok,AD hs,if_neg hgt,Sem.run_pure];by_cases U:len*sz=0
 ·have Ws:zs=[]:=by rw[<-vU];simp[zp,U]
  subst Ws;rw[if_pos U];have e1:(λi=>some (i*sz,sz))=Qcn sz:=rfl;have e3:∀f:Nat->Value,(F! (len*sz)).map f=([]:List Value).toArray:=λf=>by apply Array.ext';simp[U]
  simp only[Sem.run_pure,Result.andThen_ok,e1,e3];try simp only[h!]
  rw[h2];simp[Yh]
 ·rw[if_neg U];simp only[Sem.run_bind,U6 hz,Result.andThen_ok,Sem.run_pure];have e1:(λi=>some (i*sz,sz))=Qcn sz:=rfl;have e2:(F! (len*sz)).map (λi=>z.cells[i%z.cells.size]!)=zs.toArray:=by rw[<-vU];exact Array.toArray_toList.symm
  rw[e1,e2];try simp only[h!]
  rw[h2];simp[Yh]
theorem tz {zs:List Value} (hg:QM ops S o=some true)(hd:o.dst=some d)(hn:A' d n=true)(hS:ft d S=S')(ho:o.op=.buildSlice t len ps)
  (hE:iA P t=some e) (hs:QT P e=some sz) (hz:j1 P e=some z) (hle:I! (len*sz) 16777216=true) (vU:zp len sz z=zs) (he:SH S ps.toList=some parts) (hf:mi (Qcn sz) zs parts=some out)
  (next:∀g,WL P C n Q Φ (.blk g out e::H) ((d,.slice (some ⟨g,0,none⟩) len len)::S') ops rest):WL P C n Q Φ H S ops (o::rest):=
 B8 hg hd hn hS λa w U hw=>⟨_,_,by
  have h0:ps.map (λx=>(x.1,a.eval x.2))=parts.toArray:=by
   rw[<-U.evalP he,<-q!]
  have h1:=Qcq hE hs hz hle vU hf w;rw[<-h0]at h1;simp only[execOp,ho,Sem.run_bind];rw[show(ps.map λx=>match x with|(i,x)=>(i,a.eval x))=ps.map (λx=>(x.1,a.eval x.2))from rfl,h1];exact rfl,_,_,hw.alloc _ _,by simpa using next _⟩
theorem Ql.row {α:Type} {w:World} {g e sz m:Nat} {cs:List Value} {R:fq α} {l:List α} (h:Ql C Φ H w)(k:Nat)(hk:H[k]? =some (.blk g cs e))(ml:∀F,(∀ψ∈Φ,ψ.p F w)->hY sz (R.p F w) cs l)(hm:m=l.length)(hle:m<=9223372036854775807)
  (hH:H.set k (.own e sz R (.slice (some ⟨g,0,none⟩) m m) l)=H'):Ql C Φ H' w:=by
 subst hH;obtain⟨F,N,hi⟩:=h;have bp:=(f'.1 hk).1;have U:=hi.owns k _ hk;refine⟨F,N,hi.set k bp (Mod.refl _ _) _ ⟨λi fb=>by cases fb;exact U.1,?_⟩⟩;exact nI.of_block U.2 (P! _) (cx (ml F hi.facts)) hm hle
theorem K9 (R:fq α)(l:List α)(k:Nat)(hk:H[k]? =some (.blk g cs e))(ml:∀F w,(∀ψ∈Φ,ψ.p F w)->hY sz (R.p F w) cs l)(hm:m=l.length)(hle:m<=9223372036854775807)
 (hH:H.set k (.own e sz R (.slice (some ⟨g,0,none⟩) m m) l)=H') (next:WL P C n Q Φ H' S ops rest):WL P C n Q Φ H S ops rest:=λa w U hw=>next a w U (hw.row k hk (λF=>ml F w) hm hle hH)
theorem Ql.rowNil {α:Type} {w:World} (e sz:Nat)(R:fq α)(h:Ql C Φ H w):Ql C Φ (.own e sz R (.slice none 0 0) []::H) w:=by
 obtain⟨F,N,hi⟩:=h;exact⟨F,_,hi.push (.own e sz R (.slice none 0 0) []) (λ_=>False) ⟨λk hk=>(by cases hk),nI.nil⟩ (λk hk=>hk.elim) (λ_ k _ hk=>hk.elim)⟩
theorem yH (e sz:Nat)(R:fq α)(next:WL P C n Q Φ (.own e sz R (.slice none 0 0) []::H) S ops rest):WL P C n Q Φ H S ops rest:=λa w U hw=>next a w U (hw.rowNil e sz R)
theorem ON (e sz:Nat)(R:fq α)(next:WC P C n Q Φ (.own e sz R (.slice none 0 0) []::H) S c):WC P C n Q Φ H S c:=λa w U hw=>next a w U (hw.rowNil e sz R)
theorem Qcp {P:Program} {w:World} (t ty:TypeId)(e:TypeId)(i:TypeInfo)(z:Value)(size bytes:Nat)(ht:P.underlying t=some (.slice e))(hi:P.info? e=some i)(hz:i.zero=some z)
  (ov:i.size=size) (Oh:i.bytes=bytes) (vU:z.cells.size=size) (j9:0<size)
  (v:Value) (n:Nat) (xs:List Value) (gw:w.ownsRow 0 e size v n xs)
  (p:Option Addr) (m c:Nat) (U:List Value) (hl:U.length=m*size) (hp:0<m->∃b off,p=some ⟨b,off,none⟩/\qV w b off U) (h1:∀u∈U,u.oneCell'=true)
  (Ln:n+m<=maxLen) (j3:(n+m)*bytes<=140737488355328):
  ∃v' w',(Builtin.append_ #[t,t] ty #[v,.slice p m c]).run P w=.ok v' w'/\w'.ownsRow 0 e size v' (n+m) (xs++U)/\w.grownBy w' v.ownBlock/\(v'.ownBlock=v.ownBlock\/v'.ownBlock=some w.heap.size):=by
 rcases p with _|ad
 ·have hm:m=0:=by
   rcases x! m with h0|h0;· exact h0
   · obtain⟨b,off,hb,_⟩:=hp h0;cases hb
  subst hm;have hy:U=[]:=e! (cx hl);subst hy
  have hr:(Builtin.append_ #[t,t] ty #[v,.slice none 0 c]).run P w=.ok v w:=by
   rcases gw.2 with⟨rfl,rfl⟩|⟨g,cap,cur,rfl,hbg,hg,AQ,mn,sQ,hU⟩
   · simp[Builtin.append_,run_underlying ht,sizeOf,typeInfo,hi,Builtin.lenOf,Builtin.firstCells]
   · simp[Builtin.append_,run_underlying ht,sizeOf,typeInfo,hi,Builtin.lenOf,Builtin.firstCells,AQ,storeCells]
  exact⟨v,w,hr,by simpa using gw,⟨rfl,rfl,rfl,W' _,λ_ _ _=>rfl⟩,.inl rfl⟩
 ·have LN:∀j u,U[j]? =some u->w.cell? (ad.add j)=some u:=by
   intro j u hj
   have hm:0<m:=by
    rcases x! m with h0|h0
    ·subst h0;have:U=[]:=e! (cx hl);subst this;simp at hj
    · exact h0
   obtain⟨b,off,hb,hc⟩:=hp hm;cases hb;rw[DC];exact hc j u hj
  obtain⟨v',w',h2,h3,h4,_,h5⟩:=run_append_own_at (P:=P) w 0 t ty e i z size bytes ht hi hz ov Oh vU j9 v n xs gw ad m c U hl LN h1 Ln j3 (P! _);exact⟨v',w',h2,h3,h4,h5⟩
theorem iD.set' {F:ep} {N:Nat->ep} {w w':World} (h:iD C Φ H F N w)(k:Nat)(hk:k<H.length)(hm:Mod (N k) w w')(M':ep)(hM:∀i,M' i->N k i\/(w.heap.size<=i/\i<w'.heap.size))(φ:Fact)(ku:φ.op M' F w'):
  iD C Φ (H.set k φ) F (λi=>if i=k then M' else N i) w':=by
 have hF:ia F w w':=λj U=>hm.block j (h.flt j U) (λhn=>(h.nlt k j hk hn).2.2 U)
 have hM2:∀i q,i<H.length->i≠k->N i q->¬M' q:=λi q hi de hq hM'=>by
  rcases hM q hM' with h1|h1;· exact h.apart i k q hi hk de hq h1
  · have:=(h.nlt i q hi hq).1;omega
 refine⟨λj U=>z' (h.flt j U) hm.size,h.fold,h.fnew,λψ j7=>ψ.good (λ_ h=>h) hF (h.facts ψ j7),?_,?_,?_,?_⟩
 ·intro i ψ hi;by_cases jq:i=k
  ·subst jq;rw[r! hk]at hi;cases hi;simpa using ku
  ·rw[t! (Ne.symm jq)]at hi;have fb:=(f'.1 hi).1;simp only[jq,if_false];exact ψ.opgood (λ_ h=>h) (λj U=>hm.block j (h.nlt i j fb U).1 (λhn=>h.apart i k j fb hk jq U hn)) (λ_ h=>h) hF (h.owns i ψ hi)
 ·intro i j hi U;rw[Z']at hi;by_cases jq:i=k
  ·simp only[jq,if_true]at U;rcases hM j U with h1|h1;· exact⟨z' (h.nlt k j hk h1).1 hm.size,(h.nlt k j hk h1).2⟩
   · exact⟨h1.2,.inl (a! h.mod.size h1.1),λhf=>by have:=h.flt j hf;omega⟩
  ·simp only[jq,if_false]at U;exact⟨z' (h.nlt i j hi U).1 hm.size,(h.nlt i j hi U).2⟩
 ·intro i j q hi U de hq ef;rw[Z']at hi U;by_cases jq:i=k<;>by_cases BS:j=k;· omega
  ·simp only[jq,BS,if_true,if_false]at hq ef;exact hM2 j q U BS ef hq
  ·simp only[jq,BS,if_true,if_false]at hq ef;exact hM2 i q hi jq hq ef
  ·simp only[jq,BS,if_false]at hq ef;exact h.apart i j q hi U de hq ef
 · exact h.mod.trans' (T:=N k) hm (λi hi hn=>by
   rcases(h.nlt k i hk hn).2.1 with h1|h1;· omega
   · exact h1)
theorem Qca (k:Nat)(hg:QM ops S o=some true)(hd:o.dst=some d)(hn:A' d n=true)(hS:ft d S=S')
  (ho:o.op=.call {callee:=.builtin .append,args:=#[s,x],argTypes:=#[t,t]}) (bj:H[k]? =some (.own e sz R v l)) (hs:da S s=some v) (hx:da S x=some (.slice p l2.length cp))
  (Wn:∀F N w,iD C Φ H F N w->∃ys,hY sz (R.p F w) ys l2/\(0<l2.length->∃b off,p=some ⟨b,off,none⟩/\qV w b off ys))
  (he:iA P t=some e) (hr:jj P e=some (z,sz,kP)) (vU:J' z.cells.size sz=true) (j9:A' 0 sz=true) (Ln:l.length+l2.length<=9223372036854775807) (Oh:(l.length+l2.length)*kP<=140737488355328) (hH:∀p' U,H.set k (.own e sz R (.slice p' (l++l2).length U) (l++l2))=H2 p' U) (next:∀p' U,WL P C n Q Φ (H2 p' U) ((d,.slice p' (l++l2).length U)::S') ops rest):WL P C n Q Φ H S ops (o::rest):=by
 refine B8 hg hd hn hS λa w hf hw=>?_;obtain⟨F,N,hi⟩:=hw;have bp:=(f'.1 bj).1;obtain⟨hN,xs,gw,ml⟩:=hi.owns k _ bj;obtain⟨ys,JD,a18⟩:=Wn F N w hi;obtain⟨i,uw,hz,ov,j3⟩:=Qb5 hr
 obtain ⟨v',w',fk,a0X,iQ,zD⟩:=Qcp (P:=P) (w:=w) t o.type e i z sz kP (w5 he) uw hz ov j3 (y' vU) (l' j9) v l.length xs gw p l2.length cp ys JD.length a18
  (λu hu=>JD.all (p:=λu=>u.oneCell'=true) (λcs y hr=>R.one hr) u hu) (by unfold maxLen;exact Ln) Oh
 have hM:Mod (N k) w w':=⟨iQ.os,iQ.tape,iQ.output,iQ.size,λj hj hn=>iQ.block j hj λe=>hn (hN j e.symm)⟩
 have hF:ia F w w':=λj hj=>hM.block j (hi.flt j hj) (λhn=>(hi.nlt k j bp hn).2.2 hj);have hOL:nI 0 e sz (R.p F w') (l++l2) v' w':=⟨xs++ys,by simpa using a0X,(ml.append JD).mono λcs y _ h=>R.good (λ_ h=>h) hF h⟩
 obtain⟨p',n',U,rfl⟩:=hOL.shape;obtain rfl:=hOL.len;refine⟨_,w',?_,Φ,_,⟨F,_,hi.set' k bp hM (λq=>(Value.slice p' (l++l2).length U).ownBlock=some q) ?_ (.own e sz R (.slice p' (l++l2).length U) (l++l2)) ⟨λq hq=>hq,hOL⟩⟩,by rw[hH];exact next p' U⟩;· simp[execOp,ho,resolve,invoke,builtin,hf.eval hs,hf.eval hx,fk]
 ·intro q hq;rcases zD with h0|h0;· exact .inl (hN q (by rw[<-h0];exact hq))
  ·right;have:=hOL.lt q hq;rw[h0]at hq;cases hq;exact⟨W' _,this.2⟩
theorem Qbd (k j:Nat)(hg:QM ops S o=some true)(hd:o.dst=some d)(hn:A' d n=true)(hS:ft d S=S')
  (ho:o.op=.call {callee:=.builtin .append,args:=#[s,x],argTypes:=#[t,t]}) (bj:H[k]? =some (.own e sz R v l)) (hs:da S s=some v) (j7:Φ[j]? =some (.sli sz R p cp l2)) (hx:da S x=some (.slice p l2.length cp))
  (he:iA P t=some e) (hr:jj P e=some (z,sz,kP)) (vU:J' z.cells.size sz=true) (j9:A' 0 sz=true) (Ln:l.length+l2.length<=9223372036854775807) (Oh:(l.length+l2.length)*kP<=140737488355328) (hH:∀p' U,H.set k (.own e sz R (.slice p' (l++l2).length U) (l++l2))=H2 p' U) (next:∀p' U,WL P C n Q Φ (H2 p' U) ((d,.slice p' (l++l2).length U)::S') ops rest):WL P C n Q Φ H S ops (o::rest):=
 Qca k hg hd hn hS ho bj hs hx (λF N w hi=>by
  obtain⟨p',n',U,xs,e1,_,_,_,ml,gm⟩:=(hi.facts _ (iZ j7):zh F w sz (R.p F w) (.slice p l2.length cp) l2)
  cases e1;exact⟨xs,ml,λh=>by obtain⟨b,off,h1,_,h2⟩:=gm h;exact⟨b,off,h1,h2⟩⟩) he hr vU j9 Ln Oh hH next
theorem HG {tb:Nat} (l2:List α)(k j:Nat)(hg:QM ops S o=some true)(hd:o.dst=some d)(hn:A' d n=true)(hS:ft d S=S')
  (ho:o.op=.call {callee:=.builtin .append,args:=#[s,x],argTypes:=#[t,t]}) (bj:H[k]? =some (.own e sz R v l)) (hs:da S s=some v) (j7:H[j]? =some (.blk g cs tb)) (hx:da S x=some (.slice (some ⟨g,0,none⟩) l2.length cp))
  (ml:∀F w,(∀ψ∈Φ,ψ.p F w)->hY sz (R.p F w) cs l2)
  (he:iA P t=some e) (hr:jj P e=some (z,sz,kP)) (vU:J' z.cells.size sz=true) (j9:A' 0 sz=true) (Ln:l.length+l2.length<=9223372036854775807) (Oh:(l.length+l2.length)*kP<=140737488355328) (hH:∀p' U,H.set k (.own e sz R (.slice p' (l++l2).length U) (l++l2))=H2 p' U) (next:∀p' U,WL P C n Q Φ (H2 p' U) ((d,.slice p' (l++l2).length U)::S') ops rest):WL P C n Q Φ H S ops (o::rest):=
 Qca k hg hd hn hS ho bj hs hx (λF N w hi=>⟨cs,ml F w hi.facts,λ_=>⟨g,0,rfl,QaQ (hi.owns j _ j7).2⟩⟩) he hr vU j9 Ln Oh hH next
theorem Dv (z:List Value):∀m,yK z m=(X' m z).flatten
 |0=>rfl
 |m+1=>by rw[yK,Dv z m];simp[v!]
theorem pJ {α:Type} {sz:Nat} {R:List Value->α->Prop} {z:List Value} {x:α} (h:R z x)(U:z.length=sz):∀m,hY sz R (yK z m) (X' m x)
 |0=>rfl
 |m+1=>⟨z,yK z m,rfl,U,h,pJ h U m⟩
theorem GV {β:Type} (f:Nat->β)(sz:Nat)(U:0<sz):∀n,(T' (n*sz)).map (λi=>f (i%sz))=(X' n ((T' sz).map f)).flatten
 |0=>ax
 | n+1=>by
   rw[P',z!,List.range_add,List.map_append,List.map_map,v!,List.flatten_cons,<-GV f sz U n];congr 1;· exact w! λi hi=>by rw[Nat.mod_eq_of_lt (U'.1 hi)]
   · exact w! λi _=>ax
theorem Fl (z:Array Value)(sz n:Nat)(U:z.size=sz)(j9:0<sz):(madeCells z (n*sz)).toList=yK z.toList n:=by
 rw[Dv];unfold madeCells;subst U
 have h1:(T' z.size).map (λi=>z[i]!)=z.toList:=by
  apply List.ext_getElem;· simp
  ·intro i h1 h2;simp at h1;simp[h1]
 have:=GV (λi=>z[i]!) z.size j9 n;rw[h1]at this;rw[<-this];simp[Array.toList_map]
theorem Q9H {y:Operand} {kx ky:IntKind} {ex ey:Int} (R:fq α)(u:α)(hg:QM ops S o=some true)(hd:o.dst=some d)(hn:A' d n=true)(hS:ft d S=S')(ho:o.op=.makeSlice t x y)
  (hx:da S x=some (.int kx ex)) (hy:da S y=some (.int ky ey)) (hex:ex=(m:Int)) (hey:ey=(m:Int)) (he:iA P t=some e) (hr:jj P e=some (z,sz,kP)) (vU:J' z.cells.size sz=true) (j9:A' 0 sz=true)
  (hR:∀F w,R.p F w z.cells.toList u) (Oh:kP*m<=281474976710656) (Ln:m<=9223372036854775807)
  (next:∀g,WL P C n Q Φ (.own e sz R (.slice (some ⟨g,0,none⟩) m m) (X' m u)::H) ((d,.slice (some ⟨g,0,none⟩) m m)::S') ops rest):WL P C n Q Φ H S ops (o::rest):=by
 subst hex;subst hey;refine B8 hg hd hn hS λa w hf hw=>?_
 obtain⟨i,uw,hz,ov,j3⟩:=Qb5 hr;have U:=y' vU;have a2R:=l' j9;subst j3
 have hb:(i.bytes:Int)*(m:Int)<=281474976710656:=by
  have h:((i.bytes*m:Nat):Int)<=281474976710656:=an
  rwa [Int.natCast_mul]at h
 have fk:=run_make (P:=P) (w:=w) t e i z (w5 he) uw hz kx ky (m:Int) (m:Int) an an hb an;simp only[Int.toNat_natCast,ov]at fk;refine⟨_,_,by simp[execOp,ho,hf.eval hx,hf.eval hy,fk];try exact⟨rfl,rfl⟩,Φ,_,((hw.alloc (madeCells z.cells (m*sz)) e).row 0 rfl (R:=R) (l:=X' m u) (sz:=sz) (λF _=>?_) ax Ln rfl),next _⟩;rw[Fl _ sz m U a2R];exact pJ (hR F _) (cx U) m
end lit
end
section
open Go.RowKit
def Wu (x:Int):Prop:=-9223372036854775808<=x/\x<=9223372036854775807
def Oa (x:V)(_:Unit):List Value:=[.int .u8 x.k,.int .i64 x.n,.string x.s]
structure Qo where
 id:Int
 ty:Int
 args:List V
structure gS where
 k:Int
 var:Int
 v:V
variable {α:Type}{F:ep}{w:World}{p:Option α}
theorem oS {sz:Nat} {R:fq α} {p:Option Addr} {c:Nat} {l:List α} (h:(Fact.sli sz R p c l).p F w)(hp:p=none):l=[]:=by
 obtain⟨p',n',c',xs,e,hn,hc,hm,_,gm⟩:=h;cases e;cases l with
 |nil=>rfl
 |cons x l=>obtain⟨b,off,U,_⟩:=gm ax;rw[hp]at U;cases U
theorem ZW (h:K! p=true):p=none:=by simpa using h
theorem ZS (h:K! p=false):∃a,p=some a:=by cases p<;>simp_all
theorem ask {Φ Φ':List Fact} (l:List Nat)(h:QQ Φ l=Φ') (eo:∀ψ∈Φ,ψ.p F w):∀φ∈Φ',φ.p F w:=by
 subst h;intro φ U;obtain⟨i,_,hi⟩:=V'.1 U;exact eo φ (I' hi)
theorem Q0 {d:Nat}:∀{S:List (Nat×Value)},(S.all λx=> !(J' x.1 d))=true->ft d S=S
 |[],_=>rfl
 | (k,v)::r,h=>by
   simp only[List.all_cons,G',D']at h;unfold ft;rw[h.1,Q0 h.2]
theorem Zq {d:Nat} {S:List (Nat×Value)} (h:(S.all λx=>!(J' x.1 d))=true:=by rfl):ft d S=S:=Q0 h
theorem jz {a b:Nat} (h:a+b<=9223372036854775807):Value.int .i64 (IntKind.wrap .i64 ((a:Int)+(b:Int)))=.int .i64 ((a+b:Nat):Int):=by
 rw[show((a+b:Nat):Int)=(a:Int)+b from Int.natCast_add a b,IntWalk.i64_in _ an]
end
section
open Go.RowKit
noncomputable section
def nf (ops:Array Oper)(o:Oper):List Nat:=
 (o.op.operands.toList.filterMap λ| .tmp t=>some t|_=>none)++(match o.guard with|some (j,_)=>((ops[j]?).bind (·.dst)).toList|none=>[])
def Ek (ops:Array Oper)(k i:Nat):Bool:=match ops[k]? with
 |some o=>o.after.toList.any λe=>Region.binds .any e&&J' e.on i
 |none=>false
noncomputable def jo (l:List Nat)(i:Nat):Bool:=List.rec (motive:=λ_=>Bool) false (λx _ U=>Bool.rec U true (J' i x)) l
theorem Ji {i:Nat}:∀{l:List Nat},jo l i=true↔i∈l
 |[]=>⟨λh=>(by cases h),λh=>(by cases h)⟩
 | x::l=>by
   show(Bool.rec (motive:=λ_=>Bool) (jo l i) true (J' i x))=true↔_;rw[t',<-Ji (l:=l)];cases h:J' i x with
   |true=>exact⟨λ_=>.inl (y' h),λ_=>rfl⟩
   |false=>exact⟨.inr,λq=>q.resolve_left λe=>by rw[e,B!]at h;cases h⟩
def jd (ops:Array Oper) (au:List Nat):Bool:=
 (T' ops.size).all λi=>match ops[i]? with
  |none=>false
  | some o=>
    (o.after.toList.all λe=>!Region.binds .any e||A' e.on i)&&
    (match o.op with| .select _ _=>false| .defer _=>false|_=>true)&&
    (!jo au i||match o.dst with|some d=>!jo (nf ops o) d|none=>false)&&
    (T' ops.size).all λj=>J' i j||match ops[j]? with
     |none=>false
     | some U=>match o.dst with
       |none=>true
       | some d=>
         (match U.dst with|some d'=>!Nat.beq d d'|none=>true)&&
         (!jo (nf ops U) d||(if jo au i then Ek ops j i else(!jo au j||Ek ops i j||Ek ops j i)))
def nh (ops:Array Oper)(au L:List Nat):List Nat:=
 (T' ops.size).filter λi=> !jo L i&&match ops[i]? with
  |some o=>o.after.toList.all λe=>!Region.binds .any e||jo L e.on
  |none=>false
section draw
variable (P:Program) (C:Ctx) (n:FD) (Q:Exit->Act->World->Prop) (ops:Array Oper) (au:List Nat)
def AY (Φ B:List Fact)(w:World):Prop:=(∃F,∀φ∈Φ,φ.p F w)/\∀b∈B,∃N F,b.op N F w
structure a2a (L:List Nat) (D:List (Nat×Fact)) (Φ:List Fact) (av:Act) (i:Nat):Prop where
 ex:∃(o:Oper) (d:Nat) (v:Value) (JH B:List Fact),ops[i]? =some o/\o.dst=some d/\d<n/\jo au i=true/\av.tmps[d]? =some v/\(∀e∈o.after,Region.binds .any e=true->e.on∈L)/\
  (∀φ∈JH,φ∈Φ)/\(∀b∈B,(i,b)∈D)/\
  ∀(a:Act) (w:World),(∀t∈nf ops o,a.tmps[t]? =av.tmps[t]?)->AY JH B w->(Region.wanted o (yielded ops a.tmps)=true/\(execOp a.eval o).run P w=.ok (.value v) w)\/(Region.wanted o (yielded ops a.tmps)=false/\v=undef)
structure wi (L:List Nat) (D:List (Nat×Fact)) (Φ H:List Fact) (S:List (Nat×Value)) (listed:Array Bool) (a av:Act) (w:World):Prop where
 frm:gU n S av
 asize:a.tmps.size=n
 adef:a.defers=n.D
 holds:Ql C Φ H w
 lsize:listed.size=ops.size
 sub:∀i,listed.getD i false=true->i∈L
 inL:∀i∈L,i<ops.size
 agree:∀t,(∀i o,i∈L->listed.getD i false=false->ops[i]? =some o->o.dst≠some t)->a.tmps[t]? =av.tmps[t]?
 owed:∀i∈L,listed.getD i false=false->a2a P n ops au L D Φ av i
 deps:∀x∈D,listed.getD x.1 false=false->x.2∈H
def WX (L:List Nat)(D:List (Nat×Fact))(Φ H:List Fact)(S:List (Nat×Value)):Prop:=
 ∀listed a U w,wi P C n ops au L D Φ H S listed a U w->∀fuel,(listed.toList.filter (! ·)).length<=fuel->wpAny P .any ops Q fuel listed a w
end draw
variable {o:Oper}{i:Nat}{a b:Act}
theorem ZX {ops:Array Oper} {au:List Nat} (h:jd ops au=true) (ho:ops[i]? =some o):
  (∀e∈o.after,Region.binds .any e=true->e.on<i)/\(∀cs b,o.op≠.select cs b)/\(∀c,o.op≠.defer c)/\(jo au i=true->∀d,o.dst=some d->d∉nf ops o):=by
 have bp:=(q'.1 ho).1;have:=C'.1 h i (U'.2 bp);simp only[ho,G',C',g!,D']at this;obtain⟨⟨⟨h1,h2⟩,U⟩,_⟩:=this;refine⟨λe he hb=>?_,λcs b e=>(by rw[e]at h2;cases h2),λc e=>(by rw[e]at h2;cases h2),λhl d hd hm=>?_⟩;rotate_left
 ·rcases U with U|U;· rw[hl]at U;cases U
  ·rw[hd]at U;simp only[D']at U;rw[Ji.2 hm]at U;cases U
 rcases h1 e (cx he)with h3|h3;· rw[hb]at h3;cases h3
 · exact l' h3
theorem Qas {ops:Array Oper} {au:List Nat} (h:jd ops au=true) {j d:Nat} {o':Oper} (ho:ops[i]? =some o)(zI:ops[j]? =some o')(de:i≠j)(hd:o.dst=some d):
  o'.dst≠some d/\(d∈nf ops o'->(jo au i=true->Ek ops j i=true)/\(jo au i=false->jo au j=true->Ek ops i j=true\/Ek ops j i=true)):=by
 have bp:=(q'.1 ho).1;have zH:=(q'.1 zI).1;have h1:=C'.1 h i (U'.2 bp);simp only[ho,G']at h1;have h2:=C'.1 h1.2 j (U'.2 zH)
 have hnb:J' i j=false:=by
  cases hb:J' i j with
  |true=>exact absurd (y' hb) de
  |false=>rfl
 simp only[zI,hd,hnb,L!,G',g!,D']at h2;obtain⟨h3,U⟩:=h2;refine⟨λe=>?_,λhr=>?_⟩;· rw[e]at h3;simp at h3
 ·rcases U with U|U;· rw[Ji.2 hr]at U;cases U
  ·refine⟨λhl=>by rw[if_pos hl]at U;exact U,λhl hj=>?_⟩;rw[if_neg (by rw[hl];simp)]at U;simp only[g!,D']at U;rcases U with(U|U)|U;· rw[hj]at U;cases U
   · exact .inl U
   · exact .inr U
theorem Yg {ops:Array Oper} {k:Nat} (ho:ops[k]? =some o)(h:Ek ops k i=true):∃e∈o.after,Region.binds .any e=true/\e.on=i:=by
 simp only[Ek,ho,List.any_eq_true,G']at h;obtain⟨e,he,h1,U⟩:=h;exact⟨e,by simpa using he,h1,y' U⟩
theorem u6 {ops:Array Oper} (h:∀t∈nf ops o,a.tmps[t]? =b.tmps[t]?):∀x∈o.op.operands,a.eval x=b.eval x:=by
 intro x U;cases x with
 | tmp t=>
   have:t∈nf ops o:=u! _ (V'.2 ⟨.tmp t,by simpa using U,rfl⟩);simp only[Act.eval,L',h t this]
 |const c=>rfl
 |global g=>rfl
 |func f=>rfl
theorem QbT {ops:Array Oper} (h:∀t∈nf ops o,a.tmps[t]? =b.tmps[t]?):Region.wanted o (yielded ops a.tmps)=Region.wanted o (yielded ops b.tmps):=by
 unfold Region.wanted;rcases hg:o.guard with _|⟨j,want⟩
 · rfl
 ·simp only[yielded];rcases U:(ops[j]?).bind (·.dst)with _|d;· rfl
  ·have:d∈nf ops o:=by
    refine b! _ ?_;simp[hg,U]
   simp only[E!,h d this]
section count
variable {listed:Array Bool}{i:Nat}
theorem EH:∀(l:List Bool)(i:Nat)(h:i<l.length),l[i]=false->((l.set i true).filter (! ·)).length+1=(l.filter (! ·)).length:=by
 intro l;induction l with
 |nil=>intro i h;simp at h
 | cons b l ih=>
   intro i h U;cases i with
   |zero=>simp at U;subst U;simp
   | succ i=>
     have:=ih i (cx h) (cx U);cases b<;>simp[List.filter_cons]<;>omega
theorem nW (hi:i<listed.size)(h:listed.getD i false=false):((listed.setIfInBounds i true).toList.filter (! ·)).length+1=(listed.toList.filter (! ·)).length:=by
 have U:listed[i]=false:=by simpa[hi]using h
 have:=EH listed.toList i (cx hi) (cx U);simpa using this
theorem NX {j:Nat} (hi:i<listed.size):(listed.setIfInBounds i true).getD j false=if j=i then true else listed.getD j false:=by
 by_cases h:j=i;· subst h;simp[hi]
 ·rw[if_neg h];simp[L',u' (Ne.symm h)]
end count
section core
variable {P:Program} {C:Ctx} {n:FD} {Q:Exit->Act->World->Prop} {ops:Array Oper} {au L:List Nat} {D:List (Nat×Fact)} {Φ H:List Fact} {S:List (Nat×Value)}
variable {listed:Array Bool}{S':List (Nat×Value)}{w:World}{k d:Nat}
theorem uT (cr:jd ops au=true) (hs:listed.size=ops.size)(h:Region.ready .any ops listed=[]):∀i,i<ops.size->listed.getD i false=true:=by
 intro i;induction i using G! with
 | _ i ih=>
   intro hi;cases hb:listed.getD i false with
   |true=>rfl
   | false=>
     have U:ops[i]? =some ops[i]:=Array.getElem?_eq_getElem hi
     have hm:i∈Region.ready .any ops listed:=mem_ready.2 ⟨by simpa[hs,hi]using hb,_,U,λe he W0=>by
      have:=(ZX cr U).1 e he W0;exact ih e.on this (Nat.lt_trans this hi)⟩
     rw[h]at hm;cases hm
theorem IH (cr:jd ops au=true) {a av:Act} (U:wi P C n ops au L D Φ H S listed a av w) {i:Nat} (hi:i∈L)(hu:listed.getD i false=false) {o:Oper} (ho:ops[i]? =some o)
  (gZ:∀e∈o.after,Region.binds .any e=true->listed.getD e.on false=true) {K:Act->World->Prop} (hK:∀a',wi P C n ops au L D Φ H S (listed.setIfInBounds i true) a' av w->K a' w):wpOp P ops Q i K a w:=by
 obtain⟨o',d,v,JH,B,zI,hd,lS,bp,hv,BR,eo,hB,F1⟩:=(U.owed i hi hu).ex;rw[ho]at zI;cases zI;have AP:i<listed.size:=by rw[U.lsize];exact U.inL i hi
 have Iv:∀t∈nf ops o,a.tmps[t]? =av.tmps[t]?:=λt ht=>U.agree t λj oj hj ow uy xB=>by
  by_cases DU:j=i
  ·subst DU;rw[ho]at uy;cases uy;exact(ZX cr ho).2.2.2 bp t xB ht
  ·obtain⟨_,_,_,_,_,_,_,_,Om,_⟩:=(U.owed j hj ow).ex;have:=((Qas cr uy ho DU xB).2 ht).1 Om;obtain⟨e,he,hb,rfl⟩:=Yg ho this;rw[gZ e he hb]at ow;cases ow
 have zF:AY JH B w:=by
  obtain⟨F,N,hm⟩:=U.holds;refine⟨⟨F,λφ bj=>hm.facts φ (eo φ bj)⟩,λb hb=>?_⟩;have:=U.deps _ (hB b hb) hu;obtain⟨k,hk⟩:=List.getElem?_of_mem this;exact⟨N k,F,hm.owns k b hk⟩
 have It:wi P C n ops au L D Φ H S (listed.setIfInBounds i true) (a.put (some d) v) av w:=by
  refine⟨U.frm,by simp[Act.put,U.asize],U.adef,U.holds,by simpa using U.lsize,λj hj=>?_,U.inL,λt ht=>?_,λj hj ow=>?_,λx hx JB=>?_⟩
  ·rw[NX AP]at hj;split at hj;· rename_i e;rw[e];exact hi
   · exact U.sub j hj
  ·by_cases On:t=d
   ·subst On;simp only[Act.put];rw[O'];simp[U.asize,lS,hv]
   ·simp only[Act.put];rw[u' (Ne.symm On)];refine U.agree t λj oj hj ow uy xB=>?_
    by_cases DU:j=i;· subst DU;rw[ho]at uy;cases uy;rw[hd]at xB;cases xB;exact On rfl
    · exact ht j oj hj (by rw[NX AP,if_neg DU];exact ow) uy xB
  ·rw[NX AP]at ow;split at ow;· cases ow
   · exact U.owed j hj ow
  ·rw[NX AP]at JB;split at JB;· cases JB
   · exact U.deps x hx JB
 unfold wpOp;simp only[ho];rcases F1 a w Iv zF with⟨h1,h2⟩|⟨h1,h2⟩
 ·rw[if_pos h1];left;unfold Oper.wp;rw[h2,Oper.upon_value,hd];exact hK _ It
 ·rw[if_neg (by rw[h1];simp),hd,<-h2];exact hK _ It
theorem Hz (cr:jd ops au=true)
   (gJ:∀i o listed a av w,ops[i]? =some o->i∉L->(∀e∈o.after,Region.binds .any e=true->listed.getD e.on false=true)->wi P C n ops au L D Φ H S listed a av w->
    wpOp P ops Q i (λa' w'=>∀fuel,((listed.setIfInBounds i true).toList.filter (! ·)).length<=fuel->wpAny P .any ops Q fuel (listed.setIfInBounds i true) a' w') a w)
   (SX:(∀i,i<ops.size->i∈L)->WE C n Q Φ H S .normal):WX P C n Q ops au L D Φ H S:=by
 intro listed a av w U fuel;induction fuel generalizing listed a with
 | zero=>
   intro hf
   have fe:Region.ready .any ops listed=[]:=by
    refine List.eq_nil_iff_forall_not_mem.2 λi hi=>?_;have h1:=(mem_ready.1 hi).1;obtain⟨o,ho,_⟩:=(mem_ready.1 hi).2;have bp:i<listed.size:=by rw[U.lsize];exact(q'.1 ho).1
    have:=nW bp (by simpa[bp]using h1);omega
   refine⟨fe,?_⟩;have hl:=uT cr U.lsize fe
   have ha:a.tmps=av.tmps:=by
    apply y!;intro t;exact U.agree t λi o hi hu _=>by rw[hl i (U.inL i hi)]at hu;cases hu
   have:a=av:=by
    rcases a with⟨at_,ad⟩;rcases av with⟨bt,bd⟩;have h1:=U.adef;have h2:=U.frm.defers;simp only at ha h1 h2;rw[ha,h1,h2]
   rw[this];exact SX (λi hi=>U.sub i (hl i hi)) av w U.frm U.holds
 | succ fuel ih=>
   intro hf;refine⟨λfe=>?_,λi hi=>?_⟩
   ·have hl:=uT cr U.lsize fe
    have ha:a.tmps=av.tmps:=by
     apply y!;intro t;exact U.agree t λi o hi hu _=>by rw[hl i (U.inL i hi)]at hu;cases hu
    have:a=av:=by
     rcases a with⟨at_,ad⟩;rcases av with⟨bt,bd⟩;have h1:=U.adef;have h2:=U.frm.defers;simp only at ha h1 h2;rw[ha,h1,h2]
    rw[this];exact SX (λi hi=>U.sub i (hl i hi)) av w U.frm U.holds
   ·obtain⟨h1,o,ho,gZ⟩:=mem_ready.1 hi;have bp:i<listed.size:=by rw[U.lsize];exact(q'.1 ho).1
    have hu:listed.getD i false=false:=by simpa[bp]using h1
    have a2s:=nW bp hu;by_cases hL:i∈L;· exact IH cr U hL hu ho gZ λa' cz=>ih _ a' cz an
    · exact wpOp_mono (λa' w' h=>h fuel an) (gJ i o listed a av w ho hL gZ U)
def QX (P:Program)(C:Ctx)(n:FD)(Q:Exit->Act->World->Prop)(ops:Array Oper)(au L:List Nat)(D:List (Nat×Fact))(Φ:List Fact)(k:Nat):Exit->Act->World->Prop
 | .normal,a,w=>∃Φ' H' S',gU n S' a/\Ql C Φ' H' w/\(∀φ∈Φ,φ∈Φ')/\(∀x∈D,Ek ops k x.1=false->x.2∈H')/\WX P C n Q ops au (k::L) D Φ' H' S'
 |_,_,_=>False
def xU (ops:Array Oper)(k:Nat):List (Nat×Fact)->List Fact
 |[]=>[]
 | (i,b)::r=>match Ek ops k i with
   |true=>xU ops k r
   |false=>b::xU ops k r
theorem ql {k:Nat}:∀{D:List (Nat×Fact)} {x:Nat×Fact},x∈D->Ek ops k x.1=false->x.2∈xU ops k D
 | (i,b)::r,x,U,hp=>by
   unfold xU;rcases t'.1 U with rfl|U;· simp only at hp;rw[hp];simp
   ·split;· exact ql U hp
    · exact r' _ (ql U hp)
theorem ie {Φ' H':List Fact} (l m:List Nat)(eo:QQ Φ' l=Φ)(hD:QQ H' m=xU ops k D)(next:WX P C n Q ops au (k::L) D Φ' H' S'):WE C n (QX P C n Q ops au L D Φ k) Φ' H' S' .normal:=by
 intro a w hf hw;refine⟨Φ',H',S',hf,hw,λφ U=>?_,λx hx hp=>?_,next⟩
 ·rw[<-eo]at U;obtain⟨i,_,hi⟩:=V'.1 U;exact I' hi
 ·have:=ql hx hp;rw[<-hD]at this;obtain⟨i,_,hi⟩:=V'.1 this;exact I' hi
theorem Oper.wp_put {o:Oper} {a b:Act} {w:World} {K K':Act->World->Prop} {Q' Q'':Exit->Act->World->Prop} (hs:∀cs b,o.op≠.select cs b)(Jx:∀x∈o.op.operands,a.eval x=b.eval x)
   (a2t:∀d v U,¬K ({b with defers:=d::b.defers}.put o.dst v) U) (hK:∀v U,K (b.put o.dst v) U->K' (a.put o.dst v) U) (F7:∀e b U,e≠.normal->¬Q' e b U) (h:o.wp P b w K Q'):o.wp P a w K' Q'':=by
 unfold Oper.wp at*;rw[execOp_congr o hs Jx];generalize (execOp b.eval o).run P w=r at*;cases r with
 | ok nx U=>
   cases nx<;>simp only[Oper.upon]at h⊢
   all_goals first
    |exact hK _ _ h
    |exact h
    |exact absurd h (a2t _ _ _)
    |exact Calls.mono h (λe w'' he=>by
     cases e with
     |returned v=>exact hK _ _ he
     |panicked ch=>exact absurd he (F7 _ _ _ ax)
     |outgrown=>obtain⟨_,_,he⟩:=he;exact absurd he (F7 _ _ _ ax))
    |exact Rows.mono h (λ_ _ he=>hK _ _ he)
 |halt x U=>cases x<;>simp only[Oper.upon]at h⊢<;>first|exact h|exact absurd h (F7 _ _ _ ax)
theorem Act.put_defers {a:Act} {dst:Option Nat} {v:Value}:(a.put dst v).defers=a.defers:=by cases dst<;>rfl
theorem Act.put_size {a:Act} {dst:Option Nat} {v:Value}:(a.put dst v).tmps.size=a.tmps.size:=by cases dst<;>simp[Act.put]
theorem met (cr:jd ops au=true) {o:Oper} (ho:ops[k]? =some o)(hk:k∉L)(Wh:jo au k=false)(h:WL P C n (QX P C n Q ops au L D Φ k) Φ H S ops [o]) {a av:Act} (gZ:∀e∈o.after,Region.binds .any e=true->listed.getD e.on false=true) (U:wi P C n ops au L D Φ H S listed a av w):
  wpOp P ops Q k (λa' w'=>∀fuel,((listed.setIfInBounds k true).toList.filter (! ·)).length<=fuel->wpAny P .any ops Q fuel (listed.setIfInBounds k true) a' w') a w:=by
 have ly:k<listed.size:=by rw[U.lsize];exact(q'.1 ho).1
 have hku:listed.getD k false=false:=by
  cases hb:listed.getD k false with
  |false=>rfl
  |true=>exact absurd (U.sub k hb) hk
 have Iv:∀t∈nf ops o,a.tmps[t]? =av.tmps[t]?:=λt ht=>U.agree t λj oj hj ow uy xB=>by
  have DU:j≠k:=λe=>hk (e▸hj);obtain⟨_,_,_,_,_,_,_,_,Om,_⟩:=(U.owed j hj ow).ex;have:=((Qas cr uy ho DU xB).2 ht).1 Om;obtain⟨e,he,hb,rfl⟩:=Yg ho this;rw[gZ e he hb]at ow;cases ow
 have key:∀v w',(∃Φ' H' S',gU n S' (av.put o.dst v)/\Ql C Φ' H' w'/\(∀φ∈Φ,φ∈Φ')/\(∀x∈D,Ek ops k x.1=false->x.2∈H')/\WX P C n Q ops au (k::L) D Φ' H' S')->
   ∀fuel,((listed.setIfInBounds k true).toList.filter (! ·)).length<=fuel->wpAny P .any ops Q fuel (listed.setIfInBounds k true) (a.put o.dst v) w':=by
  rintro v w' ⟨Φ',H',S',hf',jY,LY,hD',hx⟩;refine hx _ _ (av.put o.dst v) w' ⟨hf',by rw[Act.put_size];exact U.asize,by rw[Act.put_defers];exact U.adef,jY,by simpa using U.lsize,λj hj=>?_,λj hj=>?_,λt ht=>?_,λj hj ow=>?_,λx nJ JB=>?_⟩
  ·rw[NX ly]at hj;split at hj;· rename_i e;rw[e];simp
   · exact r' _ (U.sub j hj)
  ·rcases t'.1 hj with rfl|hj;· rw[<-U.lsize];exact ly
   · exact U.inL j hj
  ·have gH:a.tmps[t]? =av.tmps[t]? \/o.dst=some t:=by
     by_cases hd:o.dst=some t;· exact .inr hd
     · refine .inl (U.agree t λj oj hj ow uy xB=>ht j oj (r' _ hj) ?_ uy xB);rw[NX ly,if_neg (λ(e:j=k)=>hk (e▸hj))];exact ow
   cases hd:o.dst with
   | none=>
     rcases gH with h0|h0;· exact h0
     · rw[hd]at h0;cases h0
   | some d=>
     simp only[Act.put];by_cases On:t=d
     · subst On;have h1:=U.asize;have h2:=U.frm.size;by_cases bp:t<n;· rw[O',O'];simp[h1,h2,bp]
       · simp[Array.getElem?_eq_none,h1,h2,Nat.not_lt.1 bp]
     · rw[u' (Ne.symm On),u' (Ne.symm On)];rcases gH with h0|h0;· exact h0
       · rw[hd]at h0;cases h0;exact absurd rfl On
  ·have BS:j≠k:=λe=>by subst e;rw[NX ly,if_pos rfl]at ow;cases ow
   rw[NX ly,if_neg BS]at ow;have hjL:j∈L:=(t'.1 hj).resolve_left BS;obtain⟨oj,d,vj,JH,B,uy,xB,lS,Om,hvj,BR,LZ,hB,F1⟩:=(U.owed j hjL ow).ex
   have Wi:∀t,(o.dst=some t->t≠d/\t∉nf ops oj):=by
     intro t ht;obtain⟨p1,p2⟩:=Qas cr ho uy (Ne.symm BS) ht;refine⟨λe=>p1 (by rw[e];exact xB),λhm=>?_⟩;rcases(p2 hm).2 Wh Om with h0|h0
     · obtain⟨e,he,hb,rfl⟩:=Yg ho h0;rw[gZ e he hb]at ow;cases ow
     · obtain⟨e,he,hb,rfl⟩:=Yg uy h0;exact hk (BR e he hb)
   have jF:∀t,(t=d\/t∈nf ops oj)->(av.put o.dst v).tmps[t]? =av.tmps[t]?:=by
     intro t ht;cases hd:o.dst with
     |none=>rfl
     | some d'=>
       obtain⟨q1,q2⟩:=Wi d' hd;simp only[Act.put];rw[u'];rintro rfl;rcases ht with ht|ht;· exact q1 ht
       · exact q2 ht
   exact ⟨oj,d,vj,JH,B,uy,xB,lS,Om,(jF d (.inl rfl)).trans hvj,λe he hb=>r' _ (BR e he hb),λφ bj=>LY φ (LZ φ bj),hB,
     λa' w'' EW zF=>F1 a' w'' (λt ht=>(EW t ht).trans (jF t (.inr ht))) zF⟩
  ·have de:x.1≠k:=λe=>by rw[NX ly,if_pos e]at JB;cases JB
   rw[NX ly,if_neg de]at JB;refine hD' x nJ ?_;cases hb:Ek ops k x.1 with
   |false=>rfl
   | true=>
     obtain⟨e,he,mj,heq⟩:=Yg ho hb;rw[<-heq,gZ e he mj]at JB;cases JB
 unfold wpOp;simp only[ho];have Td:=h av w U.frm U.holds;unfold wpList at Td;rw[QbT Iv];have SS:∀v w',wpList P ops (QX P C n Q ops au L D Φ k) [] (av.put o.dst v) w'->∀fuel,((listed.setIfInBounds k true).toList.filter (! ·)).length<=fuel->wpAny P .any ops Q fuel (listed.setIfInBounds k true) (a.put o.dst v) w':=λv w' h=>key v w' h
 split
 ·rename_i uB;rw[if_pos uB]at Td;left;rcases Td with Td|⟨_,_,_,hf⟩
  ·refine Oper.wp_put (ZX cr ho).2.1 (u6 Iv) (λd v w' hh=>?_) SS (λe b w' de hq=>?_) Td
   · obtain⟨Φ',H',S',hf',_⟩:=(hh:QX P C n Q ops au L D Φ k .normal _ _)
     have h3:=congrArg List.length (hf'.defers);rw[Act.put_defers,<-U.frm.defers]at h3;simp at h3
   · cases e<;>first|exact de rfl|exact hq
  · exact hf.elim
 ·rename_i uB;rw[if_neg uB]at Td;exact SS _ _ Td
theorem QE (U:jd ops au=true)(fe:(T' ops.size).all (jo L)=true)(h:WE C n Q Φ H S .normal):WX P C n Q ops au L D Φ H S:=
 Hz U (λi o listed a av w ho hi _ _=>absurd (Ji.1 (C'.1 fe i (U'.2 (q'.1 ho).1))) hi) (λ_=>h)
theorem AA (cr:jd ops au=true)(l:List Nat)(hl:nh ops au L=l)(Wh:l.all (λk=> !jo au k)=true)(de:(T' ops.size).all (jo L)=false)
  (h:∀k∈l,∀o,ops[k]? =some o->WL P C n (QX P C n Q ops au L D Φ k) Φ H S ops [o]):WX P C n Q ops au L D Φ H S:=
 Hz cr (λi o listed a av w U hi gZ hr=>by
  have hm:i∈l:=by
   rw[<-hl];refine List.mem_filter.2 ⟨U'.2 (q'.1 U).1,?_⟩
   have h1:jo L i=false:=by
    cases hb:jo L i with
    |false=>rfl
    |true=>exact absurd (Ji.1 hb) hi
   simp only[h1,U,Bool.not_false,Bool.true_and,C',g!,D'];intro e he;cases hb:Region.binds .any e with
   |false=>exact .inl rfl
   |true=>exact .inr (Ji.2 (hr.sub _ (gZ e (cx he) hb)))
  have hn:jo au i=false:=by
   have:=C'.1 Wh i hm;simpa using this
  exact met cr U hi hn (h i hm o U) gZ hr) (λfe=>by
  have:(T' ops.size).all (jo L)=true:=C'.2 λi hi=>Ji.2 (fe i (U'.1 hi));rw[this]at de;cases de)
theorem NJ (cr:jd ops au=true)(k:Nat) {o:Oper} (hl:nh ops au L=[k])(Wh:jo au k=false)(de:(T' ops.size).all (jo L)=false)(ho:ops[k]? =some o)
  (h:WL P C n (QX P C n Q ops au L D Φ k) Φ H S ops [o]):WX P C n Q ops au L D Φ H S:=
 AA cr [k] hl (by simp[Wh]) de λk' U o' zI=>by
  simp only[List.mem_singleton]at U;subst U;rw[ho]at zI;cases zI;exact h
theorem HJ (cr:jd ops au=true)(k j:Nat) {o p:Oper} (hl:nh ops au L=[k,j])(Wh:jo au k=false)(a2J:jo au j=false)(de:(T' ops.size).all (jo L)=false)(ho:ops[k]? =some o)(hp:ops[j]? =some p)
  (h:WL P C n (QX P C n Q ops au L D Φ k) Φ H S ops [o]) (h':WL P C n (QX P C n Q ops au L D Φ j) Φ H S ops [p]):WX P C n Q ops au L D Φ H S:=
 AA cr [k,j] hl (by simp[Wh,a2J]) de λk' ec o' U=>by
  simp only[t',List.not_mem_nil,or_false]at ec;rcases ec with rfl|rfl;· rw[ho]at U;cases U;exact h
  · rw[hp]at U;cases U;exact h'
theorem Dr (cr:jd ops au=true)(i:Nat) {o:Oper} {v:Value} (B:List Fact)(m:List Nat)(hi:ops[i]? =some o)(hli:jo au i=true)(hL:jo L i=false)(gZ:(o.after.toList.all λe=> !Region.binds .any e||jo L e.on)=true)
  (hd:o.dst=some d) (lS:A' d n=true) (hS:ft d S=S') (hB:QQ H m=B)
  (det:(QM ops S o=some true/\∀a w,gU n S a->AY Φ B w->(execOp a.eval o).run P w=.ok (.value v) w)\/(QM ops S o=some false/\v=undef))
  (next:WX P C n Q ops au (i::L) (B.map (λb=>(i,b))++D) Φ H ((d,v)::S')):WX P C n Q ops au L D Φ H S:=by
 intro listed a av w hr;have hiL:i∉L:=λh=>by rw[Ji.2 h]at hL;cases hL
 have hio:i<ops.size:=(q'.1 hi).1;have W4:d<n:=l' lS
 have BR:∀e∈o.after,Region.binds .any e=true->e.on∈L:=λe he U=>by
  have:=C'.1 gZ e (cx he);simp only[U,Bool.not_true,L!]at this;exact Ji.1 this
 have jF:∀t,t≠d->(av.put (some d) v).tmps[t]? =av.tmps[t]?:=λt ht=>by
  simp only[Act.put];rw[u' (Ne.symm ht)]
 have hB':∀b∈B,b∈H:=λb U=>by
  rw[<-hB]at U;obtain⟨q,_,hq⟩:=V'.1 U;exact I' hq
 refine next listed a (av.put (some d) v) w ⟨hr.frm.put W4 hS,hr.asize,hr.adef,hr.holds,hr.lsize,λj hj=>r' _ (hr.sub j hj),λj hj=>?_,λt ht=>?_,λj hj ow=>?_,λx hx JB=>?_⟩
 ·rcases t'.1 hj with rfl|hj;· exact hio
  · exact hr.inL j hj
 ·have On:t≠d:=λe=>by
   subst e
   have hu:listed.getD i false=false:=by
    cases U:listed.getD i false with
    |false=>rfl
    |true=>exact absurd (hr.sub i U) hiL
   exact ht i o ax hu hi hd
  rw[jF t On];exact hr.agree t λj oj hj ow uy xB=>ht j oj (r' _ hj) ow uy xB
 ·rcases t'.1 hj with rfl|hj
  ·refine ⟨o,d,v,Φ,B,hi,hd,W4,hli,?_,λe he U=>r' _ (BR e he U),λ_ h=>h,λb U=>u! _ (O!.2 ⟨b,U,rfl⟩),λa' w' EW zF=>?_⟩;· simp[Act.put,hr.frm.size,W4]
   ·have Iv:∀t∈nf ops o,a'.tmps[t]? =av.tmps[t]?:=λt ht=>(EW t ht).trans (jF t λe=>by
     subst e;exact(ZX cr hi).2.2.2 hli t hd ht)
    rcases det with⟨h1,h2⟩|⟨h1,h2⟩
    ·left;rw[QbT Iv];refine⟨Jf hr.frm h1,?_⟩;rw[execOp_congr o (ZX cr hi).2.1 (u6 Iv)];exact h2 av w' hr.frm zF
    ·right;rw[QbT Iv];exact⟨Jf hr.frm h1,h2⟩
  ·obtain⟨oj,dj,vj,JH,Bj,uy,xB,W5,Om,hvj,wu,LZ,hBj,F1⟩:=(hr.owed j hj ow).ex;have DU:i≠j:=λe=>hiL (e▸hj);obtain⟨p1,p2⟩:=Qas cr hi uy DU hd;have hdd:dj≠d:=λe=>p1 (by rw[<-e];exact xB);refine⟨oj,dj,vj,JH,Bj,uy,xB,W5,Om,(jF dj hdd).trans hvj,λe he U=>r' _ (wu e he U),LZ,λb U=>b! _ (hBj b U),λa' w' EW zF=>?_⟩;refine F1 a' w' (λt ht=>(EW t ht).trans (jF t λe=>?_)) zF;subst e;obtain⟨e,he,U,heq⟩:=Yg uy ((p2 ht).1 hli);exact hiL (heq▸wu e he U)
 ·rcases Y'.1 hx with hx|hx
  ·obtain⟨b,U,rfl⟩:=O!.1 hx;exact hB' b U
  · exact hr.deps x hx JB
theorem wi.more {listed:Array Bool} {a av:Act} {w:World} {Φ':List Fact} (U:wi P C n ops au L D Φ H S listed a av w)(j6:∀φ∈Φ,φ∈Φ')(hw:Ql C Φ' H w):wi P C n ops au L D Φ' H S listed a av w:=
 ⟨U.frm,U.asize,U.adef,hw,U.lsize,U.sub,U.inL,U.agree,λj hj ow=>by
  obtain⟨oj,dj,vj,JH,Bj,uy,xB,W5,Om,hvj,wu,LZ,hBj,F1⟩:=(U.owed j hj ow).ex;exact⟨oj,dj,vj,JH,Bj,uy,xB,W5,Om,hvj,wu,λφ bj=>j6 φ (LZ φ bj),hBj,F1⟩,U.deps⟩
theorem HA {Λ:Type} {pure:Λ->Prop} {facts:Λ->List Fact} (ku:∀F w,(∀ψ∈Φ,ψ.p F w)->∃r:Λ,pure r/\∀φ∈facts r,φ.p F w)(next:∀r,pure r->WX P C n Q ops au L D (facts r++Φ) H S):WX P C n Q ops au L D Φ H S:=λlisted a av w U=>by
 obtain⟨r,h1,h2⟩:=ya U.holds λF=>ku F w;exact next r h1 listed a av w (U.more (λφ bj=>b! _ bj) h2)
theorem Yu {t:Bool} (hx:look S d=some (.bool t))(hS:ft d S=S')(ht:t=true->WX P C n Q ops au L D Φ H ((d,.bool true)::S'))(hf:t=false->WX P C n Q ops au L D Φ H ((d,.bool false)::S')):WX P C n Q ops au L D Φ H S:=by
 subst hS;intro listed a U w hr
 have h1:∀b,t=b->gU n ((d,.bool b)::ft d S) U:=λb hb=>hr.frm.sub λx nJ=>by
  rcases t'.1 nJ with rfl|nJ;· rw[<-hb];exact NY hx
  · exact(Ss nJ).1
 have h2:∀Ur,gU n Ur U->wi P C n ops au L D Φ H Ur listed a U w:=λUr hf=>{hr with frm:=hf}
 cases t;· exact hf rfl listed a U w (h2 _ (h1 _ rfl))
 · exact ht rfl listed a U w (h2 _ (h1 _ rfl))
theorem Ql.drew' {w U:World} (h:Ql C Φ H w)(hb:Below w.heap.size w U):Ql C Φ H U:=by
 obtain⟨F,N,hi⟩:=h;exact⟨F,N,hi.grow hb⟩
theorem QK {id:Nat} {l:List Oper} (au:List Nat)(hm:P.follows .mixedOrders=true)(cr:jd l.toArray au=true)(h':jd l.toArray au=true->WX P C n Q l.toArray au [] [] Φ H S):WC P C n Q Φ H S (.region id l.toArray true):=by
 intro a w U hw;have h:=h' cr;refine wp_region_any hm (h (H! l.toArray.size false) a a {w with drawn:=w.drawn+1} ⟨U,U.size,U.defers,hw.drew' ⟨rfl,rfl,rfl,W' _,λ_ _=>rfl⟩,ax,λi hi=>?_,ax,λt _=>rfl,ax,ax⟩ _ ?_)
 ·have:(H! l.toArray.size false).getD i false=false:=by
   simp only[L',Array.getElem?_replicate];split<;>rfl
  rw[this]at hi;cases hi
 ·have:∀m:Nat,((X' m false).filter (! ·)).length<=m:=λm=>ax
  simp
end core
end
end
end Go.Proofs.YtocfkfhdcnjklaaGreatDoor
