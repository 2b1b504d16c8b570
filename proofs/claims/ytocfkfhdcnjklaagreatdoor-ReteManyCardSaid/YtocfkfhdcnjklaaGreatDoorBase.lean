import Derived.KernelRfl
import Derived.WalkKit
import Derived.WalkSpells
import Derived.WalkLawsBesides
import Derived.Deep.QuietTactic
import Derived.BigQuiet
import Derived.Lib.Hide
import Derived.Deep.RegionHeld3
import Derived.StillTailTactics
import Derived.Deep.DeepCutAuto
import Derived.Deep.MidRow
import Derived.Maps.AppendAt
import Derived.IntWalk
namespace Go.Proofs.YtocfkfhdcnjklaaGreatDoor
section
theorem an{p:Prop}(h:p:=by omega):p:=h
theorem au{p:Prop}(h:p:=by kernel_rfl):p:=h
theorem bf{p:Prop}(h:p:=by decide):p:=h
theorem ax{p:Prop}(h:p:=by simp):p:=h
theorem It{p:Prop}(h:p:=by rfl):p:=h
theorem br.{u}{c:Prop}{d:Decidable c}{α:Sort u}{a b:α}{p:Prop}(h:p)(e:p->c:=by intro h;simpa using h):(if c then a else b)=a:=if_pos (e h)
theorem bs.{u}{c:Prop}{d:Decidable c}{α:Sort u}{a b:α}{p:Prop}(h:p)(e:p->¬c:=by intro h;simpa using h):(if c then a else b)=b:=if_neg (e h)
theorem cv{c p:Prop}(h:p)(e:p->c:=by intro h;simpa using h):c:=e h
abbrev bp(a:Nat):Value:=.pointer (some ⟨a,0,none⟩)
abbrev ao(a:Int):Value:=.int .i64 a
abbrev bc(a:Int):Value:=.int .u8 a
abbrev aw{α:Type}(p:Option Addr)(l:List α)(c:Nat):Value:=.slice p l.length c
abbrev EB:ByteArray:=⟨#[]⟩
theorem Pj.{u,v} {A:Type u} {B:Type v} {a c:A} {b d:B} (h:(a,b)=(c,d)):a=c/\b=d:=Prod.mk.inj h
theorem Z.{u} {α:Sort u} {a:α}:a=a:=rfl
abbrev V3.{u} {Y:Type u} (a b c:Y):List Y:=[a,b,c]
abbrev V4.{u} {Y:Type u} (a b c d:Y):List Y:=[a,b,c,d]
abbrev V5.{u} {Y:Type u} (a b c d e:Y):List Y:=[a,b,c,d,e]
abbrev V6.{u} {Y:Type u} (a b c d e f:Y):List Y:=[a,b,c,d,e,f]
abbrev V7.{u} {Y:Type u} (a b c d e f g:Y):List Y:=[a,b,c,d,e,f,g]
abbrev V8.{u} {Y:Type u} (a b c d e f g h:Y):List Y:=[a,b,c,d,e,f,g,h]
abbrev V9.{u} {Y:Type u} (a b c d e f g h i:Y):List Y:=[a,b,c,d,e,f,g,h,i]
abbrev pD.{u} {Y:Type u} (a b c d e f g h i j:Y):List Y:=[a,b,c,d,e,f,g,h,i,j]
abbrev Y6.{u} {Y:Type u} (a b c d e f g h i j k:Y):List Y:=[a,b,c,d,e,f,g,h,i,j,k]
abbrev V12.{u} {Y:Type u} (a b c d e f g h i j k l:Y):List Y:=[a,b,c,d,e,f,g,h,i,j,k,l]
abbrev We.{u} {Y:Type u} (a b c d e f g h i j k l m:Y):List Y:=[a,b,c,d,e,f,g,h,i,j,k,l,m]
abbrev Pr.{u} {Y:Type u} (a b c d e f g h i j k l m n:Y):List Y:=[a,b,c,d,e,f,g,h,i,j,k,l,m,n]
abbrev V15.{u} {Y:Type u} (a b c d e f g h i j k l m n o:Y):List Y:=[a,b,c,d,e,f,g,h,i,j,k,l,m,n,o]
abbrev V16.{u} {Y:Type u} (a b c d e f g h i j k l m n o p:Y):List Y:=[a,b,c,d,e,f,g,h,i,j,k,l,m,n,o,p]
abbrev V25.{u} {Y:Type u} (a b c d e f g h i j k l m n o p q r s t u v w x y:Y):List Y:=[a,b,c,d,e,f,g,h,i,j,k,l,m,n,o,p,q,r,s,t,u,v,w,x,y]
abbrev V40.{u} {Y:Type u} (a b c d e f g h i j k l m n o p q r s t u v w x y z A B C D E F G H I J K L M N:Y):List Y:=[a,b,c,d,e,f,g,h,i,j,k,l,m,n,o,p,q,r,s,t,u,v,w,x,y,z,A,B,C,D,E,F,G,H,I,J,K,L,M,N]
abbrev OA:=Option Addr
abbrev V1:Value:=.slice none 0 0
theorem Zi.{u} {Y:Type u} {a b:Y} (h:some a=some b):a=b:=Option.some.inj h
open Go.RowKit
abbrev eh:=Nat->Prop
attribute [go_sem] World.cell?_alloc_some
def fB (F:eh)(w w':World):Prop:=∀k,F k->w'.heap[k]? =w.heap[k]?
theorem fB.refl (F:eh)(w:World):fB F w w:=λ_ _=>rfl
theorem fB.cell {F:eh} {w w':World} (h:fB F w w') {b o:Nat} (U:F b):w'.cell? ⟨b,o,none⟩=w.cell? ⟨b,o,none⟩:=
 World.cell?_of_block (w:=w) (h b U)
def fZ {α:Type} (sz:Nat)(R:List Value->α->Prop):List Value->List α->Prop
 |xs,[]=>xs=[]
 |xs,x::l=>∃cs rest,xs=cs++rest/\cs.length=sz/\R cs x/\fZ sz R rest l
section
variable {α:Type} {sz:Nat} {R R':List Value->α->Prop}
theorem fZ.length:∀{l:List α} {xs:List Value},fZ sz R xs l->xs.length=l.length*sz
 |[],xs,h=>by cases(h:xs=[]);simp
 | x::l,xs,h=>by
   obtain⟨cs,rest,rfl,h1,_,U⟩:=h;rw[List.length_append,h1,fZ.length U,List.length_cons,Nat.succ_mul,Nat.add_comm]
theorem fZ.append:∀{l m:List α} {xs U:List Value},fZ sz R xs l->fZ sz R U m->fZ sz R (xs++U) (l++m)
 |[],m,xs,U,h,k=>by cases(h:xs=[]);exact k
 | x::l,m,xs,U,h,k=>by
   obtain⟨cs,rest,rfl,h1,h3,h2⟩:=h;exact⟨cs,rest++U,by rw[List.append_assoc],h1,h3,fZ.append h2 k⟩
theorem fZ.mono:∀{l:List α} {xs:List Value},fZ sz R xs l->(∀cs x,x∈l->R cs x->R' cs x)->fZ sz R' xs l
 |[],_,h,_=>h
 | x::l,xs,h,U=>by
   obtain⟨cs,rest,rfl,h1,h3,h2⟩:=h;exact⟨cs,rest,rfl,h1,U _ _ ax h3,fZ.mono h2 λcs x hx=>U cs x (by simp[hx])⟩
theorem fZ.at:∀{l:List α} {xs:List Value} {k:Nat} {x:α},fZ sz R xs l->l[k]? =some x->∃cs,cs.length=sz/\R cs x/\∀j u,cs[j]? =some u->xs[k*sz+j]? =some u
 |[],_,_,_,_,U=>by simp at U
 | y::l,xs,0,x,h,U=>by
   obtain⟨cs,rest,rfl,h1,h3,_⟩:=h;simp at U;subst U;refine⟨cs,h1,h3,λj u hu=>?_⟩;have:=(List.getElem?_eq_some_iff.1 hu).1;rw[Nat.zero_mul,Nat.zero_add,List.getElem?_append_left this];exact hu
 | y::l,xs,k+1,x,h,U=>by
   obtain⟨cs,rest,rfl,h1,h3,h2⟩:=h;obtain⟨ds,e1,e2,e3⟩:=fZ.at (k:=k) h2 (cv U);refine⟨ds,e1,e2,λj u hu=>?_⟩;rw[List.getElem?_append_right (by rw[h1,Nat.succ_mul];omega)];have:=e3 j u hu;rw[<-this];congr 1;rw[h1,Nat.succ_mul];omega
theorem fZ.all {p:Value->Prop} (hp:∀cs x,R cs x->∀u∈cs,p u):∀{l:List α} {xs:List Value},fZ sz R xs l->∀u∈xs,p u
 |[],xs,h,u,hu=>by cases(h:xs=[]);cases hu
 | x::l,xs,h,u,hu=>by
   obtain⟨cs,rest,rfl,_,h3,U⟩:=h;rcases List.mem_append.1 hu with hu|hu;· exact hp _ _ h3 u hu
   · exact fZ.all hp U u hu
theorem fZ.flat (enc:α->List Value)(he:∀x,(enc x).length=sz):∀l:List α,fZ sz (λcs x=>cs=enc x) (l.flatMap enc) l
 |[]=>rfl
 |x::l=>⟨enc x,l.flatMap enc,ax,he x,rfl,fZ.flat enc he l⟩
theorem fZ.flat_iff (enc:α->List Value):∀{l:List α} {xs:List Value},fZ sz (λcs x=>cs=enc x) xs l->xs=l.flatMap enc
 |[],xs,h=>h
 | x::l,xs,h=>by
   obtain⟨cs,rest,rfl,_,rfl,U⟩:=h;rw[fZ.flat_iff enc U];simp
end
def py (w:World)(b off:Nat)(xs:List Value):Prop:=∀j u,xs[j]? =some u->w.cell? ⟨b,off+j,none⟩=some u
def G5 {α:Type} (F:eh)(w:World)(sz:Nat)(R:List Value->α->Prop)(v:Value)(l:List α):Prop:=
 ∃p n c xs,v=.slice p n c/\n=l.length/\n<=c/\c<=9223372036854775807/\fZ sz R xs l/\(0<n->∃b off,p=some ⟨b,off,none⟩/\F b/\py w b off xs)
section
variable {α:Type} {F G:eh} {w w':World} {sz:Nat} {R R':List Value->α->Prop} {v:Value} {l:List α}
theorem G5.keep (h:G5 F w sz R v l)(ha:fB F w w')(hR:∀cs x,x∈l->R cs x->R' cs x):G5 F w' sz R' v l:=by
 obtain⟨p,n,c,xs,hv,U,hc,hm,hx,eX⟩:=h;refine⟨p,n,c,xs,hv,U,hc,hm,hx.mono hR,λU=>?_⟩;obtain⟨b,off,hp,hF,iW⟩:=eX U;exact⟨b,off,hp,hF,λj u hj=>(ha.cell hF).trans (iW j u hj)⟩
theorem G5.foot (h:G5 F w sz R v l)(hg:∀k,F k->G k):G5 G w sz R v l:=by
 obtain⟨p,n,c,xs,hv,U,hc,hm,hx,eX⟩:=h;refine⟨p,n,c,xs,hv,U,hc,hm,hx,λU=>?_⟩;obtain⟨b,off,hp,hF,iW⟩:=eX U;exact⟨b,off,hp,hg _ hF,iW⟩
end
theorem Ed (b off j:Nat):(⟨b,off,none⟩:Addr).add j=⟨b,off+j,none⟩:=by unfold Addr.add;split<;>simp_all
theorem tE {P:Program} {t e:TypeId} {sz:Nat} {p:Option Addr} {n c k b off:Nat} (ht:P.underlying t=some (.slice e))(hs:∀w,(sizeOf e).run P w=.ok sz w)(hp:p=some ⟨b,off,none⟩)(hk:k<n):
  ∀w,(Instr.indexAt t (.slice p n c) (.int .i64 (k:Int))).run P w=.ok (.pointer (some ⟨b,off+k*sz,none⟩)) w:=by
 intro w;subst hp;have U:(0:Int)<=k/\(k:Int)<n:=an
 simp[Instr.indexAt,asIntOf,run_underlying ht,U,hs,Addr.add,hk]
structure V where
 k:Int
 n:Int
 s:ByteArray
theorem Qa3 {a b:ByteArray}:a.toList=b.toList↔a=b:=by
 rw[ByteArray.toList_eq,ByteArray.toList_eq];constructor
 ·intro h;obtain⟨⟨x⟩⟩:=a;obtain⟨⟨y⟩⟩:=b;simp at h;subst h;rfl
 · rintro rfl;rfl
instance:DecidableEq V:=λa b=>by
 rcases a with⟨k,n,s⟩;rcases b with⟨k',n',s'⟩;exact if h:k=k'/\n=n'/\s.toList=s'.toList then .isTrue (by obtain⟨h1,h2,h3⟩:=h;rw[Qa3]at h3;subst h1 h2 h3;rfl)else .isFalse (λe=>h (by injection e with h1 h2 h3;exact⟨h1,h2,by rw[h3]⟩))
theorem V.ext_iff' {a b:V}:a=b↔a.k=b.k/\a.n=b.n/\a.s.toList=b.s.toList:=by
 rcases a with⟨k,n,s⟩;rcases b with⟨U,n',s'⟩;simp only[V.mk.injEq,Qa3]
def lW {α:Type} (B:Nat)(e:TypeId)(sz:Nat)(R:List Value->α->Prop)(l:List α)(v:Value)(w:World):Prop:=
 ∃xs,w.ownsRow B e sz v l.length xs/\fZ sz R xs l
section
variable {α:Type} {B B':Nat} {w w':World} {e:TypeId} {sz:Nat} {R:List Value->α->Prop} {l:List α} {v:Value}
theorem lW.nil:lW B e sz R [] (.slice none 0 0) w:=⟨[],World.ownsRow_nil _ _ _ _,rfl⟩
theorem lW.shape (h:lW B e sz R l v w):∃p n c,v=.slice p n c:=by
 obtain⟨xs,ho,_⟩:=h;rcases ho.2 with⟨U,_⟩|⟨g,cap,cur,hv,_⟩
 · exact⟨_,_,_,U⟩
 · exact⟨_,_,_,hv⟩
theorem lW.len {p:Option Addr} {n c:Nat} (h:lW B e sz R l (.slice p n c) w):n=l.length:=by
 obtain⟨xs,ho,_⟩:=h;rcases ho.2 with⟨U,h1⟩|⟨g,cap,cur,hv,_⟩
 · cases U;omega
 · cases hv;rfl
theorem lW.mono (h:lW B e sz R l v w)(hB:B'<=B):lW B' e sz R l v w:=by
 obtain⟨xs,U,hc⟩:=h;refine⟨xs,⟨U.1,?_⟩,hc⟩;rcases U.2 with h0|⟨g,cap,cur,hv,hg,rest⟩
 · exact .inl h0
 · exact .inr ⟨g,cap,cur,hv,Nat.le_trans hB hg,rest⟩
theorem lW.keep (h:lW B e sz R l v w)(ha:∀k,v.ownBlock=some k->w'.heap[k]? =w.heap[k]?):lW B e sz R l v w':=by
 obtain⟨xs,U,hc⟩:=h;refine⟨xs,⟨U.1,?_⟩,hc⟩;rcases U.2 with h0|⟨g,cap,cur,hv,hg,hh,rest⟩
 · exact .inl h0
 · exact .inr ⟨g,cap,cur,hv,hg,by rw[ha g (by rw[hv];rfl)];exact hh,rest⟩
theorem lW.lt (h:lW B e sz R l v w):∀k,v.ownBlock=some k->B<=k/\k<w.heap.size:=by
 obtain⟨xs,U,_⟩:=h;exact U.lt
end
structure Mod (S:eh) (w w':World):Prop where
 os:w'.os=w.os
 tape:w'.tape=w.tape
 output:w'.output=w.output
 size:w.heap.size<=w'.heap.size
 block:∀k,k<w.heap.size->¬S k->w'.heap[k]? =w.heap[k]?
section
variable {S T:eh} {a b c w:World}
theorem Mod.refl (S:eh)(w:World):Mod S w w:=⟨rfl,rfl,rfl,Nat.le_refl _,λ_ _ _=>rfl⟩
theorem Mod.trans (h:Mod S a b)(k:Mod S b c):Mod S a c:=⟨k.os.trans h.os,k.tape.trans h.tape,k.output.trans h.output,Nat.le_trans h.size k.size,λi hi hs=>(k.block i (Nat.lt_of_lt_of_le hi h.size) hs).trans (h.block i hi hs)⟩
theorem Mod.mono (h:Mod S a b)(hs:∀k,k<a.heap.size->S k->T k):Mod T a b:=⟨h.os,h.tape,h.output,h.size,λk hk U=>h.block k hk λh=>U (hs k hk h)⟩
theorem Mod.trans' (h:Mod S a b)(k:Mod T b c)(U:∀i,i<a.heap.size->T i->S i):Mod S a c:=⟨k.os.trans h.os,k.tape.trans h.tape,k.output.trans h.output,Nat.le_trans h.size k.size,λi hi hs=>(k.block i (Nat.lt_of_lt_of_le hi h.size) λht=>hs (U i hi ht)).trans (h.block i hi hs)⟩
theorem Mod.of_below (h:Below w.heap.size w a):Mod S w a:=⟨h.os,h.tape,h.output,h.size,λk hk _=>h.block k hk⟩
theorem Mod.to_below {B:Nat} (h:Mod S w a)(hB:B<=w.heap.size)(U:∀k,S k->B<=k):Below B w a:=⟨h.os,h.tape,h.output,h.size,λk hk=>h.block k an λhs=>by have:=U k hs;omega⟩
theorem Mod.drew (h:Mod S a w):Mod S a w.drew:=⟨h.os,h.tape,h.output,h.size,h.block⟩
theorem Mod.setCell (h:Mod S a w) {p:Addr} (hp:p.block<a.heap.size->S p.block)(u:Value):Mod S a (w.setCell p u):=
 h.trans' (T:=λk=>k=p.block) ⟨rfl,rfl,rfl,by simp[World.setCell],λk _ hk=>Below.heap_setCell _ _ _ _ hk⟩ (λi hi e=>by subst e;exact hp hi)
end
theorem fZ.set:∀{α:Type} {sz:Nat} {R:List Value->α->Prop} {l:List α} {xs:List Value} (k:Nat) {x:α} {cs:List Value},fZ sz R xs l->R cs x->cs.length=sz->k<l.length->fZ sz R (xs.take (k*sz)++cs++xs.drop ((k+1)*sz)) (l.set k x)
 |_,_,_,[],_,_,_,_,_,_,_,hk=>absurd hk ax
 | α,sz,R,y::l,xs,0,x,cs,h,hr,hc,_=>by
   obtain⟨ds,rest,rfl,h1,h3,U⟩:=h;refine⟨cs,rest,?_,hc,hr,U⟩;rw[Nat.zero_mul,List.take_zero,List.nil_append,Nat.zero_add,Nat.one_mul,<-h1,List.drop_left]
 | α,sz,R,y::l,xs,k+1,x,cs,h,hr,hc,hk=>by
   obtain⟨ds,rest,rfl,h1,h3,U⟩:=h;refine⟨ds,rest.take (k*sz)++cs++rest.drop ((k+1)*sz),?_,h1,h3,fZ.set k U hr hc (cv hk)⟩;have e1:(k+1)*sz=ds.length+k*sz:=by rw[h1,Nat.succ_mul];omega
   have e2:(k+1+1)*sz=ds.length+(k+1)*sz:=by rw[h1,Nat.succ_mul (k+1)];omega
   rw[e2,e1,List.take_length_add_append,List.drop_length_add_append,<-e1];simp[List.append_assoc]
def HC (xs:List Value)(o:Nat):List Value->List Value
 |[]=>xs
 |c::cs=>HC (xs.set o c) (o+1) cs
theorem XM:∀(cs xs:List Value)(o:Nat),o+cs.length<=xs.length->HC xs o cs=xs.take o++cs++xs.drop (o+cs.length)
 |[],xs,o,_=>by simp[HC]
 | c::cs,xs,o,h=>by
   simp only[List.length_cons]at h⊢;rw[HC,XM cs _ _ (by simp;omega)]
   have:(xs.set o c).take (o+1)=xs.take o++[c]:=by
    rw[List.take_succ_eq_append_getElem (by simp;omega),List.take_set_of_le (Nat.le_refl _)];simp
   rw[this,List.drop_set_of_lt an];simp[Nat.add_assoc,Nat.add_comm 1]
def FW (w:World)(b o:Nat):List Value->World
 |[]=>w
 |c::cs=>FW (w.setCell ⟨b,o,none⟩ c) b (o+1) cs
theorem lW.put {α:Type} {B:Nat} {w:World} {e:TypeId} {sz:Nat} {R:List Value->α->Prop} {l:List α} {g n c:Nat} (h:lW B e sz R l (.slice (some ⟨g,0,none⟩) n c) w)(hn:n=l.length)(k:Nat) {x:α} {cs:List Value} (hr:R cs x)(U:cs.length=sz)(hk:k<l.length):
  lW B e sz R (l.set k x) (.slice (some ⟨g,0,none⟩) n c) (FW w g (k*sz) cs)/\Mod (λi=>i=g) w (FW w g (k*sz) cs):=by
 obtain⟨xs,ho,hx⟩:=h
 have key:∀(cs:List Value) (xs:List Value) (w:World) (o:Nat),w.ownsRow B e sz (.slice (some ⟨g,0,none⟩) n c) l.length xs->
    (FW w g o cs).ownsRow B e sz (.slice (some ⟨g,0,none⟩) n c) l.length (HC xs o cs)/\Mod (λi=>i=g) w (FW w g o cs):=by
  intro cs;induction cs with
  |nil=>intro xs w o h;exact⟨h,Mod.refl _ _⟩
  | cons d ds ih=>
    intro xs w o h;subst hn;have h1:=h.stored o d;obtain⟨i1,i2⟩:=ih _ _ (o+1) h1.1;exact⟨i1,Mod.trans (S:=λi=>i=g) (Mod.setCell (S:=λi=>i=g) (Mod.refl _ w) (p:=⟨g,o,none⟩) (λ_=>rfl) d) i2⟩
 obtain⟨k1,k2⟩:=key cs xs w (k*sz) ho;have hlen:=hx.length;rw[XM cs xs _ (by rw[U,hlen,<-Nat.succ_mul];exact Nat.mul_le_mul_right _ hk)]at k1;refine⟨⟨_,by rw[List.length_set];exact k1,?_⟩,k2⟩;have:=hx.set k hr U hk;rwa [show(k+1)*sz=k*sz+cs.length from by rw[U,Nat.succ_mul]]at this
theorem lW.head {α:Type} {B:Nat} {w:World} {e:TypeId} {sz:Nat} {R:List Value->α->Prop} {l:List α} {p:Option Addr} {n c:Nat} (h:lW B e sz R l (.slice p n c) w)(h0:0<l.length):
  ∃g,p=some ⟨g,0,none⟩/\n=l.length/\B<=g/\g<w.heap.size/\∀j,w.frozen? ⟨g,j,none⟩=false:=by
 obtain⟨xs,U,hx⟩:=h;have hf:=U.2;rcases U.2 with⟨h1,h2⟩|⟨g,cap,cur,hv,hg,hh,rest⟩
 · omega
 ·cases hv;exact⟨g,rfl,rfl,hg,(Array.getElem?_eq_some_iff.1 hh).1,λj=>U.frozenAt j⟩
theorem lW.of_block {α:Type} {B:Nat} {w:World} {e:TypeId} {sz g n:Nat} {R:List Value->α->Prop} {l:List α} {cur:Array Value} (hg:w.heap[g]? =some (.cells cur e (0,0)))(hB:B<=g)(hx:fZ sz R cur.toList l)(hn:n=l.length)(hm:n<=9223372036854775807):lW B e sz R l (.slice (some ⟨g,0,none⟩) n n) w:=by
 subst hn;have U:=hx.length;refine⟨cur.toList,⟨U,.inr ⟨g,_,cur,rfl,hB,hg,Nat.le_refl _,hm,by simpa using U,?_⟩⟩,hx⟩;rw[List.take_of_length_le an]
end
section
open Go.RowKit
structure eO (α:Type) where
 p:eh->World->List Value->α->Prop
 good:∀{F G:eh} {w w':World} {cs:List Value} {x:α},(∀k,F k->G k)->fB F w w'->p F w cs x->p G w' cs x
 one:∀{F:eh} {w:World} {cs:List Value} {x:α},p F w cs x->∀u∈cs,u.oneCell'=true
inductive Fact:Type 1
 |cells (b o:Nat) (cs:List Value)
 |sli {α:Type} (sz:Nat) (R:eO α) (p:Option Addr) (c:Nat) (l:List α)
 |own {α:Type} (e sz:Nat) (R:eO α) (v:Value) (l:List α)
 |blk (g:Nat) (cs:List Value) (t:Nat)
 |rep {α:Type} (R:eO α) (cs:List Value) (x:α)
 |duo (p:eh->eh->World->Prop) (good:∀{N N' F G:eh} {w w':World},(∀k,N k->N' k)->fB N w w'->(∀k,F k->G k)->fB F w w'->p N F w->p N' G w')
 |raw (p:eh->World->Prop) (good:∀{F G:eh} {w w':World},(∀k,F k->G k)->fB F w w'->p F w->p G w')
def Fact.op:Fact->eh->eh->World->Prop
 | .cells b o cs,N,_,w=>N b/\py w b o cs
 | .sli sz R p c l,N,_,w=>G5 N w sz (R.p N w) (.slice p l.length c) l
 | .own e sz R v l,N,F,w=>(∀k,v.ownBlock=some k->N k)/\lW 0 e sz (R.p F w) l v w
 | .blk g cs t,N,_,w=>N g/\w.heap[g]? =some (.cells cs.toArray t)
 | .rep R cs x,N,_,w=>R.p N w cs x
 | .duo p _,N,F,w=>p N F w
 | .raw p _,N,_,w=>p N w
def Fact.p (φ:Fact)(F:eh)(w:World):Prop:=φ.op F F w
theorem py.agree {F:eh} {w U:World} {b o:Nat} {cs:List Value} (h:py w b o cs)(ha:fB F w U)(hb:F b):py U b o cs:=λj u hu=>(ha.cell hb).trans (h j u hu)
theorem lW.rel {α:Type} {B e sz:Nat} {R U:List Value->α->Prop} {l:List α} {v:Value} {w:World} (h:lW B e sz R l v w)(hR:∀cs x,R cs x->U cs x):lW B e sz U l v w:=by
 obtain⟨xs,ho,hc⟩:=h;exact⟨xs,ho,hc.mono λcs x _=>hR cs x⟩
theorem Fact.opgood (φ:Fact) {N N' F G:eh} {w w':World} (U:∀k,N k->N' k)(ha:fB N w w')(hF:∀k,F k->G k)(hb:fB F w w')(h:φ.op N F w):φ.op N' G w':=by
 cases φ with
 |cells b o cs=>exact⟨U _ h.1,h.2.agree ha h.1⟩
 |sli sz R p c l=>exact G5.foot (h.keep ha λcs x _ hr=>R.good U ha hr) U
 |own e sz R v l=>exact⟨λk hk=>U _ (h.1 k hk),(h.2.keep λk hk=>ha k (h.1 k hk)).rel λcs x hr=>R.good hF hb hr⟩
 |blk g cs t=>exact⟨U _ h.1,(ha g h.1).trans h.2⟩
 |rep R cs x=>exact R.good U ha h
 |duo p g=>exact g U ha hF hb h
 |raw p g=>exact g U ha h
theorem Fact.good (φ:Fact) {F G:eh} {w w':World} (U:∀k,F k->G k)(ha:fB F w w')(h:φ.p F w):φ.p G w':=φ.opgood U ha U ha h
structure Ctx where
 w0:World
 S0:eh
 F0:eh
structure fP (C:Ctx) (Φ:List Fact) (H:List Fact) (F:eh) (N:Nat->eh) (w:World):Prop where
 flt:∀k,F k->k<w.heap.size
 fold:∀k,C.F0 k->F k
 fnew:∀k,F k->C.F0 k\/C.w0.heap.size<=k\/C.S0 k
 facts:∀φ∈Φ,φ.p F w
 owns:∀(i:Nat) (h:Fact),H[i]? =some h->h.op (N i) F w
 nlt:∀i k,i<H.length->N i k->k<w.heap.size/\(C.w0.heap.size<=k\/C.S0 k)/\¬F k
 apart:∀i j k,i<H.length->j<H.length->i≠j->N i k->¬N j k
 mod:Mod C.S0 C.w0 w
def Qj (C:Ctx)(Φ:List Fact)(H:List Fact)(w:World):Prop:=∃F N,fP C Φ H F N w
structure FD where
 k:Nat
 D:List Deferred
instance:Coe FD Nat:=⟨FD.k⟩
structure fq (n:FD) (S:List (Nat×Value)) (a:Act):Prop where
 size:a.tmps.size=n.k
 defers:a.defers=n.D
 at_:∀x∈S,a.tmps[x.1]? =some x.2
def look:List (Nat×Value)->Nat->Option Value
 |[],_=>none
 | (k,v)::r,t=>match Nat.beq k t with
   |true=>some v
   |false=>look r t
def de (S:List (Nat×Value)):Operand->Option Value
 | .tmp t=>look S t
 | .const v=>some v
 | .func f=>some (.func (.func f) #[] #[])
 | .global g=>some (.pointer (some ⟨g,0,none⟩))
theorem LU:∀{S:List (Nat×Value)} {t:Nat} {v:Value},look S t=some v->(t,v)∈S
 | (k,u)::r,t,v,h=>by
   unfold look at h;split at h;· rename_i U;cases h;rw[Nat.eq_of_beq_eq_true U];simp
   · exact List.mem_cons_of_mem _ (LU h)
theorem fq.eval {n:FD} {S:List (Nat×Value)} {a:Act} (h:fq n S a) {x:Operand} {v:Value} (U:de S x=some v):a.eval x=v:=by
 cases x with
 | tmp t=>
   have:=h.at_ _ (LU U);simp only[Act.eval,Array.getD_eq_getD_getElem?];rw[this];rfl
 |const c=>cases U;rfl
 |global g=>cases U;rfl
 |func f=>cases U;rfl
def eL (d:Nat):List (Nat×Value)->List (Nat×Value)
 |[]=>[]
 | (k,v)::r=>match Nat.beq k d with
   |true=>eL d r
   |false=>(k,v)::eL d r
theorem Pc {d:Nat}:∀{S:List (Nat×Value)} {x:Nat×Value},x∈eL d S->x∈S/\x.1≠d
 | (k,v)::r,x,h=>by
   unfold eL at h;split at h;· exact⟨List.mem_cons_of_mem _ (Pc h).1,(Pc h).2⟩
   ·rename_i U;rcases List.mem_cons.1 h with rfl|h;· exact⟨ax,λe=>by rw[show k=d from e]at U;exact absurd (Nat.beq_refl d) (by rw[U];simp)⟩
    · exact⟨List.mem_cons_of_mem _ (Pc h).1,(Pc h).2⟩
theorem fq.put {n:FD} {S S':List (Nat×Value)} {a:Act} (h:fq n S a) {d:Nat} {v:Value} (hd:d<n)(hS:eL d S=S'):fq n ((d,v)::S') (a.put (some d) v):=by
 subst hS;refine⟨by simp[Act.put,h.size],h.defers,λx U=>?_⟩;rcases List.mem_cons.1 U with rfl|U;· simp[Act.put,h.size,hd]
 ·obtain⟨h1,h2⟩:=Pc U;simp only[Act.put];rw[Array.getElem?_setIfInBounds_ne (Ne.symm h2)];exact h.at_ _ h1
theorem fq.sub {n:FD} {S S':List (Nat×Value)} {a:Act} (h:fq n S a)(hs:∀x∈S',x∈S):fq n S' a:=⟨h.size,h.defers,λx U=>h.at_ x (hs x U)⟩
def gD:List Nat->List (Nat×Value)->List (Nat×Value)
 |[],_=>[]
 | t::l,S=>match look S t with
   |some v=>(t,v)::gD l S
   |none=>gD l S
theorem QbP:∀{l:List Nat} {S:List (Nat×Value)} {x:Nat×Value},x∈gD l S->x∈S
 | t::l,S,x,h=>by
   unfold gD at h;split at h
   ·rename_i v U;rcases List.mem_cons.1 h with rfl|h;· exact LU U
    · exact QbP h
   · exact QbP h
section ln
variable (P:Program) (C:Ctx) (n:FD) (Q:Exit->Act->World->Prop) (Φ:List Fact) (H:List Fact) (S:List (Nat×Value))
def WL (ops:Array Oper)(rest:List Oper):Prop:=∀a w,fq n S a->Qj C Φ H w->wpList P ops Q rest a w
def WC (c:Code):Prop:=∀a w,fq n S a->Qj C Φ H w->c.wp P Q a w
def WE (e:Exit):Prop:=∀a w,fq n S a->Qj C Φ H w->Q e a w
end ln
section structural
variable {P:Program} {C:Ctx} {n:FD} {Q:Exit->Act->World->Prop} {Φ Φ':List Fact} {H H':List Fact} {S S':List (Nat×Value)} {ops:Array Oper} {rest:List Oper} {c x y:Code}
theorem Q6 (h:WC P C n (Exit.then (λa w=>y.wp P Q a w) Q) Φ H S x):WC P C n Q Φ H S (.seq x y):=λa w U hw=>wp_seq (h a w U hw)
theorem Qb {id:Nat} {l:List Oper} (h:WL P C n Q Φ H S l.toArray l):WC P C n Q Φ H S (.region id l.toArray false):=λa w U hw=>wp_region_lit (h a w U hw)
theorem Q2 (h:WE C n Q Φ H S .normal):WL P C n Q Φ H S ops []:=λa w U hw=>h a w U hw
theorem Qw (h:WC P C n Q Φ H S y):WE C n (Exit.then (λa w=>y.wp P Q a w) Q) Φ H S .normal:=h
theorem Qc {id:Nat} {K:Act->World->Prop} (h:WE C n Q Φ H S (.exit id)):WE C n (Exit.then K Q) Φ H S (.exit id):=h
theorem Q5 {K:Act->World->Prop} (h:WE C n Q Φ H S .ret):WE C n (Exit.then K Q) Φ H S .ret:=h
theorem Qx {id:Nat} (h:WE C n Q Φ H S .normal):WE C n (Exit.inBlock id Q) Φ H S (.exit id):=λa w U hw=>by
 show(if id=id then _ else _);rw[if_pos rfl];exact h a w U hw
theorem uS {id U:Nat} (db:U≠id)(h:WE C n Q Φ H S (.exit U)):WE C n (Exit.inBlock id Q) Φ H S (.exit U):=λa w hf hw=>by
 show(if U=id then _ else _);rw[if_neg db];exact h a w hf hw
theorem Q9 {id:Nat} (h:WE C n Q Φ H S .normal):WE C n (Exit.inBlock id Q) Φ H S .normal:=h
theorem Qr {id:Nat} (h:WE C n Q Φ H S .ret):WE C n (Exit.inBlock id Q) Φ H S .ret:=h
theorem QV (h:WE C n Q Φ H S .normal):WC P C n Q Φ H S .skip:=λa w U hw=>wp_skip (h a w U hw)
theorem Qk (h:WE C n Q Φ H S .ret):WC P C n Q Φ H S .ret:=λa w U hw=>wp_ret (h a w U hw)
theorem ie {id:Nat} (h:WE C n Q Φ H S (.exit id)):WC P C n Q Φ H S (.exit id):=λa w U hw=>wp_exit (h a w U hw)
theorem Qn {id:Nat} (h:WC P C n (Exit.inBlock id Q) Φ H S c):WC P C n Q Φ H S (.block id c):=λa w U hw=>wp_block (h a w U hw)
theorem gw {o:Operand} {t:Bool} (hc:de S o=some (.bool t))(ht:t=true->WC P C n Q Φ H S x)(hf:t=false->WC P C n Q Φ H S y):WC P C n Q Φ H S (.cond o x y):=
 λa w U hw=>wp_cond_split (U.eval hc) (λh=>ht h a w U hw) (λh=>hf h a w U hw)
theorem M1 {o:Operand} (hc:de S o=some (.bool true))(ht:WC P C n Q Φ H S x):WC P C n Q Φ H S (.cond o x y):=
 λa w U hw=>wp_cond_true (U.eval hc) (ht a w U hw)
theorem Cx {o:Operand} (hc:de S o=some (.bool false))(ht:WC P C n Q Φ H S y):WC P C n Q Φ H S (.cond o x y):=
 λa w U hw=>wp_cond_false (U.eval hc) (ht a w U hw)
theorem kc (l:List Nat)(U:gD l S=S')(h:WC P C n Q Φ H S' c):WC P C n Q Φ H S c:=
 λa w hf hw=>h a w (hf.sub λx hx=>QbP (by rw[U];exact hx)) hw
theorem nV {d:Nat} {t:Bool} (hx:look S d=some (.bool t))(hS:eL d S=S')(ht:t=true->WL P C n Q Φ H ((d,.bool true)::S') ops rest)(hf:t=false->WL P C n Q Φ H ((d,.bool false)::S') ops rest):WL P C n Q Φ H S ops rest:=by
 subst hS;intro a w eP hw
 have h1:∀b,t=b->fq n ((d,.bool b)::eL d S) a:=λb hb=>eP.sub λx U=>by
  rcases List.mem_cons.1 U with rfl|U;· rw[<-hb];exact LU hx
  · exact(Pc U).1
 cases t;· exact hf rfl a w (h1 _ rfl) hw
 · exact ht rfl a w (h1 _ rfl) hw
theorem Qj.fact {w:World} {φ:Fact} (h:Qj C Φ H w)(bj:∀F,(∀ψ∈Φ,ψ.p F w)->φ.p F w):Qj C (φ::Φ) H w:=by
 obtain⟨F,N,hi⟩:=h;refine⟨F,N,{hi with facts:=λψ U=>?_}⟩;rcases List.mem_cons.1 U with rfl|U;· exact bj F hi.facts
 · exact hi.facts _ U
theorem zg (φ:Fact)(U:∀F w,(∀ψ∈Φ,ψ.p F w)->φ.p F w)(h:WL P C n Q (φ::Φ) H S ops rest):WL P C n Q Φ H S ops rest:=
 λa w hf hw=>h a w hf (hw.fact λF=>U F w)
theorem jZ (φ:Fact)(U:∀F w,(∀ψ∈Φ,ψ.p F w)->φ.p F w)(h:WC P C n Q (φ::Φ) H S c):WC P C n Q Φ H S c:=
 λa w hf hw=>h a w hf (hw.fact λF=>U F w)
theorem Qj.sub {w:World} (h:Qj C Φ H w)(hs:∀φ∈Φ',φ∈Φ):Qj C Φ' H w:=by
 obtain⟨F,N,hi⟩:=h;exact⟨F,N,{hi with facts:=λψ U=>hi.facts _ (hs _ U)}⟩
end structural
section rules
variable {P:Program} {C:Ctx} {n:FD} {Q:Exit->Act->World->Prop} {Φ Φ':List Fact} {H H':List Fact} {S S':List (Nat×Value)} {ops:Array Oper} {rest:List Oper} {o:Oper}
def QI (ops:Array Oper)(S:List (Nat×Value))(o:Oper):Option Bool:=
 match o.guard with
 |none=>some true
 | some (j,want)=>match(ops[j]?).bind (·.dst)with
   | some d=>match look S d with
     |some (.bool true)=>some want
     |some (.bool false)=>some (!want)
     |some (.tuple _)=>some false
     |_=>none
   |none=>none
theorem Hn {b:Bool} {a:Act} (hf:fq n S a)(h:QI ops S o=some b):Region.wanted o (yielded ops a.tmps)=b:=by
 unfold QI at h;unfold Region.wanted;rcases hg:o.guard with _|⟨j,want⟩
 · simp only[hg]at h⊢;exact Option.some.inj h
 ·simp only[hg]at h⊢;rcases hd:(ops[j]?).bind (·.dst)with _|d;· simp[hd]at h
  ·simp only[hd]at h;simp only[yielded,hd,Option.bind_some];split at h
   ·rename_i U;have:=hf.at_ _ (LU U);simp only at this;rw[this];cases want<;>(cases h;rfl)
   ·rename_i U;have:=hf.at_ _ (LU U);simp only at this;rw[this];cases want<;>(cases h;rfl)
   ·rename_i U;have:=hf.at_ _ (LU U);simp only at this;rw[this];cases want<;>(cases h;rfl)
   · cases h
theorem C2 {d:Nat} (hg:QI ops S o=some true)(hd:o.dst=some d)(hn:Nat.blt d n=true)(hS:eL d S=S')
  (run:∀a w,fq n S a->Qj C Φ H w->∃v w',(execOp a.eval o).run P w=.ok (.value v) w'/\∃Φ' H',Qj C Φ' H' w'/\WL P C n Q Φ' H' ((d,v)::S') ops rest):WL P C n Q Φ H S ops (o::rest):=by
 intro a w U hw;obtain⟨v,w',hr,Φ',H',h1,h2⟩:=run a w U hw;refine wpList_step λK hK=>?_
 rw[Hn U hg,if_pos rfl];unfold Oper.wp;rw[hr,Oper.upon_value,hd];exact hK _ _ (h2 _ _ (U.put (Nat.le_of_ble_eq_true hn) hS) h1)
theorem HF {d:Nat} {v:Value} (hg:QI ops S o=some true)(hd:o.dst=some d)(hn:Nat.blt d n=true)(U:eL d S=S')
  (run:∀a w,fq n S a->Qj C Φ H w->(execOp a.eval o).run P w=.ok (.value v) w) (next:WL P C n Q Φ H ((d,v)::S') ops rest):WL P C n Q Φ H S ops (o::rest):=
 C2 hg hd hn U λa w hf hw=>⟨v,w,run a w hf hw,Φ,H,hw,next⟩
theorem Lx {d:Nat} (hg:QI ops S o=some false)(hd:o.dst=some d)(hn:Nat.blt d n=true)(hS:eL d S=S')(next:WL P C n Q Φ H ((d,undef)::S') ops rest):WL P C n Q Φ H S ops (o::rest):=by
 intro a w U hw;refine wpList_step λK hK=>?_
 rw[Hn U hg,hd];exact hK _ _ (next _ _ (U.put (Nat.le_of_ble_eq_true hn) hS) hw)
end rules
end
section
open Go.RowKit
def QR (P:Program)(t k:Nat):Option Nat:=match P.underlying t with
 | some (.struct U)=>match U[k]? with
   | some f=>match P.info? f.type with
     |some i=>if i.size=0 then none else some f.offset
     |none=>none
   |none=>none
 |_=>none
def QP (P:Program)(t:Nat):Option Nat:=(P.info? t).map (·.size)
def eY (P:Program)(t:Nat):Option Bool:=match P.underlying t with
 |some (.struct _)=>some true
 |some (.array _ _)=>some true
 |some _=>some false
 |none=>none
def gW (P:Program)(t:Nat):Option Value:=(P.info? t).bind (·.zero)
def fR (P:Program)(t:Nat):Option Nat:=match P.underlying t with
 |some (.slice e)=>some e
 |_=>none
theorem la {P:Program} {t k off:Nat} (h:QR P t k=some off)(b o:Nat)(w:World):(Instr.fieldAt t (.pointer (some ⟨b,o,none⟩)) k).run P w=.ok (.pointer (some ⟨b,o+off,none⟩)) w:=by
 unfold QR at h;split at h
 ·rename_i fs hu;split at h
  ·rename_i f U;split at h
   ·rename_i i hi;split at h;· cases h
    ·rename_i hz;cases h
     have hp:(fieldPlace ⟨b,o,none⟩ f).run P w=.ok ⟨b,o+f.offset,none⟩ w:=by
      simp[fieldPlace,sizeOf,typeInfo,hi,hz,Addr.add]
     simp[Instr.fieldAt,run_underlying hu,U,Instr.sureAddr,hp]
   · cases h
  · cases h
 · cases h
theorem yM {P:Program} {t sz:Nat} (h:QP P t=some sz)(w:World):(sizeOf t).run P w=.ok sz w:=by
 unfold QP at h;cases hi:P.info? t with
 |none=>simp[hi]at h
 |some i=>simp[hi]at h;simp[sizeOf,typeInfo,hi,h]
theorem tO {P:Program} {t:Nat} {b:Bool} (h:eY P t=some b)(w:World):(isAgg t).run P w=.ok b w:=by
 unfold eY at h;split at h<;>rename_i hu<;>cases h;· simp[isAgg,run_underlying hu]
 · simp[isAgg,run_underlying hu]
 · simp only[isAgg,Sem.run_bind,run_underlying hu,Result.andThen_ok];rfl
theorem uu {P:Program} {t e:Nat} (h:fR P t=some e):P.underlying t=some (.slice e):=by
 unfold fR at h;split at h;· rename_i hu;cases h;exact hu
 · cases h
theorem W3 {P:Program} {t:Nat} {z:Value} (h:gW P t=some z)(w:World):(zeroValue t).run P w=.ok z w:=by
 unfold gW at h;cases hi:P.info? t with
 |none=>simp[hi]at h
 |some i=>simp[hi]at h;simp[zeroValue,typeInfo,hi,h]
def Sp (op:BinOp)(k:IntKind)(a b:Int):Option Value:=match op with
 | .add=>some (.int k (k.wrap (a+b)))
 | .sub=>some (.int k (k.wrap (a-b)))
 | .mul=>some (.int k (k.wrap (a*b)))
 | .eql=>some (.bool (a==b))
 | .neq=>some (.bool (a !=b))
 | .lss=>some (.bool (decide (a<b)))
 | .leq=>some (.bool (decide (a<=b)))
 | .gtr=>some (.bool (decide (a>b)))
 | .geq=>some (.bool (decide (a>=b)))
 |_=>none
def NW:IntKind->IntKind->Bool
 | .i8,.i8| .i16,.i16| .i32,.i32| .i64,.i64| .u8,.u8| .u16,.u16| .u32,.u32| .u64,.u64=>true
 |_,_=>false
theorem qZ {a b:IntKind} (h:NW a b=true):a=b:=by cases a<;>cases b<;>first|rfl|cases h
def Sq (op:BinOp):Option Value->Option Value->Option Value
 | some (.int k a),some (.int U b)=>match NW k U with
   |true=>Sp op k a b
   |false=>none
 | some (.string a),some (.string b)=>match op with
   | .eql=>some (.bool (a.toList==b.toList))
   | .neq=>some (.bool (!(a.toList==b.toList)))
   | .add=>none
   |_=>none
 |_,_=>none
def zj (S:List (Nat×Value)):Op->Option Value
 | .move x=>de S x
 | .assign x=>de S x
 | .pick c a b=>match de S c with
   |some (.bool true)=>de S a
   |some (.bool false)=>de S b
   |_=>none
 | .binOp op _ x y _=>Sq op (de S x) (de S y)
 | .unOp .not _ x=>match de S x with
   |some (.bool b)=>some (.bool (!b))
   |_=>none
 | .extract x i=>match de S x with
   |some (.tuple vs)=>vs[i]?
   |_=>none
 | .nilCheck x=>match de S x with
   |some (.pointer (some a))=>some (.pointer (some a))
   |_=>none
 |_=>none
theorem Iw {P:Program} {op:BinOp} {k:IntKind} {a b:Int} {v:Value} {t:TypeId} (h:Sp op k a b=some v)(w:World):(binOp op t (.int k a) (.int k b)).run P w=.ok v w:=by
 cases op<;>simp only[Sp,Option.some.injEq]at h<;>first|(cases h;done)|(subst h;simp[binOp,Op.intArith,Op.intCmp])
theorem lz {P:Program} {n:FD} {S:List (Nat×Value)} {a:Act} {o:Oper} {v:Value} (hf:fq n S a)(h:zj S o.op=some v)(w:World):(execOp a.eval o).run P w=.ok (.value v) w:=by
 unfold zj at h;unfold execOp;split at h;· rename_i x U;simp[U,hf.eval h]
 · rename_i x U;simp[U,hf.eval h]
 ·rename_i c x y U;split at h;· rename_i hc;simp[U,hf.eval hc,hf.eval h,asBool]
  · rename_i hc;simp[U,hf.eval hc,hf.eval h,asBool]
  · cases h
 ·rename_i op t x y u U;unfold Sq at h;split at h
  ·rename_i k a' k' b' hx hy;split at h
   ·rename_i hk;obtain rfl:=qZ hk;simp only[U,hf.eval hx,hf.eval hy];have:=Iw (P:=P) (t:=t) h w;simp[eqGuard,this]
   · cases h
  ·rename_i a' b' hx hy;simp only[U,hf.eval hx,hf.eval hy];cases op<;>simp only[Option.some.injEq]at h<;>first|(cases h;done)|(subst h;simp[eqGuard,binOp,Op.stringOp])
  · cases h
 ·rename_i t x U;split at h;· rename_i b hx;cases h;simp[U,hf.eval hx,Op.unary]
  · cases h
 ·rename_i x i U;split at h;· rename_i vs hx;simp[U,hf.eval hx,Instr.extract,h]
  · cases h
 ·rename_i x U;split at h;· rename_i b hx;cases h;simp[U,hf.eval hx]
  · cases h
 · cases h
section rules
variable {P:Program} {C:Ctx} {n:FD} {Q:Exit->Act->World->Prop} {Φ Φ':List Fact} {H H':List Fact} {S S':List (Nat×Value)} {ops:Array Oper} {rest:List Oper} {o:Oper} {d:Nat}
theorem Qt {v:Value} (hg:QI ops S o=some true)(hd:o.dst=some d)(hn:Nat.blt d n=true)(U:eL d S=S')(hv:zj S o.op=some v)(next:WL P C n Q Φ H ((d,v)::S') ops rest):WL P C n Q Φ H S ops (o::rest):=
 HF hg hd hn U (λ_ w hf _=>lz hf hv w) next
theorem E4 {t:TypeId} {x:Operand} {p:Option Addr} {k c e:Nat} (hg:QI ops S o=some true)(hd:o.dst=some d)(hn:Nat.blt d n=true)(U:eL d S=S')(ho:o.op=.call {callee:=.builtin .len,args:=#[x],argTypes:=#[t]})
  (hx:de S x=some (.slice p k c)) (ht:fR P t=some e) (next:WL P C n Q Φ H ((d,.int .i64 (k:Int))::S') ops rest):WL P C n Q Φ H S ops (o::rest):=
 HF hg hd hn U (λa w hf _=>by simp[execOp,ho,resolve,invoke,builtin,Builtin.len_,hf.eval hx,run_underlying (uu ht),goInt]) next
theorem Qb4 {t k off b q:Nat} {x:Operand} (hg:QI ops S o=some true)(hd:o.dst=some d)(hn:Nat.blt d n=true)(U:eL d S=S')(ho:o.op=.fieldAddr t x k)(hx:de S x=some (.pointer (some ⟨b,q,none⟩)))
  (hk:QR P t k=some off) (next:WL P C n Q Φ H ((d,.pointer (some ⟨b,q+off,none⟩))::S') ops rest):WL P C n Q Φ H S ops (o::rest):=
 HF hg hd hn U (λa w hf _=>by simp[execOp,ho,hf.eval hx,la hk]) next
theorem u7 {v v':Value} (hx:look S d=some v)(hS:eL d S=S')(e:v=v')(next:WL P C n Q Φ H ((d,v')::S') ops rest):WL P C n Q Φ H S ops rest:=by
 subst e;subst hS
 exact λa w hf hw=>next a w (hf.sub λx U=>by
  rcases List.mem_cons.1 U with rfl|U;· exact LU hx
  · exact(Pc U).1) hw
theorem ic {φ:Fact} {k:Nat} (h:Φ[k]? =some φ):φ∈Φ:=List.mem_of_getElem? h
def ku (agg:Bool)(cs:List Value):Option Value:=match agg,cs with
 |true,cs=>some (.agg cs.toArray)
 |false,[c]=>some c
 |false,_=>none
theorem RJ {b q sz:Nat} {t:TypeId} {g:Bool} {cs:List Value} {v:Value} {w:World} (hc:py w b q cs)(hs:QP P t=some sz)(ha:eY P t=some g)(hl:cs.length=sz)(U:ku g cs=some v):
  (loadVar t ⟨b,q,none⟩).run P w=.ok v w:=by
 unfold loadVar;simp only[Sem.run_bind,tO ha,Result.andThen_ok];unfold ku at U;split at U
 ·cases U
  have h1:(loadCells ⟨b,q,none⟩ cs.length).run P w=.ok cs.toArray w:=
   run_loadCells_list (P:=P) w ⟨b,q,none⟩ cs (λj v U=>by rw[Ed];exact hc j v U)
  rw[hl]at h1;simp[yM hs,h1]
 ·cases U;have:=hc 0 v rfl;simp at this;simp[load,Sem.run,this]
 · cases U
theorem ua {t sz b q:Nat} {x:Operand} {g:Bool} {cs:List Value} {v:Value} (hg:QI ops S o=some true)(hd:o.dst=some d)(hn:Nat.blt d n=true)(U:eL d S=S')(ho:o.op=.load t x)(hx:de S x=some (.pointer (some ⟨b,q,none⟩)))
  (hc:∀w,Qj C Φ H w->py w b q cs) (hs:QP P t=some sz) (ha:eY P t=some g) (hl:cs.length=sz) (hv:ku g cs=some v) (next:WL P C n Q Φ H ((d,v)::S') ops rest):WL P C n Q Φ H S ops (o::rest):=
 HF hg hd hn U (λa w hf hw=>by simp[execOp,ho,hf.eval hx,Instr.loadAt,Instr.sureAddr,RJ (hc w hw) hs ha hl hv]) next
theorem ON {t sz b q:Nat} {x:Operand} {g:Bool} {all cs:List Value} {v:Value} (k j:Nat)(hg:QI ops S o=some true)(hd:o.dst=some d)(hn:Nat.blt d n=true)(hS:eL d S=S')(ho:o.op=.load t x)
  (U:Φ[k]? =some (.cells b q all)) (hx:de S x=some (.pointer (some ⟨b,q+j,none⟩))) (qW:(all.drop j).take sz=cs)
  (hs:QP P t=some sz) (ha:eY P t=some g) (hl:cs.length=sz) (hv:ku g cs=some v) (next:WL P C n Q Φ H ((d,v)::S') ops rest):WL P C n Q Φ H S ops (o::rest):=
 ua hg hd hn hS ho hx (λw ⟨F,N,hi⟩ i u hu=>by
  have:=(hi.facts _ (ic U)).2 (j+i) u (by rw[<-qW,List.getElem?_take]at hu;split at hu<;>first|(rw[List.getElem?_drop]at hu;exact hu)|cases hu);rwa [<-Nat.add_assoc]at this) hs ha hl hv next
theorem XG {w:World} {g t:Nat} {all:List Value} (h:w.heap[g]? =some (.cells all.toArray t)):py w g 0 all:=λi u hu=>by
 rw[Nat.zero_add,cell_of_row w g i _ t (0,0) h];simpa using hu
theorem LY {t sz b tb:Nat} {x:Operand} {g:Bool} {all cs:List Value} {v:Value} (k j:Nat)(hg:QI ops S o=some true)(hd:o.dst=some d)(hn:Nat.blt d n=true)(hS:eL d S=S')(ho:o.op=.load t x)
  (U:H[k]? =some (.blk b all tb)) (hx:de S x=some (.pointer (some ⟨b,j,none⟩))) (qW:(all.drop j).take sz=cs)
  (hs:QP P t=some sz) (ha:eY P t=some g) (hl:cs.length=sz) (hv:ku g cs=some v) (next:WL P C n Q Φ H ((d,v)::S') ops rest):WL P C n Q Φ H S ops (o::rest):=
 ua hg hd hn hS ho hx (λw ⟨F,N,hi⟩ i u hu=>by
  have:=XG (hi.owns k _ U).2 (j+i) u (by rw[<-qW,List.getElem?_take]at hu;split at hu<;>first|(rw[List.getElem?_drop]at hu;exact hu)|cases hu);rwa [Nat.zero_add]at this) hs ha hl hv next
end rules
def si (M:eh)(N:Nat->eh):Nat->eh
 |0=>M
 |i+1=>N i
section mem
variable {C:Ctx} {Φ H H':List Fact} {F:eh} {N:Nat->eh} {w w':World}
theorem fP.grow (h:fP C Φ H F N w)(U:Below w.heap.size w w'):fP C Φ H F N w':=
 ⟨λk hk=>Nat.lt_of_lt_of_le (h.flt k hk) U.size,h.fold,h.fnew,λφ bj=>φ.good (λ_ h=>h) (λk hk=>U.block k (h.flt k hk)) (h.facts φ bj),
  λi φ hi=>φ.opgood (λ_ h=>h) (λk hk=>U.block k (h.nlt i k (List.getElem?_eq_some_iff.1 hi).1 hk).1) (λ_ h=>h) (λk hk=>U.block k (h.flt k hk)) (h.owns i φ hi),
  λi k hi hk=>⟨Nat.lt_of_lt_of_le (h.nlt i k hi hk).1 U.size,(h.nlt i k hi hk).2⟩,h.apart,h.mod.trans' (T:=λ_=>False) (Mod.of_below U) (λ_ _ h=>h.elim)⟩
theorem fP.push (h:fP C Φ H F N w)(φ:Fact)(M:eh)(jc:φ.op M F w)(hM:∀k,M k->k<w.heap.size/\(C.w0.heap.size<=k\/C.S0 k)/\¬F k)(hd:∀i k,i<H.length->M k->¬N i k):fP C Φ (φ::H) F (si M N) w:=by
 refine{h with owns:=?_,nlt:=?_,apart:=?_}
 ·intro i ψ hi;cases i with
  |zero=>cases hi;exact jc
  |succ i=>exact h.owns i ψ hi
 ·intro i k hi hk;cases i with
  |zero=>exact hM k hk
  |succ i=>exact h.nlt i k (cv hi) hk
 ·intro i j k hi hj db hk U;cases i with
  | zero=>cases j with
    |zero=>exact db rfl
    |succ j=>exact hd j k (cv hj) hk U
  | succ i=>cases j with
    |zero=>exact hd i k (cv hi) U hk
    |succ j=>exact h.apart i j k (cv hi) (cv hj) an hk U
theorem fP.set (h:fP C Φ H F N w)(k:Nat)(hk:k<H.length)(hm:Mod (N k) w w')(φ:Fact)(jc:φ.op (N k) F w'):fP C Φ (H.set k φ) F N w':=by
 have hF:fB F w w':=λj U=>hm.block j (h.flt j U) (λhn=>(h.nlt k j hk hn).2.2 U);refine⟨λj U=>Nat.lt_of_lt_of_le (h.flt j U) hm.size,h.fold,h.fnew,λψ gL=>ψ.good (λ_ h=>h) hF (h.facts ψ gL),?_,?_,?_,?_⟩
 ·intro i ψ hi;by_cases ib:i=k
  ·subst ib;rw[List.getElem?_set_self hk]at hi;cases hi;exact jc
  ·rw[List.getElem?_set_ne (Ne.symm ib)]at hi;have eo:=(List.getElem?_eq_some_iff.1 hi).1;exact ψ.opgood (λ_ h=>h) (λj U=>hm.block j (h.nlt i j eo U).1 (λhn=>h.apart i k j eo hk ib U hn)) (λ_ h=>h) hF (h.owns i ψ hi)
 ·intro i j hi U;rw[List.length_set]at hi;exact⟨Nat.lt_of_lt_of_le (h.nlt i j hi U).1 hm.size,(h.nlt i j hi U).2⟩
 ·intro i j q hi U;rw[List.length_set]at hi U;exact h.apart i j q hi U
 · exact h.mod.trans' (T:=N k) hm (λi hi hn=>by
   rcases(h.nlt k i hk hn).2.1 with h1|h1;· omega
   · exact h1)
theorem Qj.alloc (h:Qj C Φ H w)(cs:Array Value)(t:TypeId):Qj C Φ (.blk w.heap.size cs.toList t::H) (w.alloc (.cells cs t)):=by
 obtain⟨F,N,hi⟩:=h;have U:Below w.heap.size w (w.alloc (.cells cs t)):=(Below.refl _ _).alloc (Nat.le_refl _) _;refine⟨F,si (λk=>k=w.heap.size) N,(hi.grow U).push _ _ ⟨rfl,by simpa using heap_alloc_new w (.cells cs t)⟩ ?_ ?_⟩
 ·rintro k rfl;exact⟨ax,.inl hi.mod.size,λhf=>Nat.lt_irrefl _ (hi.flt _ hf)⟩
 ·rintro i k hl rfl hn;exact Nat.lt_irrefl _ (hi.nlt i _ hl hn).1
theorem Qj.freeze (h:Qj C Φ H w)(k:Nat) {φ:Fact} (hk:H[k]? =some φ)(hE:H.eraseIdx k=H'):Qj C (φ::Φ) H' w:=by
 obtain⟨F,N,hi⟩:=h;have bq:=(List.getElem?_eq_some_iff.1 hk).1;subst hE;have gK:∀j,F j->(F j\/N k j):=λ_ h=>.inl h;have hlen:(H.eraseIdx k).length=H.length-1:=List.length_eraseIdx_of_lt bq;refine⟨λj=>F j\/N k j,λi=>N (if i<k then i else i+1),?_,λj U=>.inl (hi.fold j U),?_,?_,?_,?_,?_,hi.mod⟩
 ·rintro j (U|U);· exact hi.flt j U
  · exact(hi.nlt k j bq U).1
 ·rintro j (U|U);· exact hi.fnew j U
  · exact .inr (hi.nlt k j bq U).2.1
 ·intro ψ gL;rcases List.mem_cons.1 gL with rfl|gL;· exact ψ.opgood (λ_ h=>.inr h) (fB.refl _ _) (λ_ h=>.inl h) (fB.refl _ _) (hi.owns k ψ hk)
  · exact ψ.good gK (fB.refl _ _) (hi.facts ψ gL)
 ·intro i ψ gL;rw[List.getElem?_eraseIdx]at gL;refine ψ.opgood (λ_ h=>h) (fB.refl _ _) gK (fB.refl _ _) ?_;split at gL<;>rename_i ib;· rw[if_pos ib];exact hi.owns i ψ gL
  · rw[if_neg ib];exact hi.owns (i+1) ψ gL
 ·intro i j hl U;rw[hlen]at hl;have h1:(if i<k then i else i+1)<H.length:=by split<;>omega
  refine⟨(hi.nlt _ j h1 U).1,(hi.nlt _ j h1 U).2.1,?_⟩;rintro(hf|hf);· exact(hi.nlt _ j h1 U).2.2 hf
  · exact hi.apart _ k j h1 bq (by split<;>omega) U hf
 ·intro i j q hl TY db;rw[hlen]at hl TY;exact hi.apart _ _ q (by split<;>omega) (by split<;>omega) (by split<;>split<;>omega)
theorem Qj.drop (h:Qj C Φ H w)(k:Nat)(hk:k<H.length)(hE:H.eraseIdx k=H'):Qj C Φ H' w:=
 (h.freeze k (List.getElem?_eq_getElem hk) hE).sub λφ U=>List.mem_cons_of_mem _ U
end mem
section UB
variable {P:Program} {C:Ctx} {n:FD} {Q:Exit->Act->World->Prop} {Φ Φ':List Fact} {H H':List Fact} {S S':List (Nat×Value)} {ops:Array Oper} {rest:List Oper} {o:Oper} {d:Nat}
theorem BS (k:Nat) {φ:Fact} (hk:H[k]? =some φ)(U:H.eraseIdx k=H')(h:WL P C n Q (φ::Φ) H' S ops rest):WL P C n Q Φ H S ops rest:=λa w hf hw=>h a w hf (hw.freeze k hk U)
theorem W4 {c:Code} (k:Nat) {φ:Fact} (hk:H[k]? =some φ)(U:H.eraseIdx k=H')(h:WC P C n Q (φ::Φ) H' S c):WC P C n Q Φ H S c:=λa w hf hw=>h a w hf (hw.freeze k hk U)
theorem Hw (k:Nat)(hk:Nat.blt k H.length=true)(U:H.eraseIdx k=H')(h:WL P C n Q Φ H' S ops rest):WL P C n Q Φ H S ops rest:=λa w hf hw=>h a w hf (hw.drop k (Nat.le_of_ble_eq_true hk) U)
theorem VZ {P:Program} (w:World)(e:TypeId)(cs:Array Value):(newRow e cs).run P w=.ok ⟨w.heap.size,0,none⟩ (w.alloc (.cells cs e)):=by simp[newRow,newObj];rfl
theorem QK {t:Nat} {z:Value} {zs:List Value} (hg:QI ops S o=some true)(hd:o.dst=some d)(hn:Nat.blt d n=true)(U:eL d S=S')(ho:o.op=.alloc t)(hz:gW P t=some z)(uk:z.cells.toList=zs)
  (next:∀g,WL P C n Q Φ (.blk g zs t::H) ((d,.pointer (some ⟨g,0,none⟩))::S') ops rest):WL P C n Q Φ H S ops (o::rest):=
 C2 hg hd hn U λa w hf hw=>⟨_,_,by simp[execOp,ho,Instr.alloc,W3 hz,newVar,VZ];exact⟨rfl,rfl⟩,_,_,hw.alloc _ _,by rw[uk];exact next _⟩
theorem u9 {t:Nat} {x:Operand} {v:Value} {zs:List Value} (hg:QI ops S o=some true)(hd:o.dst=some d)(hn:Nat.blt d n=true)(U:eL d S=S')(ho:o.op=.box t x)(hx:de S x=some v)(uk:v.cells.toList=zs)
  (next:∀g,WL P C n Q Φ (.blk g zs t::H) ((d,.pointer (some ⟨g,0,none⟩))::S') ops rest):WL P C n Q Φ H S ops (o::rest):=
 C2 hg hd hn U λa w hf hw=>⟨_,_,by simp[execOp,ho,Instr.box,hf.eval hx,newVar,VZ];exact⟨rfl,rfl⟩,_,_,hw.alloc _ _,by rw[uk];exact next _⟩
def uP (all:List Value)(j:Nat)(cs:List Value):List Value:=all.take j++cs++all.drop (j+cs.length)
theorem Q9G (all:List Value)(j:Nat)(cs:List Value)(h:j+cs.length<=all.length):HC all j cs=uP all j cs:=XM cs all j h
theorem QaF {t g:Nat}:∀(cs all:List Value)(j:Nat)(w:World),w.heap[g]? =some (.cells all.toArray t)->(FW w g j cs).heap[g]? =some (.cells (HC all j cs).toArray t)
 |[],all,j,w,h=>h
 | c::cs,all,j,w,h=>by
   refine QaF cs (all.set j c) (j+1) _ ?_;have:=heap_setCell_same w g j _ t c h;simpa using this
theorem QaG (g:Nat):∀(cs:List Value)(j:Nat)(w:World),Mod (λk=>k=g) w (FW w g j cs)
 |[],_,w=>Mod.refl _ _
 |c::cs,j,w=>(Mod.setCell (S:=λk=>k=g) (Mod.refl _ w) (p:=⟨g,j,none⟩) (λ_=>rfl) c).trans (QaG g cs (j+1) _)
theorem Xh {P:Program} {t g:Nat}:∀(cs all:List Value)(q j:Nat)(w:World),w.heap[g]? =some (.cells all.toArray t)->q+j+cs.length<=all.length->(∀u∈cs,u.oneCell'=true)->
   (storeCells ⟨g,q,none⟩ cs j).run P w=.ok () (FW w g (q+j) cs)
 |[],all,q,j,w,h,_,_=>rfl
 | c::cs,all,q,j,w,h,hl,h1=>by
   have hc:w.cell? ⟨g,q+j,none⟩=some (all[q+j]'(by simp at hl;omega)):=by
    rw[cell_of_row w g _ _ t (0,0) h];simp
   have U:w.frozen? ⟨g,q+j,none⟩=false:=frozen_of_row w g (q+j) _ t h;have NP:=h1 c ax
   have bw:(store ⟨g,q+j,none⟩ c).run P w=.ok () (w.setCell ⟨g,q+j,none⟩ c):=by
    unfold store;cases c<;>first|(simp[Value.oneCell']at NP;done)|simp[Sem.run,hc,U]
   unfold storeCells;rw[Ed];simp only[Sem.run_bind,bw,Result.andThen_ok]
   have h2:(w.setCell ⟨g,q+j,none⟩ c).heap[g]? =some (.cells (all.set (q+j) c).toArray t):=by
    have:=heap_setCell_same w g (q+j) _ t c h;simpa using this
   have:=Xh (P:=P) cs (all.set (q+j) c) q (j+1) _ h2 (by simp at hl⊢;omega) (λu hu=>h1 u (by simp[hu]));rw[this];rfl
theorem FL (hg:QI ops S o=some true)(hd:o.dst=none)(run:∀a w,fq n S a->Qj C Φ H w->∃w',(execOp a.eval o).run P w=.ok .skip w'/\Qj C Φ' H' w')(next:WL P C n Q Φ' H' S ops rest):WL P C n Q Φ H S ops (o::rest):=by
 intro a w U hw;obtain⟨w',hr,h1⟩:=run a w U hw;refine wpList_step λK hK=>?_
 rw[Hn U hg,if_pos rfl];unfold Oper.wp;rw[hr,Oper.upon_skip,hd];exact hK _ _ (next _ _ U h1)
theorem Qj.store {w:World} (hw:Qj C Φ H w) {k g t:Nat} {all cs all':List Value} (j:Nat)(hk:H[k]? =some (.blk g all t))(hl:j+cs.length<=all.length)(ha:uP all j cs=all')(hH:H.set k (.blk g all' t)=H'):Qj C Φ H' (FW w g j cs):=by
 obtain⟨F,N,hi⟩:=hw;have bq:=(List.getElem?_eq_some_iff.1 hk).1;have U:=hi.owns k _ hk;subst hH;exact⟨F,N,hi.set k bq ((QaG g cs j w).mono λi _ e=>by subst e;exact U.1) _ ⟨U.1,by rw[<-ha,<-Q9G _ _ _ hl];exact QaF cs all j w U.2⟩⟩
theorem BH {t sz b tb:Nat} {x y:Operand} {all cs all':List Value} {v:Value} (k j:Nat)(hg:QI ops S o=some true)(hd:o.dst=none)(ho:o.op=.store t x y)
  (U:H[k]? =some (.blk b all tb)) (hx:de S x=some (.pointer (some ⟨b,j,none⟩))) (hy:de S y=some v) (hv:v.cells.toList=cs) (hs:QP P t=some sz) (hl:Nat.beq cs.length sz=true) (h1:cs.all (·.oneCell')=true)
  (hle:Nat.ble (j+sz) all.length=true) (ha:uP all j cs=all') (hH:H.set k (.blk b all' tb)=H') (next:WL P C n Q Φ H' S ops rest):WL P C n Q Φ H S ops (o::rest):=by
 have TY:=Nat.eq_of_beq_eq_true hl;have Z7:=Nat.le_of_ble_eq_true hle;refine FL hg hd (λa w hf hw=>⟨_,?_,hw.store j U an ha hH⟩) next
 obtain⟨F,N,hi⟩:=hw;have jc:=hi.owns k _ U;have:=Xh (P:=P) cs all j 0 w jc.2 an (λu hu=>List.all_eq_true.1 h1 u hu);have jd:v.cells.size=sz:=by rw[<-TY,<-hv];simp
 simp only[execOp,ho,hf.eval hx,hf.eval hy,Instr.storeAt,Instr.sureAddr,storeVar,Sem.run_bind,Sem.run_pure,Result.andThen_ok,yM hs,jd,hv];simp[this]
end UB
end
section
open Go.RowKit
def rR (C:Ctx)(R:Value->List Fact->List Fact->Prop)(e:Ending)(w:World):Prop:=∃v U Hr,e=.returned v/\R v U Hr/\Qj C U Hr w
def QB (P:Program)(f:FuncId)(args:List Value)(Φ U:List Fact)(R:Value->List Fact->List Fact->Prop):Prop:=
 ∀ (F:eh) (N:Nat->eh) (w:World),(∀k,F k->k<w.heap.size)->(∀φ∈Φ,φ.p F w)->(∀(i:Nat) (h:Fact),U[i]? =some h->h.op (N i) F w)->
   (∀i k,i<U.length->N i k->k<w.heap.size/\¬F k)->(∀i j k,i<U.length->j<U.length->i≠j->N i k->¬N j k)->
   Calls P f args.toArray w (rR ⟨w,λk=>∃i,i<U.length/\N i k,F⟩ R)
def BM:Nat->List Value->List (Nat×Value)
 |_,[]=>[]
 |k,v::l=>(k,v)::BM (k+1) l
theorem uc:∀{l:List Value} {k:Nat} {x:Nat×Value},x∈BM k l->k<=x.1/\l[x.1-k]? =some x.2
 | v::l,k,x,h=>by
   rcases List.mem_cons.1 h with rfl|h;· simp
   ·obtain⟨h1,U⟩:=uc h;refine⟨an,?_⟩;rw[show x.1-k=(x.1-(k+1))+1 from by omega];simpa using U
theorem Ql {P:Program} {f:FuncId} {fn:Func} {body:Code} {n:Nat} {args:List Value} {S:List (Nat×Value)} {Φ q9:List Fact} {R:Value->List Fact->List Fact->Prop}
  (hf:P.funcs[f]? =some fn) (hb:fn.body=some body) (hn:fn.ntmps=n) (hle:Nat.ble args.length n=true) (hS:BM 0 args=S) (h:∀C,WC P C ⟨n,[]⟩ (bodyPost P fn (rR C R)) Φ q9 S body):QB P f args Φ q9 R:=by
 intro F N w hF ec hH bq sQ;refine calls_of_wp hf hb (h ⟨w,λk=>∃i,i<q9.length/\N i k,F⟩ _ w ⟨?_,rfl,?_⟩ ⟨F,N,hF,λ_ h=>h,λ_ h=>.inl h,ec,hH,λi k hi hk=>⟨(bq i k hi hk).1,.inr ⟨i,hi,hk⟩,(bq i k hi hk).2⟩,sQ,Mod.refl _ _⟩)
 ·have:=Nat.le_of_ble_eq_true hle;simp[hn];try omega
 ·intro x hx;rw[<-hS]at hx;obtain⟨_,U⟩:=uc hx;rw[Nat.sub_zero]at U;have hl:=(List.getElem?_eq_some_iff.1 U).1;rw[Array.getElem?_append_left (cv hl)];simpa using U
def QO (H:List Fact)(l:List Nat):List Fact:=l.filterMap λi=>H[i]?
def fE:List Nat->Nat->Bool
 |[],_=>true
 |i::l,m=>Nat.blt i m&& !(l.any λj=>Nat.beq i j)&&fE l m
theorem XF:∀{l:List Nat} {m:Nat},fE l m=true->(∀i∈l,i<m)/\l.Nodup
 |[],_,_=>⟨ax,List.nodup_nil⟩
 | i::l,m,h=>by
   simp only[fE,Bool.and_eq_true,Bool.not_eq_true',List.any_eq_false]at h;obtain⟨⟨h1,h2⟩,h3⟩:=h;obtain⟨h4,h5⟩:=XF h3;refine⟨λj U=>?_,List.nodup_cons.2 ⟨λhm=>h2 i hm (Nat.beq_refl i),h5⟩⟩;rcases List.mem_cons.1 U with rfl|U;· exact Nat.le_of_ble_eq_true h1
   · exact h4 j U
theorem VX (H:List Fact):∀(l:List Nat),(∀i∈l,i<H.length)->(QO H l).length=l.length/\∀(i:Nat)(h:Fact),(QO H l)[i]? =some h->∃j,l[i]? =some j/\H[j]? =some h
 |[],_=>⟨rfl,λi h hi=>by simp[QO]at hi⟩
 | j::l,U=>by
   obtain⟨h1,h2⟩:=VX H l λi hi=>U i (by simp[hi]);have hj:H[j]? =some (H[j]'(U j ax)):=List.getElem?_eq_getElem _;have he:QO H (j::l)=H[j]'(U j ax)::QO H l:=by simp[QO,hj]
   rw[he];refine⟨by simp[h1],λi h hi=>?_⟩;cases i with
   |zero=>exact⟨j,rfl,by simp at hi;rw[hj,hi]⟩
   |succ i=>exact h2 i h (cv hi)
theorem vP {l:List Nat} (h:l.Nodup) {i j a:Nat} (hi:l[i]? =some a)(hj:l[j]? =some a):i=j:=by
 obtain⟨h1,U⟩:=List.getElem?_eq_some_iff.1 hi;obtain⟨h3,h4⟩:=List.getElem?_eq_some_iff.1 hj;have:=U.trans h4.symm;exact(List.getElem_inj h).1 this
section
variable {C:Ctx} {Φ H:List Fact} {F:eh} {N:Nat->eh} {w:World}
theorem fP.pick (h:fP C Φ H F N w)(l:List Nat)(hl:fE l H.length=true):fP C Φ (QO H l) F (λi=>N (l.getD i 0)) w:=by
 obtain⟨h1,h2⟩:=XF hl;obtain⟨h3,h4⟩:=VX H l h1
 have key:∀i,i<(QO H l).length->∃j,l[i]? =some j/\l.getD i 0=j/\j<H.length:=by
  intro i hi;rw[h3]at hi;exact⟨l[i],List.getElem?_eq_getElem hi,by simp[hi],h1 _ (List.getElem_mem hi)⟩
 refine{h with owns:=?_,nlt:=?_,apart:=?_}
 ·intro i φ hi;obtain⟨j,U,bj⟩:=h4 i φ hi;have:l.getD i 0=j:=by simp[List.getD,U]
  simp only[this];exact h.owns j φ bj
 ·intro i k hi hk;obtain⟨j,_,e,U⟩:=key i hi;simp only[e]at hk;exact h.nlt j k U hk
 ·intro i i' k hi eo db hk dy;obtain⟨j,U,e,Mi⟩:=key i hi;obtain⟨j',NK,e',a0U⟩:=key i' eo;simp only[e,e']at hk dy;exact h.apart j j' k Mi a0U (λejj=>db (by subst ejj;exact vP h2 U NK)) hk dy
end
theorem Qj.pick {C:Ctx} {Φ H:List Fact} {w:World} (h:Qj C Φ H w)(l:List Nat)(U:fE l H.length=true):Qj C Φ (QO H l) w:=by
 obtain⟨F,N,hi⟩:=h;exact⟨F,_,hi.pick l U⟩
theorem fP.after {C:Ctx} {Φ H:List Fact} {F:eh} {N:Nat->eh} {w w':World} (h:fP C Φ H F N w) {l m:List Nat} (hl:fE (l++m) H.length=true) {bo Hr:List Fact}
  (hr:Qj ⟨w,λk=>∃i,i<(QO H l).length/\N (l.getD i 0) k,F⟩ bo Hr w'):Qj C (bo++Φ) (Hr++QO H m) w':=by
 obtain⟨F',N',hr⟩:=hr;obtain⟨h1,h2⟩:=XF hl;obtain⟨h3,h4⟩:=VX H l λi hi=>h1 i (by simp[hi]);obtain⟨h5,h6⟩:=VX H m λi hi=>h1 i (by simp[hi])
 have hS:∀k,(∃i,i<(QO H l).length/\N (l.getD i 0) k)->∃j,j∈l/\j<H.length/\N j k:=by
  rintro k ⟨i,hi,hk⟩;rw[h3]at hi;refine⟨l[i],List.getElem_mem hi,h1 _ (by simp[List.getElem_mem hi]),?_⟩;simpa[List.getD,hi]using hk
 have hSF:∀k,(∃i,i<(QO H l).length/\N (l.getD i 0) k)->¬F k:=λk hk hf=>by
  obtain⟨j,_,U,hn⟩:=hS k hk;exact(h.nlt j k U hn).2.2 hf
 have hSm:∀j,j∈m->∀k,N j k->¬∃i,i<(QO H l).length/\N (l.getD i 0) k:=λj U k hk hs=>by
  obtain⟨j',NK,bq,hn⟩:=hS k hs
  have db:j≠j':=by
   rintro rfl;exact(List.nodup_append.1 h2).2.2 j NK j U rfl
  exact h.apart j j' k (h1 j (by simp[U])) bq db hk hn
 have aF:fB F w w':=λk hk=>hr.mod.block k (h.flt k hk) λhs=>hSF k hs hk;have aN:∀j,j∈m->fB (N j) w w':=λj U k hk=>hr.mod.block k (h.nlt j k (h1 j (by simp[U])) hk).1 (hSm j U k hk);have hmi:∀i,i<m.length->∃j,m[i]? =some j/\j∈m/\m.getD i 0=j:=λi hi=>⟨m[i],List.getElem?_eq_getElem hi,List.getElem_mem hi,by simp[hi]⟩
 refine⟨F',λi=>if i<Hr.length then N' i else N (m.getD (i-Hr.length) 0),hr.flt,λk hk=>hr.fold k (h.fold k hk),?_,?_,?_,?_,?_,?_⟩
 ·intro k hk;rcases hr.fnew k hk with h0|h0|h0;· exact h.fnew k h0
  · exact .inr (.inl (Nat.le_trans h.mod.size h0))
  ·obtain⟨j,_,U,hn⟩:=hS k h0;exact .inr (h.nlt j k U hn).2.1
 ·intro φ bj;rcases List.mem_append.1 bj with bj|bj;· exact hr.facts φ bj
  · exact φ.good hr.fold aF (h.facts φ bj)
 ·intro i φ hi;by_cases bq:i<Hr.length
  ·rw[List.getElem?_append_left bq]at hi;simp only[bq,if_true];exact hr.owns i φ hi
  ·rw[List.getElem?_append_right an]at hi;simp only[bq,if_false];obtain⟨j,U,bj⟩:=h6 _ φ hi;have TV:j∈m:=List.mem_of_getElem? U;have e:m.getD (i-Hr.length) 0=j:=by simp[List.getD,U]
   rw[e];exact φ.opgood (λ_ h=>h) (aN j TV) hr.fold aF (h.owns j φ bj)
 ·intro i k hi hk;by_cases bq:i<Hr.length
  ·simp only[bq,if_true]at hk;obtain⟨a,b,c⟩:=hr.nlt i k bq hk;refine⟨a,?_,c⟩;rcases b with b|b;· exact .inl (Nat.le_trans h.mod.size b)
   ·obtain⟨j,_,U,hn⟩:=hS k b;exact(h.nlt j k U hn).2.1
  ·simp only[bq,if_false]at hk;have eo:i-Hr.length<m.length:=by rw[List.length_append,h5]at hi;omega
   obtain⟨j,_,TV,e⟩:=hmi _ eo;rw[e]at hk;obtain⟨a,b,c⟩:=h.nlt j k (h1 j (by simp[TV])) hk;refine⟨Nat.lt_of_lt_of_le a hr.mod.size,b,λhf=>?_⟩;rcases hr.fnew k hf with h0|h0|h0;· exact c h0
   · exact absurd a (by simp at h0;omega)
   · exact hSm j TV k hk h0
 ·have Pw:∀i j k,i<Hr.length->¬j<Hr.length->j<Hr.length+m.length->N' i k->¬N (m.getD (j-Hr.length) 0) k:=by
   intro i j k hi U NK hk dy;obtain⟨j',_,TV,e⟩:=hmi (j-Hr.length) an;rw[e]at dy;obtain⟨_,b,_⟩:=hr.nlt i k hi hk;rcases b with b|b;· exact absurd (h.nlt j' k (h1 j' (by simp[TV])) dy).1 (by simp at b;omega)
   · exact hSm j' TV k dy b
  intro i j k hi U db hk dy;rw[List.length_append,h5]at hi U;by_cases bq:i<Hr.length<;>by_cases xR:j<Hr.length
  ·simp only[bq,xR,if_true]at hk dy;exact hr.apart i j k bq xR db hk dy
  ·simp only[bq,xR,if_true,if_false]at hk dy;exact Pw i j k bq xR U hk dy
  ·simp only[bq,xR,if_true,if_false]at hk dy;exact Pw j i k xR bq hi dy hk
  ·simp only[bq,xR,if_false]at hk dy;obtain⟨a,ha,ham,ea⟩:=hmi (i-Hr.length) an;obtain⟨b,hb,Dc,eb⟩:=hmi (j-Hr.length) an;rw[ea]at hk;rw[eb]at dy;refine h.apart a b k (h1 a (by simp[ham])) (h1 b (by simp[Dc])) (λeab=>db ?_) hk dy;subst eab;have:=vP (List.nodup_append.1 h2).2.1 ha hb;omega
 ·refine h.mod.trans' hr.mod λi hi hs=>?_;obtain⟨j,_,U,hn⟩:=hS i hs;rcases(h.nlt j i U hn).2.1 with h0|h0;· omega
  · exact h0
def vq (S:List (Nat×Value)):List Operand->Option (List Value)
 |[]=>some []
 | x::l=>match de S x,vq S l with
   |some v,some vs=>some (v::vs)
   |_,_=>none
theorem fq.evalL {n:FD} {S:List (Nat×Value)} {a:Act} (h:fq n S a):∀{l:List Operand} {vs:List Value},vq S l=some vs->l.map a.eval=vs
 |[],_,e=>by cases e;rfl
 | x::l,vs,e=>by
   unfold vq at e;split at e;· rename_i v vs' hv U;cases e;simp[h.eval hv,h.evalL U]
   · cases e
def cz (P:Program)(f:FuncId):Bool:=match P.funcs[f]? with
 |some fn=>fn.body.isSome&& !(fn.name== "runtime.NumGoroutine")
 |none=>false
theorem W5 {P:Program} {f:FuncId} (h:cz P f=true)(args:Array Value)(w:World):(callFunc f args).run P w=.ok (.enter f args) w:=by
 unfold cz at h;split at h
 ·rename_i fn hf;simp only[Bool.and_eq_true,Bool.not_eq_true']at h;have U:fn.body.isNone=false:=by cases U:fn.body<;>simp_all
  have hn:¬fn.name= "runtime.NumGoroutine":=λe=>by rw[e]at h;simp at h
  have kG:¬fn.body=none:=λe=>by rw[e]at U;simp at U
  simp[callFunc,hf,hn,kG]
 · cases h
section rules
variable {P:Program} {C:Ctx} {n:FD} {Q:Exit->Act->World->Prop} {Φ Φ':List Fact} {H H':List Fact} {S S':List (Nat×Value)} {ops:Array Oper} {rest:List Oper} {o:Oper} {d:Nat} {c x y:Code}
theorem Gc {f:FuncId} {xs:Array Operand} {ts:Array TypeId} {args:List Value} {Φf Hf:List Fact} {R:Value->List Fact->List Fact->Prop} (l m:List Nat)(hg:QI ops S o=some true)
  (ho:o.op=.call {callee:=.value (.func f),args:=xs,argTypes:=ts}) (hx:vq S xs.toList=some args) (jq:cz P f=true)
  (hH:QO H l=Hf) (spec:QB P f args Φf Hf R) (ec:∀F w,(∀ψ∈Φ,ψ.p F w)->∀φ∈Φf,φ.p F w) (hl:fE (l++m) H.length=true) (hm:QO H m=H')
  (next:∀v U Hr,R v U Hr->∀a w,fq n S a->Qj C (U++Φ) (Hr++H') w->wpList P ops Q rest (a.put o.dst v) w):WL P C n Q Φ H S ops (o::rest):=by
 subst hH;subst hm;intro a w hf ⟨F,N,hi⟩
 have iX:fE l H.length=true:=by
  clear spec next
  have:∀(l:List Nat),fE (l++m) H.length=true->fE l H.length=true:=by
   intro l;induction l with
   |nil=>intro _;rfl
   | cons i l ih=>
     intro h;simp only[List.cons_append,fE,Bool.and_eq_true,Bool.not_eq_true',List.any_append,Bool.or_eq_false_iff]at h⊢;exact⟨⟨h.1.1,h.1.2.1⟩,ih h.2⟩
  exact this l hl
 have hp:=hi.pick l iX;have ej:=spec F _ w hi.flt (λφ bj=>ec F w hi.facts φ bj) hp.owns (λi k ib hk=>⟨(hp.nlt i k ib hk).1,(hp.nlt i k ib hk).2.2⟩) hp.apart;refine wpList_step λK hK=>?_;rw[Hn hf hg,if_pos rfl];unfold Oper.wp
 have fx:xs.map a.eval=args.toArray:=by
  have:=hf.evalL hx;have h0:xs=xs.toList.toArray:=ax
  rw[<-this,h0,List.map_toArray]
 have eR:(execOp a.eval o).run P w=.ok (.enter f args.toArray) w:=by
  have HJ:a.eval (.func f)=.func (.func f) #[] #[]:=rfl
  have h2:(resolve a.eval {callee:=.value (.func f),args:=xs,argTypes:=ts} o.type).run P w=.ok {target:=.fn (.func f) #[],args:=args.toArray} w:=by
   simp[resolve,HJ,Deferred.ofValue,fx]
  unfold execOp;simp only[ho,Sem.run_bind,h2,Result.andThen_ok];simp[invoke,W5 jq]
 rw[eR,Oper.upon_enter];refine ej.mono ?_;rintro e w' ⟨v,U,Hr,rfl,hR,hh⟩;exact hK _ _ (next v U Hr hR a w' hf (hi.after hl hh))
theorem yI {f:FuncId} {xs:Array Operand} {ts:Array TypeId} {args:List Value} {Φf Hf:List Fact} {R:Value->List Fact->List Fact->Prop} (l m:List Nat)(hg:QI ops S o=some true)(hd:o.dst=some d)(hn:Nat.blt d n=true)(hS:eL d S=S')
  (ho:o.op=.call {callee:=.value (.func f),args:=xs,argTypes:=ts}) (hx:vq S xs.toList=some args) (jq:cz P f=true)
  (hH:QO H l=Hf) (spec:QB P f args Φf Hf R) (ec:∀F w,(∀ψ∈Φ,ψ.p F w)->∀φ∈Φf,φ.p F w) (hl:fE (l++m) H.length=true) (hm:QO H m=H')
  (next:∀v U Hr,R v U Hr->WL P C n Q (U++Φ) (Hr++H') ((d,v)::S') ops rest):WL P C n Q Φ H S ops (o::rest):=
 Gc l m hg ho hx jq hH spec ec hl hm λv U Hr hR a w hf hw=>by rw[hd];exact next v U Hr hR _ w (hf.put (Nat.le_of_ble_eq_true hn) hS) hw
theorem tf {P:Program} {c:Code} {Q:Exit->Act->World->Prop} (I:Nat->Act->World->Prop)(round:∀m a w,I m a w->c.wp P (Exit.then (λa' w'=>∃m',m'<m/\I m' a' w') Q) a w):
  ∀m a w,I m a w->(Code.loop c).wp P Q a w:=by
 intro m a w h;intro b k cs
 have key:∀m a w,I m a w->∃e a' w',Q e a' w'/\Arrives P (lone (b.at a (.code c::.inLoop c::k)) cs w) b k cs e a' w':=by
  intro m;induction m using Nat.strongRecOn with
  | _ m ih=>
    intro a w hI;obtain⟨e,uE,uU,U,zW⟩:=round m a w hI b (.inLoop c::k) cs;cases e with
    | normal=>
      obtain⟨m',bq,YE⟩:=U;obtain⟨a0D,a0y,E8,Zn,NC⟩:=ih m' bq uE uU YE;exact⟨a0D,a0y,E8,Zn,.of_steps (Steps.trans zW (.one step_inLoop)) NC⟩
    |exit id=>exact⟨_,uE,uU,U,.pass (x:=.inLoop c) rfl (λ_ _=>.inl ax) zW⟩
    |goto l=>exact⟨_,uE,uU,U,.pass (x:=.inLoop c) rfl (λ_ _=>.inl ax) zW⟩
    |ret=>exact⟨_,uE,uU,U,.pass (x:=.inLoop c) rfl (λ_ _=>.inl ax) zW⟩
    |panic ch=>exact⟨_,uE,uU,U,.pass (x:=.inLoop c) rfl (λ_ _=>.inl ax) zW⟩
    |outgrown=>exact⟨_,uE,uU,U,.pass (x:=.inLoop c) rfl (λ_ _=>.inl ax) zW⟩
 obtain⟨e,a',w',U,zW⟩:=key m a w h;exact⟨e,a',w',U,.of_steps (.one step_loop) zW⟩
def og {σ:Type} (ok:σ->Prop)(qj:σ->List (Nat×Value))(gy qa:σ->List Fact)(C:Ctx)(n:FD)(s:σ)(a:Act)(w:World):Prop:=ok s/\fq n (qj s) a/\Qj C (gy s) (qa s) w
section
variable {σ:Type} {ok:σ->Prop} {qj:σ->List (Nat×Value)} {gy qa:σ->List Fact} {μ:σ->Nat}
theorem Bc (s':σ)(h0:ok s')(l:List Nat)(hS:gD l S=qj s')(U:∀F w,(∀ψ∈Φ,ψ.p F w)->∀φ∈gy s',φ.p F w)(hH:H=qa s') {a:Act} {w:World} (hf:fq n S a)(hw:Qj C Φ H w):og ok qj gy qa C n s' a w:=by
 obtain⟨F,N,hi⟩:=hw;subst hH;exact⟨h0,hf.sub λx hx=>QbP (by rw[hS];exact hx),F,N,{hi with facts:=U F w hi.facts}⟩
theorem Sf (ok:σ->Prop)(μ:σ->Nat)(qj:σ->List (Nat×Value))(gy qa:σ->List Fact)(U:σ)(h0:ok U)(l:List Nat)(hS:gD l S=qj U)(ec:∀F w,(∀ψ∈Φ,ψ.p F w)->∀φ∈gy U,φ.p F w)(hH:H=qa U)
  (round:∀s,ok s->WC P C n (Exit.then (λa' w'=>∃s',μ s'<μ s/\og ok qj gy qa C n s' a' w') Q) (gy s) (qa s) (qj s) c):WC P C n Q Φ H S (.loop c):=by
 intro a w hf hw;refine tf (λm a w=>∃s,μ s=m/\og ok qj gy qa C n s a w) ?_ (μ U) a w ⟨U,rfl,Bc U h0 l hS ec hH hf hw⟩;rintro m a w ⟨s,rfl,cn,hf,hw⟩;refine wp_mono (round s cn a w hf hw) λe a' w' hq=>?_
 cases e with
 |normal=>obtain⟨s',h1,h2⟩:=hq;exact⟨_,h1,s',rfl,h2⟩
 |_=>exact hq
theorem yF (ok:σ->Prop)(qj:σ->List (Nat×Value))(gy qa:σ->List Fact)(hx:WC P C n (Exit.then (λa w=>∃s,og ok qj gy qa C n s a w) Q) Φ H S x)(hy:∀s,ok s->WC P C n Q (gy s) (qa s) (qj s) y):WC P C n (Exit.then (λa w=>y.wp P Q a w) Q) Φ H S x:=
 fun a w hf hw=>wp_mono (hx a w hf hw) λe a' w' U=>by
  cases e with
  |normal=>obtain⟨s,h1,h2,h3⟩:=U;exact hy s h1 a' w' h2 h3
  |_=>exact U
theorem Qh {H':List Fact} {e:Exit} (l:List Nat)(hl:fE l H.length=true)(hH:QO H l=H')(h:WE C n Q Φ H' S e):WE C n Q Φ H S e:=λa w U hw=>h a w U (by rw[<-hH];exact hw.pick l hl)
theorem OO {H':List Fact} (l:List Nat)(hl:fE l H.length=true)(hH:QO H l=H')(h:WL P C n Q Φ H' S ops rest):WL P C n Q Φ H S ops rest:=λa w U hw=>h a w U (by rw[<-hH];exact hw.pick l hl)
theorem kb (s':σ)(h0:ok s')(l:List Nat)(hS:gD l S=qj s')(U:∀F w,(∀ψ∈Φ,ψ.p F w)->∀φ∈gy s',φ.p F w)(hH:H=qa s'):
 WE C n (Exit.then (λa w=>∃s,og ok qj gy qa C n s a w) Q) Φ H S .normal:=λa w hf hw=>⟨s',Bc s' h0 l hS U hH hf hw⟩
end
def Ie (tmps:Array Value):ResultVar->Sem Value
 | .tmp t=>pure (tmps.getD t undef)
 | .cell a t=>do loadVar t (<-asAddr (tmps.getD a undef))
theorem QaC (fn:Func)(tmps:Array Value):results fn tmps=(do let vs <-fn.results.mapM (Ie tmps);pure (if h:vs.size=1 then vs[0]else .tuple vs)):=by
 unfold results;congr
def zn (P:Program)(C:Ctx)(n:FD)(Φ H:List Fact)(S:List (Nat×Value))(r:ResultVar)(v:Value):Prop:=
 ∀a w,fq n S a->Qj C Φ H w->(Ie a.tmps r).run P w=.ok v w
theorem iS {t:Nat} {v:Value} (h:look S t=some v):zn P C n Φ H S (.tmp t) v:=λa w U _=>by
 have:=U.eval (x:=.tmp t) h;simp only[Act.eval]at this;simp[Ie,this]
theorem lS {q t b tb sz:Nat} {g:Bool} {all:List Value} {v:Value} (k:Nat)(hq:look S q=some (.pointer (some ⟨b,0,none⟩)))(U:H[k]? =some (.blk b all tb))(hs:QP P t=some sz)(ha:eY P t=some g)(hl:Nat.beq all.length sz=true)(hv:ku g all=some v):
  zn P C n Φ H S (.cell q t) v:=λa w hf ⟨F,N,hi⟩=>by
 have:=hf.eval (x:=.tmp q) hq;simp only[Act.eval]at this;simp only[Ie,this,Sem.run_bind];simp[asAddr,RJ (XG (hi.owns k _ U).2) hs ha (Nat.eq_of_beq_eq_true hl) hv]
theorem tB {fn:Func} {m:Nat} {R:Value->List Fact->List Fact->Prop} {v:Value} {U Hr:List Fact} (l:List Nat)(hr:∀a w,fq ⟨m,[]⟩ S a->Qj C Φ H w->(results fn a.tmps).run P w=.ok v w)(hR:R v U Hr)(ec:∀F w,(∀ψ∈Φ,ψ.p F w)->∀φ∈U,φ.p F w)
  (hl:fE l H.length=true) (hH:QO H l=Hr) {e:Exit} (he:e=.ret\/e=.normal):WE C ⟨m,[]⟩ (bodyPost P fn (rR C R)) Φ H S e:=by
 subst hH;intro a w hf hw
 have h1:bodyPost P fn (rR C R) .ret a w:=by
  refine⟨hf.defers,v,hr a w hf hw,v,U,_,rfl,hR,?_⟩;obtain⟨F,N,hi⟩:=hw.pick l hl;exact⟨F,N,{hi with facts:=ec F w hi.facts}⟩
 rcases he with rfl|rfl<;>exact h1
theorem rK {fn:Func} {m:Nat} {R:Value->List Fact->List Fact->Prop} {v:Value} {U Hr:List Fact} {r:ResultVar} (l:List Nat)(lk:fn.results=#[r])(h1:zn P C ⟨m,[]⟩ Φ H S r v)(hR:R v U Hr)(ec:∀F w,(∀ψ∈Φ,ψ.p F w)->∀φ∈U,φ.p F w)
  (hl:fE l H.length=true) (hH:QO H l=Hr) {e:Exit} (he:e=.ret\/e=.normal):WE C ⟨m,[]⟩ (bodyPost P fn (rR C R)) Φ H S e:=
 tB l (λa w hf hw=>by
  have e1:=h1 a w hf hw;simp[QaC,lk,e1]) hR ec hl hH he
theorem tC {fn:Func} {m:Nat} {R:Value->List Fact->List Fact->Prop} {U Hr:List Fact} (l:List Nat)(lk:fn.results=#[])(hR:R (.tuple #[]) U Hr)(ec:∀F w,(∀ψ∈Φ,ψ.p F w)->∀φ∈U,φ.p F w)
  (hl:fE l H.length=true) (hH:QO H l=Hr) {e:Exit} (he:e=.ret\/e=.normal):WE C ⟨m,[]⟩ (bodyPost P fn (rR C R)) Φ H S e:=
 tB l (λa w hf hw=>by simp[QaC,lk]) hR ec hl hH he
theorem ug {fn:Func} {m:Nat} {R:Value->List Fact->List Fact->Prop} {v u:Value} {U Hr:List Fact} {r s:ResultVar} (l:List Nat)(lk:fn.results=#[r,s])(h1:zn P C ⟨m,[]⟩ Φ H S r v)(h2:zn P C ⟨m,[]⟩ Φ H S s u)(hR:R (.tuple #[v,u]) U Hr)(ec:∀F w,(∀ψ∈Φ,ψ.p F w)->∀φ∈U,φ.p F w)
  (hl:fE l H.length=true) (hH:QO H l=Hr) {e:Exit} (he:e=.ret\/e=.normal):WE C ⟨m,[]⟩ (bodyPost P fn (rR C R)) Φ H S e:=
 tB l (λa w hf hw=>by
  have e1:=h1 a w hf hw;have e2:=h2 a w hf hw;simp[QaC,lk,e1,e2]) hR ec hl hH he
end rules
end
section
open Go.RowKit
def qg {α Λ:Type} (R:eO α)(cells:α->Λ->List Value)(pure:α->Λ->Prop)(facts:α->Λ->List Fact):Prop:=
 ∀F w cs x,R.p F w cs x->∃r:Λ,cs=cells x r/\pure x r/\∀φ∈facts x r,φ.p F w
def gO (P:Program)(e:Nat):Option (Value×Nat×Nat):=match P.info? e with
 |some i=>i.zero.map λz=>(z,i.size,i.bytes)
 |none=>none
theorem XN {P:Program} {e:Nat} {z:Value} {sz U:Nat} (h:gO P e=some (z,sz,U)):∃i,P.info? e=some i/\i.zero=some z/\i.size=sz/\i.bytes=U:=by
 unfold gO at h;split at h
 ·rename_i i hi;cases hz:i.zero with
  |none=>simp[hz]at h
  |some z'=>simp[hz]at h;exact⟨i,hi,by rw[hz,h.1],h.2.1,h.2.2⟩
 · cases h
section idx
variable {P:Program} {C:Ctx} {n:FD} {Q:Exit->Act->World->Prop} {Φ Φ':List Fact} {H H':List Fact} {S S':List (Nat×Value)} {ops:Array Oper} {rest:List Oper} {o:Oper} {d:Nat} {c:Code}
theorem vR {Λ:Type} {pure:Λ->Prop} {facts:Λ->List Fact} {w:World} (h:Qj C Φ H w)(jc:∀F,(∀ψ∈Φ,ψ.p F w)->∃r:Λ,pure r/\∀φ∈facts r,φ.p F w):∃r,pure r/\Qj C (facts r++Φ) H w:=by
 obtain⟨F,N,hi⟩:=h;obtain⟨r,h1,h2⟩:=jc F hi.facts;refine⟨r,h1,F,N,{hi with facts:=λφ U=>?_}⟩;rcases List.mem_append.1 U with U|U;· exact h2 φ U
 · exact hi.facts φ U
theorem rL {α Λ:Type} {R:eO α} {cells:α->Λ->List Value} {pure:α->Λ->Prop} {facts:α->Λ->List Fact} {cs:List Value} {x:α} (op:qg R cells pure facts)(k:Nat)(hk:Φ[k]? =some (.rep R cs x))
  (next:∀r:Λ,cs=cells x r->pure x r->WL P C n Q (facts x r++Φ) H S ops rest):WL P C n Q Φ H S ops rest:=λa w hf hw=>by
 obtain ⟨r,⟨h1,U⟩,h3⟩:=vR (pure:=λr=>cs=cells x r/\pure x r) (facts:=facts x) hw λF ec=>by
  obtain⟨r,h1,U,h3⟩:=op F w cs x (ec _ (ic hk));exact⟨r,⟨h1,U⟩,h3⟩
 exact next r h1 U a w hf h3
theorem nS {p:Prop} (hp:∀F w,(∀ψ∈Φ,ψ.p F w)->p)(next:p->WC P C n Q Φ H S c):WC P C n Q Φ H S c:=λa w U hw=>by
 have:p:=by obtain⟨F,N,hi⟩:=hw;exact hp F w hi.facts
 exact next this a w U hw
theorem Lw {α:Type} {t e sz:Nat} {x i:Operand} {R:eO α} {p:Option Addr} {cp:Nat} {l:List α} {ik:IntKind} {z:Int} (k j:Nat)(hg:QI ops S o=some true)(hd:o.dst=some d)(hn:Nat.blt d n=true)(hS:eL d S=S')(ho:o.op=.indexAddr t x i)
  (bj:Φ[k]? =some (.sli sz R p cp l)) (hx:de S x=some (.slice p l.length cp)) (hi:de S i=some (.int ik z)) (hz:z=(j:Int)) (hj:j<l.length) (he:fR P t=some e) (hs:QP P e=some sz)
  (next:∀b q cs y,l[j]? =some y->cs.length=sz->WL P C n Q (.cells b q cs::.rep R cs y::Φ) H ((d,.pointer (some ⟨b,q,none⟩))::S') ops rest):WL P C n Q Φ H S ops (o::rest):=by
 refine C2 hg hd hn hS λa w hf hw=>?_;obtain⟨F,N,eo⟩:=hw;obtain⟨p',n',c',xs,EP,ET,hc,hm,lX,eX⟩:=(eo.facts _ (ic bj):G5 F w sz (R.p F w) (.slice p l.length cp) l)
 cases EP;obtain⟨b,off,hp,hF,iW⟩:=eX an;obtain⟨cs,hl,hr,hu⟩:=lX.at (List.getElem?_eq_getElem hj)
 subst hp;subst hz;have eR:=tE (P:=P) (c:=cp) (uu he) (yM hs) rfl hj w (p:=some ⟨b,off,none⟩) (b:=b) (off:=off);refine⟨.pointer (some ⟨b,off+j*sz,none⟩),w,?_,.cells b (off+j*sz) cs::.rep R cs l[j]::Φ,H,⟨F,N,{eo with facts:=λφ U=>?_}⟩,next b _ cs _ (List.getElem?_eq_getElem hj) hl⟩
 ·have h0:(Instr.indexAt t (.slice (some ⟨b,off,none⟩) l.length cp) (.int ik (j:Int))).run P w=.ok (.pointer (some ⟨b,off+j*sz,none⟩)) w:=by
   have h1:(0:Int)<=j/\(j:Int)<l.length:=an
   simp[Instr.indexAt,asIntOf,run_underlying (uu he),h1,yM hs,Addr.add,hj]
  simp[execOp,ho,hf.eval hx,hf.eval hi,h0]
 ·rcases List.mem_cons.1 U with rfl|U
  ·refine⟨hF,λi u iN=>?_⟩;rw[Nat.add_assoc];exact iW _ u (hu i u iN)
  ·rcases List.mem_cons.1 U with rfl|U;· exact hr
   · exact eo.facts φ U
theorem FV {α:Type} {t e sz m:Nat} {x i:Operand} {R:eO α} {p:Option Addr} {cp:Nat} {l:List α} {ik:IntKind} {z:Int} (k j:Nat)(hg:QI ops S o=some true)(hd:o.dst=some d)(hn:Nat.blt d n=true)(hS:eL d S=S')(ho:o.op=.indexAddr t x i)
  (bj:H[k]? =some (.own e sz R (.slice p m cp) l)) (hx:de S x=some (.slice p m cp)) (hi:de S i=some (.int ik z)) (hz:z=(j:Int)) (hj:j<l.length) (he:fR P t=some e) (hs:QP P e=some sz)
  (next:∀g,p=some ⟨g,0,none⟩->WL P C n Q Φ H ((d,.pointer (some ⟨g,j*sz,none⟩))::S') ops rest):WL P C n Q Φ H S ops (o::rest):=by
 refine C2 hg hd hn hS λa w U hw=>?_;have iO:=hw;obtain⟨F,N,eo⟩:=hw;obtain⟨hN,fb⟩:=eo.owns k _ bj;obtain⟨g,hp,hm,_⟩:=fb.head an;subst hp;subst hz;refine⟨.pointer (some ⟨g,j*sz,none⟩),w,?_,Φ,H,iO,next g rfl⟩;have h1:(0:Int)<=j/\(j:Int)<m:=an
 have h2:j<m:=an
 simp[execOp,ho,U.eval hx,U.eval hi,Instr.indexAt,asIntOf,run_underlying (uu he),h1,h2,yM hs];unfold Addr.add;split<;>simp_all
theorem LR {α Λ:Type} {t e sz st m g:Nat} {x:Operand} {R:eO α} {cp:Nat} {l:List α} {ag:Bool} {y:α} {cells:α->Λ->List Value} {pure:α->Λ->Prop} {facts:α->Λ->List Fact} {v:Λ->Value} (op:qg R cells pure facts)(k j i:Nat)
  (hg:QI ops S o=some true) (hd:o.dst=some d) (hn:Nat.blt d n=true) (hS:eL d S=S') (ho:o.op=.load t x)
  (bj:H[k]? =some (.own e sz R (.slice (some ⟨g,0,none⟩) m cp) l)) (hx:de S x=some (.pointer (some ⟨g,j*sz+i,none⟩))) (hj:l[j]? =some y) (hs:QP P t=some st) (ha:eY P t=some ag)
  (hl:∀r,(((cells y r).drop i).take st).length=st) (hv:∀r,ku ag (((cells y r).drop i).take st)=some (v r)) (next:∀r,pure y r->WL P C n Q (facts y r++Φ) H ((d,v r)::S') ops rest):WL P C n Q Φ H S ops (o::rest):=by
 refine C2 hg hd hn hS λa w hf hw=>?_;obtain⟨F,N,eo⟩:=hw;obtain⟨hN,xs,xT,lX⟩:=eo.owns k _ bj;obtain⟨cs,Mf,hr,hu⟩:=lX.at hj;obtain⟨r,h1,h2,h3⟩:=op F w cs y hr;subst h1;refine⟨v r,w,?_,facts y r++Φ,H,⟨F,N,{eo with facts:=λφ U=>?_}⟩,next r h2⟩
 ·have hc:py w g (j*sz+i) (((cells y r).drop i).take st):=λq u hq=>by
   have:=xT.cells (g:=g) rfl (j*sz+(i+q)) u (hu _ u (by rw[List.getElem?_take]at hq;split at hq<;>first|(rw[List.getElem?_drop]at hq;exact hq)|cases hq));rw[Ed]at this;rw[Nat.zero_add]at this;rwa [Nat.add_assoc]
  simp[execOp,ho,hf.eval hx,Instr.loadAt,Instr.sureAddr,RJ hc hs ha (hl r) (hv r)]
 ·rcases List.mem_append.1 U with U|U;· exact h3 φ U
  · exact eo.facts φ U
theorem XE {α:Type} {t e sz m g:Nat} {x y:Operand} {R:eO α} {cp:Nat} {l:List α} {cs:List Value} {v:Value} {u:α} (k j:Nat)
  (hg:QI ops S o=some true) (hd:o.dst=none) (ho:o.op=.store t x y)
  (bj:H[k]? =some (.own e sz R (.slice (some ⟨g,0,none⟩) m cp) l)) (hx:de S x=some (.pointer (some ⟨g,j*sz,none⟩))) (hj:j<l.length) (hy:de S y=some v) (hv:v.cells.toList=cs) (hs:QP P t=some sz) (hl:Nat.beq cs.length sz=true)
  (hr:∀F w,(∀ψ∈Φ,ψ.p F w)->R.p F w cs u) (hH:H.set k (.own e sz R (.slice (some ⟨g,0,none⟩) m cp) (l.set j u))=H') (next:WL P C n Q Φ H' S ops rest):WL P C n Q Φ H S ops (o::rest):=by
 have U:=Nat.eq_of_beq_eq_true hl;subst hH;refine FL hg hd (λa w hf hw=>?_) next
 obtain⟨F,N,hi⟩:=hw;have bq:=(List.getElem?_eq_some_iff.1 bj).1;obtain⟨hN,fb⟩:=hi.owns k _ bj;have hlen:m=l.length:=fb.len;have hR:=hr F w hi.facts;obtain⟨h1,h2⟩:=fb.put hlen j hR U hj;have hM:Mod (N k) w (FW w g (j*sz) cs):=h2.mono λi _ e=>by rw[e];exact hN g rfl
 refine⟨FW w g (j*sz) cs,?_,⟨F,N,hi.set k bq hM _ ⟨hN,h1.rel λyU x' h=>R.good (λ_ h=>h) (λq hq=>hM.block q (hi.flt q hq) λhn=>(hi.nlt k q bq hn).2.2 hq) h⟩⟩⟩;have jd:v.cells.size=sz:=by rw[<-U,<-hv];simp
 obtain⟨xs,xT,lX⟩:=fb;rcases xT.2 with⟨h0,_⟩|⟨g',cap,cur,NS,_,hh,yZ,_,qW,_⟩
 · cases h0
 ·cases NS;have Z1:w.heap[g]? =some (.cells cur.toList.toArray e):=by simpa using hh
  have hle:j*sz+sz<=l.length*sz:=by rw[<-Nat.succ_mul];exact Nat.mul_le_mul_right _ hj
  have a1E:l.length*sz<=cp*sz:=Nat.mul_le_mul_right _ yZ;have:=Xh (P:=P) cs cur.toList (j*sz) 0 w Z1 (by simp[qW,U];omega) (λu hu=>R.one hR u hu);simp only[execOp,ho,hf.eval hx,hf.eval hy,Instr.storeAt,Instr.sureAddr,storeVar,Sem.run_bind,Sem.run_pure,Result.andThen_ok,yM hs,jd,hv];simp[this]
end idx
def kF (place:Nat->Option (Nat×Nat)):List Value->List (Nat×Value)->Option (List Value)
 |cs,[]=>some cs
 | cs,(i,v)::r=>match place i with
   |none=>none
   | some (off,sz)=>match Nat.beq v.cells.size sz&&Nat.ble (off+sz) cs.length with
     |true=>kF place (uP cs off v.cells.toList) r
     |false=>none
theorem vw (off:Nat):∀(l:List Value)(k:Nat)(A:List Value),(l.zipIdx k).foldl (λ(cs:Array Value)(x:Value×Nat)=>cs.setIfInBounds (off+x.2) x.1) A.toArray=(HC A (off+k) l).toArray
 |[],_,_=>rfl
 | v::l,k,A=>by
   rw[List.zipIdx_cons,List.foldl_cons,HC];have:=vw off l (k+1) (A.set (off+k) v);rw[List.setIfInBounds_toArray];exact this
theorem sE {place:Nat->Option (Nat×Nat)}:∀{parts:List (Nat×Value)} {cs out:List Value},kF place cs parts=some out->Instr.fill place cs.toArray parts=some out.toArray
 |[],cs,out,h=>by cases h;rfl
 | (i,v)::r,cs,out,h=>by
   unfold kF at h;unfold Instr.fill;split at h;· cases h
   ·rename_i off sz hp;split at h
    ·rename_i U;simp only[Bool.and_eq_true]at U;have h1:=Nat.eq_of_beq_eq_true U.1;have h2:=Nat.le_of_ble_eq_true U.2;have h3:v.cells.toList.length=sz:=by simpa using h1
     have h4:v.cells.zipIdx.foldl (λcs (x:Value×Nat)=>match x with|(c,j)=>cs.setIfInBounds (off+j) c) cs.toArray=(uP cs off v.cells.toList).toArray:=by
      rw[<-Q9G _ _ _ an];have:=vw off v.cells.toList 0 cs;rw[Nat.add_zero]at this;rw[<-this,<-Array.foldl_toList];simp[Array.toList_zipIdx]
     simp only[hp,h1];have h5:¬(sz≠sz||off+sz>cs.length)=true:=by simp;omega
     simp only[List.size_toArray];rw[if_neg h5,h4];exact sE h
    · cases h
def W6 (l:List (Nat×Nat))(i:Nat):Option (Nat×Nat):=l[i]?
def qe (P:Program)(t:Nat):Option (List (Nat×Nat)):=match P.underlying t with
 |some (.struct U)=>U.toList.mapM λf=>(P.info? f.type).map λi=>(f.offset,i.size)
 |_=>none
theorem pM {P:Program} (w:World):∀{U:List Field} {l:List (Nat×Nat)},U.mapM (λf=>(P.info? f.type).map λi=>(f.offset,i.size))=some l->
   (U.mapM (λ(f:Field)=>do pure (f.offset,<-sizeOf f.type):Field->Sem (Nat×Nat))).run P w=.ok l w
 |[],l,h=>by simp at h;subst h;rfl
 | f ::U,l,h=>by
   rw[List.mapM_cons]at h;cases hi:P.info? f.type with
   |none=>simp[hi]at h
   | some i=>
     cases hr:U.mapM (λf=>(P.info? f.type).map λi=>(f.offset,i.size))with
     |none=>simp[hi,hr]at h
     | some r=>
       simp[hi,hr]at h;subst h;have:=pM (P:=P) w hr;simp[sizeOf,typeInfo,hi]at this⊢;simp[this]
theorem run_build {P:Program} {t:Nat} {z:Value} {pl:List (Nat×Nat)} {parts:List (Nat×Value)} {out:List Value} (hz:gW P t=some z)(hp:qe P t=some pl)(hf:kF (W6 pl) z.cells.toList parts=some out)(w:World):
  (Instr.build t parts.toArray).run P w=.ok (.agg out.toArray) w:=by
 unfold qe at hp;split at hp
 ·rename_i fs hu;have h1:=pM w hp;have h2:=sE hf
  have U:(fs.mapM (λ(f:Field)=>do pure (f.offset,<-sizeOf f.type):Field->Sem (Nat×Nat))).run P w=.ok pl.toArray w:=by
   rw[Array.mapM_eq_mapM_toList];simp at h1⊢;simp[h1]
  unfold Instr.build;simp only[Sem.run_bind,W3 hz,Result.andThen_ok,run_underlying hu,Sem.run_pure]at U⊢;simp only[U,Result.andThen_ok];have h4:(λi=>pl.toArray[i]?)=W6 pl:=by funext i;simp[W6]
  have h5:z.cells=z.cells.toList.toArray:=ax
  simp only[h4,List.toList_toArray];rw[h5,h2];rfl
 · cases hp
def Pz (S:List (Nat×Value)):List (Nat×Operand)->Option (List (Nat×Value))
 |[]=>some []
 | (i,x)::l=>match de S x,Pz S l with
   |some v,some vs=>some ((i,v)::vs)
   |_,_=>none
theorem fq.evalP {n:FD} {S:List (Nat×Value)} {a:Act} (h:fq n S a):∀{l:List (Nat×Operand)} {vs:List (Nat×Value)},Pz S l=some vs->l.map (λx=>(x.1,a.eval x.2))=vs
 |[],_,e=>by cases e;rfl
 | (i,x)::l,vs,e=>by
   unfold Pz at e;split at e;· rename_i v vs' hv U;cases e;simp[h.eval hv,h.evalP U]
   · cases e
def wE (z:List Value):Nat->List Value
 |0=>[]
 |m+1=>z++wE z m
section lit
variable {P:Program} {C:Ctx} {n:FD} {Q:Exit->Act->World->Prop} {Φ Φ':List Fact} {H H':List Fact} {S S':List (Nat×Value)} {ops:Array Oper} {rest:List Oper} {o:Oper} {d:Nat} {c:Code}
theorem iR {t:Nat} {U:Array (Nat×Operand)} {z:Value} {pl:List (Nat×Nat)} {parts:List (Nat×Value)} {out:List Value} (hg:QI ops S o=some true)(hd:o.dst=some d)(hn:Nat.blt d n=true)(hS:eL d S=S')(ho:o.op=.build t U)
  (hz:gW P t=some z) (hp:qe P t=some pl) (he:Pz S U.toList=some parts) (hf:kF (W6 pl) z.cells.toList parts=some out) (next:WL P C n Q Φ H ((d,.agg out.toArray)::S') ops rest):WL P C n Q Φ H S ops (o::rest):=
 HF hg hd hn hS (λa w eP _=>by
  have h0:U.map (λx=>(x.1,a.eval x.2))=parts.toArray:=by
   rw[<-eP.evalP he,<-List.map_toArray]
  have h1:=run_build hz hp hf w;rw[<-h0]at h1;simp only[execOp,ho,Sem.run_bind];rw[show(U.map λx=>match x with|(i,x)=>(i,a.eval x))=U.map (λx=>(x.1,a.eval x.2))from rfl,h1];rfl) next
def xr (len sz:Nat)(z:Value):List Value:=((Array.range (len*sz)).map (λi=>z.cells[i%z.cells.size]!)).toList
def Y1 (sz i:Nat):Option (Nat×Nat):=some (i*sz,sz)
theorem Qbw {P:Program} {t e len sz:Nat} {z:Value} {parts:List (Nat×Value)} {zs out:List Value} (he:fR P t=some e)(hs:QP P e=some sz)(hz:gW P e=some z)(hle:Nat.ble (len*sz) 16777216=true)(uk:xr len sz z=zs)
  (hf:kF (Y1 sz) zs parts=some out) (w:World):(Instr.buildSlice t len parts.toArray).run P w=.ok (.slice (some ⟨w.heap.size,0,none⟩) len len) (w.alloc (.cells out.toArray e)):=by
 have Z7:=Nat.le_of_ble_eq_true hle;have hgt:¬len*sz>2^24:=an
 have h2:=sE hf;unfold Instr.buildSlice;simp only[Sem.run_bind,run_underlying (uu he),Result.andThen_ok,yM hs,if_neg hgt,Sem.run_pure];by_cases U:len*sz=0
 ·have Ug:zs=[]:=by rw[<-uk];simp[xr,U]
  subst Ug;rw[if_pos U];have e1:(λi=>some (i*sz,sz))=Y1 sz:=rfl;have e3:∀f:Nat->Value,(Array.range (len*sz)).map f=([]:List Value).toArray:=λf=>by apply Array.ext';simp[U]
  simp only[Sem.run_pure,Result.andThen_ok,e1,e3];try simp only[List.toList_toArray]
  rw[h2];simp[VZ]
 ·rw[if_neg U];simp only[Sem.run_bind,W3 hz,Result.andThen_ok,Sem.run_pure];have e1:(λi=>some (i*sz,sz))=Y1 sz:=rfl;have e2:(Array.range (len*sz)).map (λi=>z.cells[i%z.cells.size]!)=zs.toArray:=by rw[<-uk];exact Array.toArray_toList.symm
  rw[e1,e2];try simp only[List.toList_toArray]
  rw[h2];simp[VZ]
theorem QW {t e len sz:Nat} {U:Array (Nat×Operand)} {z:Value} {parts:List (Nat×Value)} {zs out:List Value} (hg:QI ops S o=some true)(hd:o.dst=some d)(hn:Nat.blt d n=true)(hS:eL d S=S')(ho:o.op=.buildSlice t len U)
  (hE:fR P t=some e) (hs:QP P e=some sz) (hz:gW P e=some z) (hle:Nat.ble (len*sz) 16777216=true) (uk:xr len sz z=zs) (he:Pz S U.toList=some parts) (hf:kF (Y1 sz) zs parts=some out)
  (next:∀g,WL P C n Q Φ (.blk g out e::H) ((d,.slice (some ⟨g,0,none⟩) len len)::S') ops rest):WL P C n Q Φ H S ops (o::rest):=
 C2 hg hd hn hS λa w eP hw=>⟨_,_,by
  have h0:U.map (λx=>(x.1,a.eval x.2))=parts.toArray:=by
   rw[<-eP.evalP he,<-List.map_toArray]
  have h1:=Qbw hE hs hz hle uk hf w;rw[<-h0]at h1;simp only[execOp,ho,Sem.run_bind];rw[show(U.map λx=>match x with|(i,x)=>(i,a.eval x))=U.map (λx=>(x.1,a.eval x.2))from rfl,h1];exact rfl,_,_,hw.alloc _ _,by simpa using next _⟩
theorem Qj.row {α:Type} {w:World} {g e sz m:Nat} {cs:List Value} {R:eO α} {l:List α} (h:Qj C Φ H w)(k:Nat)(hk:H[k]? =some (.blk g cs e))(lX:∀F,(∀ψ∈Φ,ψ.p F w)->fZ sz (R.p F w) cs l)(hm:m=l.length)(hle:m<=9223372036854775807)
  (hH:H.set k (.own e sz R (.slice (some ⟨g,0,none⟩) m m) l)=H'):Qj C Φ H' w:=by
 subst hH;obtain⟨F,N,hi⟩:=h;have bq:=(List.getElem?_eq_some_iff.1 hk).1;have U:=hi.owns k _ hk;refine⟨F,N,hi.set k bq (Mod.refl _ _) _ ⟨λi eo=>by cases eo;exact U.1,?_⟩⟩;exact lW.of_block U.2 (Nat.zero_le _) (cv (lX F hi.facts)) hm hle
theorem Eh {α:Type} {g e sz m:Nat} {cs:List Value} (R:eO α)(l:List α)(k:Nat)(hk:H[k]? =some (.blk g cs e))(lX:∀F w,(∀ψ∈Φ,ψ.p F w)->fZ sz (R.p F w) cs l)(hm:m=l.length)(hle:m<=9223372036854775807)
 (hH:H.set k (.own e sz R (.slice (some ⟨g,0,none⟩) m m) l)=H') (next:WL P C n Q Φ H' S ops rest):WL P C n Q Φ H S ops rest:=λa w U hw=>next a w U (hw.row k hk (λF=>lX F w) hm hle hH)
theorem Qj.rowNil {α:Type} {w:World} (e sz:Nat)(R:eO α)(h:Qj C Φ H w):Qj C Φ (.own e sz R (.slice none 0 0) []::H) w:=by
 obtain⟨F,N,hi⟩:=h;exact⟨F,_,hi.push (.own e sz R (.slice none 0 0) []) (λ_=>False) ⟨λk hk=>(by cases hk),lW.nil⟩ (λk hk=>hk.elim) (λ_ k _ hk=>hk.elim)⟩
theorem wx {α:Type} (e sz:Nat)(R:eO α)(next:WL P C n Q Φ (.own e sz R (.slice none 0 0) []::H) S ops rest):WL P C n Q Φ H S ops rest:=λa w U hw=>next a w U (hw.rowNil e sz R)
theorem P9 {α:Type} (e sz:Nat)(R:eO α)(next:WC P C n Q Φ (.own e sz R (.slice none 0 0) []::H) S c):WC P C n Q Φ H S c:=λa w U hw=>next a w U (hw.rowNil e sz R)
theorem Qbv {P:Program} {w:World} (t ty:TypeId)(e:TypeId)(i:TypeInfo)(z:Value)(size bytes:Nat)(ht:P.underlying t=some (.slice e))(hi:P.info? e=some i)(hz:i.zero=some z)
  (mK:i.size=size) (Me:i.bytes=bytes) (uk:z.cells.size=size) (jd:0<size)
  (v:Value) (n:Nat) (xs:List Value) (fb:w.ownsRow 0 e size v n xs)
  (p:Option Addr) (m c:Nat) (U:List Value) (hl:U.length=m*size) (hp:0<m->∃b off,p=some ⟨b,off,none⟩/\py w b off U) (h1:∀u∈U,u.oneCell'=true)
  (JA:n+m<=maxLen) (gH:(n+m)*bytes<=140737488355328):
  ∃v' w',(Builtin.append_ #[t,t] ty #[v,.slice p m c]).run P w=.ok v' w'/\w'.ownsRow 0 e size v' (n+m) (xs++U)/\w.grownBy w' v.ownBlock/\(v'.ownBlock=v.ownBlock\/v'.ownBlock=some w.heap.size):=by
 rcases p with _|ad
 ·have hm:m=0:=by
   rcases Nat.eq_zero_or_pos m with h0|h0;· exact h0
   · obtain⟨b,off,hb,_⟩:=hp h0;cases hb
  subst hm;have hy:U=[]:=List.eq_nil_of_length_eq_zero (cv hl);subst hy
  have hr:(Builtin.append_ #[t,t] ty #[v,.slice none 0 c]).run P w=.ok v w:=by
   rcases fb.2 with⟨rfl,rfl⟩|⟨g,cap,cur,rfl,hbg,hg,yZ,JH,qW,fz⟩
   · simp[Builtin.append_,run_underlying ht,sizeOf,typeInfo,hi,Builtin.lenOf,Builtin.firstCells]
   · simp[Builtin.append_,run_underlying ht,sizeOf,typeInfo,hi,Builtin.lenOf,Builtin.firstCells,yZ,storeCells]
  exact⟨v,w,hr,by simpa using fb,⟨rfl,rfl,rfl,Nat.le_refl _,λ_ _ _=>rfl⟩,.inl rfl⟩
 ·have JY:∀j u,U[j]? =some u->w.cell? (ad.add j)=some u:=by
   intro j u hj
   have hm:0<m:=by
    rcases Nat.eq_zero_or_pos m with h0|h0
    ·subst h0;have:U=[]:=List.eq_nil_of_length_eq_zero (cv hl);subst this;simp at hj
    · exact h0
   obtain⟨b,off,hb,hc⟩:=hp hm;cases hb;rw[Ed];exact hc j u hj
  obtain⟨v',w',h2,h3,h4,_,h5⟩:=run_append_own_at (P:=P) w 0 t ty e i z size bytes ht hi hz mK Me uk jd v n xs fb ad m c U hl JY h1 JA gH (Nat.zero_le _);exact⟨v',w',h2,h3,h4,h5⟩
theorem fP.set' {F:eh} {N:Nat->eh} {w w':World} (h:fP C Φ H F N w)(k:Nat)(hk:k<H.length)(hm:Mod (N k) w w')(M':eh)(hM:∀i,M' i->N k i\/(w.heap.size<=i/\i<w'.heap.size))(φ:Fact)(jc:φ.op M' F w'):
  fP C Φ (H.set k φ) F (λi=>if i=k then M' else N i) w':=by
 have hF:fB F w w':=λj U=>hm.block j (h.flt j U) (λhn=>(h.nlt k j hk hn).2.2 U)
 have hM2:∀i q,i<H.length->i≠k->N i q->¬M' q:=λi q hi db hq hM'=>by
  rcases hM q hM' with h1|h1;· exact h.apart i k q hi hk db hq h1
  · have:=(h.nlt i q hi hq).1;omega
 refine⟨λj U=>Nat.lt_of_lt_of_le (h.flt j U) hm.size,h.fold,h.fnew,λψ gL=>ψ.good (λ_ h=>h) hF (h.facts ψ gL),?_,?_,?_,?_⟩
 ·intro i ψ hi;by_cases ib:i=k
  ·subst ib;rw[List.getElem?_set_self hk]at hi;cases hi;simpa using jc
  ·rw[List.getElem?_set_ne (Ne.symm ib)]at hi;have eo:=(List.getElem?_eq_some_iff.1 hi).1;simp only[ib,if_false];exact ψ.opgood (λ_ h=>h) (λj U=>hm.block j (h.nlt i j eo U).1 (λhn=>h.apart i k j eo hk ib U hn)) (λ_ h=>h) hF (h.owns i ψ hi)
 ·intro i j hi U;rw[List.length_set]at hi;by_cases ib:i=k
  ·simp only[ib,if_true]at U;rcases hM j U with h1|h1;· exact⟨Nat.lt_of_lt_of_le (h.nlt k j hk h1).1 hm.size,(h.nlt k j hk h1).2⟩
   · exact⟨h1.2,.inl (Nat.le_trans h.mod.size h1.1),λhf=>by have:=h.flt j hf;omega⟩
  ·simp only[ib,if_false]at U;exact⟨Nat.lt_of_lt_of_le (h.nlt i j hi U).1 hm.size,(h.nlt i j hi U).2⟩
 ·intro i j q hi U db hq dW;rw[List.length_set]at hi U;by_cases ib:i=k<;>by_cases A7:j=k;· omega
  ·simp only[ib,A7,if_true,if_false]at hq dW;exact hM2 j q U A7 dW hq
  ·simp only[ib,A7,if_true,if_false]at hq dW;exact hM2 i q hi ib hq dW
  ·simp only[ib,A7,if_false]at hq dW;exact h.apart i j q hi U db hq dW
 · exact h.mod.trans' (T:=N k) hm (λi hi hn=>by
   rcases(h.nlt k i hk hn).2.1 with h1|h1;· omega
   · exact h1)
theorem Qbi {α:Type} {t e sz jk:Nat} {s x:Operand} {R:eO α} {v z:Value} {l l2:List α} {p:Option Addr} {cp:Nat} (k:Nat)(hg:QI ops S o=some true)(hd:o.dst=some d)(hn:Nat.blt d n=true)(hS:eL d S=S')
  (ho:o.op=.call {callee:=.builtin .append,args:=#[s,x],argTypes:=#[t,t]}) (bj:H[k]? =some (.own e sz R v l)) (hs:de S s=some v) (hx:de S x=some (.slice p l2.length cp))
  (U9:∀F N w,fP C Φ H F N w->∃ys,fZ sz (R.p F w) ys l2/\(0<l2.length->∃b off,p=some ⟨b,off,none⟩/\py w b off ys))
  (he:fR P t=some e) (hr:gO P e=some (z,sz,jk)) (uk:Nat.beq z.cells.size sz=true) (jd:Nat.blt 0 sz=true) (JA:l.length+l2.length<=9223372036854775807) (Me:(l.length+l2.length)*jk<=140737488355328)
  {H2:Option Addr->Nat->List Fact} (hH:∀p' U,H.set k (.own e sz R (.slice p' (l++l2).length U) (l++l2))=H2 p' U) (next:∀p' U,WL P C n Q Φ (H2 p' U) ((d,.slice p' (l++l2).length U)::S') ops rest):WL P C n Q Φ H S ops (o::rest):=by
 refine C2 hg hd hn hS λa w hf hw=>?_;obtain⟨F,N,hi⟩:=hw;have bq:=(List.getElem?_eq_some_iff.1 bj).1;obtain⟨hN,xs,fb,lX⟩:=hi.owns k _ bj;obtain⟨ys,HQ,Zt⟩:=U9 F N w hi;obtain⟨i,sV,hz,mK,gH⟩:=XN hr
 obtain ⟨v',w',eR,Zd,gu,Mb⟩:=Qbv (P:=P) (w:=w) t o.type e i z sz jk (uu he) sV hz mK gH (Nat.eq_of_beq_eq_true uk) (Nat.le_of_ble_eq_true jd) v l.length xs fb p l2.length cp ys HQ.length Zt
  (λu hu=>HQ.all (p:=λu=>u.oneCell'=true) (λcs y hr=>R.one hr) u hu) (by unfold maxLen;exact JA) Me
 have hM:Mod (N k) w w':=⟨gu.os,gu.tape,gu.output,gu.size,λj hj hn=>gu.block j hj λe=>hn (hN j e.symm)⟩
 have hF:fB F w w':=λj hj=>hM.block j (hi.flt j hj) (λhn=>(hi.nlt k j bq hn).2.2 hj);have hOL:lW 0 e sz (R.p F w') (l++l2) v' w':=⟨xs++ys,by simpa using Zd,(lX.append HQ).mono λcs y _ h=>R.good (λ_ h=>h) hF h⟩
 obtain⟨p',n',U,rfl⟩:=hOL.shape;obtain rfl:=hOL.len;refine⟨_,w',?_,Φ,_,⟨F,_,hi.set' k bq hM (λq=>(Value.slice p' (l++l2).length U).ownBlock=some q) ?_ (.own e sz R (.slice p' (l++l2).length U) (l++l2)) ⟨λq hq=>hq,hOL⟩⟩,by rw[hH];exact next p' U⟩;· simp[execOp,ho,resolve,invoke,builtin,hf.eval hs,hf.eval hx,eR]
 ·intro q hq;rcases Mb with h0|h0;· exact .inl (hN q (by rw[<-h0];exact hq))
  ·right;have:=hOL.lt q hq;rw[h0]at hq;cases hq;exact⟨Nat.le_refl _,this.2⟩
theorem XP {α:Type} {t e sz jk:Nat} {s x:Operand} {R:eO α} {v z:Value} {l l2:List α} {p:Option Addr} {cp:Nat} (k j:Nat)(hg:QI ops S o=some true)(hd:o.dst=some d)(hn:Nat.blt d n=true)(hS:eL d S=S')
  (ho:o.op=.call {callee:=.builtin .append,args:=#[s,x],argTypes:=#[t,t]}) (bj:H[k]? =some (.own e sz R v l)) (hs:de S s=some v) (gL:Φ[j]? =some (.sli sz R p cp l2)) (hx:de S x=some (.slice p l2.length cp))
  (he:fR P t=some e) (hr:gO P e=some (z,sz,jk)) (uk:Nat.beq z.cells.size sz=true) (jd:Nat.blt 0 sz=true) (JA:l.length+l2.length<=9223372036854775807) (Me:(l.length+l2.length)*jk<=140737488355328)
  {H2:Option Addr->Nat->List Fact} (hH:∀p' U,H.set k (.own e sz R (.slice p' (l++l2).length U) (l++l2))=H2 p' U) (next:∀p' U,WL P C n Q Φ (H2 p' U) ((d,.slice p' (l++l2).length U)::S') ops rest):WL P C n Q Φ H S ops (o::rest):=
 Qbi k hg hd hn hS ho bj hs hx (λF N w hi=>by
  obtain⟨p',n',U,xs,e1,_,_,_,lX,eX⟩:=(hi.facts _ (ic gL):G5 F w sz (R.p F w) (.slice p l2.length cp) l2)
  cases e1;exact⟨xs,lX,λh=>by obtain⟨b,off,h1,_,h2⟩:=eX h;exact⟨b,off,h1,h2⟩⟩) he hr uk jd JA Me hH next
theorem FU {α:Type} {t e sz jk g tb:Nat} {s x:Operand} {R:eO α} {v z:Value} {l:List α} {cs:List Value} {cp:Nat} (l2:List α)(k j:Nat)(hg:QI ops S o=some true)(hd:o.dst=some d)(hn:Nat.blt d n=true)(hS:eL d S=S')
  (ho:o.op=.call {callee:=.builtin .append,args:=#[s,x],argTypes:=#[t,t]}) (bj:H[k]? =some (.own e sz R v l)) (hs:de S s=some v) (gL:H[j]? =some (.blk g cs tb)) (hx:de S x=some (.slice (some ⟨g,0,none⟩) l2.length cp))
  (lX:∀F w,(∀ψ∈Φ,ψ.p F w)->fZ sz (R.p F w) cs l2)
  (he:fR P t=some e) (hr:gO P e=some (z,sz,jk)) (uk:Nat.beq z.cells.size sz=true) (jd:Nat.blt 0 sz=true) (JA:l.length+l2.length<=9223372036854775807) (Me:(l.length+l2.length)*jk<=140737488355328)
  {H2:Option Addr->Nat->List Fact} (hH:∀p' U,H.set k (.own e sz R (.slice p' (l++l2).length U) (l++l2))=H2 p' U) (next:∀p' U,WL P C n Q Φ (H2 p' U) ((d,.slice p' (l++l2).length U)::S') ops rest):WL P C n Q Φ H S ops (o::rest):=
 Qbi k hg hd hn hS ho bj hs hx (λF N w hi=>⟨cs,lX F w hi.facts,λ_=>⟨g,0,rfl,XG (hi.owns j _ gL).2⟩⟩) he hr uk jd JA Me hH next
theorem BL (z:List Value):∀m,wE z m=(List.replicate m z).flatten
 |0=>rfl
 |m+1=>by rw[wE,BL z m];simp[List.replicate_succ]
theorem nW {α:Type} {sz:Nat} {R:List Value->α->Prop} {z:List Value} {x:α} (h:R z x)(U:z.length=sz):∀m,fZ sz R (wE z m) (List.replicate m x)
 |0=>rfl
 |m+1=>⟨z,wE z m,rfl,U,h,nW h U m⟩
theorem F3 {β:Type} (f:Nat->β)(sz:Nat)(U:0<sz):∀n,(List.range (n*sz)).map (λi=>f (i%sz))=(List.replicate n ((List.range sz).map f)).flatten
 |0=>ax
 | n+1=>by
   rw[Nat.succ_mul,Nat.add_comm,List.range_add,List.map_append,List.map_map,List.replicate_succ,List.flatten_cons,<-F3 f sz U n];congr 1;· exact List.map_congr_left λi hi=>by rw[Nat.mod_eq_of_lt (List.mem_range.1 hi)]
   · exact List.map_congr_left λi _=>ax
theorem Dy (z:Array Value)(sz n:Nat)(U:z.size=sz)(jd:0<sz):(madeCells z (n*sz)).toList=wE z.toList n:=by
 rw[BL];unfold madeCells;subst U
 have h1:(List.range z.size).map (λi=>z[i]!)=z.toList:=by
  apply List.ext_getElem;· simp
  ·intro i h1 h2;simp at h1;simp[h1]
 have:=F3 (λi=>z[i]!) z.size jd n;rw[h1]at this;rw[<-this];simp[Array.toList_map]
theorem Q90 {α:Type} {t e sz jk m:Nat} {x y:Operand} {z:Value} {kx ky:IntKind} {ex ey:Int} (R:eO α)(u:α)(hg:QI ops S o=some true)(hd:o.dst=some d)(hn:Nat.blt d n=true)(hS:eL d S=S')(ho:o.op=.makeSlice t x y)
  (hx:de S x=some (.int kx ex)) (hy:de S y=some (.int ky ey)) (hex:ex=(m:Int)) (hey:ey=(m:Int)) (he:fR P t=some e) (hr:gO P e=some (z,sz,jk)) (uk:Nat.beq z.cells.size sz=true) (jd:Nat.blt 0 sz=true)
  (hR:∀F w,R.p F w z.cells.toList u) (Me:jk*m<=281474976710656) (JA:m<=9223372036854775807)
  (next:∀g,WL P C n Q Φ (.own e sz R (.slice (some ⟨g,0,none⟩) m m) (List.replicate m u)::H) ((d,.slice (some ⟨g,0,none⟩) m m)::S') ops rest):WL P C n Q Φ H S ops (o::rest):=by
 subst hex;subst hey;refine C2 hg hd hn hS λa w hf hw=>?_
 obtain⟨i,sV,hz,mK,gH⟩:=XN hr;have ZG:=Nat.eq_of_beq_eq_true uk;have U:=Nat.le_of_ble_eq_true jd;subst gH
 have hb:(i.bytes:Int)*(m:Int)<=281474976710656:=by
  have h:((i.bytes*m:Nat):Int)<=281474976710656:=an
  rwa [Int.natCast_mul]at h
 have eR:=run_make (P:=P) (w:=w) t e i z (uu he) sV hz kx ky (m:Int) (m:Int) an an hb an;simp only[Int.toNat_natCast,mK]at eR;refine⟨_,_,by simp[execOp,ho,hf.eval hx,hf.eval hy,eR];try exact⟨rfl,rfl⟩,Φ,_,((hw.alloc (madeCells z.cells (m*sz)) e).row 0 rfl (R:=R) (l:=List.replicate m u) (sz:=sz) (λF _=>?_) ax JA rfl),next _⟩;rw[Dy _ sz m ZG U];exact nW (hR F _) (cv ZG) m
end lit
end
section
open Go.RowKit
def inI (x:Int):Prop:=-9223372036854775808<=x/\x<=9223372036854775807
def M6 (x:V)(_:Unit):List Value:=[.int .u8 x.k,.int .i64 x.n,.string x.s]
structure Qq where
 id:Int
 ty:Int
 args:List V
structure eN where
 k:Int
 var:Int
 v:V
theorem ni {α:Type} {sz:Nat} {R:eO α} {p:Option Addr} {c:Nat} {l:List α} {F:eh} {w:World} (h:(Fact.sli sz R p c l).p F w)(hp:p=none):l=[]:=by
 obtain⟨p',n',c',xs,e,hn,hc,hm,_,eX⟩:=h;cases e;cases l with
 |nil=>rfl
 |cons x l=>obtain⟨b,off,U,_⟩:=eX ax;rw[hp]at U;cases U
theorem XC {α:Type} {p:Option α} (h:Option.isNone p=true):p=none:=by simpa using h
theorem Xz {α:Type} {p:Option α} (h:Option.isNone p=false):∃a,p=some a:=by cases p<;>simp_all
theorem ask {Φ Φ':List Fact} (l:List Nat)(h:QO Φ l=Φ') {F:eh} {w:World} (ec:∀ψ∈Φ,ψ.p F w):∀φ∈Φ',φ.p F w:=by
 subst h;intro φ U;obtain⟨i,_,hi⟩:=List.mem_filterMap.1 U;exact ec φ (List.mem_of_getElem? hi)
theorem Q0 {d:Nat}:∀{S:List (Nat×Value)},(S.all λx=> !(Nat.beq x.1 d))=true->eL d S=S
 |[],_=>rfl
 | (k,v)::r,h=>by
   simp only[List.all_cons,Bool.and_eq_true,Bool.not_eq_true']at h;unfold eL;rw[h.1,Q0 h.2]
theorem Zq {d:Nat} {S:List (Nat×Value)} (h:(S.all λx=>!(Nat.beq x.1 d))=true:=by rfl):eL d S=S:=Q0 h
theorem kq {a b:Nat} (h:a+b<=9223372036854775807):Value.int .i64 (IntKind.wrap .i64 ((a:Int)+(b:Int)))=.int .i64 ((a+b:Nat):Int):=by
 rw[show((a+b:Nat):Int)=(a:Int)+b from Int.natCast_add a b,IntWalk.i64_in _ an]
end
end Go.Proofs.YtocfkfhdcnjklaaGreatDoor
