import Derived.KernelRfl
import Derived.WalkKit
import Derived.WalkSpells
import Derived.WalkLawsBesides
import Derived.Deep.QuietTactic
import Derived.BigQuiet
import Derived.Lib.Hide
import Derived.Deep.RegionHeld3
import Derived.StillTailTactics
import Derived.Deep.DeepCutAuto
import Derived.Deep.MidRow
import Derived.Maps.AppendAt
import Derived.IntWalk
namespace Go.Proofs.YtocfkfhdcnjklaaGreatDoor
section
theorem an{p:Prop}(h:p:=by omega):p:=h
theorem au{p:Prop}(h:p:=by kernel_rfl):p:=h
theorem bj{p:Prop}(h:p:=by decide):p:=h
theorem ax{p:Prop}(h:p:=by simp):p:=h
theorem Ic{p:Prop}(h:p:=by rfl):p:=h
theorem br.{u}{c:Prop}{d:Decidable c}{α:Sort u}{a b:α}{p:Prop}(h:p)(e:p->c:=by intro h;simpa using h):(if c then a else b)=a:=if_pos (e h)
theorem bs.{u}{c:Prop}{d:Decidable c}{α:Sort u}{a b:α}{p:Prop}(h:p)(e:p->¬c:=by intro h;simpa using h):(if c then a else b)=b:=if_neg (e h)
theorem cw{c p:Prop}(h:p)(e:p->c:=by intro h;simpa using h):c:=e h
abbrev bq(a:Nat):Value:=.pointer (some ⟨a,0,none⟩)
abbrev ao(a:Int):Value:=.int .i64 a
abbrev bc(a:Int):Value:=.int .u8 a
abbrev aw{α:Type}(p:Option Addr)(l:List α)(c:Nat):Value:=.slice p l.length c
abbrev EB:ByteArray:=⟨#[]⟩
theorem Pj.{u,v} {A:Type u} {B:Type v} {a c:A} {b d:B} (h:(a,b)=(c,d)):a=c/\b=d:=Prod.mk.inj h
theorem Z.{u} {α:Sort u} {a:α}:a=a:=rfl
abbrev V3.{u} {Y:Type u} (a b c:Y):List Y:=[a,b,c]
abbrev V4.{u} {Y:Type u} (a b c d:Y):List Y:=[a,b,c,d]
abbrev V5.{u} {Y:Type u} (a b c d e:Y):List Y:=[a,b,c,d,e]
abbrev V6.{u} {Y:Type u} (a b c d e f:Y):List Y:=[a,b,c,d,e,f]
abbrev V7.{u} {Y:Type u} (a b c d e f g:Y):List Y:=[a,b,c,d,e,f,g]
abbrev V8.{u} {Y:Type u} (a b c d e f g h:Y):List Y:=[a,b,c,d,e,f,g,h]
abbrev V9.{u} {Y:Type u} (a b c d e f g h i:Y):List Y:=[a,b,c,d,e,f,g,h,i]
abbrev yK.{u} {Y:Type u} (a b c d e f g h i j:Y):List Y:=[a,b,c,d,e,f,g,h,i,j]
abbrev XO.{u} {Y:Type u} (a b c d e f g h i j k:Y):List Y:=[a,b,c,d,e,f,g,h,i,j,k]
abbrev V12.{u} {Y:Type u} (a b c d e f g h i j k l:Y):List Y:=[a,b,c,d,e,f,g,h,i,j,k,l]
abbrev VR.{u} {Y:Type u} (a b c d e f g h i j k l m:Y):List Y:=[a,b,c,d,e,f,g,h,i,j,k,l,m]
abbrev P7.{u} {Y:Type u} (a b c d e f g h i j k l m n:Y):List Y:=[a,b,c,d,e,f,g,h,i,j,k,l,m,n]
abbrev V15.{u} {Y:Type u} (a b c d e f g h i j k l m n o:Y):List Y:=[a,b,c,d,e,f,g,h,i,j,k,l,m,n,o]
abbrev V16.{u} {Y:Type u} (a b c d e f g h i j k l m n o p:Y):List Y:=[a,b,c,d,e,f,g,h,i,j,k,l,m,n,o,p]
abbrev V25.{u} {Y:Type u} (a b c d e f g h i j k l m n o p q r s t u v w x y:Y):List Y:=[a,b,c,d,e,f,g,h,i,j,k,l,m,n,o,p,q,r,s,t,u,v,w,x,y]
abbrev V40.{u} {Y:Type u} (a b c d e f g h i j k l m n o p q r s t u v w x y z A B C D E F G H I J K L M N:Y):List Y:=[a,b,c,d,e,f,g,h,i,j,k,l,m,n,o,p,q,r,s,t,u,v,w,x,y,z,A,B,C,D,E,F,G,H,I,J,K,L,M,N]
abbrev OA:=Option Addr
abbrev V1:Value:=.slice none 0 0
theorem Zi.{u} {Y:Type u} {a b:Y} (h:some a=some b):a=b:=Option.some.inj h
open Go.RowKit
abbrev dW:=Nat->Prop
attribute [go_sem] World.cell?_alloc_some
def fy (F:dW)(w w':World):Prop:=∀k,F k->w'.heap[k]? =w.heap[k]?
theorem fy.refl (F:dW)(w:World):fy F w w:=λ_ _=>rfl
theorem fy.cell {F:dW} {w w':World} (h:fy F w w') {b o:Nat} (U:F b):w'.cell? ⟨b,o,none⟩=w.cell? ⟨b,o,none⟩:=
 World.cell?_of_block (w:=w) (h b U)
def fC {α:Type} (sz:Nat)(R:List Value->α->Prop):List Value->List α->Prop
 |xs,[]=>xs=[]
 |xs,x::l=>∃cs rest,xs=cs++rest/\cs.length=sz/\R cs x/\fC sz R rest l
section
variable {α:Type} {sz:Nat} {R R':List Value->α->Prop}
theorem fC.length:∀{l:List α} {xs:List Value},fC sz R xs l->xs.length=l.length*sz
 |[],xs,h=>by cases(h:xs=[]);simp
 | x::l,xs,h=>by
   obtain⟨cs,rest,rfl,h1,_,U⟩:=h;rw[List.length_append,h1,fC.length U,List.length_cons,Nat.succ_mul,Nat.add_comm]
theorem fC.append:∀{l m:List α} {xs U:List Value},fC sz R xs l->fC sz R U m->fC sz R (xs++U) (l++m)
 |[],m,xs,U,h,k=>by cases(h:xs=[]);exact k
 | x::l,m,xs,U,h,k=>by
   obtain⟨cs,rest,rfl,h1,h3,h2⟩:=h;exact⟨cs,rest++U,by rw[List.append_assoc],h1,h3,fC.append h2 k⟩
theorem fC.one {x:α} {cs:List Value} (h:R cs x)(U:cs.length=sz):fC sz R cs [x]:=⟨cs,[],ax,U,h,rfl⟩
theorem fC.mono:∀{l:List α} {xs:List Value},fC sz R xs l->(∀cs x,x∈l->R cs x->R' cs x)->fC sz R' xs l
 |[],_,h,_=>h
 | x::l,xs,h,U=>by
   obtain⟨cs,rest,rfl,h1,h3,h2⟩:=h;exact⟨cs,rest,rfl,h1,U _ _ ax h3,fC.mono h2 λcs x hx=>U cs x (by simp[hx])⟩
theorem fC.at:∀{l:List α} {xs:List Value} {k:Nat} {x:α},fC sz R xs l->l[k]? =some x->∃cs,cs.length=sz/\R cs x/\∀j u,cs[j]? =some u->xs[k*sz+j]? =some u
 |[],_,_,_,_,U=>by simp at U
 | y::l,xs,0,x,h,U=>by
   obtain⟨cs,rest,rfl,h1,h3,_⟩:=h;simp at U;subst U;refine⟨cs,h1,h3,λj u hu=>?_⟩;have:=(List.getElem?_eq_some_iff.1 hu).1;rw[Nat.zero_mul,Nat.zero_add,List.getElem?_append_left this];exact hu
 | y::l,xs,k+1,x,h,U=>by
   obtain⟨cs,rest,rfl,h1,h3,h2⟩:=h;obtain⟨ds,e1,e2,e3⟩:=fC.at (k:=k) h2 (cw U);refine⟨ds,e1,e2,λj u hu=>?_⟩;rw[List.getElem?_append_right (by rw[h1,Nat.succ_mul];omega)];have:=e3 j u hu;rw[<-this];congr 1;rw[h1,Nat.succ_mul];omega
theorem fC.all {p:Value->Prop} (hp:∀cs x,R cs x->∀u∈cs,p u):∀{l:List α} {xs:List Value},fC sz R xs l->∀u∈xs,p u
 |[],xs,h,u,hu=>by cases(h:xs=[]);cases hu
 | x::l,xs,h,u,hu=>by
   obtain⟨cs,rest,rfl,_,h3,U⟩:=h;rcases List.mem_append.1 hu with hu|hu;· exact hp _ _ h3 u hu
   · exact fC.all hp U u hu
theorem fC.flat (enc:α->List Value)(he:∀x,(enc x).length=sz):∀l:List α,fC sz (λcs x=>cs=enc x) (l.flatMap enc) l
 |[]=>rfl
 |x::l=>⟨enc x,l.flatMap enc,ax,he x,rfl,fC.flat enc he l⟩
theorem fC.flat_iff (enc:α->List Value):∀{l:List α} {xs:List Value},fC sz (λcs x=>cs=enc x) xs l->xs=l.flatMap enc
 |[],xs,h=>h
 | x::l,xs,h=>by
   obtain⟨cs,rest,rfl,_,rfl,U⟩:=h;rw[fC.flat_iff enc U];simp
end
def pn (w:World)(b off:Nat)(xs:List Value):Prop:=∀j u,xs[j]? =some u->w.cell? ⟨b,off+j,none⟩=some u
def zc {α:Type} (F:dW)(w:World)(sz:Nat)(R:List Value->α->Prop)(v:Value)(l:List α):Prop:=
 ∃p n c xs,v=.slice p n c/\n=l.length/\n<=c/\c<=9223372036854775807/\fC sz R xs l/\(0<n->∃b off,p=some ⟨b,off,none⟩/\F b/\pn w b off xs)
section
variable {α:Type} {F G:dW} {w w':World} {sz:Nat} {R R':List Value->α->Prop} {v:Value} {l:List α}
theorem zc.keep (h:zc F w sz R v l)(ha:fy F w w')(hR:∀cs x,x∈l->R cs x->R' cs x):zc F w' sz R' v l:=by
 obtain⟨p,n,c,xs,hv,U,hc,hm,hx,eP⟩:=h;refine⟨p,n,c,xs,hv,U,hc,hm,hx.mono hR,λU=>?_⟩;obtain⟨b,off,hp,hF,iT⟩:=eP U;exact⟨b,off,hp,hF,λj u hj=>(ha.cell hF).trans (iT j u hj)⟩
theorem zc.foot (h:zc F w sz R v l)(hg:∀k,F k->G k):zc G w sz R v l:=by
 obtain⟨p,n,c,xs,hv,U,hc,hm,hx,eP⟩:=h;refine⟨p,n,c,xs,hv,U,hc,hm,hx,λU=>?_⟩;obtain⟨b,off,hp,hF,iT⟩:=eP U;exact⟨b,off,hp,hg _ hF,iT⟩
theorem zc.nil:zc F w sz R (.slice none 0 0) []:=⟨none,0,0,[],rfl,rfl,Nat.le_refl _,an,rfl,λh=>absurd h an⟩
end
theorem Cg (b off j:Nat):(⟨b,off,none⟩:Addr).add j=⟨b,off+j,none⟩:=by unfold Addr.add;split<;>simp_all
theorem tl {P:Program} {t e:TypeId} {sz:Nat} {p:Option Addr} {n c k b off:Nat} (ht:P.underlying t=some (.slice e))(hs:∀w,(sizeOf e).run P w=.ok sz w)(hp:p=some ⟨b,off,none⟩)(hk:k<n):
  ∀w,(Instr.indexAt t (.slice p n c) (.int .i64 (k:Int))).run P w=.ok (.pointer (some ⟨b,off+k*sz,none⟩)) w:=by
 intro w;subst hp;have U:(0:Int)<=k/\(k:Int)<n:=an
 simp[Instr.indexAt,asIntOf,run_underlying ht,U,hs,Addr.add,hk]
structure V where
 k:Int
 n:Int
 s:ByteArray
theorem Qa9 {a b:ByteArray}:a.toList=b.toList↔a=b:=by
 rw[ByteArray.toList_eq,ByteArray.toList_eq];constructor
 ·intro h;obtain⟨⟨x⟩⟩:=a;obtain⟨⟨y⟩⟩:=b;simp at h;subst h;rfl
 · rintro rfl;rfl
instance:DecidableEq V:=λa b=>by
 rcases a with⟨k,n,s⟩;rcases b with⟨k',n',s'⟩;exact if h:k=k'/\n=n'/\s.toList=s'.toList then .isTrue (by obtain⟨h1,h2,h3⟩:=h;rw[Qa9]at h3;subst h1 h2 h3;rfl)else .isFalse (λe=>h (by injection e with h1 h2 h3;exact⟨h1,h2,by rw[h3]⟩))
theorem V.ext_iff' {a b:V}:a=b↔a.k=b.k/\a.n=b.n/\a.s.toList=b.s.toList:=by
 rcases a with⟨k,n,s⟩;rcases b with⟨U,n',s'⟩;simp only[V.mk.injEq,Qa9]
def lS {α:Type} (B:Nat)(e:TypeId)(sz:Nat)(R:List Value->α->Prop)(l:List α)(v:Value)(w:World):Prop:=
 ∃xs,w.ownsRow B e sz v l.length xs/\fC sz R xs l
section
variable {α:Type} {B B':Nat} {w w':World} {e:TypeId} {sz:Nat} {R:List Value->α->Prop} {l:List α} {v:Value}
theorem lS.nil:lS B e sz R [] (.slice none 0 0) w:=⟨[],World.ownsRow_nil _ _ _ _,rfl⟩
theorem lS.shape (h:lS B e sz R l v w):∃p n c,v=.slice p n c:=by
 obtain⟨xs,ho,_⟩:=h;rcases ho.2 with⟨U,_⟩|⟨g,cap,cur,hv,_⟩
 · exact⟨_,_,_,U⟩
 · exact⟨_,_,_,hv⟩
theorem lS.len {p:Option Addr} {n c:Nat} (h:lS B e sz R l (.slice p n c) w):n=l.length:=by
 obtain⟨xs,ho,_⟩:=h;rcases ho.2 with⟨U,h1⟩|⟨g,cap,cur,hv,_⟩
 · cases U;omega
 · cases hv;rfl
theorem lS.mono (h:lS B e sz R l v w)(hB:B'<=B):lS B' e sz R l v w:=by
 obtain⟨xs,U,hc⟩:=h;refine⟨xs,⟨U.1,?_⟩,hc⟩;rcases U.2 with h0|⟨g,cap,cur,hv,hg,rest⟩
 · exact .inl h0
 · exact .inr ⟨g,cap,cur,hv,Nat.le_trans hB hg,rest⟩
theorem lS.keep (h:lS B e sz R l v w)(ha:∀k,v.ownBlock=some k->w'.heap[k]? =w.heap[k]?):lS B e sz R l v w':=by
 obtain⟨xs,U,hc⟩:=h;refine⟨xs,⟨U.1,?_⟩,hc⟩;rcases U.2 with h0|⟨g,cap,cur,hv,hg,hh,rest⟩
 · exact .inl h0
 · exact .inr ⟨g,cap,cur,hv,hg,by rw[ha g (by rw[hv];rfl)];exact hh,rest⟩
theorem lS.lt (h:lS B e sz R l v w):∀k,v.ownBlock=some k->B<=k/\k<w.heap.size:=by
 obtain⟨xs,U,_⟩:=h;exact U.lt
end
structure Mod (S:dW) (w w':World):Prop where
 os:w'.os=w.os
 tape:w'.tape=w.tape
 output:w'.output=w.output
 size:w.heap.size<=w'.heap.size
 block:∀k,k<w.heap.size->¬S k->w'.heap[k]? =w.heap[k]?
section
variable {S T:dW} {a b c w:World}
theorem Mod.refl (S:dW)(w:World):Mod S w w:=⟨rfl,rfl,rfl,Nat.le_refl _,λ_ _ _=>rfl⟩
theorem Mod.trans (h:Mod S a b)(k:Mod S b c):Mod S a c:=⟨k.os.trans h.os,k.tape.trans h.tape,k.output.trans h.output,Nat.le_trans h.size k.size,λi hi hs=>(k.block i (Nat.lt_of_lt_of_le hi h.size) hs).trans (h.block i hi hs)⟩
theorem Mod.mono (h:Mod S a b)(hs:∀k,k<a.heap.size->S k->T k):Mod T a b:=⟨h.os,h.tape,h.output,h.size,λk hk U=>h.block k hk λh=>U (hs k hk h)⟩
theorem Mod.trans' (h:Mod S a b)(k:Mod T b c)(U:∀i,i<a.heap.size->T i->S i):Mod S a c:=⟨k.os.trans h.os,k.tape.trans h.tape,k.output.trans h.output,Nat.le_trans h.size k.size,λi hi hs=>(k.block i (Nat.lt_of_lt_of_le hi h.size) λht=>hs (U i hi ht)).trans (h.block i hi hs)⟩
theorem Mod.of_below (h:Below w.heap.size w a):Mod S w a:=⟨h.os,h.tape,h.output,h.size,λk hk _=>h.block k hk⟩
theorem Mod.to_below {B:Nat} (h:Mod S w a)(hB:B<=w.heap.size)(U:∀k,S k->B<=k):Below B w a:=⟨h.os,h.tape,h.output,h.size,λk hk=>h.block k an λhs=>by have:=U k hs;omega⟩
theorem Mod.drew (h:Mod S a w):Mod S a w.drew:=⟨h.os,h.tape,h.output,h.size,h.block⟩
theorem Mod.setCell (h:Mod S a w) {p:Addr} (hp:p.block<a.heap.size->S p.block)(u:Value):Mod S a (w.setCell p u):=
 h.trans' (T:=λk=>k=p.block) ⟨rfl,rfl,rfl,by simp[World.setCell],λk _ hk=>Below.heap_setCell _ _ _ _ hk⟩ (λi hi e=>by subst e;exact hp hi)
end
theorem fC.set:∀{α:Type} {sz:Nat} {R:List Value->α->Prop} {l:List α} {xs:List Value} (k:Nat) {x:α} {cs:List Value},fC sz R xs l->R cs x->cs.length=sz->k<l.length->fC sz R (xs.take (k*sz)++cs++xs.drop ((k+1)*sz)) (l.set k x)
 |_,_,_,[],_,_,_,_,_,_,_,hk=>absurd hk ax
 | α,sz,R,y::l,xs,0,x,cs,h,hr,hc,_=>by
   obtain⟨ds,rest,rfl,h1,h3,U⟩:=h;refine⟨cs,rest,?_,hc,hr,U⟩;rw[Nat.zero_mul,List.take_zero,List.nil_append,Nat.zero_add,Nat.one_mul,<-h1,List.drop_left]
 | α,sz,R,y::l,xs,k+1,x,cs,h,hr,hc,hk=>by
   obtain⟨ds,rest,rfl,h1,h3,U⟩:=h;refine⟨ds,rest.take (k*sz)++cs++rest.drop ((k+1)*sz),?_,h1,h3,fC.set k U hr hc (cw hk)⟩;have e1:(k+1)*sz=ds.length+k*sz:=by rw[h1,Nat.succ_mul];omega
   have e2:(k+1+1)*sz=ds.length+(k+1)*sz:=by rw[h1,Nat.succ_mul (k+1)];omega
   rw[e2,e1,List.take_length_add_append,List.drop_length_add_append,<-e1];simp[List.append_assoc]
def Hd (xs:List Value)(o:Nat):List Value->List Value
 |[]=>xs
 |c::cs=>Hd (xs.set o c) (o+1) cs
theorem Xv:∀(cs xs:List Value)(o:Nat),o+cs.length<=xs.length->Hd xs o cs=xs.take o++cs++xs.drop (o+cs.length)
 |[],xs,o,_=>by simp[Hd]
 | c::cs,xs,o,h=>by
   simp only[List.length_cons]at h⊢;rw[Hd,Xv cs _ _ (by simp;omega)]
   have:(xs.set o c).take (o+1)=xs.take o++[c]:=by
    rw[List.take_succ_eq_append_getElem (by simp;omega),List.take_set_of_le (Nat.le_refl _)];simp
   rw[this,List.drop_set_of_lt an];simp[Nat.add_assoc,Nat.add_comm 1]
def Fw (w:World)(b o:Nat):List Value->World
 |[]=>w
 |c::cs=>Fw (w.setCell ⟨b,o,none⟩ c) b (o+1) cs
theorem lS.put {α:Type} {B:Nat} {w:World} {e:TypeId} {sz:Nat} {R:List Value->α->Prop} {l:List α} {g n c:Nat} (h:lS B e sz R l (.slice (some ⟨g,0,none⟩) n c) w)(hn:n=l.length)(k:Nat) {x:α} {cs:List Value} (hr:R cs x)(U:cs.length=sz)(hk:k<l.length):
  lS B e sz R (l.set k x) (.slice (some ⟨g,0,none⟩) n c) (Fw w g (k*sz) cs)/\Mod (λi=>i=g) w (Fw w g (k*sz) cs):=by
 obtain⟨xs,ho,hx⟩:=h
 have key:∀(cs:List Value) (xs:List Value) (w:World) (o:Nat),w.ownsRow B e sz (.slice (some ⟨g,0,none⟩) n c) l.length xs->
    (Fw w g o cs).ownsRow B e sz (.slice (some ⟨g,0,none⟩) n c) l.length (Hd xs o cs)/\Mod (λi=>i=g) w (Fw w g o cs):=by
  intro cs;induction cs with
  |nil=>intro xs w o h;exact⟨h,Mod.refl _ _⟩
  | cons d ds ih=>
    intro xs w o h;subst hn;have h1:=h.stored o d;obtain⟨i1,i2⟩:=ih _ _ (o+1) h1.1;exact⟨i1,Mod.trans (S:=λi=>i=g) (Mod.setCell (S:=λi=>i=g) (Mod.refl _ w) (p:=⟨g,o,none⟩) (λ_=>rfl) d) i2⟩
 obtain⟨k1,k2⟩:=key cs xs w (k*sz) ho;have hlen:=hx.length;rw[Xv cs xs _ (by rw[U,hlen,<-Nat.succ_mul];exact Nat.mul_le_mul_right _ hk)]at k1;refine⟨⟨_,by rw[List.length_set];exact k1,?_⟩,k2⟩;have:=hx.set k hr U hk;rwa [show(k+1)*sz=k*sz+cs.length from by rw[U,Nat.succ_mul]]at this
theorem lS.head {α:Type} {B:Nat} {w:World} {e:TypeId} {sz:Nat} {R:List Value->α->Prop} {l:List α} {p:Option Addr} {n c:Nat} (h:lS B e sz R l (.slice p n c) w)(h0:0<l.length):
  ∃g,p=some ⟨g,0,none⟩/\n=l.length/\B<=g/\g<w.heap.size/\∀j,w.frozen? ⟨g,j,none⟩=false:=by
 obtain⟨xs,U,hx⟩:=h;have hf:=U.2;rcases U.2 with⟨h1,h2⟩|⟨g,cap,cur,hv,hg,hh,rest⟩
 · omega
 ·cases hv;exact⟨g,rfl,rfl,hg,(Array.getElem?_eq_some_iff.1 hh).1,λj=>U.frozenAt j⟩
theorem lS.of_block {α:Type} {B:Nat} {w:World} {e:TypeId} {sz g n:Nat} {R:List Value->α->Prop} {l:List α} {cur:Array Value} (hg:w.heap[g]? =some (.cells cur e (0,0)))(hB:B<=g)(hx:fC sz R cur.toList l)(hn:n=l.length)(hm:n<=9223372036854775807):lS B e sz R l (.slice (some ⟨g,0,none⟩) n n) w:=by
 subst hn;have U:=hx.length;refine⟨cur.toList,⟨U,.inr ⟨g,_,cur,rfl,hB,hg,Nat.le_refl _,hm,by simpa using U,?_⟩⟩,hx⟩;rw[List.take_of_length_le an]
end
section
open Go.RowKit
structure eI (α:Type) where
 p:dW->World->List Value->α->Prop
 good:∀{F G:dW} {w w':World} {cs:List Value} {x:α},(∀k,F k->G k)->fy F w w'->p F w cs x->p G w' cs x
 one:∀{F:dW} {w:World} {cs:List Value} {x:α},p F w cs x->∀u∈cs,u.oneCell'=true
inductive Fact:Type 1
 |cells (b o:Nat) (cs:List Value)
 |sli {α:Type} (sz:Nat) (R:eI α) (p:Option Addr) (c:Nat) (l:List α)
 |own {α:Type} (e sz:Nat) (R:eI α) (v:Value) (l:List α)
 |blk (g:Nat) (cs:List Value) (t:Nat)
 |rep {α:Type} (R:eI α) (cs:List Value) (x:α)
 |duo (p:dW->dW->World->Prop) (good:∀{N N' F G:dW} {w w':World},(∀k,N k->N' k)->fy N w w'->(∀k,F k->G k)->fy F w w'->p N F w->p N' G w')
 |raw (p:dW->World->Prop) (good:∀{F G:dW} {w w':World},(∀k,F k->G k)->fy F w w'->p F w->p G w')
def Fact.op:Fact->dW->dW->World->Prop
 | .cells b o cs,N,_,w=>N b/\pn w b o cs
 | .sli sz R p c l,N,_,w=>zc N w sz (R.p N w) (.slice p l.length c) l
 | .own e sz R v l,N,F,w=>(∀k,v.ownBlock=some k->N k)/\lS 0 e sz (R.p F w) l v w
 | .blk g cs t,N,_,w=>N g/\w.heap[g]? =some (.cells cs.toArray t)
 | .rep R cs x,N,_,w=>R.p N w cs x
 | .duo p _,N,F,w=>p N F w
 | .raw p _,N,_,w=>p N w
def Fact.p (φ:Fact)(F:dW)(w:World):Prop:=φ.op F F w
theorem pn.agree {F:dW} {w U:World} {b o:Nat} {cs:List Value} (h:pn w b o cs)(ha:fy F w U)(hb:F b):pn U b o cs:=λj u hu=>(ha.cell hb).trans (h j u hu)
theorem lS.rel {α:Type} {B e sz:Nat} {R U:List Value->α->Prop} {l:List α} {v:Value} {w:World} (h:lS B e sz R l v w)(hR:∀cs x,R cs x->U cs x):lS B e sz U l v w:=by
 obtain⟨xs,ho,hc⟩:=h;exact⟨xs,ho,hc.mono λcs x _=>hR cs x⟩
theorem Fact.opgood (φ:Fact) {N N' F G:dW} {w w':World} (U:∀k,N k->N' k)(ha:fy N w w')(hF:∀k,F k->G k)(hb:fy F w w')(h:φ.op N F w):φ.op N' G w':=by
 cases φ with
 |cells b o cs=>exact⟨U _ h.1,h.2.agree ha h.1⟩
 |sli sz R p c l=>exact zc.foot (h.keep ha λcs x _ hr=>R.good U ha hr) U
 |own e sz R v l=>exact⟨λk hk=>U _ (h.1 k hk),(h.2.keep λk hk=>ha k (h.1 k hk)).rel λcs x hr=>R.good hF hb hr⟩
 |blk g cs t=>exact⟨U _ h.1,(ha g h.1).trans h.2⟩
 |rep R cs x=>exact R.good U ha h
 |duo p g=>exact g U ha hF hb h
 |raw p g=>exact g U ha h
theorem Fact.good (φ:Fact) {F G:dW} {w w':World} (U:∀k,F k->G k)(ha:fy F w w')(h:φ.p F w):φ.p G w':=φ.opgood U ha U ha h
structure Ctx where
 w0:World
 S0:dW
 F0:dW
structure fQ (C:Ctx) (Φ:List Fact) (H:List Fact) (F:dW) (N:Nat->dW) (w:World):Prop where
 flt:∀k,F k->k<w.heap.size
 fold:∀k,C.F0 k->F k
 fnew:∀k,F k->C.F0 k\/C.w0.heap.size<=k\/C.S0 k
 facts:∀φ∈Φ,φ.p F w
 owns:∀(i:Nat) (h:Fact),H[i]? =some h->h.op (N i) F w
 nlt:∀i k,i<H.length->N i k->k<w.heap.size/\(C.w0.heap.size<=k\/C.S0 k)/\¬F k
 apart:∀i j k,i<H.length->j<H.length->i≠j->N i k->¬N j k
 mod:Mod C.S0 C.w0 w
def Qj (C:Ctx)(Φ:List Fact)(H:List Fact)(w:World):Prop:=∃F N,fQ C Φ H F N w
structure FD where
 k:Nat
 D:List Deferred
instance:Coe FD Nat:=⟨FD.k⟩
structure fj (n:FD) (S:List (Nat×Value)) (a:Act):Prop where
 size:a.tmps.size=n.k
 defers:a.defers=n.D
 at_:∀x∈S,a.tmps[x.1]? =some x.2
def look:List (Nat×Value)->Nat->Option Value
 |[],_=>none
 | (k,v)::r,t=>match Nat.beq k t with
   |true=>some v
   |false=>look r t
def da (S:List (Nat×Value)):Operand->Option Value
 | .tmp t=>look S t
 | .const v=>some v
 | .func f=>some (.func (.func f) #[] #[])
 | .global g=>some (.pointer (some ⟨g,0,none⟩))
theorem LB:∀{S:List (Nat×Value)} {t:Nat} {v:Value},look S t=some v->(t,v)∈S
 | (k,u)::r,t,v,h=>by
   unfold look at h;split at h;· rename_i U;cases h;rw[Nat.eq_of_beq_eq_true U];simp
   · exact List.mem_cons_of_mem _ (LB h)
theorem fj.eval {n:FD} {S:List (Nat×Value)} {a:Act} (h:fj n S a) {x:Operand} {v:Value} (U:da S x=some v):a.eval x=v:=by
 cases x with
 | tmp t=>
   have:=h.at_ _ (LB U);simp only[Act.eval,Array.getD_eq_getD_getElem?];rw[this];rfl
 |const c=>cases U;rfl
 |global g=>cases U;rfl
 |func f=>cases U;rfl
def eH (d:Nat):List (Nat×Value)->List (Nat×Value)
 |[]=>[]
 | (k,v)::r=>match Nat.beq k d with
   |true=>eH d r
   |false=>(k,v)::eH d r
theorem OU {d:Nat}:∀{S:List (Nat×Value)} {x:Nat×Value},x∈eH d S->x∈S/\x.1≠d
 | (k,v)::r,x,h=>by
   unfold eH at h;split at h;· exact⟨List.mem_cons_of_mem _ (OU h).1,(OU h).2⟩
   ·rename_i U;rcases List.mem_cons.1 h with rfl|h;· exact⟨ax,λe=>by rw[show k=d from e]at U;exact absurd (Nat.beq_refl d) (by rw[U];simp)⟩
    · exact⟨List.mem_cons_of_mem _ (OU h).1,(OU h).2⟩
theorem fj.put {n:FD} {S S':List (Nat×Value)} {a:Act} (h:fj n S a) {d:Nat} {v:Value} (hd:d<n)(hS:eH d S=S'):fj n ((d,v)::S') (a.put (some d) v):=by
 subst hS;refine⟨by simp[Act.put,h.size],h.defers,λx U=>?_⟩;rcases List.mem_cons.1 U with rfl|U;· simp[Act.put,h.size,hd]
 ·obtain⟨h1,h2⟩:=OU U;simp only[Act.put];rw[Array.getElem?_setIfInBounds_ne (Ne.symm h2)];exact h.at_ _ h1
theorem fj.sub {n:FD} {S S':List (Nat×Value)} {a:Act} (h:fj n S a)(hs:∀x∈S',x∈S):fj n S' a:=⟨h.size,h.defers,λx U=>h.at_ x (hs x U)⟩
def gC:List Nat->List (Nat×Value)->List (Nat×Value)
 |[],_=>[]
 | t::l,S=>match look S t with
   |some v=>(t,v)::gC l S
   |none=>gC l S
theorem Qc0:∀{l:List Nat} {S:List (Nat×Value)} {x:Nat×Value},x∈gC l S->x∈S
 | t::l,S,x,h=>by
   unfold gC at h;split at h
   ·rename_i v U;rcases List.mem_cons.1 h with rfl|h;· exact LB U
    · exact Qc0 h
   · exact Qc0 h
section lh
variable (P:Program) (C:Ctx) (n:FD) (Q:Exit->Act->World->Prop) (Φ:List Fact) (H:List Fact) (S:List (Nat×Value))
def WL (ops:Array Oper)(rest:List Oper):Prop:=∀a w,fj n S a->Qj C Φ H w->wpList P ops Q rest a w
def WC (c:Code):Prop:=∀a w,fj n S a->Qj C Φ H w->c.wp P Q a w
def WE (e:Exit):Prop:=∀a w,fj n S a->Qj C Φ H w->Q e a w
end lh
section structural
variable {P:Program} {C:Ctx} {n:FD} {Q:Exit->Act->World->Prop} {Φ Φ':List Fact} {H H':List Fact} {S S':List (Nat×Value)} {ops:Array Oper} {rest:List Oper} {c x y:Code}
theorem Q6 (h:WC P C n (Exit.then (λa w=>y.wp P Q a w) Q) Φ H S x):WC P C n Q Φ H S (.seq x y):=λa w U hw=>wp_seq (h a w U hw)
theorem Qc {id:Nat} {l:List Oper} (h:WL P C n Q Φ H S l.toArray l):WC P C n Q Φ H S (.region id l.toArray false):=λa w U hw=>wp_region_lit (h a w U hw)
theorem Q2 (h:WE C n Q Φ H S .normal):WL P C n Q Φ H S ops []:=λa w U hw=>h a w U hw
theorem Qu (h:WC P C n Q Φ H S y):WE C n (Exit.then (λa w=>y.wp P Q a w) Q) Φ H S .normal:=h
theorem Qa {id:Nat} {K:Act->World->Prop} (h:WE C n Q Φ H S (.exit id)):WE C n (Exit.then K Q) Φ H S (.exit id):=h
theorem Q5 {K:Act->World->Prop} (h:WE C n Q Φ H S .ret):WE C n (Exit.then K Q) Φ H S .ret:=h
theorem Qx {id:Nat} (h:WE C n Q Φ H S .normal):WE C n (Exit.inBlock id Q) Φ H S (.exit id):=λa w U hw=>by
 show(if id=id then _ else _);rw[if_pos rfl];exact h a w U hw
theorem uJ {id U:Nat} (db:U≠id)(h:WE C n Q Φ H S (.exit U)):WE C n (Exit.inBlock id Q) Φ H S (.exit U):=λa w hf hw=>by
 show(if U=id then _ else _);rw[if_neg db];exact h a w hf hw
theorem Q8 {id:Nat} (h:WE C n Q Φ H S .normal):WE C n (Exit.inBlock id Q) Φ H S .normal:=h
theorem Qp {id:Nat} (h:WE C n Q Φ H S .ret):WE C n (Exit.inBlock id Q) Φ H S .ret:=h
theorem QT (h:WE C n Q Φ H S .normal):WC P C n Q Φ H S .skip:=λa w U hw=>wp_skip (h a w U hw)
theorem Ql (h:WE C n Q Φ H S .ret):WC P C n Q Φ H S .ret:=λa w U hw=>wp_ret (h a w U hw)
theorem ib {id:Nat} (h:WE C n Q Φ H S (.exit id)):WC P C n Q Φ H S (.exit id):=λa w U hw=>wp_exit (h a w U hw)
theorem Qo {id:Nat} (h:WC P C n (Exit.inBlock id Q) Φ H S c):WC P C n Q Φ H S (.block id c):=λa w U hw=>wp_block (h a w U hw)
theorem gu {o:Operand} {t:Bool} (hc:da S o=some (.bool t))(ht:t=true->WC P C n Q Φ H S x)(hf:t=false->WC P C n Q Φ H S y):WC P C n Q Φ H S (.cond o x y):=
 λa w U hw=>wp_cond_split (U.eval hc) (λh=>ht h a w U hw) (λh=>hf h a w U hw)
theorem uR {o:Operand} (hc:da S o=some (.bool true))(ht:WC P C n Q Φ H S x):WC P C n Q Φ H S (.cond o x y):=
 λa w U hw=>wp_cond_true (U.eval hc) (ht a w U hw)
theorem yE {o:Operand} (hc:da S o=some (.bool false))(ht:WC P C n Q Φ H S y):WC P C n Q Φ H S (.cond o x y):=
 λa w U hw=>wp_cond_false (U.eval hc) (ht a w U hw)
theorem jT (l:List Nat)(U:gC l S=S')(h:WC P C n Q Φ H S' c):WC P C n Q Φ H S c:=
 λa w hf hw=>h a w (hf.sub λx hx=>Qc0 (by rw[U];exact hx)) hw
theorem nO {d:Nat} {t:Bool} (hx:look S d=some (.bool t))(hS:eH d S=S')(ht:t=true->WL P C n Q Φ H ((d,.bool true)::S') ops rest)(hf:t=false->WL P C n Q Φ H ((d,.bool false)::S') ops rest):WL P C n Q Φ H S ops rest:=by
 subst hS;intro a w eM hw
 have h1:∀b,t=b->fj n ((d,.bool b)::eH d S) a:=λb hb=>eM.sub λx U=>by
  rcases List.mem_cons.1 U with rfl|U;· rw[<-hb];exact LB hx
  · exact(OU U).1
 cases t;· exact hf rfl a w (h1 _ rfl) hw
 · exact ht rfl a w (h1 _ rfl) hw
theorem Qj.fact {w:World} {φ:Fact} (h:Qj C Φ H w)(bh:∀F,(∀ψ∈Φ,ψ.p F w)->φ.p F w):Qj C (φ::Φ) H w:=by
 obtain⟨F,N,hi⟩:=h;refine⟨F,N,{hi with facts:=λψ U=>?_}⟩;rcases List.mem_cons.1 U with rfl|U;· exact bh F hi.facts
 · exact hi.facts _ U
theorem My (φ:Fact)(U:∀F w,(∀ψ∈Φ,ψ.p F w)->φ.p F w)(h:WL P C n Q (φ::Φ) H S ops rest):WL P C n Q Φ H S ops rest:=
 λa w hf hw=>h a w hf (hw.fact λF=>U F w)
theorem jR (φ:Fact)(U:∀F w,(∀ψ∈Φ,ψ.p F w)->φ.p F w)(h:WC P C n Q (φ::Φ) H S c):WC P C n Q Φ H S c:=
 λa w hf hw=>h a w hf (hw.fact λF=>U F w)
theorem Qj.sub {w:World} (h:Qj C Φ H w)(hs:∀φ∈Φ',φ∈Φ):Qj C Φ' H w:=by
 obtain⟨F,N,hi⟩:=h;exact⟨F,N,{hi with facts:=λψ U=>hi.facts _ (hs _ U)}⟩
end structural
section rules
variable {P:Program} {C:Ctx} {n:FD} {Q:Exit->Act->World->Prop} {Φ Φ':List Fact} {H H':List Fact} {S S':List (Nat×Value)} {ops:Array Oper} {rest:List Oper} {o:Oper}
def QJ (ops:Array Oper)(S:List (Nat×Value))(o:Oper):Option Bool:=
 match o.guard with
 |none=>some true
 | some (j,want)=>match(ops[j]?).bind (·.dst)with
   | some d=>match look S d with
     |some (.bool true)=>some want
     |some (.bool false)=>some (!want)
     |some (.tuple _)=>some false
     |_=>none
   |none=>none
theorem GW {b:Bool} {a:Act} (hf:fj n S a)(h:QJ ops S o=some b):Region.wanted o (yielded ops a.tmps)=b:=by
 unfold QJ at h;unfold Region.wanted;rcases hg:o.guard with _|⟨j,want⟩
 · simp only[hg]at h⊢;exact Option.some.inj h
 ·simp only[hg]at h⊢;rcases hd:(ops[j]?).bind (·.dst)with _|d;· simp[hd]at h
  ·simp only[hd]at h;simp only[yielded,hd,Option.bind_some];split at h
   ·rename_i U;have:=hf.at_ _ (LB U);simp only at this;rw[this];cases want<;>(cases h;rfl)
   ·rename_i U;have:=hf.at_ _ (LB U);simp only at this;rw[this];cases want<;>(cases h;rfl)
   ·rename_i U;have:=hf.at_ _ (LB U);simp only at this;rw[this];cases want<;>(cases h;rfl)
   · cases h
theorem BH {d:Nat} (hg:QJ ops S o=some true)(hd:o.dst=some d)(hn:Nat.blt d n=true)(hS:eH d S=S')
  (run:∀a w,fj n S a->Qj C Φ H w->∃v w',(execOp a.eval o).run P w=.ok (.value v) w'/\∃Φ' H',Qj C Φ' H' w'/\WL P C n Q Φ' H' ((d,v)::S') ops rest):WL P C n Q Φ H S ops (o::rest):=by
 intro a w U hw;obtain⟨v,w',hr,Φ',H',h1,h2⟩:=run a w U hw;refine wpList_step λK hK=>?_
 rw[GW U hg,if_pos rfl];unfold Oper.wp;rw[hr,Oper.upon_value,hd];exact hK _ _ (h2 _ _ (U.put (Nat.le_of_ble_eq_true hn) hS) h1)
theorem Hh {d:Nat} {v:Value} (hg:QJ ops S o=some true)(hd:o.dst=some d)(hn:Nat.blt d n=true)(U:eH d S=S')
  (run:∀a w,fj n S a->Qj C Φ H w->(execOp a.eval o).run P w=.ok (.value v) w) (next:WL P C n Q Φ H ((d,v)::S') ops rest):WL P C n Q Φ H S ops (o::rest):=
 BH hg hd hn U λa w hf hw=>⟨v,w,run a w hf hw,Φ,H,hw,next⟩
theorem Lh {d:Nat} (hg:QJ ops S o=some false)(hd:o.dst=some d)(hn:Nat.blt d n=true)(hS:eH d S=S')(next:WL P C n Q Φ H ((d,undef)::S') ops rest):WL P C n Q Φ H S ops (o::rest):=by
 intro a w U hw;refine wpList_step λK hK=>?_
 rw[GW U hg,hd];exact hK _ _ (next _ _ (U.put (Nat.le_of_ble_eq_true hn) hS) hw)
end rules
end
section
open Go.RowKit
def QQ (P:Program)(t k:Nat):Option Nat:=match P.underlying t with
 | some (.struct U)=>match U[k]? with
   | some f=>match P.info? f.type with
     |some i=>if i.size=0 then none else some f.offset
     |none=>none
   |none=>none
 |_=>none
def QM (P:Program)(t:Nat):Option Nat:=(P.info? t).map (·.size)
def eW (P:Program)(t:Nat):Option Bool:=match P.underlying t with
 |some (.struct _)=>some true
 |some (.array _ _)=>some true
 |some _=>some false
 |none=>none
def gE (P:Program)(t:Nat):Option Value:=(P.info? t).bind (·.zero)
def fJ (P:Program)(t:Nat):Option Nat:=match P.underlying t with
 |some (.slice e)=>some e
 |_=>none
theorem kW {P:Program} {t k off:Nat} (h:QQ P t k=some off)(b o:Nat)(w:World):(Instr.fieldAt t (.pointer (some ⟨b,o,none⟩)) k).run P w=.ok (.pointer (some ⟨b,o+off,none⟩)) w:=by
 unfold QQ at h;split at h
 ·rename_i fs hu;split at h
  ·rename_i f U;split at h
   ·rename_i i hi;split at h;· cases h
    ·rename_i hz;cases h
     have hp:(fieldPlace ⟨b,o,none⟩ f).run P w=.ok ⟨b,o+f.offset,none⟩ w:=by
      simp[fieldPlace,sizeOf,typeInfo,hi,hz,Addr.add]
     simp[Instr.fieldAt,run_underlying hu,U,Instr.sureAddr,hp]
   · cases h
  · cases h
 · cases h
theorem wK {P:Program} {t sz:Nat} (h:QM P t=some sz)(w:World):(sizeOf t).run P w=.ok sz w:=by
 unfold QM at h;cases hi:P.info? t with
 |none=>simp[hi]at h
 |some i=>simp[hi]at h;simp[sizeOf,typeInfo,hi,h]
theorem tz {P:Program} {t:Nat} {b:Bool} (h:eW P t=some b)(w:World):(isAgg t).run P w=.ok b w:=by
 unfold eW at h;split at h<;>rename_i hu<;>cases h;· simp[isAgg,run_underlying hu]
 · simp[isAgg,run_underlying hu]
 · simp only[isAgg,Sem.run_bind,run_underlying hu,Result.andThen_ok];rfl
theorem tU {P:Program} {t e:Nat} (h:fJ P t=some e):P.underlying t=some (.slice e):=by
 unfold fJ at h;split at h;· rename_i hu;cases h;exact hu
 · cases h
theorem VF {P:Program} {t:Nat} {z:Value} (h:gE P t=some z)(w:World):(zeroValue t).run P w=.ok z w:=by
 unfold gE at h;cases hi:P.info? t with
 |none=>simp[hi]at h
 |some i=>simp[hi]at h;simp[zeroValue,typeInfo,hi,h]
def S6 (op:BinOp)(k:IntKind)(a b:Int):Option Value:=match op with
 | .add=>some (.int k (k.wrap (a+b)))
 | .sub=>some (.int k (k.wrap (a-b)))
 | .mul=>some (.int k (k.wrap (a*b)))
 | .eql=>some (.bool (a==b))
 | .neq=>some (.bool (a !=b))
 | .lss=>some (.bool (decide (a<b)))
 | .leq=>some (.bool (decide (a<=b)))
 | .gtr=>some (.bool (decide (a>b)))
 | .geq=>some (.bool (decide (a>=b)))
 |_=>none
def NF:IntKind->IntKind->Bool
 | .i8,.i8| .i16,.i16| .i32,.i32| .i64,.i64| .u8,.u8| .u16,.u16| .u32,.u32| .u64,.u64=>true
 |_,_=>false
theorem qP {a b:IntKind} (h:NF a b=true):a=b:=by cases a<;>cases b<;>first|rfl|cases h
def S7 (op:BinOp):Option Value->Option Value->Option Value
 | some (.int k a),some (.int U b)=>match NF k U with
   |true=>S6 op k a b
   |false=>none
 | some (.string a),some (.string b)=>match op with
   | .eql=>some (.bool (a.toList==b.toList))
   | .neq=>some (.bool (!(a.toList==b.toList)))
   | .add=>none
   |_=>none
 |_,_=>none
def z7 (S:List (Nat×Value)):Op->Option Value
 | .move x=>da S x
 | .assign x=>da S x
 | .pick c a b=>match da S c with
   |some (.bool true)=>da S a
   |some (.bool false)=>da S b
   |_=>none
 | .binOp op _ x y _=>S7 op (da S x) (da S y)
 | .unOp .not _ x=>match da S x with
   |some (.bool b)=>some (.bool (!b))
   |_=>none
 | .extract x i=>match da S x with
   |some (.tuple vs)=>vs[i]?
   |_=>none
 | .nilCheck x=>match da S x with
   |some (.pointer (some a))=>some (.pointer (some a))
   |_=>none
 |_=>none
theorem Ig {P:Program} {op:BinOp} {k:IntKind} {a b:Int} {v:Value} {t:TypeId} (h:S6 op k a b=some v)(w:World):(binOp op t (.int k a) (.int k b)).run P w=.ok v w:=by
 cases op<;>simp only[S6,Option.some.injEq]at h<;>first|(cases h;done)|(subst h;simp[binOp,Op.intArith,Op.intCmp])
theorem lx {P:Program} {n:FD} {S:List (Nat×Value)} {a:Act} {o:Oper} {v:Value} (hf:fj n S a)(h:z7 S o.op=some v)(w:World):(execOp a.eval o).run P w=.ok (.value v) w:=by
 unfold z7 at h;unfold execOp;split at h;· rename_i x U;simp[U,hf.eval h]
 · rename_i x U;simp[U,hf.eval h]
 ·rename_i c x y U;split at h;· rename_i hc;simp[U,hf.eval hc,hf.eval h,asBool]
  · rename_i hc;simp[U,hf.eval hc,hf.eval h,asBool]
  · cases h
 ·rename_i op t x y u U;unfold S7 at h;split at h
  ·rename_i k a' k' b' hx hy;split at h
   ·rename_i hk;obtain rfl:=qP hk;simp only[U,hf.eval hx,hf.eval hy];have:=Ig (P:=P) (t:=t) h w;simp[eqGuard,this]
   · cases h
  ·rename_i a' b' hx hy;simp only[U,hf.eval hx,hf.eval hy];cases op<;>simp only[Option.some.injEq]at h<;>first|(cases h;done)|(subst h;simp[eqGuard,binOp,Op.stringOp])
  · cases h
 ·rename_i t x U;split at h;· rename_i b hx;cases h;simp[U,hf.eval hx,Op.unary]
  · cases h
 ·rename_i x i U;split at h;· rename_i vs hx;simp[U,hf.eval hx,Instr.extract,h]
  · cases h
 ·rename_i x U;split at h;· rename_i b hx;cases h;simp[U,hf.eval hx]
  · cases h
 · cases h
section rules
variable {P:Program} {C:Ctx} {n:FD} {Q:Exit->Act->World->Prop} {Φ Φ':List Fact} {H H':List Fact} {S S':List (Nat×Value)} {ops:Array Oper} {rest:List Oper} {o:Oper} {d:Nat}
theorem Qt {v:Value} (hg:QJ ops S o=some true)(hd:o.dst=some d)(hn:Nat.blt d n=true)(U:eH d S=S')(hv:z7 S o.op=some v)(next:WL P C n Q Φ H ((d,v)::S') ops rest):WL P C n Q Φ H S ops (o::rest):=
 Hh hg hd hn U (λ_ w hf _=>lx hf hv w) next
theorem DQ {t:TypeId} {x:Operand} {p:Option Addr} {k c e:Nat} (hg:QJ ops S o=some true)(hd:o.dst=some d)(hn:Nat.blt d n=true)(U:eH d S=S')(ho:o.op=.call {callee:=.builtin .len,args:=#[x],argTypes:=#[t]})
  (hx:da S x=some (.slice p k c)) (ht:fJ P t=some e) (next:WL P C n Q Φ H ((d,.int .i64 (k:Int))::S') ops rest):WL P C n Q Φ H S ops (o::rest):=
 Hh hg hd hn U (λa w hf _=>by simp[execOp,ho,resolve,invoke,builtin,Builtin.len_,hf.eval hx,run_underlying (tU ht),goInt]) next
theorem Qbc {t k off b q:Nat} {x:Operand} (hg:QJ ops S o=some true)(hd:o.dst=some d)(hn:Nat.blt d n=true)(U:eH d S=S')(ho:o.op=.fieldAddr t x k)(hx:da S x=some (.pointer (some ⟨b,q,none⟩)))
  (hk:QQ P t k=some off) (next:WL P C n Q Φ H ((d,.pointer (some ⟨b,q+off,none⟩))::S') ops rest):WL P C n Q Φ H S ops (o::rest):=
 Hh hg hd hn U (λa w hf _=>by simp[execOp,ho,hf.eval hx,kW hk]) next
theorem tO {v v':Value} (hx:look S d=some v)(hS:eH d S=S')(e:v=v')(next:WL P C n Q Φ H ((d,v')::S') ops rest):WL P C n Q Φ H S ops rest:=by
 subst e;subst hS
 exact λa w hf hw=>next a w (hf.sub λx U=>by
  rcases List.mem_cons.1 U with rfl|U;· exact LB hx
  · exact(OU U).1) hw
theorem iL {φ:Fact} {k:Nat} (h:Φ[k]? =some φ):φ∈Φ:=List.mem_of_getElem? h
def kd (agg:Bool)(cs:List Value):Option Value:=match agg,cs with
 |true,cs=>some (.agg cs.toArray)
 |false,[c]=>some c
 |false,_=>none
theorem Rr {b q sz:Nat} {t:TypeId} {g:Bool} {cs:List Value} {v:Value} {w:World} (hc:pn w b q cs)(hs:QM P t=some sz)(ha:eW P t=some g)(hl:cs.length=sz)(U:kd g cs=some v):
  (loadVar t ⟨b,q,none⟩).run P w=.ok v w:=by
 unfold loadVar;simp only[Sem.run_bind,tz ha,Result.andThen_ok];unfold kd at U;split at U
 ·cases U
  have h1:(loadCells ⟨b,q,none⟩ cs.length).run P w=.ok cs.toArray w:=
   run_loadCells_list (P:=P) w ⟨b,q,none⟩ cs (λj v U=>by rw[Cg];exact hc j v U)
  rw[hl]at h1;simp[wK hs,h1]
 ·cases U;have:=hc 0 v rfl;simp at this;simp[load,Sem.run,this]
 · cases U
theorem tQ {t sz b q:Nat} {x:Operand} {g:Bool} {cs:List Value} {v:Value} (hg:QJ ops S o=some true)(hd:o.dst=some d)(hn:Nat.blt d n=true)(U:eH d S=S')(ho:o.op=.load t x)(hx:da S x=some (.pointer (some ⟨b,q,none⟩)))
  (hc:∀w,Qj C Φ H w->pn w b q cs) (hs:QM P t=some sz) (ha:eW P t=some g) (hl:cs.length=sz) (hv:kd g cs=some v) (next:WL P C n Q Φ H ((d,v)::S') ops rest):WL P C n Q Φ H S ops (o::rest):=
 Hh hg hd hn U (λa w hf hw=>by simp[execOp,ho,hf.eval hx,Instr.loadAt,Instr.sureAddr,Rr (hc w hw) hs ha hl hv]) next
theorem Ot {t sz b q:Nat} {x:Operand} {g:Bool} {all cs:List Value} {v:Value} (k j:Nat)(hg:QJ ops S o=some true)(hd:o.dst=some d)(hn:Nat.blt d n=true)(hS:eH d S=S')(ho:o.op=.load t x)
  (U:Φ[k]? =some (.cells b q all)) (hx:da S x=some (.pointer (some ⟨b,q+j,none⟩))) (qM:(all.drop j).take sz=cs)
  (hs:QM P t=some sz) (ha:eW P t=some g) (hl:cs.length=sz) (hv:kd g cs=some v) (next:WL P C n Q Φ H ((d,v)::S') ops rest):WL P C n Q Φ H S ops (o::rest):=
 tQ hg hd hn hS ho hx (λw ⟨F,N,hi⟩ i u hu=>by
  have:=(hi.facts _ (iL U)).2 (j+i) u (by rw[<-qM,List.getElem?_take]at hu;split at hu<;>first|(rw[List.getElem?_drop]at hu;exact hu)|cases hu);rwa [<-Nat.add_assoc]at this) hs ha hl hv next
theorem Xq {w:World} {g t:Nat} {all:List Value} (h:w.heap[g]? =some (.cells all.toArray t)):pn w g 0 all:=λi u hu=>by
 rw[Nat.zero_add,cell_of_row w g i _ t (0,0) h];simpa using hu
theorem LF {t sz b tb:Nat} {x:Operand} {g:Bool} {all cs:List Value} {v:Value} (k j:Nat)(hg:QJ ops S o=some true)(hd:o.dst=some d)(hn:Nat.blt d n=true)(hS:eH d S=S')(ho:o.op=.load t x)
  (U:H[k]? =some (.blk b all tb)) (hx:da S x=some (.pointer (some ⟨b,j,none⟩))) (qM:(all.drop j).take sz=cs)
  (hs:QM P t=some sz) (ha:eW P t=some g) (hl:cs.length=sz) (hv:kd g cs=some v) (next:WL P C n Q Φ H ((d,v)::S') ops rest):WL P C n Q Φ H S ops (o::rest):=
 tQ hg hd hn hS ho hx (λw ⟨F,N,hi⟩ i u hu=>by
  have:=Xq (hi.owns k _ U).2 (j+i) u (by rw[<-qM,List.getElem?_take]at hu;split at hu<;>first|(rw[List.getElem?_drop]at hu;exact hu)|cases hu);rwa [Nat.zero_add]at this) hs ha hl hv next
end rules
def rT (M:dW)(N:Nat->dW):Nat->dW
 |0=>M
 |i+1=>N i
section mem
variable {C:Ctx} {Φ H H':List Fact} {F:dW} {N:Nat->dW} {w w':World}
theorem fQ.grow (h:fQ C Φ H F N w)(U:Below w.heap.size w w'):fQ C Φ H F N w':=
 ⟨λk hk=>Nat.lt_of_lt_of_le (h.flt k hk) U.size,h.fold,h.fnew,λφ bh=>φ.good (λ_ h=>h) (λk hk=>U.block k (h.flt k hk)) (h.facts φ bh),
  λi φ hi=>φ.opgood (λ_ h=>h) (λk hk=>U.block k (h.nlt i k (List.getElem?_eq_some_iff.1 hi).1 hk).1) (λ_ h=>h) (λk hk=>U.block k (h.flt k hk)) (h.owns i φ hi),
  λi k hi hk=>⟨Nat.lt_of_lt_of_le (h.nlt i k hi hk).1 U.size,(h.nlt i k hi hk).2⟩,h.apart,h.mod.trans' (T:=λ_=>False) (Mod.of_below U) (λ_ _ h=>h.elim)⟩
theorem fQ.push (h:fQ C Φ H F N w)(φ:Fact)(M:dW)(ja:φ.op M F w)(hM:∀k,M k->k<w.heap.size/\(C.w0.heap.size<=k\/C.S0 k)/\¬F k)(hd:∀i k,i<H.length->M k->¬N i k):fQ C Φ (φ::H) F (rT M N) w:=by
 refine{h with owns:=?_,nlt:=?_,apart:=?_}
 ·intro i ψ hi;cases i with
  |zero=>cases hi;exact ja
  |succ i=>exact h.owns i ψ hi
 ·intro i k hi hk;cases i with
  |zero=>exact hM k hk
  |succ i=>exact h.nlt i k (cw hi) hk
 ·intro i j k hi hj db hk U;cases i with
  | zero=>cases j with
    |zero=>exact db rfl
    |succ j=>exact hd j k (cw hj) hk U
  | succ i=>cases j with
    |zero=>exact hd i k (cw hi) U hk
    |succ j=>exact h.apart i j k (cw hi) (cw hj) an hk U
theorem fQ.set (h:fQ C Φ H F N w)(k:Nat)(hk:k<H.length)(hm:Mod (N k) w w')(φ:Fact)(ja:φ.op (N k) F w'):fQ C Φ (H.set k φ) F N w':=by
 have hF:fy F w w':=λj U=>hm.block j (h.flt j U) (λhn=>(h.nlt k j hk hn).2.2 U);refine⟨λj U=>Nat.lt_of_lt_of_le (h.flt j U) hm.size,h.fold,h.fnew,λψ gJ=>ψ.good (λ_ h=>h) hF (h.facts ψ gJ),?_,?_,?_,?_⟩
 ·intro i ψ hi;by_cases gZ:i=k
  ·subst gZ;rw[List.getElem?_set_self hk]at hi;cases hi;exact ja
  ·rw[List.getElem?_set_ne (Ne.symm gZ)]at hi;have ei:=(List.getElem?_eq_some_iff.1 hi).1;exact ψ.opgood (λ_ h=>h) (λj U=>hm.block j (h.nlt i j ei U).1 (λhn=>h.apart i k j ei hk gZ U hn)) (λ_ h=>h) hF (h.owns i ψ hi)
 ·intro i j hi U;rw[List.length_set]at hi;exact⟨Nat.lt_of_lt_of_le (h.nlt i j hi U).1 hm.size,(h.nlt i j hi U).2⟩
 ·intro i j q hi U;rw[List.length_set]at hi U;exact h.apart i j q hi U
 · exact h.mod.trans' (T:=N k) hm (λi hi hn=>by
   rcases(h.nlt k i hk hn).2.1 with h1|h1;· omega
   · exact h1)
theorem Qj.alloc (h:Qj C Φ H w)(cs:Array Value)(t:TypeId):Qj C Φ (.blk w.heap.size cs.toList t::H) (w.alloc (.cells cs t)):=by
 obtain⟨F,N,hi⟩:=h;have U:Below w.heap.size w (w.alloc (.cells cs t)):=(Below.refl _ _).alloc (Nat.le_refl _) _;refine⟨F,rT (λk=>k=w.heap.size) N,(hi.grow U).push _ _ ⟨rfl,by simpa using heap_alloc_new w (.cells cs t)⟩ ?_ ?_⟩
 ·rintro k rfl;exact⟨ax,.inl hi.mod.size,λhf=>Nat.lt_irrefl _ (hi.flt _ hf)⟩
 ·rintro i k hl rfl hn;exact Nat.lt_irrefl _ (hi.nlt i _ hl hn).1
theorem Qj.freeze (h:Qj C Φ H w)(k:Nat) {φ:Fact} (hk:H[k]? =some φ)(hE:H.eraseIdx k=H'):Qj C (φ::Φ) H' w:=by
 obtain⟨F,N,hi⟩:=h;have bp:=(List.getElem?_eq_some_iff.1 hk).1;subst hE;have gI:∀j,F j->(F j\/N k j):=λ_ h=>.inl h;have hlen:(H.eraseIdx k).length=H.length-1:=List.length_eraseIdx_of_lt bp;refine⟨λj=>F j\/N k j,λi=>N (if i<k then i else i+1),?_,λj U=>.inl (hi.fold j U),?_,?_,?_,?_,?_,hi.mod⟩
 ·rintro j (U|U);· exact hi.flt j U
  · exact(hi.nlt k j bp U).1
 ·rintro j (U|U);· exact hi.fnew j U
  · exact .inr (hi.nlt k j bp U).2.1
 ·intro ψ gJ;rcases List.mem_cons.1 gJ with rfl|gJ;· exact ψ.opgood (λ_ h=>.inr h) (fy.refl _ _) (λ_ h=>.inl h) (fy.refl _ _) (hi.owns k ψ hk)
  · exact ψ.good gI (fy.refl _ _) (hi.facts ψ gJ)
 ·intro i ψ gJ;rw[List.getElem?_eraseIdx]at gJ;refine ψ.opgood (λ_ h=>h) (fy.refl _ _) gI (fy.refl _ _) ?_;split at gJ<;>rename_i gZ;· rw[if_pos gZ];exact hi.owns i ψ gJ
  · rw[if_neg gZ];exact hi.owns (i+1) ψ gJ
 ·intro i j hl U;rw[hlen]at hl;have h1:(if i<k then i else i+1)<H.length:=by split<;>omega
  refine⟨(hi.nlt _ j h1 U).1,(hi.nlt _ j h1 U).2.1,?_⟩;rintro(hf|hf);· exact(hi.nlt _ j h1 U).2.2 hf
  · exact hi.apart _ k j h1 bp (by split<;>omega) U hf
 ·intro i j q hl Ev db;rw[hlen]at hl Ev;exact hi.apart _ _ q (by split<;>omega) (by split<;>omega) (by split<;>split<;>omega)
theorem Qj.drop (h:Qj C Φ H w)(k:Nat)(hk:k<H.length)(hE:H.eraseIdx k=H'):Qj C Φ H' w:=
 (h.freeze k (List.getElem?_eq_getElem hk) hE).sub λφ U=>List.mem_cons_of_mem _ U
end mem
section Ug
variable {P:Program} {C:Ctx} {n:FD} {Q:Exit->Act->World->Prop} {Φ Φ':List Fact} {H H':List Fact} {S S':List (Nat×Value)} {ops:Array Oper} {rest:List Oper} {o:Oper} {d:Nat}
theorem Mm (k:Nat) {φ:Fact} (hk:H[k]? =some φ)(U:H.eraseIdx k=H')(h:WL P C n Q (φ::Φ) H' S ops rest):WL P C n Q Φ H S ops rest:=λa w hf hw=>h a w hf (hw.freeze k hk U)
theorem VG {c:Code} (k:Nat) {φ:Fact} (hk:H[k]? =some φ)(U:H.eraseIdx k=H')(h:WC P C n Q (φ::Φ) H' S c):WC P C n Q Φ H S c:=λa w hf hw=>h a w hf (hw.freeze k hk U)
theorem HS (k:Nat)(hk:Nat.blt k H.length=true)(U:H.eraseIdx k=H')(h:WL P C n Q Φ H' S ops rest):WL P C n Q Φ H S ops rest:=λa w hf hw=>h a w hf (hw.drop k (Nat.le_of_ble_eq_true hk) U)
theorem VC {P:Program} (w:World)(e:TypeId)(cs:Array Value):(newRow e cs).run P w=.ok ⟨w.heap.size,0,none⟩ (w.alloc (.cells cs e)):=by simp[newRow,newObj];rfl
theorem QL {t:Nat} {z:Value} {zs:List Value} (hg:QJ ops S o=some true)(hd:o.dst=some d)(hn:Nat.blt d n=true)(U:eH d S=S')(ho:o.op=.alloc t)(hz:gE P t=some z)(tZ:z.cells.toList=zs)
  (next:∀g,WL P C n Q Φ (.blk g zs t::H) ((d,.pointer (some ⟨g,0,none⟩))::S') ops rest):WL P C n Q Φ H S ops (o::rest):=
 BH hg hd hn U λa w hf hw=>⟨_,_,by simp[execOp,ho,Instr.alloc,VF hz,newVar,VC];exact⟨rfl,rfl⟩,_,_,hw.alloc _ _,by rw[tZ];exact next _⟩
theorem tP {t:Nat} {x:Operand} {v:Value} {zs:List Value} (hg:QJ ops S o=some true)(hd:o.dst=some d)(hn:Nat.blt d n=true)(U:eH d S=S')(ho:o.op=.box t x)(hx:da S x=some v)(tZ:v.cells.toList=zs)
  (next:∀g,WL P C n Q Φ (.blk g zs t::H) ((d,.pointer (some ⟨g,0,none⟩))::S') ops rest):WL P C n Q Φ H S ops (o::rest):=
 BH hg hd hn U λa w hf hw=>⟨_,_,by simp[execOp,ho,Instr.box,hf.eval hx,newVar,VC];exact⟨rfl,rfl⟩,_,_,hw.alloc _ _,by rw[tZ];exact next _⟩
def uG (all:List Value)(j:Nat)(cs:List Value):List Value:=all.take j++cs++all.drop (j+cs.length)
theorem Q9O (all:List Value)(j:Nat)(cs:List Value)(h:j+cs.length<=all.length):Hd all j cs=uG all j cs:=Xv cs all j h
theorem QaM {t g:Nat}:∀(cs all:List Value)(j:Nat)(w:World),w.heap[g]? =some (.cells all.toArray t)->(Fw w g j cs).heap[g]? =some (.cells (Hd all j cs).toArray t)
 |[],all,j,w,h=>h
 | c::cs,all,j,w,h=>by
   refine QaM cs (all.set j c) (j+1) _ ?_;have:=heap_setCell_same w g j _ t c h;simpa using this
theorem QaN (g:Nat):∀(cs:List Value)(j:Nat)(w:World),Mod (λk=>k=g) w (Fw w g j cs)
 |[],_,w=>Mod.refl _ _
 |c::cs,j,w=>(Mod.setCell (S:=λk=>k=g) (Mod.refl _ w) (p:=⟨g,j,none⟩) (λ_=>rfl) c).trans (QaN g cs (j+1) _)
theorem X1 {P:Program} {t g:Nat}:∀(cs all:List Value)(q j:Nat)(w:World),w.heap[g]? =some (.cells all.toArray t)->q+j+cs.length<=all.length->(∀u∈cs,u.oneCell'=true)->
   (storeCells ⟨g,q,none⟩ cs j).run P w=.ok () (Fw w g (q+j) cs)
 |[],all,q,j,w,h,_,_=>rfl
 | c::cs,all,q,j,w,h,hl,h1=>by
   have hc:w.cell? ⟨g,q+j,none⟩=some (all[q+j]'(by simp at hl;omega)):=by
    rw[cell_of_row w g _ _ t (0,0) h];simp
   have U:w.frozen? ⟨g,q+j,none⟩=false:=frozen_of_row w g (q+j) _ t h;have Nw:=h1 c ax
   have bw:(store ⟨g,q+j,none⟩ c).run P w=.ok () (w.setCell ⟨g,q+j,none⟩ c):=by
    unfold store;cases c<;>first|(simp[Value.oneCell']at Nw;done)|simp[Sem.run,hc,U]
   unfold storeCells;rw[Cg];simp only[Sem.run_bind,bw,Result.andThen_ok]
   have h2:(w.setCell ⟨g,q+j,none⟩ c).heap[g]? =some (.cells (all.set (q+j) c).toArray t):=by
    have:=heap_setCell_same w g (q+j) _ t c h;simpa using this
   have:=X1 (P:=P) cs (all.set (q+j) c) q (j+1) _ h2 (by simp at hl⊢;omega) (λu hu=>h1 u (by simp[hu]));rw[this];rfl
theorem Fj (hg:QJ ops S o=some true)(hd:o.dst=none)(run:∀a w,fj n S a->Qj C Φ H w->∃w',(execOp a.eval o).run P w=.ok .skip w'/\Qj C Φ' H' w')(next:WL P C n Q Φ' H' S ops rest):WL P C n Q Φ H S ops (o::rest):=by
 intro a w U hw;obtain⟨w',hr,h1⟩:=run a w U hw;refine wpList_step λK hK=>?_
 rw[GW U hg,if_pos rfl];unfold Oper.wp;rw[hr,Oper.upon_skip,hd];exact hK _ _ (next _ _ U h1)
theorem Qj.store {w:World} (hw:Qj C Φ H w) {k g t:Nat} {all cs all':List Value} (j:Nat)(hk:H[k]? =some (.blk g all t))(hl:j+cs.length<=all.length)(ha:uG all j cs=all')(hH:H.set k (.blk g all' t)=H'):Qj C Φ H' (Fw w g j cs):=by
 obtain⟨F,N,hi⟩:=hw;have bp:=(List.getElem?_eq_some_iff.1 hk).1;have U:=hi.owns k _ hk;subst hH;exact⟨F,N,hi.set k bp ((QaN g cs j w).mono λi _ e=>by subst e;exact U.1) _ ⟨U.1,by rw[<-ha,<-Q9O _ _ _ hl];exact QaM cs all j w U.2⟩⟩
theorem Bt {t sz b tb:Nat} {x y:Operand} {all cs all':List Value} {v:Value} (k j:Nat)(hg:QJ ops S o=some true)(hd:o.dst=none)(ho:o.op=.store t x y)
  (U:H[k]? =some (.blk b all tb)) (hx:da S x=some (.pointer (some ⟨b,j,none⟩))) (hy:da S y=some v) (hv:v.cells.toList=cs) (hs:QM P t=some sz) (hl:Nat.beq cs.length sz=true) (h1:cs.all (·.oneCell')=true)
  (hle:Nat.ble (j+sz) all.length=true) (ha:uG all j cs=all') (hH:H.set k (.blk b all' tb)=H') (next:WL P C n Q Φ H' S ops rest):WL P C n Q Φ H S ops (o::rest):=by
 have Ev:=Nat.eq_of_beq_eq_true hl;have YR:=Nat.le_of_ble_eq_true hle;refine Fj hg hd (λa w hf hw=>⟨_,?_,hw.store j U an ha hH⟩) next
 obtain⟨F,N,hi⟩:=hw;have ja:=hi.owns k _ U;have:=X1 (P:=P) cs all j 0 w ja.2 an (λu hu=>List.all_eq_true.1 h1 u hu);have iJ:v.cells.size=sz:=by rw[<-Ev,<-hv];simp
 simp only[execOp,ho,hf.eval hx,hf.eval hy,Instr.storeAt,Instr.sureAddr,storeVar,Sem.run_bind,Sem.run_pure,Result.andThen_ok,wK hs,iJ,hv];simp[this]
end Ug
end
section
open Go.RowKit
def rD (C:Ctx)(R:Value->List Fact->List Fact->Prop)(e:Ending)(w:World):Prop:=∃v U Hr,e=.returned v/\R v U Hr/\Qj C U Hr w
def QA (P:Program)(f:FuncId)(args:List Value)(Φ U:List Fact)(R:Value->List Fact->List Fact->Prop):Prop:=
 ∀ (F:dW) (N:Nat->dW) (w:World),(∀k,F k->k<w.heap.size)->(∀φ∈Φ,φ.p F w)->(∀(i:Nat) (h:Fact),U[i]? =some h->h.op (N i) F w)->
   (∀i k,i<U.length->N i k->k<w.heap.size/\¬F k)->(∀i j k,i<U.length->j<U.length->i≠j->N i k->¬N j k)->
   Calls P f args.toArray w (rD ⟨w,λk=>∃i,i<U.length/\N i k,F⟩ R)
def Bz:Nat->List Value->List (Nat×Value)
 |_,[]=>[]
 |k,v::l=>(k,v)::Bz (k+1) l
theorem tS:∀{l:List Value} {k:Nat} {x:Nat×Value},x∈Bz k l->k<=x.1/\l[x.1-k]? =some x.2
 | v::l,k,x,h=>by
   rcases List.mem_cons.1 h with rfl|h;· simp
   ·obtain⟨h1,U⟩:=tS h;refine⟨an,?_⟩;rw[show x.1-k=(x.1-(k+1))+1 from by omega];simpa using U
theorem Qi {P:Program} {f:FuncId} {fn:Func} {body:Code} {n:Nat} {args:List Value} {S:List (Nat×Value)} {Φ pT:List Fact} {R:Value->List Fact->List Fact->Prop}
  (hf:P.funcs[f]? =some fn) (hb:fn.body=some body) (hn:fn.ntmps=n) (hle:Nat.ble args.length n=true) (hS:Bz 0 args=S) (h:∀C,WC P C ⟨n,[]⟩ (bodyPost P fn (rD C R)) Φ pT S body):QA P f args Φ pT R:=by
 intro F N w hF dV hH bp sy;refine calls_of_wp hf hb (h ⟨w,λk=>∃i,i<pT.length/\N i k,F⟩ _ w ⟨?_,rfl,?_⟩ ⟨F,N,hF,λ_ h=>h,λ_ h=>.inl h,dV,hH,λi k hi hk=>⟨(bp i k hi hk).1,.inr ⟨i,hi,hk⟩,(bp i k hi hk).2⟩,sy,Mod.refl _ _⟩)
 ·have:=Nat.le_of_ble_eq_true hle;simp[hn];try omega
 ·intro x hx;rw[<-hS]at hx;obtain⟨_,U⟩:=tS hx;rw[Nat.sub_zero]at U;have hl:=(List.getElem?_eq_some_iff.1 U).1;rw[Array.getElem?_append_left (cw hl)];simpa using U
def QK (H:List Fact)(l:List Nat):List Fact:=l.filterMap λi=>H[i]?
def fD:List Nat->Nat->Bool
 |[],_=>true
 |i::l,m=>Nat.blt i m&& !(l.any λj=>Nat.beq i j)&&fD l m
theorem Xp:∀{l:List Nat} {m:Nat},fD l m=true->(∀i∈l,i<m)/\l.Nodup
 |[],_,_=>⟨ax,List.nodup_nil⟩
 | i::l,m,h=>by
   simp only[fD,Bool.and_eq_true,Bool.not_eq_true',List.any_eq_false]at h;obtain⟨⟨h1,h2⟩,h3⟩:=h;obtain⟨h4,h5⟩:=Xp h3;refine⟨λj U=>?_,List.nodup_cons.2 ⟨λhm=>h2 i hm (Nat.beq_refl i),h5⟩⟩;rcases List.mem_cons.1 U with rfl|U;· exact Nat.le_of_ble_eq_true h1
   · exact h4 j U
theorem VA (H:List Fact):∀(l:List Nat),(∀i∈l,i<H.length)->(QK H l).length=l.length/\∀(i:Nat)(h:Fact),(QK H l)[i]? =some h->∃j,l[i]? =some j/\H[j]? =some h
 |[],_=>⟨rfl,λi h hi=>by simp[QK]at hi⟩
 | j::l,U=>by
   obtain⟨h1,h2⟩:=VA H l λi hi=>U i (by simp[hi]);have hj:H[j]? =some (H[j]'(U j ax)):=List.getElem?_eq_getElem _;have he:QK H (j::l)=H[j]'(U j ax)::QK H l:=by simp[QK,hj]
   rw[he];refine⟨by simp[h1],λi h hi=>?_⟩;cases i with
   |zero=>exact⟨j,rfl,by simp at hi;rw[hj,hi]⟩
   |succ i=>exact h2 i h (cw hi)
theorem vG {l:List Nat} (h:l.Nodup) {i j a:Nat} (hi:l[i]? =some a)(hj:l[j]? =some a):i=j:=by
 obtain⟨h1,U⟩:=List.getElem?_eq_some_iff.1 hi;obtain⟨h3,h4⟩:=List.getElem?_eq_some_iff.1 hj;have:=U.trans h4.symm;exact(List.getElem_inj h).1 this
section
variable {C:Ctx} {Φ H:List Fact} {F:dW} {N:Nat->dW} {w:World}
theorem fQ.pick (h:fQ C Φ H F N w)(l:List Nat)(hl:fD l H.length=true):fQ C Φ (QK H l) F (λi=>N (l.getD i 0)) w:=by
 obtain⟨h1,h2⟩:=Xp hl;obtain⟨h3,h4⟩:=VA H l h1
 have key:∀i,i<(QK H l).length->∃j,l[i]? =some j/\l.getD i 0=j/\j<H.length:=by
  intro i hi;rw[h3]at hi;exact⟨l[i],List.getElem?_eq_getElem hi,by simp[hi],h1 _ (List.getElem_mem hi)⟩
 refine{h with owns:=?_,nlt:=?_,apart:=?_}
 ·intro i φ hi;obtain⟨j,U,bh⟩:=h4 i φ hi;have:l.getD i 0=j:=by simp[List.getD,U]
  simp only[this];exact h.owns j φ bh
 ·intro i k hi hk;obtain⟨j,_,e,U⟩:=key i hi;simp only[e]at hk;exact h.nlt j k U hk
 ·intro i i' k hi ei db hk dx;obtain⟨j,U,e,Hm⟩:=key i hi;obtain⟨j',Np,e',a0F⟩:=key i' ei;simp only[e,e']at hk dx;exact h.apart j j' k Hm a0F (λejj=>db (by subst ejj;exact vG h2 U Np)) hk dx
end
theorem Qj.pick {C:Ctx} {Φ H:List Fact} {w:World} (h:Qj C Φ H w)(l:List Nat)(U:fD l H.length=true):Qj C Φ (QK H l) w:=by
 obtain⟨F,N,hi⟩:=h;exact⟨F,_,hi.pick l U⟩
theorem fQ.after {C:Ctx} {Φ H:List Fact} {F:dW} {N:Nat->dW} {w w':World} (h:fQ C Φ H F N w) {l m:List Nat} (hl:fD (l++m) H.length=true) {bo Hr:List Fact}
  (hr:Qj ⟨w,λk=>∃i,i<(QK H l).length/\N (l.getD i 0) k,F⟩ bo Hr w'):Qj C (bo++Φ) (Hr++QK H m) w':=by
 obtain⟨F',N',hr⟩:=hr;obtain⟨h1,h2⟩:=Xp hl;obtain⟨h3,h4⟩:=VA H l λi hi=>h1 i (by simp[hi]);obtain⟨h5,h6⟩:=VA H m λi hi=>h1 i (by simp[hi])
 have hS:∀k,(∃i,i<(QK H l).length/\N (l.getD i 0) k)->∃j,j∈l/\j<H.length/\N j k:=by
  rintro k ⟨i,hi,hk⟩;rw[h3]at hi;refine⟨l[i],List.getElem_mem hi,h1 _ (by simp[List.getElem_mem hi]),?_⟩;simpa[List.getD,hi]using hk
 have hSF:∀k,(∃i,i<(QK H l).length/\N (l.getD i 0) k)->¬F k:=λk hk hf=>by
  obtain⟨j,_,U,hn⟩:=hS k hk;exact(h.nlt j k U hn).2.2 hf
 have hSm:∀j,j∈m->∀k,N j k->¬∃i,i<(QK H l).length/\N (l.getD i 0) k:=λj U k hk hs=>by
  obtain⟨j',Np,bp,hn⟩:=hS k hs
  have db:j≠j':=by
   rintro rfl;exact(List.nodup_append.1 h2).2.2 j Np j U rfl
  exact h.apart j j' k (h1 j (by simp[U])) bp db hk hn
 have aF:fy F w w':=λk hk=>hr.mod.block k (h.flt k hk) λhs=>hSF k hs hk;have aN:∀j,j∈m->fy (N j) w w':=λj U k hk=>hr.mod.block k (h.nlt j k (h1 j (by simp[U])) hk).1 (hSm j U k hk);have hmi:∀i,i<m.length->∃j,m[i]? =some j/\j∈m/\m.getD i 0=j:=λi hi=>⟨m[i],List.getElem?_eq_getElem hi,List.getElem_mem hi,by simp[hi]⟩
 refine⟨F',λi=>if i<Hr.length then N' i else N (m.getD (i-Hr.length) 0),hr.flt,λk hk=>hr.fold k (h.fold k hk),?_,?_,?_,?_,?_,?_⟩
 ·intro k hk;rcases hr.fnew k hk with h0|h0|h0;· exact h.fnew k h0
  · exact .inr (.inl (Nat.le_trans h.mod.size h0))
  ·obtain⟨j,_,U,hn⟩:=hS k h0;exact .inr (h.nlt j k U hn).2.1
 ·intro φ bh;rcases List.mem_append.1 bh with bh|bh;· exact hr.facts φ bh
  · exact φ.good hr.fold aF (h.facts φ bh)
 ·intro i φ hi;by_cases bp:i<Hr.length
  ·rw[List.getElem?_append_left bp]at hi;simp only[bp,if_true];exact hr.owns i φ hi
  ·rw[List.getElem?_append_right an]at hi;simp only[bp,if_false];obtain⟨j,U,bh⟩:=h6 _ φ hi;have TE:j∈m:=List.mem_of_getElem? U;have e:m.getD (i-Hr.length) 0=j:=by simp[List.getD,U]
   rw[e];exact φ.opgood (λ_ h=>h) (aN j TE) hr.fold aF (h.owns j φ bh)
 ·intro i k hi hk;by_cases bp:i<Hr.length
  ·simp only[bp,if_true]at hk;obtain⟨a,b,c⟩:=hr.nlt i k bp hk;refine⟨a,?_,c⟩;rcases b with b|b;· exact .inl (Nat.le_trans h.mod.size b)
   ·obtain⟨j,_,U,hn⟩:=hS k b;exact(h.nlt j k U hn).2.1
  ·simp only[bp,if_false]at hk;have ei:i-Hr.length<m.length:=by rw[List.length_append,h5]at hi;omega
   obtain⟨j,_,TE,e⟩:=hmi _ ei;rw[e]at hk;obtain⟨a,b,c⟩:=h.nlt j k (h1 j (by simp[TE])) hk;refine⟨Nat.lt_of_lt_of_le a hr.mod.size,b,λhf=>?_⟩;rcases hr.fnew k hf with h0|h0|h0;· exact c h0
   · exact absurd a (by simp at h0;omega)
   · exact hSm j TE k hk h0
 ·have Pc:∀i j k,i<Hr.length->¬j<Hr.length->j<Hr.length+m.length->N' i k->¬N (m.getD (j-Hr.length) 0) k:=by
   intro i j k hi U Np hk dx;obtain⟨j',_,TE,e⟩:=hmi (j-Hr.length) an;rw[e]at dx;obtain⟨_,b,_⟩:=hr.nlt i k hi hk;rcases b with b|b;· exact absurd (h.nlt j' k (h1 j' (by simp[TE])) dx).1 (by simp at b;omega)
   · exact hSm j' TE k dx b
  intro i j k hi U db hk dx;rw[List.length_append,h5]at hi U;by_cases bp:i<Hr.length<;>by_cases xv:j<Hr.length
  ·simp only[bp,xv,if_true]at hk dx;exact hr.apart i j k bp xv db hk dx
  ·simp only[bp,xv,if_true,if_false]at hk dx;exact Pc i j k bp xv U hk dx
  ·simp only[bp,xv,if_true,if_false]at hk dx;exact Pc j i k xv bp hi dx hk
  ·simp only[bp,xv,if_false]at hk dx;obtain⟨a,ha,ham,ea⟩:=hmi (i-Hr.length) an;obtain⟨b,hb,Hk,eb⟩:=hmi (j-Hr.length) an;rw[ea]at hk;rw[eb]at dx;refine h.apart a b k (h1 a (by simp[ham])) (h1 b (by simp[Hk])) (λeab=>db ?_) hk dx;subst eab;have:=vG (List.nodup_append.1 h2).2.1 ha hb;omega
 ·refine h.mod.trans' hr.mod λi hi hs=>?_;obtain⟨j,_,U,hn⟩:=hS i hs;rcases(h.nlt j i U hn).2.1 with h0|h0;· omega
  · exact h0
def vk (S:List (Nat×Value)):List Operand->Option (List Value)
 |[]=>some []
 | x::l=>match da S x,vk S l with
   |some v,some vs=>some (v::vs)
   |_,_=>none
theorem fj.evalL {n:FD} {S:List (Nat×Value)} {a:Act} (h:fj n S a):∀{l:List Operand} {vs:List Value},vk S l=some vs->l.map a.eval=vs
 |[],_,e=>by cases e;rfl
 | x::l,vs,e=>by
   unfold vk at e;split at e;· rename_i v vs' hv U;cases e;simp[h.eval hv,h.evalL U]
   · cases e
def QW (P:Program)(f:FuncId):Bool:=match P.funcs[f]? with
 |some fn=>fn.body.isSome&& !(fn.name== "runtime.NumGoroutine")
 |none=>false
theorem VH {P:Program} {f:FuncId} (h:QW P f=true)(args:Array Value)(w:World):(callFunc f args).run P w=.ok (.enter f args) w:=by
 unfold QW at h;split at h
 ·rename_i fn hf;simp only[Bool.and_eq_true,Bool.not_eq_true']at h;have U:fn.body.isNone=false:=by cases U:fn.body<;>simp_all
  have hn:¬fn.name= "runtime.NumGoroutine":=λe=>by rw[e]at h;simp at h
  have ku:¬fn.body=none:=λe=>by rw[e]at U;simp at U
  simp[callFunc,hf,hn,ku]
 · cases h
section rules
variable {P:Program} {C:Ctx} {n:FD} {Q:Exit->Act->World->Prop} {Φ Φ':List Fact} {H H':List Fact} {S S':List (Nat×Value)} {ops:Array Oper} {rest:List Oper} {o:Oper} {d:Nat} {c x y:Code}
theorem FM {f:FuncId} {xs:Array Operand} {ts:Array TypeId} {args:List Value} {Φf Hf:List Fact} {R:Value->List Fact->List Fact->Prop} (l m:List Nat)(hg:QJ ops S o=some true)
  (ho:o.op=.call {callee:=.value (.func f),args:=xs,argTypes:=ts}) (hx:vk S xs.toList=some args) (ji:QW P f=true)
  (hH:QK H l=Hf) (spec:QA P f args Φf Hf R) (dV:∀F w,(∀ψ∈Φ,ψ.p F w)->∀φ∈Φf,φ.p F w) (hl:fD (l++m) H.length=true) (hm:QK H m=H')
  (next:∀v U Hr,R v U Hr->∀a w,fj n S a->Qj C (U++Φ) (Hr++H') w->wpList P ops Q rest (a.put o.dst v) w):WL P C n Q Φ H S ops (o::rest):=by
 subst hH;subst hm;intro a w hf ⟨F,N,hi⟩
 have iU:fD l H.length=true:=by
  clear spec next
  have:∀(l:List Nat),fD (l++m) H.length=true->fD l H.length=true:=by
   intro l;induction l with
   |nil=>intro _;rfl
   | cons i l ih=>
     intro h;simp only[List.cons_append,fD,Bool.and_eq_true,Bool.not_eq_true',List.any_append,Bool.or_eq_false_iff]at h⊢;exact⟨⟨h.1.1,h.1.2.1⟩,ih h.2⟩
  exact this l hl
 have hp:=hi.pick l iU;have eh:=spec F _ w hi.flt (λφ bh=>dV F w hi.facts φ bh) hp.owns (λi k gZ hk=>⟨(hp.nlt i k gZ hk).1,(hp.nlt i k gZ hk).2.2⟩) hp.apart;refine wpList_step λK hK=>?_;rw[GW hf hg,if_pos rfl];unfold Oper.wp
 have fq:xs.map a.eval=args.toArray:=by
  have:=hf.evalL hx;have h0:xs=xs.toList.toArray:=ax
  rw[<-this,h0,List.map_toArray]
 have eQ:(execOp a.eval o).run P w=.ok (.enter f args.toArray) w:=by
  have Hl:a.eval (.func f)=.func (.func f) #[] #[]:=rfl
  have h2:(resolve a.eval {callee:=.value (.func f),args:=xs,argTypes:=ts} o.type).run P w=.ok {target:=.fn (.func f) #[],args:=args.toArray} w:=by
   simp[resolve,Hl,Deferred.ofValue,fq]
  unfold execOp;simp only[ho,Sem.run_bind,h2,Result.andThen_ok];simp[invoke,VH ji]
 rw[eQ,Oper.upon_enter];refine eh.mono ?_;rintro e w' ⟨v,U,Hr,rfl,hR,hh⟩;exact hK _ _ (next v U Hr hR a w' hf (hi.after hl hh))
theorem yy {f:FuncId} {xs:Array Operand} {ts:Array TypeId} {args:List Value} {Φf Hf:List Fact} {R:Value->List Fact->List Fact->Prop} (l m:List Nat)(hg:QJ ops S o=some true)(hd:o.dst=some d)(hn:Nat.blt d n=true)(hS:eH d S=S')
  (ho:o.op=.call {callee:=.value (.func f),args:=xs,argTypes:=ts}) (hx:vk S xs.toList=some args) (ji:QW P f=true)
  (hH:QK H l=Hf) (spec:QA P f args Φf Hf R) (dV:∀F w,(∀ψ∈Φ,ψ.p F w)->∀φ∈Φf,φ.p F w) (hl:fD (l++m) H.length=true) (hm:QK H m=H')
  (next:∀v U Hr,R v U Hr->WL P C n Q (U++Φ) (Hr++H') ((d,v)::S') ops rest):WL P C n Q Φ H S ops (o::rest):=
 FM l m hg ho hx ji hH spec dV hl hm λv U Hr hR a w hf hw=>by rw[hd];exact next v U Hr hR _ w (hf.put (Nat.le_of_ble_eq_true hn) hS) hw
theorem sR {P:Program} {c:Code} {Q:Exit->Act->World->Prop} (I:Nat->Act->World->Prop)(round:∀m a w,I m a w->c.wp P (Exit.then (λa' w'=>∃m',m'<m/\I m' a' w') Q) a w):
  ∀m a w,I m a w->(Code.loop c).wp P Q a w:=by
 intro m a w h;intro b k cs
 have key:∀m a w,I m a w->∃e a' w',Q e a' w'/\Arrives P (lone (b.at a (.code c::.inLoop c::k)) cs w) b k cs e a' w':=by
  intro m;induction m using Nat.strongRecOn with
  | _ m ih=>
    intro a w hI;obtain⟨e,uu,uL,U,zG⟩:=round m a w hI b (.inLoop c::k) cs;cases e with
    | normal=>
      obtain⟨m',bp,Yq⟩:=U;obtain⟨a0p,a0k,DU,Z6,Nc⟩:=ih m' bp uu uL Yq;exact⟨a0p,a0k,DU,Z6,.of_steps (Steps.trans zG (.one step_inLoop)) Nc⟩
    |exit id=>exact⟨_,uu,uL,U,.pass (x:=.inLoop c) rfl (λ_ _=>.inl ax) zG⟩
    |goto l=>exact⟨_,uu,uL,U,.pass (x:=.inLoop c) rfl (λ_ _=>.inl ax) zG⟩
    |ret=>exact⟨_,uu,uL,U,.pass (x:=.inLoop c) rfl (λ_ _=>.inl ax) zG⟩
    |panic ch=>exact⟨_,uu,uL,U,.pass (x:=.inLoop c) rfl (λ_ _=>.inl ax) zG⟩
    |outgrown=>exact⟨_,uu,uL,U,.pass (x:=.inLoop c) rfl (λ_ _=>.inl ax) zG⟩
 obtain⟨e,a',w',U,zG⟩:=key m a w h;exact⟨e,a',w',U,.of_steps (.one step_loop) zG⟩
def nX {σ:Type} (ok:σ->Prop)(q9:σ->List (Nat×Value))(gw pU:σ->List Fact)(C:Ctx)(n:FD)(s:σ)(a:Act)(w:World):Prop:=ok s/\fj n (q9 s) a/\Qj C (gw s) (pU s) w
section
variable {σ:Type} {ok:σ->Prop} {q9:σ->List (Nat×Value)} {gw pU:σ->List Fact} {μ:σ->Nat}
theorem AZ (s':σ)(h0:ok s')(l:List Nat)(hS:gC l S=q9 s')(U:∀F w,(∀ψ∈Φ,ψ.p F w)->∀φ∈gw s',φ.p F w)(hH:H=pU s') {a:Act} {w:World} (hf:fj n S a)(hw:Qj C Φ H w):nX ok q9 gw pU C n s' a w:=by
 obtain⟨F,N,hi⟩:=hw;subst hH;exact⟨h0,hf.sub λx hx=>Qc0 (by rw[hS];exact hx),F,N,{hi with facts:=U F w hi.facts}⟩
theorem RU (ok:σ->Prop)(μ:σ->Nat)(q9:σ->List (Nat×Value))(gw pU:σ->List Fact)(U:σ)(h0:ok U)(l:List Nat)(hS:gC l S=q9 U)(dV:∀F w,(∀ψ∈Φ,ψ.p F w)->∀φ∈gw U,φ.p F w)(hH:H=pU U)
  (round:∀s,ok s->WC P C n (Exit.then (λa' w'=>∃s',μ s'<μ s/\nX ok q9 gw pU C n s' a' w') Q) (gw s) (pU s) (q9 s) c):WC P C n Q Φ H S (.loop c):=by
 intro a w hf hw;refine sR (λm a w=>∃s,μ s=m/\nX ok q9 gw pU C n s a w) ?_ (μ U) a w ⟨U,rfl,AZ U h0 l hS dV hH hf hw⟩;rintro m a w ⟨s,rfl,cn,hf,hw⟩;refine wp_mono (round s cn a w hf hw) λe a' w' hq=>?_
 cases e with
 |normal=>obtain⟨s',h1,h2⟩:=hq;exact⟨_,h1,s',rfl,h2⟩
 |_=>exact hq
theorem yv (ok:σ->Prop)(q9:σ->List (Nat×Value))(gw pU:σ->List Fact)(hx:WC P C n (Exit.then (λa w=>∃s,nX ok q9 gw pU C n s a w) Q) Φ H S x)(hy:∀s,ok s->WC P C n Q (gw s) (pU s) (q9 s) y):WC P C n (Exit.then (λa w=>y.wp P Q a w) Q) Φ H S x:=
 fun a w hf hw=>wp_mono (hx a w hf hw) λe a' w' U=>by
  cases e with
  |normal=>obtain⟨s,h1,h2,h3⟩:=U;exact hy s h1 a' w' h2 h3
  |_=>exact U
theorem Qk {H':List Fact} {e:Exit} (l:List Nat)(hl:fD l H.length=true)(hH:QK H l=H')(h:WE C n Q Φ H' S e):WE C n Q Φ H S e:=λa w U hw=>h a w U (by rw[<-hH];exact hw.pick l hl)
theorem Ou {H':List Fact} (l:List Nat)(hl:fD l H.length=true)(hH:QK H l=H')(h:WL P C n Q Φ H' S ops rest):WL P C n Q Φ H S ops rest:=λa w U hw=>h a w U (by rw[<-hH];exact hw.pick l hl)
theorem jS (s':σ)(h0:ok s')(l:List Nat)(hS:gC l S=q9 s')(U:∀F w,(∀ψ∈Φ,ψ.p F w)->∀φ∈gw s',φ.p F w)(hH:H=pU s'):
 WE C n (Exit.then (λa w=>∃s,nX ok q9 gw pU C n s a w) Q) Φ H S .normal:=λa w hf hw=>⟨s',AZ s' h0 l hS U hH hf hw⟩
end
def HY (tmps:Array Value):ResultVar->Sem Value
 | .tmp t=>pure (tmps.getD t undef)
 | .cell a t=>do loadVar t (<-asAddr (tmps.getD a undef))
theorem QaJ (fn:Func)(tmps:Array Value):results fn tmps=(do let vs <-fn.results.mapM (HY tmps);pure (if h:vs.size=1 then vs[0]else .tuple vs)):=by
 unfold results;congr
def zb (P:Program)(C:Ctx)(n:FD)(Φ H:List Fact)(S:List (Nat×Value))(r:ResultVar)(v:Value):Prop:=
 ∀a w,fj n S a->Qj C Φ H w->(HY a.tmps r).run P w=.ok v w
theorem iO {t:Nat} {v:Value} (h:look S t=some v):zb P C n Φ H S (.tmp t) v:=λa w U _=>by
 have:=U.eval (x:=.tmp t) h;simp only[Act.eval]at this;simp[HY,this]
theorem lP {q t b tb sz:Nat} {g:Bool} {all:List Value} {v:Value} (k:Nat)(hq:look S q=some (.pointer (some ⟨b,0,none⟩)))(U:H[k]? =some (.blk b all tb))(hs:QM P t=some sz)(ha:eW P t=some g)(hl:Nat.beq all.length sz=true)(hv:kd g all=some v):
  zb P C n Φ H S (.cell q t) v:=λa w hf ⟨F,N,hi⟩=>by
 have:=hf.eval (x:=.tmp q) hq;simp only[Act.eval]at this;simp only[HY,this,Sem.run_bind];simp[asAddr,Rr (Xq (hi.owns k _ U).2) hs ha (Nat.eq_of_beq_eq_true hl) hv]
theorem ti {fn:Func} {m:Nat} {R:Value->List Fact->List Fact->Prop} {v:Value} {U Hr:List Fact} (l:List Nat)(hr:∀a w,fj ⟨m,[]⟩ S a->Qj C Φ H w->(results fn a.tmps).run P w=.ok v w)(hR:R v U Hr)(dV:∀F w,(∀ψ∈Φ,ψ.p F w)->∀φ∈U,φ.p F w)
  (hl:fD l H.length=true) (hH:QK H l=Hr) {e:Exit} (he:e=.ret\/e=.normal):WE C ⟨m,[]⟩ (bodyPost P fn (rD C R)) Φ H S e:=by
 subst hH;intro a w hf hw
 have h1:bodyPost P fn (rD C R) .ret a w:=by
  refine⟨hf.defers,v,hr a w hf hw,v,U,_,rfl,hR,?_⟩;obtain⟨F,N,hi⟩:=hw.pick l hl;exact⟨F,N,{hi with facts:=dV F w hi.facts}⟩
 rcases he with rfl|rfl<;>exact h1
theorem ry {fn:Func} {m:Nat} {R:Value->List Fact->List Fact->Prop} {v:Value} {U Hr:List Fact} {r:ResultVar} (l:List Nat)(la:fn.results=#[r])(h1:zb P C ⟨m,[]⟩ Φ H S r v)(hR:R v U Hr)(dV:∀F w,(∀ψ∈Φ,ψ.p F w)->∀φ∈U,φ.p F w)
  (hl:fD l H.length=true) (hH:QK H l=Hr) {e:Exit} (he:e=.ret\/e=.normal):WE C ⟨m,[]⟩ (bodyPost P fn (rD C R)) Φ H S e:=
 ti l (λa w hf hw=>by
  have e1:=h1 a w hf hw;simp[QaJ,la,e1]) hR dV hl hH he
theorem tj {fn:Func} {m:Nat} {R:Value->List Fact->List Fact->Prop} {U Hr:List Fact} (l:List Nat)(la:fn.results=#[])(hR:R (.tuple #[]) U Hr)(dV:∀F w,(∀ψ∈Φ,ψ.p F w)->∀φ∈U,φ.p F w)
  (hl:fD l H.length=true) (hH:QK H l=Hr) {e:Exit} (he:e=.ret\/e=.normal):WE C ⟨m,[]⟩ (bodyPost P fn (rD C R)) Φ H S e:=
 ti l (λa w hf hw=>by simp[QaJ,la]) hR dV hl hH he
theorem tV {fn:Func} {m:Nat} {R:Value->List Fact->List Fact->Prop} {v u:Value} {U Hr:List Fact} {r s:ResultVar} (l:List Nat)(la:fn.results=#[r,s])(h1:zb P C ⟨m,[]⟩ Φ H S r v)(h2:zb P C ⟨m,[]⟩ Φ H S s u)(hR:R (.tuple #[v,u]) U Hr)(dV:∀F w,(∀ψ∈Φ,ψ.p F w)->∀φ∈U,φ.p F w)
  (hl:fD l H.length=true) (hH:QK H l=Hr) {e:Exit} (he:e=.ret\/e=.normal):WE C ⟨m,[]⟩ (bodyPost P fn (rD C R)) Φ H S e:=
 ti l (λa w hf hw=>by
  have e1:=h1 a w hf hw;have e2:=h2 a w hf hw;simp[QaJ,la,e1,e2]) hR dV hl hH he
end rules
end
section
open Go.RowKit
def po {α Λ:Type} (R:eI α)(cells:α->Λ->List Value)(pure:α->Λ->Prop)(facts:α->Λ->List Fact):Prop:=
 ∀F w cs x,R.p F w cs x->∃r:Λ,cs=cells x r/\pure x r/\∀φ∈facts x r,φ.p F w
def gV (P:Program)(e:Nat):Option (Value×Nat×Nat):=match P.info? e with
 |some i=>i.zero.map λz=>(z,i.size,i.bytes)
 |none=>none
theorem Xw {P:Program} {e:Nat} {z:Value} {sz U:Nat} (h:gV P e=some (z,sz,U)):∃i,P.info? e=some i/\i.zero=some z/\i.size=sz/\i.bytes=U:=by
 unfold gV at h;split at h
 ·rename_i i hi;cases hz:i.zero with
  |none=>simp[hz]at h
  |some z'=>simp[hz]at h;exact⟨i,hi,by rw[hz,h.1],h.2.1,h.2.2⟩
 · cases h
section idx
variable {P:Program} {C:Ctx} {n:FD} {Q:Exit->Act->World->Prop} {Φ Φ':List Fact} {H H':List Fact} {S S':List (Nat×Value)} {ops:Array Oper} {rest:List Oper} {o:Oper} {d:Nat} {c:Code}
theorem vJ {Λ:Type} {pure:Λ->Prop} {facts:Λ->List Fact} {w:World} (h:Qj C Φ H w)(ja:∀F,(∀ψ∈Φ,ψ.p F w)->∃r:Λ,pure r/\∀φ∈facts r,φ.p F w):∃r,pure r/\Qj C (facts r++Φ) H w:=by
 obtain⟨F,N,hi⟩:=h;obtain⟨r,h1,h2⟩:=ja F hi.facts;refine⟨r,h1,F,N,{hi with facts:=λφ U=>?_}⟩;rcases List.mem_append.1 U with U|U;· exact h2 φ U
 · exact hi.facts φ U
theorem nT {α Λ:Type} {R:eI α} {cells:α->Λ->List Value} {pure:α->Λ->Prop} {facts:α->Λ->List Fact} {cs:List Value} {x:α} (op:po R cells pure facts)(k:Nat)(hk:Φ[k]? =some (.rep R cs x))
  (next:∀r:Λ,cs=cells x r->pure x r->WL P C n Q (facts x r++Φ) H S ops rest):WL P C n Q Φ H S ops rest:=λa w hf hw=>by
 obtain ⟨r,⟨h1,U⟩,h3⟩:=vJ (pure:=λr=>cs=cells x r/\pure x r) (facts:=facts x) hw λF dV=>by
  obtain⟨r,h1,U,h3⟩:=op F w cs x (dV _ (iL hk));exact⟨r,⟨h1,U⟩,h3⟩
 exact next r h1 U a w hf h3
theorem nL {p:Prop} (hp:∀F w,(∀ψ∈Φ,ψ.p F w)->p)(next:p->WC P C n Q Φ H S c):WC P C n Q Φ H S c:=λa w U hw=>by
 have:p:=by obtain⟨F,N,hi⟩:=hw;exact hp F w hi.facts
 exact next this a w U hw
theorem Lg {α:Type} {t e sz:Nat} {x i:Operand} {R:eI α} {p:Option Addr} {cp:Nat} {l:List α} {ik:IntKind} {z:Int} (k j:Nat)(hg:QJ ops S o=some true)(hd:o.dst=some d)(hn:Nat.blt d n=true)(hS:eH d S=S')(ho:o.op=.indexAddr t x i)
  (bh:Φ[k]? =some (.sli sz R p cp l)) (hx:da S x=some (.slice p l.length cp)) (hi:da S i=some (.int ik z)) (hz:z=(j:Int)) (hj:j<l.length) (he:fJ P t=some e) (hs:QM P e=some sz)
  (next:∀b q cs y,l[j]? =some y->cs.length=sz->WL P C n Q (.cells b q cs::.rep R cs y::Φ) H ((d,.pointer (some ⟨b,q,none⟩))::S') ops rest):WL P C n Q Φ H S ops (o::rest):=by
 refine BH hg hd hn hS λa w hf hw=>?_;obtain⟨F,N,ei⟩:=hw;obtain⟨p',n',c',xs,Et,Hn,hc,hm,lT,eP⟩:=(ei.facts _ (iL bh):zc F w sz (R.p F w) (.slice p l.length cp) l)
 cases Et;obtain⟨b,off,hp,hF,iT⟩:=eP an;obtain⟨cs,hl,hr,hu⟩:=lT.at (List.getElem?_eq_getElem hj)
 subst hp;subst hz;have eQ:=tl (P:=P) (c:=cp) (tU he) (wK hs) rfl hj w (p:=some ⟨b,off,none⟩) (b:=b) (off:=off);refine⟨.pointer (some ⟨b,off+j*sz,none⟩),w,?_,.cells b (off+j*sz) cs::.rep R cs l[j]::Φ,H,⟨F,N,{ei with facts:=λφ U=>?_}⟩,next b _ cs _ (List.getElem?_eq_getElem hj) hl⟩
 ·have h0:(Instr.indexAt t (.slice (some ⟨b,off,none⟩) l.length cp) (.int ik (j:Int))).run P w=.ok (.pointer (some ⟨b,off+j*sz,none⟩)) w:=by
   have h1:(0:Int)<=j/\(j:Int)<l.length:=an
   simp[Instr.indexAt,asIntOf,run_underlying (tU he),h1,wK hs,Addr.add,hj]
  simp[execOp,ho,hf.eval hx,hf.eval hi,h0]
 ·rcases List.mem_cons.1 U with rfl|U
  ·refine⟨hF,λi u j2=>?_⟩;rw[Nat.add_assoc];exact iT _ u (hu i u j2)
  ·rcases List.mem_cons.1 U with rfl|U;· exact hr
   · exact ei.facts φ U
theorem Fv {α:Type} {t e sz m:Nat} {x i:Operand} {R:eI α} {p:Option Addr} {cp:Nat} {l:List α} {ik:IntKind} {z:Int} (k j:Nat)(hg:QJ ops S o=some true)(hd:o.dst=some d)(hn:Nat.blt d n=true)(hS:eH d S=S')(ho:o.op=.indexAddr t x i)
  (bh:H[k]? =some (.own e sz R (.slice p m cp) l)) (hx:da S x=some (.slice p m cp)) (hi:da S i=some (.int ik z)) (hz:z=(j:Int)) (hj:j<l.length) (he:fJ P t=some e) (hs:QM P e=some sz)
  (next:∀g,p=some ⟨g,0,none⟩->WL P C n Q Φ H ((d,.pointer (some ⟨g,j*sz,none⟩))::S') ops rest):WL P C n Q Φ H S ops (o::rest):=by
 refine BH hg hd hn hS λa w U hw=>?_;have iK:=hw;obtain⟨F,N,ei⟩:=hw;obtain⟨hN,eZ⟩:=ei.owns k _ bh;obtain⟨g,hp,hm,_⟩:=eZ.head an;subst hp;subst hz;refine⟨.pointer (some ⟨g,j*sz,none⟩),w,?_,Φ,H,iK,next g rfl⟩;have h1:(0:Int)<=j/\(j:Int)<m:=an
 have h2:j<m:=an
 simp[execOp,ho,U.eval hx,U.eval hi,Instr.indexAt,asIntOf,run_underlying (tU he),h1,h2,wK hs];unfold Addr.add;split<;>simp_all
theorem Lx {α Λ:Type} {t e sz st m g:Nat} {x:Operand} {R:eI α} {cp:Nat} {l:List α} {ag:Bool} {y:α} {cells:α->Λ->List Value} {pure:α->Λ->Prop} {facts:α->Λ->List Fact} {v:Λ->Value} (op:po R cells pure facts)(k j i:Nat)
  (hg:QJ ops S o=some true) (hd:o.dst=some d) (hn:Nat.blt d n=true) (hS:eH d S=S') (ho:o.op=.load t x)
  (bh:H[k]? =some (.own e sz R (.slice (some ⟨g,0,none⟩) m cp) l)) (hx:da S x=some (.pointer (some ⟨g,j*sz+i,none⟩))) (hj:l[j]? =some y) (hs:QM P t=some st) (ha:eW P t=some ag)
  (hl:∀r,(((cells y r).drop i).take st).length=st) (hv:∀r,kd ag (((cells y r).drop i).take st)=some (v r)) (next:∀r,pure y r->WL P C n Q (facts y r++Φ) H ((d,v r)::S') ops rest):WL P C n Q Φ H S ops (o::rest):=by
 refine BH hg hd hn hS λa w hf hw=>?_;obtain⟨F,N,ei⟩:=hw;obtain⟨hN,xs,xw,lT⟩:=ei.owns k _ bh;obtain⟨cs,LX,hr,hu⟩:=lT.at hj;obtain⟨r,h1,h2,h3⟩:=op F w cs y hr;subst h1;refine⟨v r,w,?_,facts y r++Φ,H,⟨F,N,{ei with facts:=λφ U=>?_}⟩,next r h2⟩
 ·have hc:pn w g (j*sz+i) (((cells y r).drop i).take st):=λq u hq=>by
   have:=xw.cells (g:=g) rfl (j*sz+(i+q)) u (hu _ u (by rw[List.getElem?_take]at hq;split at hq<;>first|(rw[List.getElem?_drop]at hq;exact hq)|cases hq));rw[Cg]at this;rw[Nat.zero_add]at this;rwa [Nat.add_assoc]
  simp[execOp,ho,hf.eval hx,Instr.loadAt,Instr.sureAddr,Rr hc hs ha (hl r) (hv r)]
 ·rcases List.mem_append.1 U with U|U;· exact h3 φ U
  · exact ei.facts φ U
theorem Xl {α:Type} {t e sz m g:Nat} {x y:Operand} {R:eI α} {cp:Nat} {l:List α} {cs:List Value} {v:Value} {u:α} (k j:Nat)
  (hg:QJ ops S o=some true) (hd:o.dst=none) (ho:o.op=.store t x y)
  (bh:H[k]? =some (.own e sz R (.slice (some ⟨g,0,none⟩) m cp) l)) (hx:da S x=some (.pointer (some ⟨g,j*sz,none⟩))) (hj:j<l.length) (hy:da S y=some v) (hv:v.cells.toList=cs) (hs:QM P t=some sz) (hl:Nat.beq cs.length sz=true)
  (hr:∀F w,(∀ψ∈Φ,ψ.p F w)->R.p F w cs u) (hH:H.set k (.own e sz R (.slice (some ⟨g,0,none⟩) m cp) (l.set j u))=H') (next:WL P C n Q Φ H' S ops rest):WL P C n Q Φ H S ops (o::rest):=by
 have U:=Nat.eq_of_beq_eq_true hl;subst hH;refine Fj hg hd (λa w hf hw=>?_) next
 obtain⟨F,N,hi⟩:=hw;have bp:=(List.getElem?_eq_some_iff.1 bh).1;obtain⟨hN,eZ⟩:=hi.owns k _ bh;have hlen:m=l.length:=eZ.len;have hR:=hr F w hi.facts;obtain⟨h1,h2⟩:=eZ.put hlen j hR U hj;have hM:Mod (N k) w (Fw w g (j*sz) cs):=h2.mono λi _ e=>by rw[e];exact hN g rfl
 refine⟨Fw w g (j*sz) cs,?_,⟨F,N,hi.set k bp hM _ ⟨hN,h1.rel λvf x' h=>R.good (λ_ h=>h) (λq hq=>hM.block q (hi.flt q hq) λhn=>(hi.nlt k q bp hn).2.2 hq) h⟩⟩⟩;have iJ:v.cells.size=sz:=by rw[<-U,<-hv];simp
 obtain⟨xs,xw,lT⟩:=eZ;rcases xw.2 with⟨h0,_⟩|⟨g',cap,cur,Nz,_,hh,yO,_,qM,_⟩
 · cases h0
 ·cases Nz;have YL:w.heap[g]? =some (.cells cur.toList.toArray e):=by simpa using hh
  have hle:j*sz+sz<=l.length*sz:=by rw[<-Nat.succ_mul];exact Nat.mul_le_mul_right _ hj
  have a1q:l.length*sz<=cp*sz:=Nat.mul_le_mul_right _ yO;have:=X1 (P:=P) cs cur.toList (j*sz) 0 w YL (by simp[qM,U];omega) (λu hu=>R.one hR u hu);simp only[execOp,ho,hf.eval hx,hf.eval hy,Instr.storeAt,Instr.sureAddr,storeVar,Sem.run_bind,Sem.run_pure,Result.andThen_ok,wK hs,iJ,hv];simp[this]
end idx
def kq (place:Nat->Option (Nat×Nat)):List Value->List (Nat×Value)->Option (List Value)
 |cs,[]=>some cs
 | cs,(i,v)::r=>match place i with
   |none=>none
   | some (off,sz)=>match Nat.beq v.cells.size sz&&Nat.ble (off+sz) cs.length with
     |true=>kq place (uG cs off v.cells.toList) r
     |false=>none
theorem vo (off:Nat):∀(l:List Value)(k:Nat)(A:List Value),(l.zipIdx k).foldl (λ(cs:Array Value)(x:Value×Nat)=>cs.setIfInBounds (off+x.2) x.1) A.toArray=(Hd A (off+k) l).toArray
 |[],_,_=>rfl
 | v::l,k,A=>by
   rw[List.zipIdx_cons,List.foldl_cons,Hd];have:=vo off l (k+1) (A.set (off+k) v);rw[List.setIfInBounds_toArray];exact this
theorem sf {place:Nat->Option (Nat×Nat)}:∀{parts:List (Nat×Value)} {cs out:List Value},kq place cs parts=some out->Instr.fill place cs.toArray parts=some out.toArray
 |[],cs,out,h=>by cases h;rfl
 | (i,v)::r,cs,out,h=>by
   unfold kq at h;unfold Instr.fill;split at h;· cases h
   ·rename_i off sz hp;split at h
    ·rename_i U;simp only[Bool.and_eq_true]at U;have h1:=Nat.eq_of_beq_eq_true U.1;have h2:=Nat.le_of_ble_eq_true U.2;have h3:v.cells.toList.length=sz:=by simpa using h1
     have h4:v.cells.zipIdx.foldl (λcs (x:Value×Nat)=>match x with|(c,j)=>cs.setIfInBounds (off+j) c) cs.toArray=(uG cs off v.cells.toList).toArray:=by
      rw[<-Q9O _ _ _ an];have:=vo off v.cells.toList 0 cs;rw[Nat.add_zero]at this;rw[<-this,<-Array.foldl_toList];simp[Array.toList_zipIdx]
     simp only[hp,h1];have h5:¬(sz≠sz||off+sz>cs.length)=true:=by simp;omega
     simp only[List.size_toArray];rw[if_neg h5,h4];exact sf h
    · cases h
def VJ (l:List (Nat×Nat))(i:Nat):Option (Nat×Nat):=l[i]?
def tW (P:Program)(t:Nat):Option (List (Nat×Nat)):=match P.underlying t with
 |some (.struct U)=>U.toList.mapM λf=>(P.info? f.type).map λi=>(f.offset,i.size)
 |_=>none
theorem pF {P:Program} (w:World):∀{U:List Field} {l:List (Nat×Nat)},U.mapM (λf=>(P.info? f.type).map λi=>(f.offset,i.size))=some l->
   (U.mapM (λ(f:Field)=>do pure (f.offset,<-sizeOf f.type):Field->Sem (Nat×Nat))).run P w=.ok l w
 |[],l,h=>by simp at h;subst h;rfl
 | f ::U,l,h=>by
   rw[List.mapM_cons]at h;cases hi:P.info? f.type with
   |none=>simp[hi]at h
   | some i=>
     cases hr:U.mapM (λf=>(P.info? f.type).map λi=>(f.offset,i.size))with
     |none=>simp[hi,hr]at h
     | some r=>
       simp[hi,hr]at h;subst h;have:=pF (P:=P) w hr;simp[sizeOf,typeInfo,hi]at this⊢;simp[this]
theorem run_build {P:Program} {t:Nat} {z:Value} {pl:List (Nat×Nat)} {parts:List (Nat×Value)} {out:List Value} (hz:gE P t=some z)(hp:tW P t=some pl)(hf:kq (VJ pl) z.cells.toList parts=some out)(w:World):
  (Instr.build t parts.toArray).run P w=.ok (.agg out.toArray) w:=by
 unfold tW at hp;split at hp
 ·rename_i fs hu;have h1:=pF w hp;have h2:=sf hf
  have U:(fs.mapM (λ(f:Field)=>do pure (f.offset,<-sizeOf f.type):Field->Sem (Nat×Nat))).run P w=.ok pl.toArray w:=by
   rw[Array.mapM_eq_mapM_toList];simp at h1⊢;simp[h1]
  unfold Instr.build;simp only[Sem.run_bind,VF hz,Result.andThen_ok,run_underlying hu,Sem.run_pure]at U⊢;simp only[U,Result.andThen_ok];have h4:(λi=>pl.toArray[i]?)=VJ pl:=by funext i;simp[VJ]
  have h5:z.cells=z.cells.toList.toArray:=ax
  simp only[h4,List.toList_toArray];rw[h5,h2];rfl
 · cases hp
def Pf (S:List (Nat×Value)):List (Nat×Operand)->Option (List (Nat×Value))
 |[]=>some []
 | (i,x)::l=>match da S x,Pf S l with
   |some v,some vs=>some ((i,v)::vs)
   |_,_=>none
theorem fj.evalP {n:FD} {S:List (Nat×Value)} {a:Act} (h:fj n S a):∀{l:List (Nat×Operand)} {vs:List (Nat×Value)},Pf S l=some vs->l.map (λx=>(x.1,a.eval x.2))=vs
 |[],_,e=>by cases e;rfl
 | (i,x)::l,vs,e=>by
   unfold Pf at e;split at e;· rename_i v vs' hv U;cases e;simp[h.eval hv,h.evalP U]
   · cases e
def wq (z:List Value):Nat->List Value
 |0=>[]
 |m+1=>z++wq z m
section lit
variable {P:Program} {C:Ctx} {n:FD} {Q:Exit->Act->World->Prop} {Φ Φ':List Fact} {H H':List Fact} {S S':List (Nat×Value)} {ops:Array Oper} {rest:List Oper} {o:Oper} {d:Nat} {c:Code}
theorem kK {t:Nat} {U:Array (Nat×Operand)} {z:Value} {pl:List (Nat×Nat)} {parts:List (Nat×Value)} {out:List Value} (hg:QJ ops S o=some true)(hd:o.dst=some d)(hn:Nat.blt d n=true)(hS:eH d S=S')(ho:o.op=.build t U)
  (hz:gE P t=some z) (hp:tW P t=some pl) (he:Pf S U.toList=some parts) (hf:kq (VJ pl) z.cells.toList parts=some out) (next:WL P C n Q Φ H ((d,.agg out.toArray)::S') ops rest):WL P C n Q Φ H S ops (o::rest):=
 Hh hg hd hn hS (λa w eM _=>by
  have h0:U.map (λx=>(x.1,a.eval x.2))=parts.toArray:=by
   rw[<-eM.evalP he,<-List.map_toArray]
  have h1:=run_build hz hp hf w;rw[<-h0]at h1;simp only[execOp,ho,Sem.run_bind];rw[show(U.map λx=>match x with|(i,x)=>(i,a.eval x))=U.map (λx=>(x.1,a.eval x.2))from rfl,h1];rfl) next
def xf (len sz:Nat)(z:Value):List Value:=((Array.range (len*sz)).map (λi=>z.cells[i%z.cells.size]!)).toList
def XB (sz i:Nat):Option (Nat×Nat):=some (i*sz,sz)
theorem QbF {P:Program} {t e len sz:Nat} {z:Value} {parts:List (Nat×Value)} {zs out:List Value} (he:fJ P t=some e)(hs:QM P e=some sz)(hz:gE P e=some z)(hle:Nat.ble (len*sz) 16777216=true)(tZ:xf len sz z=zs)
  (hf:kq (XB sz) zs parts=some out) (w:World):(Instr.buildSlice t len parts.toArray).run P w=.ok (.slice (some ⟨w.heap.size,0,none⟩) len len) (w.alloc (.cells out.toArray e)):=by
 have YR:=Nat.le_of_ble_eq_true hle;have hgt:¬len*sz>2^24:=an
 have h2:=sf hf;unfold Instr.buildSlice;simp only[Sem.run_bind,run_underlying (tU he),Result.andThen_ok,wK hs,if_neg hgt,Sem.run_pure];by_cases U:len*sz=0
 ·have TV:zs=[]:=by rw[<-tZ];simp[xf,U]
  subst TV;rw[if_pos U];have e1:(λi=>some (i*sz,sz))=XB sz:=rfl;have e3:∀f:Nat->Value,(Array.range (len*sz)).map f=([]:List Value).toArray:=λf=>by apply Array.ext';simp[U]
  simp only[Sem.run_pure,Result.andThen_ok,e1,e3];try simp only[List.toList_toArray]
  rw[h2];simp[VC]
 ·rw[if_neg U];simp only[Sem.run_bind,VF hz,Result.andThen_ok,Sem.run_pure];have e1:(λi=>some (i*sz,sz))=XB sz:=rfl;have e2:(Array.range (len*sz)).map (λi=>z.cells[i%z.cells.size]!)=zs.toArray:=by rw[<-tZ];exact Array.toArray_toList.symm
  rw[e1,e2];try simp only[List.toList_toArray]
  rw[h2];simp[VC]
theorem u7 {t e len sz:Nat} {U:Array (Nat×Operand)} {z:Value} {parts:List (Nat×Value)} {zs out:List Value} (hg:QJ ops S o=some true)(hd:o.dst=some d)(hn:Nat.blt d n=true)(hS:eH d S=S')(ho:o.op=.buildSlice t len U)
  (hE:fJ P t=some e) (hs:QM P e=some sz) (hz:gE P e=some z) (hle:Nat.ble (len*sz) 16777216=true) (tZ:xf len sz z=zs) (he:Pf S U.toList=some parts) (hf:kq (XB sz) zs parts=some out)
  (next:∀g,WL P C n Q Φ (.blk g out e::H) ((d,.slice (some ⟨g,0,none⟩) len len)::S') ops rest):WL P C n Q Φ H S ops (o::rest):=
 BH hg hd hn hS λa w eM hw=>⟨_,_,by
  have h0:U.map (λx=>(x.1,a.eval x.2))=parts.toArray:=by
   rw[<-eM.evalP he,<-List.map_toArray]
  have h1:=QbF hE hs hz hle tZ hf w;rw[<-h0]at h1;simp only[execOp,ho,Sem.run_bind];rw[show(U.map λx=>match x with|(i,x)=>(i,a.eval x))=U.map (λx=>(x.1,a.eval x.2))from rfl,h1];exact rfl,_,_,hw.alloc _ _,by simpa using next _⟩
theorem Qj.row {α:Type} {w:World} {g e sz m:Nat} {cs:List Value} {R:eI α} {l:List α} (h:Qj C Φ H w)(k:Nat)(hk:H[k]? =some (.blk g cs e))(lT:∀F,(∀ψ∈Φ,ψ.p F w)->fC sz (R.p F w) cs l)(hm:m=l.length)(hle:m<=9223372036854775807)
  (hH:H.set k (.own e sz R (.slice (some ⟨g,0,none⟩) m m) l)=H'):Qj C Φ H' w:=by
 subst hH;obtain⟨F,N,hi⟩:=h;have bp:=(List.getElem?_eq_some_iff.1 hk).1;have U:=hi.owns k _ hk;refine⟨F,N,hi.set k bp (Mod.refl _ _) _ ⟨λi ei=>by cases ei;exact U.1,?_⟩⟩;exact lS.of_block U.2 (Nat.zero_le _) (cw (lT F hi.facts)) hm hle
theorem MG {α:Type} {g e sz m:Nat} {cs:List Value} (R:eI α)(l:List α)(k:Nat)(hk:H[k]? =some (.blk g cs e))(lT:∀F w,(∀ψ∈Φ,ψ.p F w)->fC sz (R.p F w) cs l)(hm:m=l.length)(hle:m<=9223372036854775807)
 (hH:H.set k (.own e sz R (.slice (some ⟨g,0,none⟩) m m) l)=H') (next:WL P C n Q Φ H' S ops rest):WL P C n Q Φ H S ops rest:=λa w U hw=>next a w U (hw.row k hk (λF=>lT F w) hm hle hH)
theorem Qj.rowNil {α:Type} {w:World} (e sz:Nat)(R:eI α)(h:Qj C Φ H w):Qj C Φ (.own e sz R (.slice none 0 0) []::H) w:=by
 obtain⟨F,N,hi⟩:=h;exact⟨F,_,hi.push (.own e sz R (.slice none 0 0) []) (λ_=>False) ⟨λk hk=>(by cases hk),lS.nil⟩ (λk hk=>hk.elim) (λ_ k _ hk=>hk.elim)⟩
theorem wk {α:Type} (e sz:Nat)(R:eI α)(next:WL P C n Q Φ (.own e sz R (.slice none 0 0) []::H) S ops rest):WL P C n Q Φ H S ops rest:=λa w U hw=>next a w U (hw.rowNil e sz R)
theorem OQ {α:Type} (e sz:Nat)(R:eI α)(next:WC P C n Q Φ (.own e sz R (.slice none 0 0) []::H) S c):WC P C n Q Φ H S c:=λa w U hw=>next a w U (hw.rowNil e sz R)
theorem QbE {P:Program} {w:World} (t ty:TypeId)(e:TypeId)(i:TypeInfo)(z:Value)(size bytes:Nat)(ht:P.underlying t=some (.slice e))(hi:P.info? e=some i)(hz:i.zero=some z)
  (mG:i.size=size) (LV:i.bytes=bytes) (tZ:z.cells.size=size) (iJ:0<size)
  (v:Value) (n:Nat) (xs:List Value) (eZ:w.ownsRow 0 e size v n xs)
  (p:Option Addr) (m c:Nat) (U:List Value) (hl:U.length=m*size) (hp:0<m->∃b off,p=some ⟨b,off,none⟩/\pn w b off U) (h1:∀u∈U,u.oneCell'=true)
  (Jl:n+m<=maxLen) (gF:(n+m)*bytes<=140737488355328):
  ∃v' w',(Builtin.append_ #[t,t] ty #[v,.slice p m c]).run P w=.ok v' w'/\w'.ownsRow 0 e size v' (n+m) (xs++U)/\w.grownBy w' v.ownBlock/\(v'.ownBlock=v.ownBlock\/v'.ownBlock=some w.heap.size):=by
 rcases p with _|ad
 ·have hm:m=0:=by
   rcases Nat.eq_zero_or_pos m with h0|h0;· exact h0
   · obtain⟨b,off,hb,_⟩:=hp h0;cases hb
  subst hm;have hy:U=[]:=List.eq_nil_of_length_eq_zero (cw hl);subst hy
  have hr:(Builtin.append_ #[t,t] ty #[v,.slice none 0 c]).run P w=.ok v w:=by
   rcases eZ.2 with⟨rfl,rfl⟩|⟨g,cap,cur,rfl,hbg,hg,yO,Js,qM,fu⟩
   · simp[Builtin.append_,run_underlying ht,sizeOf,typeInfo,hi,Builtin.lenOf,Builtin.firstCells]
   · simp[Builtin.append_,run_underlying ht,sizeOf,typeInfo,hi,Builtin.lenOf,Builtin.firstCells,yO,storeCells]
  exact⟨v,w,hr,by simpa using eZ,⟨rfl,rfl,rfl,Nat.le_refl _,λ_ _ _=>rfl⟩,.inl rfl⟩
 ·have JH:∀j u,U[j]? =some u->w.cell? (ad.add j)=some u:=by
   intro j u hj
   have hm:0<m:=by
    rcases Nat.eq_zero_or_pos m with h0|h0
    ·subst h0;have:U=[]:=List.eq_nil_of_length_eq_zero (cw hl);subst this;simp at hj
    · exact h0
   obtain⟨b,off,hb,hc⟩:=hp hm;cases hb;rw[Cg];exact hc j u hj
  obtain⟨v',w',h2,h3,h4,_,h5⟩:=run_append_own_at (P:=P) w 0 t ty e i z size bytes ht hi hz mG LV tZ iJ v n xs eZ ad m c U hl JH h1 Jl gF (Nat.zero_le _);exact⟨v',w',h2,h3,h4,h5⟩
theorem fQ.set' {F:dW} {N:Nat->dW} {w w':World} (h:fQ C Φ H F N w)(k:Nat)(hk:k<H.length)(hm:Mod (N k) w w')(M':dW)(hM:∀i,M' i->N k i\/(w.heap.size<=i/\i<w'.heap.size))(φ:Fact)(ja:φ.op M' F w'):
  fQ C Φ (H.set k φ) F (λi=>if i=k then M' else N i) w':=by
 have hF:fy F w w':=λj U=>hm.block j (h.flt j U) (λhn=>(h.nlt k j hk hn).2.2 U)
 have hM2:∀i q,i<H.length->i≠k->N i q->¬M' q:=λi q hi db hq hM'=>by
  rcases hM q hM' with h1|h1;· exact h.apart i k q hi hk db hq h1
  · have:=(h.nlt i q hi hq).1;omega
 refine⟨λj U=>Nat.lt_of_lt_of_le (h.flt j U) hm.size,h.fold,h.fnew,λψ gJ=>ψ.good (λ_ h=>h) hF (h.facts ψ gJ),?_,?_,?_,?_⟩
 ·intro i ψ hi;by_cases gZ:i=k
  ·subst gZ;rw[List.getElem?_set_self hk]at hi;cases hi;simpa using ja
  ·rw[List.getElem?_set_ne (Ne.symm gZ)]at hi;have ei:=(List.getElem?_eq_some_iff.1 hi).1;simp only[gZ,if_false];exact ψ.opgood (λ_ h=>h) (λj U=>hm.block j (h.nlt i j ei U).1 (λhn=>h.apart i k j ei hk gZ U hn)) (λ_ h=>h) hF (h.owns i ψ hi)
 ·intro i j hi U;rw[List.length_set]at hi;by_cases gZ:i=k
  ·simp only[gZ,if_true]at U;rcases hM j U with h1|h1;· exact⟨Nat.lt_of_lt_of_le (h.nlt k j hk h1).1 hm.size,(h.nlt k j hk h1).2⟩
   · exact⟨h1.2,.inl (Nat.le_trans h.mod.size h1.1),λhf=>by have:=h.flt j hf;omega⟩
  ·simp only[gZ,if_false]at U;exact⟨Nat.lt_of_lt_of_le (h.nlt i j hi U).1 hm.size,(h.nlt i j hi U).2⟩
 ·intro i j q hi U db hq dz;rw[List.length_set]at hi U;by_cases gZ:i=k<;>by_cases zO:j=k;· omega
  ·simp only[gZ,zO,if_true,if_false]at hq dz;exact hM2 j q U zO dz hq
  ·simp only[gZ,zO,if_true,if_false]at hq dz;exact hM2 i q hi gZ hq dz
  ·simp only[gZ,zO,if_false]at hq dz;exact h.apart i j q hi U db hq dz
 · exact h.mod.trans' (T:=N k) hm (λi hi hn=>by
   rcases(h.nlt k i hk hn).2.1 with h1|h1;· omega
   · exact h1)
theorem Qbr {α:Type} {t e sz je:Nat} {s x:Operand} {R:eI α} {v z:Value} {l l2:List α} {p:Option Addr} {cp:Nat} (k:Nat)(hg:QJ ops S o=some true)(hd:o.dst=some d)(hn:Nat.blt d n=true)(hS:eH d S=S')
  (ho:o.op=.call {callee:=.builtin .append,args:=#[s,x],argTypes:=#[t,t]}) (bh:H[k]? =some (.own e sz R v l)) (hs:da S s=some v) (hx:da S x=some (.slice p l2.length cp))
  (TQ:∀F N w,fQ C Φ H F N w->∃ys,fC sz (R.p F w) ys l2/\(0<l2.length->∃b off,p=some ⟨b,off,none⟩/\pn w b off ys))
  (he:fJ P t=some e) (hr:gV P e=some (z,sz,je)) (tZ:Nat.beq z.cells.size sz=true) (iJ:Nat.blt 0 sz=true) (Jl:l.length+l2.length<=9223372036854775807) (LV:(l.length+l2.length)*je<=140737488355328)
  {H2:Option Addr->Nat->List Fact} (hH:∀p' U,H.set k (.own e sz R (.slice p' (l++l2).length U) (l++l2))=H2 p' U) (next:∀p' U,WL P C n Q Φ (H2 p' U) ((d,.slice p' (l++l2).length U)::S') ops rest):WL P C n Q Φ H S ops (o::rest):=by
 refine BH hg hd hn hS λa w hf hw=>?_;obtain⟨F,N,hi⟩:=hw;have bp:=(List.getElem?_eq_some_iff.1 bh).1;obtain⟨hN,xs,eZ,lT⟩:=hi.owns k _ bh;obtain⟨ys,Hu,Za⟩:=TQ F N w hi;obtain⟨i,sF,hz,mG,gF⟩:=Xw hr
 obtain ⟨v',w',eQ,YX,gm,Hj⟩:=QbE (P:=P) (w:=w) t o.type e i z sz je (tU he) sF hz mG gF (Nat.eq_of_beq_eq_true tZ) (Nat.le_of_ble_eq_true iJ) v l.length xs eZ p l2.length cp ys Hu.length Za
  (λu hu=>Hu.all (p:=λu=>u.oneCell'=true) (λcs y hr=>R.one hr) u hu) (by unfold maxLen;exact Jl) LV
 have hM:Mod (N k) w w':=⟨gm.os,gm.tape,gm.output,gm.size,λj hj hn=>gm.block j hj λe=>hn (hN j e.symm)⟩
 have hF:fy F w w':=λj hj=>hM.block j (hi.flt j hj) (λhn=>(hi.nlt k j bp hn).2.2 hj);have hOL:lS 0 e sz (R.p F w') (l++l2) v' w':=⟨xs++ys,by simpa using YX,(lT.append Hu).mono λcs y _ h=>R.good (λ_ h=>h) hF h⟩
 obtain⟨p',n',U,rfl⟩:=hOL.shape;obtain rfl:=hOL.len;refine⟨_,w',?_,Φ,_,⟨F,_,hi.set' k bp hM (λq=>(Value.slice p' (l++l2).length U).ownBlock=some q) ?_ (.own e sz R (.slice p' (l++l2).length U) (l++l2)) ⟨λq hq=>hq,hOL⟩⟩,by rw[hH];exact next p' U⟩;· simp[execOp,ho,resolve,invoke,builtin,hf.eval hs,hf.eval hx,eQ]
 ·intro q hq;rcases Hj with h0|h0;· exact .inl (hN q (by rw[<-h0];exact hq))
  ·right;have:=hOL.lt q hq;rw[h0]at hq;cases hq;exact⟨Nat.le_refl _,this.2⟩
theorem Xy {α:Type} {t e sz je:Nat} {s x:Operand} {R:eI α} {v z:Value} {l l2:List α} {p:Option Addr} {cp:Nat} (k j:Nat)(hg:QJ ops S o=some true)(hd:o.dst=some d)(hn:Nat.blt d n=true)(hS:eH d S=S')
  (ho:o.op=.call {callee:=.builtin .append,args:=#[s,x],argTypes:=#[t,t]}) (bh:H[k]? =some (.own e sz R v l)) (hs:da S s=some v) (gJ:Φ[j]? =some (.sli sz R p cp l2)) (hx:da S x=some (.slice p l2.length cp))
  (he:fJ P t=some e) (hr:gV P e=some (z,sz,je)) (tZ:Nat.beq z.cells.size sz=true) (iJ:Nat.blt 0 sz=true) (Jl:l.length+l2.length<=9223372036854775807) (LV:(l.length+l2.length)*je<=140737488355328)
  {H2:Option Addr->Nat->List Fact} (hH:∀p' U,H.set k (.own e sz R (.slice p' (l++l2).length U) (l++l2))=H2 p' U) (next:∀p' U,WL P C n Q Φ (H2 p' U) ((d,.slice p' (l++l2).length U)::S') ops rest):WL P C n Q Φ H S ops (o::rest):=
 Qbr k hg hd hn hS ho bh hs hx (λF N w hi=>by
  obtain⟨p',n',U,xs,e1,_,_,_,lT,eP⟩:=(hi.facts _ (iL gJ):zc F w sz (R.p F w) (.slice p l2.length cp) l2)
  cases e1;exact⟨xs,lT,λh=>by obtain⟨b,off,h1,_,h2⟩:=eP h;exact⟨b,off,h1,h2⟩⟩) he hr tZ iJ Jl LV hH next
theorem GX {α:Type} {t e sz je g tb:Nat} {s x:Operand} {R:eI α} {v z:Value} {l:List α} {cs:List Value} {cp:Nat} (l2:List α)(k j:Nat)(hg:QJ ops S o=some true)(hd:o.dst=some d)(hn:Nat.blt d n=true)(hS:eH d S=S')
  (ho:o.op=.call {callee:=.builtin .append,args:=#[s,x],argTypes:=#[t,t]}) (bh:H[k]? =some (.own e sz R v l)) (hs:da S s=some v) (gJ:H[j]? =some (.blk g cs tb)) (hx:da S x=some (.slice (some ⟨g,0,none⟩) l2.length cp))
  (lT:∀F w,(∀ψ∈Φ,ψ.p F w)->fC sz (R.p F w) cs l2)
  (he:fJ P t=some e) (hr:gV P e=some (z,sz,je)) (tZ:Nat.beq z.cells.size sz=true) (iJ:Nat.blt 0 sz=true) (Jl:l.length+l2.length<=9223372036854775807) (LV:(l.length+l2.length)*je<=140737488355328)
  {H2:Option Addr->Nat->List Fact} (hH:∀p' U,H.set k (.own e sz R (.slice p' (l++l2).length U) (l++l2))=H2 p' U) (next:∀p' U,WL P C n Q Φ (H2 p' U) ((d,.slice p' (l++l2).length U)::S') ops rest):WL P C n Q Φ H S ops (o::rest):=
 Qbr k hg hd hn hS ho bh hs hx (λF N w hi=>⟨cs,lT F w hi.facts,λ_=>⟨g,0,rfl,Xq (hi.owns j _ gJ).2⟩⟩) he hr tZ iJ Jl LV hH next
theorem Bx (z:List Value):∀m,wq z m=(List.replicate m z).flatten
 |0=>rfl
 |m+1=>by rw[wq,Bx z m];simp[List.replicate_succ]
theorem nP {α:Type} {sz:Nat} {R:List Value->α->Prop} {z:List Value} {x:α} (h:R z x)(U:z.length=sz):∀m,fC sz R (wq z m) (List.replicate m x)
 |0=>rfl
 |m+1=>⟨z,wq z m,rfl,U,h,nP h U m⟩
theorem EF {β:Type} (f:Nat->β)(sz:Nat)(U:0<sz):∀n,(List.range (n*sz)).map (λi=>f (i%sz))=(List.replicate n ((List.range sz).map f)).flatten
 |0=>ax
 | n+1=>by
   rw[Nat.succ_mul,Nat.add_comm,List.range_add,List.map_append,List.map_map,List.replicate_succ,List.flatten_cons,<-EF f sz U n];congr 1;· exact List.map_congr_left λi hi=>by rw[Nat.mod_eq_of_lt (List.mem_range.1 hi)]
   · exact List.map_congr_left λi _=>ax
theorem Dd (z:Array Value)(sz n:Nat)(U:z.size=sz)(iJ:0<sz):(madeCells z (n*sz)).toList=wq z.toList n:=by
 rw[Bx];unfold madeCells;subst U
 have h1:(List.range z.size).map (λi=>z[i]!)=z.toList:=by
  apply List.ext_getElem;· simp
  ·intro i h1 h2;simp at h1;simp[h1]
 have:=EF (λi=>z[i]!) z.size iJ n;rw[h1]at this;rw[<-this];simp[Array.toList_map]
theorem Q96 {α:Type} {t e sz je m:Nat} {x y:Operand} {z:Value} {kx ky:IntKind} {ex ey:Int} (R:eI α)(u:α)(hg:QJ ops S o=some true)(hd:o.dst=some d)(hn:Nat.blt d n=true)(hS:eH d S=S')(ho:o.op=.makeSlice t x y)
  (hx:da S x=some (.int kx ex)) (hy:da S y=some (.int ky ey)) (hex:ex=(m:Int)) (hey:ey=(m:Int)) (he:fJ P t=some e) (hr:gV P e=some (z,sz,je)) (tZ:Nat.beq z.cells.size sz=true) (iJ:Nat.blt 0 sz=true)
  (hR:∀F w,R.p F w z.cells.toList u) (LV:je*m<=281474976710656) (Jl:m<=9223372036854775807)
  (next:∀g,WL P C n Q Φ (.own e sz R (.slice (some ⟨g,0,none⟩) m m) (List.replicate m u)::H) ((d,.slice (some ⟨g,0,none⟩) m m)::S') ops rest):WL P C n Q Φ H S ops (o::rest):=by
 subst hex;subst hey;refine BH hg hd hn hS λa w hf hw=>?_
 obtain⟨i,sF,hz,mG,gF⟩:=Xw hr;have Zs:=Nat.eq_of_beq_eq_true tZ;have U:=Nat.le_of_ble_eq_true iJ;subst gF
 have hb:(i.bytes:Int)*(m:Int)<=281474976710656:=by
  have h:((i.bytes*m:Nat):Int)<=281474976710656:=an
  rwa [Int.natCast_mul]at h
 have eQ:=run_make (P:=P) (w:=w) t e i z (tU he) sF hz kx ky (m:Int) (m:Int) an an hb an;simp only[Int.toNat_natCast,mG]at eQ;refine⟨_,_,by simp[execOp,ho,hf.eval hx,hf.eval hy,eQ];try exact⟨rfl,rfl⟩,Φ,_,((hw.alloc (madeCells z.cells (m*sz)) e).row 0 rfl (R:=R) (l:=List.replicate m u) (sz:=sz) (λF _=>?_) ax Jl rfl),next _⟩;rw[Dd _ sz m Zs U];exact nP (hR F _) (cw Zs) m
end lit
end
section
open Go.RowKit
def inI (x:Int):Prop:=-9223372036854775808<=x/\x<=9223372036854775807
def LN (x:V)(_:Unit):List Value:=[.int .u8 x.k,.int .i64 x.n,.string x.s]
structure Qq where
 id:Int
 ty:Int
 args:List V
structure fl where
 k:Int
 var:Int
 v:V
theorem mZ {α:Type} {sz:Nat} {R:eI α} {p:Option Addr} {c:Nat} {l:List α} {F:dW} {w:World} (h:(Fact.sli sz R p c l).p F w)(hp:p=none):l=[]:=by
 obtain⟨p',n',c',xs,e,hn,hc,hm,_,eP⟩:=h;cases e;cases l with
 |nil=>rfl
 |cons x l=>obtain⟨b,off,U,_⟩:=eP ax;rw[hp]at U;cases U
theorem Xn {α:Type} {p:Option α} (h:Option.isNone p=true):p=none:=by simpa using h
theorem Xk {α:Type} {p:Option α} (h:Option.isNone p=false):∃a,p=some a:=by cases p<;>simp_all
theorem ask {Φ Φ':List Fact} (l:List Nat)(h:QK Φ l=Φ') {F:dW} {w:World} (dV:∀ψ∈Φ,ψ.p F w):∀φ∈Φ',φ.p F w:=by
 subst h;intro φ U;obtain⟨i,_,hi⟩:=List.mem_filterMap.1 U;exact dV φ (List.mem_of_getElem? hi)
theorem Q0 {d:Nat}:∀{S:List (Nat×Value)},(S.all λx=> !(Nat.beq x.1 d))=true->eH d S=S
 |[],_=>rfl
 | (k,v)::r,h=>by
   simp only[List.all_cons,Bool.and_eq_true,Bool.not_eq_true']at h;unfold eH;rw[h.1,Q0 h.2]
theorem Zq {d:Nat} {S:List (Nat×Value)} (h:(S.all λx=>!(Nat.beq x.1 d))=true:=by rfl):eH d S=S:=Q0 h
theorem lY {a b:Nat} (h:a+b<=9223372036854775807):Value.int .i64 (IntKind.wrap .i64 ((a:Int)+(b:Int)))=.int .i64 ((a+b:Nat):Int):=by
 rw[show((a+b:Nat):Int)=(a:Int)+b from Int.natCast_add a b,IntWalk.i64_in _ an]
end
end Go.Proofs.YtocfkfhdcnjklaaGreatDoor
