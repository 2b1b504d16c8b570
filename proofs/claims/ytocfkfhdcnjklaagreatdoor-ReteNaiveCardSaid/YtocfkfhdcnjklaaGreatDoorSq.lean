import Derived.Test.YtocfkfhdcnjklaaGreatDoorSortM
import Derived.Lib.Strings
import Derived.Lib.SlTrimSet
import Derived.Lib.SlKeysI
import Derived.Sort.KeysCollected
import Derived.CallsIn
open Bool renaming false_eq_true->a',eq_iff_iff->d',not_eq_true'->M',and_eq_true->T',false_eq->b!
open List renaming getElem?_eq_getElem->c',getElem?_cons_zero->f',getElem?_eq_some_iff->g',drop_eq_getElem_cons->j',drop_eq_nil_of_le->k',mem_append_right->l',getElem_mem->n',length_cons->o',mem_reverse->q',map_map->r',mem_map->t',length_nil->u',singleton_append->x',map_congr_left->A',mem_cons->B',range->E',append_assoc->F',take_add_one->N',pairwise_map->R',mem_append->a!,foldr->j!
open Nat renaming blt->i',lt_succ_self->p',le_refl->W',lt_irrefl->c!,zero_le->i!
open Int renaming tdiv->y',toNat_natCast->K',lt_or_le->d!,le_of_lt->e!,zero_mul->g!,mul_zero->h!
open Prod renaming mk->z'
namespace Go.Proofs.YtocfkfhdcnjklaaGreatDoor
section
open Go Go.RowKit
abbrev R0 (a:bc) (b c:aq Fact):bc->aq Fact->aq Fact->Prop:=λv p q=>v=a/\p=b/\q=c
variable {α:Type}{p:Prop}{b:α}{m:bf α}
theorem zs {a:α} (h:some a=some b):b=a:=(Option.some.inj h).symm
theorem kn {β:Type} {k:α->bf β} {b:β} (h:Qf m k=some b)(next:∀x,m=some x->k x=some b->p):p:=by
 obtain⟨a,h1,U⟩:=Qw h;exact next a h1 U
theorem kg {c:Prop} [Decidable c] (h:gd c m=some b)(next:c->m=some b->p):p:=(oc h).elim next
theorem ks {σ O:Type} {X:bf (σ⊕O)} {Y:σ->bf O} {b:O} (h:iT X Y=some b)(next:∀x,X=some x->yb Y x b->p):p:=by
 obtain⟨a,h1,U⟩:=mC h;exact next a h1 U
section
variable {P:da} {C:Ctx} {n:FD} {Q:Exit->Act->bx->Prop} {Φ Φ':aq Fact} {H H':aq Fact} {S S':aq (Nat×bc)} {ops:Array Oper} {rest:aq Oper} {o:Oper} {d:Nat} {c x y:Code}
variable {A B E F G I J K M N:Nat×bc}{f:FuncId}{args all:aq bc}{v u:bc}{t m d2 sz b id:Nat}{σ α A0 β A1 A2 τ O A3:Type}{xs:Array bw}{ts:Array TypeId}{Φf Hf iE bz Hr:aq Fact}{X:Prop}{fn:Func}{e:Exit}{m1 m2 r:α}{o2:Oper}{R:bc->aq Fact->aq Fact->Prop}{g:Bool}
theorem Qp {v':bc} (h:v=v')(next:WL P C n Q Φ H ((d,v')::S) ops rest):WL P C n Q Φ H ((d,v)::S) ops rest:=by subst h;exact next
theorem QK {o:bw} {t:Bool} (hm:(if t=true then m1 else m2)=r)(U:dy S o=some (.bool t))(ht:m1=r->WC P C n Q Φ H S x)(hf:m2=r->WC P C n Q Φ H S y):WC P C n Q Φ H S (.cond o x y):=
 iB U (λh=>ht (a1n hm h)) (λh=>hf (a1m hm h))
theorem a2b {t:Bool} (hm:(if t=true then m1 else m2)=r)(ht:t=true->m1=r->WL P C n Q Φ H ((d,.bool true)::S) ops rest)(U:t=false->m2=r->WL P C n Q Φ H ((d,.bool false)::S) ops rest):WL P C n Q Φ H ((d,.bool t)::S) ops rest:=by
 cases t;· exact U rfl (a1m hm rfl)
 · exact ht rfl (a1n hm rfl)
theorem fx {t:Bool} (hm:(if t=true then m1 else m2)=r)(ht:m1=r->WL P C n Q Φ H ((d,.bool true)::S) ops rest)(U:m2=r->WL P C n Q Φ H ((d,.bool false)::S) ops rest):WL P C n Q Φ H ((d,.bool t)::S) ops rest:=a2b hm (λ_=>ht) (λ_=>U)
private theorem p4.{u,v} {α:Type u} {β:Type v} {a U:α} {b b':β} (h:(a,b)=(U,b')):a=U/\b=b':=by cases h;exact⟨rfl,rfl⟩
theorem bo {v2:bc} (h:((QM ops S o,o.dst,i' d n,ko d S,Ba S o.op),(QM ops ((d,v)::S) o2,o2.dst,i' d2 n,ko d2 ((d,v)::S),Ba ((d,v)::S) o2.op))=((some true,some d,true,true,some v),(some true,some d2,true,true,some v2)))
  (next:WL P C n Q Φ H ((d2,v2)::(d,v)::S) ops rest):WL P C n Q Φ H S ops (o::o2::rest):=by
 obtain⟨h1,U⟩:=p4 h;exact wP h1 (wP U next)
theorem eY (h:((QM ops S o,o.dst,i' d n,ko d S),(QM ops ((d,undef)::S) o2,o2.dst,i' d2 n,ko d2 ((d,undef)::S)))=((some false,some d,true,true),(some false,some d2,true,true)))
  (next:WL P C n Q Φ H ((d2,undef)::(d,undef)::S) ops rest):WL P C n Q Φ H S ops (o::o2::rest):=by
 obtain⟨h1,U⟩:=p4 h;exact wO h1 (wO U next)
theorem eU {U o4:Oper} {d3 d4:Nat} (h:(((QM ops S o,o.dst,i' d n,ko d S),(QM ops ((d,undef)::S) o2,o2.dst,i' d2 n,ko d2 ((d,undef)::S))),((QM ops ((d2,undef)::(d,undef)::S) U,U.dst,i' d3 n,ko d3 ((d2,undef)::(d,undef)::S)),(QM ops ((d3,undef)::(d2,undef)::(d,undef)::S) o4,o4.dst,i' d4 n,ko d4 ((d3,undef)::(d2,undef)::(d,undef)::S))))=(((some false,some d,true,true),(some false,some d2,true,true)),((some false,some d3,true,true),(some false,some d4,true,true))))
  (next:WL P C n Q Φ H ((d4,undef)::(d3,undef)::(d2,undef)::(d,undef)::S) ops rest):WL P C n Q Φ H S ops (o::o2::U::o4::rest):=by
 obtain⟨h1,h2⟩:=p4 h;exact eY h1 (eY h2 next)
def Gx (P:da)(f:FuncId)(args:aq bc)(Φ iE:aq Fact)(K:Ctx->Ending->bx->Prop):Prop:=
 ∀ (F:eL) (N:Nat->eL) (w:bx),(∀k,F k->k<w.heap.size)->(∀φ∈Φ,φ.p F w)->(∀(i:Nat) (h:Fact),iE[i]? =some h->h.op (N i) F w)->
   (∀i k,i<iE.length->N i k->k<w.heap.size/\¬F k)->(∀i j k,i<iE.length->j<iE.length->i≠j->N i k->¬N j k)->
   Calls P f args.toArray w (K ⟨w,λk=>∃i,i<iE.length/\N i k,F⟩)
def RQ {A:Type} (K:A->bc->aq Fact->aq Fact->Prop)(u:bc):A⊕Unit->Ctx->Ending->bx->Prop
 | .inl x,C=>sf C (K x)
 | .inr _,C=>Vc C u
theorem sqL {P:da} {Φ:aq Fact} {A:Type} {K:A->bc->aq Fact->aq Fact->Prop} {o:A} (h:Gx P f args Φ iE (RQ K u (.inl o))):QF P f args Φ iE (K o):=h
theorem sqR {P:da} {Φ:aq Fact} {A:Type} {K:A->bc->aq Fact->aq Fact->Prop} (h:Gx P f args Φ iE (RQ K u (.inr ()))):Ku P f args Φ iE u:=h
theorem Nf {P:da} {body:Code} {n:Nat} {S:aq (Nat×bc)} {Φ:aq Fact} {K:Ctx->Ending->bx->Prop}
  (hf:P.funcs[f]? =some fn) (hb:fn.body=some body) (hn:fn.ntmps=n) (hle:Nat.ble args.length n=true) (hS:xh 0 args=S) (h:∀C,WC P C ⟨n,[]⟩ (bodyPost P fn (K C)) Φ iE S body):Gx P f args Φ iE K:=by
 intro F N w hF eN hH cj qi;refine calls_of_wp hf hb (h ⟨w,λk=>∃i,i<iE.length/\N i k,F⟩ _ w ⟨?_,rfl,?_⟩ ⟨F,N,hF,λ_ h=>h,λ_ h=>.inl h,eN,hH,λi k hi hk=>⟨(cj i k hi hk).1,.inr ⟨i,hi,hk⟩,(cj i k hi hk).2⟩,qi,Mod.refl _ _⟩)
 ·have:=Nat.le_of_ble_eq_true hle;simp[hn];try omega
 ·intro x hx;rw[<-hS]at hx;obtain⟨_,U⟩:=Qdt hx;rw[Nat.sub_zero]at U;have hl:=(g'.1 U).1;rw[Array.getElem?_append_left (du hl)];simpa using U
theorem wM {tb:Nat} {x:bw} (k j:Nat)(cs:aq bc)(h:(QM ops S o,o.dst,i' d n,ko d S,o.op,H[k]?,dy S x,(all.drop j).take sz)=(some true,some d,true,true,.load t x,some (.blk b all tb),some (.pointer (some ⟨b,j,none⟩)),cs))
  (hs:QV P t=some sz) (ha:fJ P t=some g) (hv:(cs.length,lK g cs)=(sz,some v)) (next:WL P C n Q Φ H ((d,v)::S) ops rest):WL P C n Q Φ H S ops (o::rest):=by
 obtain⟨h1,h⟩:=p4 h;obtain⟨U,h⟩:=p4 h;obtain⟨h3,h⟩:=p4 h;obtain⟨h4,h⟩:=p4 h;obtain⟨h5,h⟩:=p4 h;obtain⟨h6,h⟩:=p4 h;obtain⟨h7,h8⟩:=p4 h;obtain⟨g1,g2⟩:=p4 hv;exact On k j h1 U h3 (Q0 h4) h5 h6 h7 h8 hs ha g1 g2 next
def JP {σ β:Type} (b:β)(K:σ->β×aq (Nat×bc)×aq Fact×aq Fact)(C:Ctx)(n:FD):Act->bx->Prop:=λa w=>∃s,pT (λs=>b=(K s).1) (λs=>(K s).2.1) (λs=>(K s).2.2.1) (λs=>(K s).2.2.2) C n s a w
theorem cut (b:β)(K:σ->β×aq (Nat×bc)×aq Fact×aq Fact)(U:WC P C n (Exit.then (JP b K C n) Q) Φ H S x)(hy:∀s,b=(K s).1->WC P C n Q (K s).2.2.1 (K s).2.2.2 (K s).2.1 y):WC P C n (Exit.then (λa w=>y.wp P Q a w) Q) Φ H S x:=
 nu _ _ _ _ U hy
theorem jn {b:β} {K:σ->β×aq (Nat×bc)×aq Fact×aq Fact} (s:σ)(h:b=(K s).1)(l l2:aq Nat)(U:(iP l S,QP Φ l2,H)=(K s).2):WE C n (Exit.then (JP b K C n) Q) Φ H S .normal:=by
 have h3:iP l S=(K s).2.1:=congrArg (·.1) U;have h4:QP Φ l2=(K s).2.2.1:=congrArg (·.2.1) U;have h5:H=(K s).2.2.2:=congrArg (·.2.2) U;exact Ei s h l h3 (br l2 h4) h5
theorem jM {b:β} {K:σ->β×aq (Nat×bc)×aq Fact×aq Fact} (s:σ)(hm:some (K s).1=some b)(l l2:aq Nat)(U:(iP l S,QP Φ l2,H)=(K s).2):WE C n (Exit.then (JP b K C n) Q) Φ H S .normal:=jn s (zs hm) l l2 U
def LP {σ τ O:Type} (f:τ->bf (τ⊕O))(b:O)(K:σ->τ×aq (Nat×bc)×aq Fact×aq Fact)(m:Nat)(C:Ctx)(n:FD):Act->bx->Prop:=λa w=>∃s:Nat×σ,s.1<m+1/\pT (λs:Nat×σ=>fp f s.1 (K s.2).1=some b) (λs=>(K s.2).2.1) (λs=>(K s.2).2.2.1) (λs=>(K s.2).2.2.2) C n s a w
theorem lY (f:τ->bf (τ⊕O)) {N:Nat} {b:O} (K:σ->τ×aq (Nat×bc)×aq Fact×aq Fact)(U:σ)(hm:fp f N (K U).1=some b)(l l2:aq Nat)(h2:(iP l S,QP Φ l2,H)=(K U).2)
  (round:∀s m v,f (K s).1=some v->yb (fp f m) v b->WC P C n (Exit.then (LP f b K m C n) Q) (K s).2.2.1 (K s).2.2.2 (K s).2.1 c):WC P C n Q Φ H S (.loop c):=by
 have h3:iP l S=(K U).2.1:=congrArg (·.1) h2;have h4:QP Φ l2=(K U).2.2.1:=congrArg (·.2.1) h2;have h5:H=(K U).2.2.2:=congrArg (·.2.2) h2;refine UZ (σ:=Nat×σ) (λs=>fp f s.1 (K s.2).1=some b) (λs=>s.1) (λs=>(K s.2).2.1) (λs=>(K s.2).2.2.1) (λs=>(K s.2).2.2.2) (N,U) hm l h3 (br l2 h4) h5 ?_;rintro⟨k,s⟩ hs;obtain⟨m,v,rfl,h6,h7⟩:=IW hs;exact round s m v h6 h7
theorem mc {f:τ->bf (τ⊕O)} {b:O} {K:σ->τ×aq (Nat×bc)×aq Fact×aq Fact} (s:σ)(h:fp f m (K s).1=some b)(l l2:aq Nat)(U:(iP l S,QP Φ l2,H)=(K s).2):WE C n (Exit.then (LP f b K m C n) Q) Φ H S .normal:=by
 have h3:iP l S=(K s).2.1:=congrArg (·.1) U;have h4:QP Φ l2=(K s).2.2.1:=congrArg (·.2.1) U;have h5:H=(K s).2.2.2:=congrArg (·.2.2) U;exact Pf (μ:=λs:Nat×σ=>s.1) (m,s) (p' _) h l h3 (br l2 h4) h5
def Cb:Exit->Bool
 | .ret=>true
 | .normal=>true
 |_=>false
theorem uR (h:Cb e=true):e=.ret\/e=.normal:=by cases e<;>simp_all [Cb]
private theorem p6.{u,v} {α:Type u} {β:Type v} {a U:α} {b b':β} (h:(a,b)=(U,b')):a=U/\b=b':=by cases h;exact⟨rfl,rfl⟩
theorem dm (l l2:aq Nat)(mO:fn.results=#[.tmp t])(h1:look S t=some v)(U:R v bz Hr)(h:(QP Φ l2,fR l H.length,QP H l,Cb e)=(bz,true,Hr,true)):WE C ⟨m,[]⟩ (bodyPost P fn (sf C R)) Φ H S e:=by
 obtain⟨g1,h⟩:=p6 h;obtain⟨g2,h⟩:=p6 h;obtain⟨g3,g4⟩:=p6 h;exact pR l mO (jt h1) U (br l2 g1) g2 g3 (uR g4)
theorem yr {U:Nat} (l l2:aq Nat)(mO:fn.results=#[.tmp t,.tmp U])(h1:(look S t,look S U)=(some v,some u))(hR:R (.tuple #[v,u]) bz Hr)(h:(QP Φ l2,fR l H.length,QP H l,Cb e)=(bz,true,Hr,true)):WE C ⟨m,[]⟩ (bodyPost P fn (sf C R)) Φ H S e:=by
 obtain⟨g1,h⟩:=p6 h;obtain⟨g2,h⟩:=p6 h;obtain⟨g3,g4⟩:=p6 h;obtain⟨g5,g6⟩:=p6 h1;exact w8 l mO (jt g5) (jt g6) hR (br l2 g1) g2 g3 (uR g4)
theorem ic (l l2:aq Nat)(mO:fn.results=#[])(U:R (.tuple #[]) bz Hr)(h:(QP Φ l2,fR l H.length,QP H l,Cb e)=(bz,true,Hr,true)):WE C ⟨m,[]⟩ (bodyPost P fn (sf C R)) Φ H S e:=by
 obtain⟨g1,h⟩:=p6 h;obtain⟨g2,h⟩:=p6 h;obtain⟨g3,g4⟩:=p6 h;exact vq l mO U (br l2 g1) g2 g3 (uR g4)
theorem wI {e:Nat} {x i:bw} {R:fc α} {p:bf Addr} {cp:Nat} {l:aq α} {ik:IntKind} {u:α} (k j:Nat)(h:(QM ops S o,o.dst,i' d n,ko d S,o.op,Φ[k]?,dy S x,dy S i)=(some true,some d,true,true,.indexAddr t x i,some (.sli sz R p cp l),some (.slice p l.length cp),some (.int ik (j:Int))))(hu:l[j]? =some u)(he:gG P t=some e)(hs:QV P e=some sz)
  (next:∀b q cs,cs.length=sz->WL P C n Q (.cells b q cs::.rep R cs u::Φ) H ((d,.pointer (some ⟨b,q,none⟩))::S) ops rest):WL P C n Q Φ H S ops (o::rest):=by
 obtain⟨h1,h⟩:=p6 h;obtain⟨U,h⟩:=p6 h;obtain⟨h3,h⟩:=p6 h;obtain⟨h4,h⟩:=p6 h;obtain⟨h5,h⟩:=p6 h;obtain⟨h6,h⟩:=p6 h;obtain⟨h7,h8⟩:=p6 h;exact QdG k j h1 U h3 (Q0 h4) h5 h6 h7 h8 rfl hu he hs next
theorem jG {q:Nat} {x:bw} (k j:Nat)(cs:aq bc)(h:(QM ops S o,o.dst,i' d n,ko d S,o.op,Φ[k]?,dy S x,(all.drop j).take sz)=(some true,some d,true,true,.load t x,some (.cells b q all),some (.pointer (some ⟨b,q+j,none⟩)),cs))
  (hs:QV P t=some sz) (ha:fJ P t=some g) (hv:(cs.length,lK g cs)=(sz,some v)) (next:WL P C n Q Φ H ((d,v)::S) ops rest):WL P C n Q Φ H S ops (o::rest):=by
 obtain⟨h1,h⟩:=p6 h;obtain⟨U,h⟩:=p6 h;obtain⟨h3,h⟩:=p6 h;obtain⟨h4,h⟩:=p6 h;obtain⟨h5,h⟩:=p6 h;obtain⟨h6,h⟩:=p6 h;obtain⟨h7,h8⟩:=p6 h;obtain⟨g1,g2⟩:=p6 hv;exact Sx k j h1 U h3 (Q0 h4) h5 h6 h7 h8 hs ha g1 g2 next
theorem j5 (a b:Nat):Value.bool (decide ((a:Int)<(b:Int)))=.bool (decide (a<b)):=a1w
theorem Nle (a b:Nat):Value.bool (decide ((a:Int)<=(b:Int)))=.bool (decide (a<=b)):=a1v
theorem Uq (a b:Nat):Value.bool (decide ((a:Int)>(b:Int)))=.bool (decide (b<a)):=a1u
theorem Nge (a b:Nat):Value.bool (decide ((a:Int)>=(b:Int)))=.bool (decide (b<=a)):=a1t
theorem sQ (a b:Nat):Value.bool ((a:Int)==(b:Int))=.bool (a==b):=a1s
theorem SB (a b:Nat):Value.bool ((a:Int) !=(b:Int))=.bool (a !=b):=a1x
theorem sq {l:aq Oper} (h:WL P C n (Exit.then (λa w=>y.wp P Q a w) Q) Φ H S l.toArray l):WC P C n Q Φ H S (.seq (.region id l.toArray false) y):=Q5 (Qa h)
theorem nt (h:WC P C n Q Φ H S y):WL P C n (Exit.then (λa w=>y.wp P Q a w) Q) Φ H S ops []:=Q2 (Qy h)
theorem kt (h:WC P C n Q Φ H S y):WC P C n (Exit.then (λa w=>y.wp P Q a w) Q) Φ H S .skip:=QY (Qy h)
theorem nr (h:WE C n Q Φ H S .ret):WL P C n (Exit.then (λa w=>Code.ret.wp P Q a w) Q) Φ H S ops []:=Q2 (Qy (Qn h))
theorem rb {K:Act->bx->Prop} (h:WE C n Q Φ H S .ret):WE C n (Exit.then K (Exit.inBlock id Q)) Φ H S .ret:=Q4 (Qr h)
theorem k0 (h:iP [] S=[])(y:WC P C n Q Φ H [] c):WC P C n Q Φ H S c:=ly _ h y
theorem nk0 (h:iP [] S=[])(x:WC P C n Q Φ H [] y):WL P C n (Exit.then (λa w=>y.wp P Q a w) Q) Φ H S ops []:=nt (ly _ h x)
theorem k1 (a:Nat) (h:iP [a] S=[A])(y:WC P C n Q Φ H [A] c):WC P C n Q Φ H S c:=ly _ h y
theorem eJ (a:Nat) (h:iP [a] S=[A])(x:WC P C n Q Φ H [A] y):WL P C n (Exit.then (λa w=>y.wp P Q a w) Q) Φ H S ops []:=nt (ly _ h x)
theorem k2 (a b:Nat) (h:iP [a,b] S=[A,B])(y:WC P C n Q Φ H [A,B] c):WC P C n Q Φ H S c:=ly _ h y
theorem ej (a b:Nat) (h:iP [a,b] S=[A,B])(x:WC P C n Q Φ H [A,B] y):WL P C n (Exit.then (λa w=>y.wp P Q a w) Q) Φ H S ops []:=nt (ly _ h x)
theorem k3 (a b e:Nat) {D:Nat×bc} (h:iP [a,b,e] S=[A,B,D])(y:WC P C n Q Φ H [A,B,D] c):WC P C n Q Φ H S c:=ly _ h y
theorem fF (a b e:Nat) {D:Nat×bc} (h:iP [a,b,e] S=[A,B,D])(x:WC P C n Q Φ H [A,B,D] y):WL P C n (Exit.then (λa w=>y.wp P Q a w) Q) Φ H S ops []:=nt (ly _ h x)
theorem k4 (a b e f:Nat) {D:Nat×bc} (h:iP [a,b,e,f] S=[A,B,D,E])(y:WC P C n Q Φ H [A,B,D,E] c):WC P C n Q Φ H S c:=ly _ h y
theorem fQ (a b e f:Nat) {D:Nat×bc} (h:iP [a,b,e,f] S=[A,B,D,E])(x:WC P C n Q Φ H [A,B,D,E] y):WL P C n (Exit.then (λa w=>y.wp P Q a w) Q) Φ H S ops []:=nt (ly _ h x)
theorem k5 (a b e f g:Nat) {D:Nat×bc} (h:iP [a,b,e,f,g] S=[A,B,D,E,F])(y:WC P C n Q Φ H [A,B,D,E,F] c):WC P C n Q Φ H S c:=ly _ h y
theorem kK (a b e f g:Nat) {D:Nat×bc} (h:iP [a,b,e,f,g] S=[A,B,D,E,F])(x:WC P C n Q Φ H [A,B,D,E,F] y):WL P C n (Exit.then (λa w=>y.wp P Q a w) Q) Φ H S ops []:=nt (ly _ h x)
theorem k6 (a b e f g i:Nat) {D:Nat×bc} (h:iP [a,b,e,f,g,i] S=[A,B,D,E,F,G])(y:WC P C n Q Φ H [A,B,D,E,F,G] c):WC P C n Q Φ H S c:=ly _ h y
theorem jV (a b e f g i:Nat) {D:Nat×bc} (h:iP [a,b,e,f,g,i] S=[A,B,D,E,F,G])(x:WC P C n Q Φ H [A,B,D,E,F,G] y):WL P C n (Exit.then (λa w=>y.wp P Q a w) Q) Φ H S ops []:=nt (ly _ h x)
theorem k7 (a b e f g i j:Nat) {D:Nat×bc} (h:iP [a,b,e,f,g,i,j] S=[A,B,D,E,F,G,I])(y:WC P C n Q Φ H [A,B,D,E,F,G,I] c):WC P C n Q Φ H S c:=ly _ h y
theorem E0 (a b e f g i j:Nat) {D:Nat×bc} (h:iP [a,b,e,f,g,i,j] S=[A,B,D,E,F,G,I])(x:WC P C n Q Φ H [A,B,D,E,F,G,I] y):WL P C n (Exit.then (λa w=>y.wp P Q a w) Q) Φ H S ops []:=nt (ly _ h x)
theorem k8 (a b e f g i j k:Nat) {D:Nat×bc} (h:iP [a,b,e,f,g,i,j,k] S=[A,B,D,E,F,G,I,J])(y:WC P C n Q Φ H [A,B,D,E,F,G,I,J] c):WC P C n Q Φ H S c:=ly _ h y
theorem My (a b e f g i j k:Nat) {D:Nat×bc} (h:iP [a,b,e,f,g,i,j,k] S=[A,B,D,E,F,G,I,J])(x:WC P C n Q Φ H [A,B,D,E,F,G,I,J] y):WL P C n (Exit.then (λa w=>y.wp P Q a w) Q) Φ H S ops []:=nt (ly _ h x)
theorem k9 (a b e f g i j k l:Nat) {D:Nat×bc} (h:iP [a,b,e,f,g,i,j,k,l] S=[A,B,D,E,F,G,I,J,K])(y:WC P C n Q Φ H [A,B,D,E,F,G,I,J,K] c):WC P C n Q Φ H S c:=ly _ h y
theorem nk9 (a b e f g i j k l:Nat) {D:Nat×bc} (h:iP [a,b,e,f,g,i,j,k,l] S=[A,B,D,E,F,G,I,J,K])(x:WC P C n Q Φ H [A,B,D,E,F,G,I,J,K] y):WL P C n (Exit.then (λa w=>y.wp P Q a w) Q) Φ H S ops []:=nt (ly _ h x)
theorem k10 (a b e f g i j k l m:Nat) {D L:Nat×bc} (h:iP [a,b,e,f,g,i,j,k,l,m] S=[A,B,D,E,F,G,I,J,K,L])(y:WC P C n Q Φ H [A,B,D,E,F,G,I,J,K,L] c):WC P C n Q Φ H S c:=ly _ h y
theorem a3r (a b e f g i j k l m:Nat) {D L:Nat×bc} (h:iP [a,b,e,f,g,i,j,k,l,m] S=[A,B,D,E,F,G,I,J,K,L])(x:WC P C n Q Φ H [A,B,D,E,F,G,I,J,K,L] y):WL P C n (Exit.then (λa w=>y.wp P Q a w) Q) Φ H S ops []:=nt (ly _ h x)
theorem k11 (a b e f g i j k l m p:Nat) {D L:Nat×bc} (h:iP [a,b,e,f,g,i,j,k,l,m,p] S=[A,B,D,E,F,G,I,J,K,L,M])(y:WC P C n Q Φ H [A,B,D,E,F,G,I,J,K,L,M] c):WC P C n Q Φ H S c:=ly _ h y
theorem RV (a b e f g i j k l m p:Nat) {D L:Nat×bc} (h:iP [a,b,e,f,g,i,j,k,l,m,p] S=[A,B,D,E,F,G,I,J,K,L,M])(x:WC P C n Q Φ H [A,B,D,E,F,G,I,J,K,L,M] y):WL P C n (Exit.then (λa w=>y.wp P Q a w) Q) Φ H S ops []:=nt (ly _ h x)
theorem uT (a b e f g i j k l m p q:Nat) {D L:Nat×bc} (h:iP [a,b,e,f,g,i,j,k,l,m,p,q] S=[A,B,D,E,F,G,I,J,K,L,M,N])(y:WC P C n Q Φ H [A,B,D,E,F,G,I,J,K,L,M,N] c):WC P C n Q Φ H S c:=ly _ h y
theorem a1A (a b e f g i j k l m p q:Nat) {D L:Nat×bc} (h:iP [a,b,e,f,g,i,j,k,l,m,p,q] S=[A,B,D,E,F,G,I,J,K,L,M,N])(x:WC P C n Q Φ H [A,B,D,E,F,G,I,J,K,L,M,N] y):WL P C n (Exit.then (λa w=>y.wp P Q a w) Q) Φ H S ops []:=nt (ly _ h x)
theorem a3s (a b e f g i j k l m p q r:Nat) {D L O:Nat×bc} (h:iP [a,b,e,f,g,i,j,k,l,m,p,q,r] S=[A,B,D,E,F,G,I,J,K,L,M,N,O])(x:WC P C n Q Φ H [A,B,D,E,F,G,I,J,K,L,M,N,O] y):WL P C n (Exit.then (λa w=>y.wp P Q a w) Q) Φ H S ops []:=nt (ly _ h x)
theorem c0 {e1:bc} {e2 e3:aq Fact} (l m:aq Nat)
  (h:(QM ops S o,o.dst,i' d n,ko d S,o.op,um S xs.toList)=(some true,some d,true,true,.call {callee:=.value (.func f),args:=xs,argTypes:=ts},some args)) (ja:dq P f=true) (hc:X)
  (spec:X->QF P f args Φf Hf (λv bz Hr=>v=e1/\bz=e2/\Hr=e3)) (l2:aq Nat) (H':aq Fact) (U:(QP H l,QP Φ l2,fR (l++m) H.length,QP H m)=(Hf,Φf,true,H'))
  (next:WL P C n Q (e2++Φ) (e3++H') ((d,e1)::S) ops rest):WL P C n Q Φ H S ops (o::rest):=by
 obtain⟨g1,U⟩:=p6 U;obtain⟨g2,U⟩:=p6 U;obtain⟨g3,g4⟩:=p6 U;refine wC l m h ja g1 (spec hc) (br l2 g2) g3 g4 ?_;rintro _ _ _ ⟨rfl,rfl,rfl⟩;exact next
theorem c1 {e1:A0->bc} {e2 e3:A0->aq Fact} (l m:aq Nat)
  (h:(QM ops S o,o.dst,i' d n,ko d S,o.op,um S xs.toList)=(some true,some d,true,true,.call {callee:=.value (.func f),args:=xs,argTypes:=ts},some args)) (ja:dq P f=true) (hc:X)
  (spec:X->QF P f args Φf Hf (λv bz Hr=>∃a0,v=e1 a0/\bz=e2 a0/\Hr=e3 a0)) (l2:aq Nat) (H':aq Fact) (U:(QP H l,QP Φ l2,fR (l++m) H.length,QP H m)=(Hf,Φf,true,H'))
  (next:∀a0,WL P C n Q (e2 a0++Φ) (e3 a0++H') ((d,e1 a0)::S) ops rest):WL P C n Q Φ H S ops (o::rest):=by
 obtain⟨g1,U⟩:=p6 U;obtain⟨g2,U⟩:=p6 U;obtain⟨g3,g4⟩:=p6 U;refine wC l m h ja g1 (spec hc) (br l2 g2) g3 g4 ?_;rintro _ _ _ ⟨a0,rfl,rfl,rfl⟩;exact next a0
theorem c3 {e1:A0->A1->A2->bc} {e2 e3:A0->A1->A2->aq Fact} (l m:aq Nat)
  (h:(QM ops S o,o.dst,i' d n,ko d S,o.op,um S xs.toList)=(some true,some d,true,true,.call {callee:=.value (.func f),args:=xs,argTypes:=ts},some args)) (ja:dq P f=true) (hc:X)
  (spec:X->QF P f args Φf Hf (λv bz Hr=>∃a0 U a2,v=e1 a0 U a2/\bz=e2 a0 U a2/\Hr=e3 a0 U a2)) (l2:aq Nat) (H':aq Fact) (h2:(QP H l,QP Φ l2,fR (l++m) H.length,QP H m)=(Hf,Φf,true,H'))
  (next:∀a0 U a2,WL P C n Q (e2 a0 U a2++Φ) (e3 a0 U a2++H') ((d,e1 a0 U a2)::S) ops rest):WL P C n Q Φ H S ops (o::rest):=by
 obtain⟨g1,h2⟩:=p6 h2;obtain⟨g2,h2⟩:=p6 h2;obtain⟨g3,g4⟩:=p6 h2;refine wC l m h ja g1 (spec hc) (br l2 g2) g3 g4 ?_;rintro _ _ _ ⟨a0,U,a2,rfl,rfl,rfl⟩;exact next a0 U a2
theorem c4 {e1:A0->A1->A2->A3->bc} {e2 e3:A0->A1->A2->A3->aq Fact} (l m:aq Nat)
  (h:(QM ops S o,o.dst,i' d n,ko d S,o.op,um S xs.toList)=(some true,some d,true,true,.call {callee:=.value (.func f),args:=xs,argTypes:=ts},some args)) (ja:dq P f=true) (hc:X)
  (spec:X->QF P f args Φf Hf (λv bz Hr=>∃a0 U a2 a3,v=e1 a0 U a2 a3/\bz=e2 a0 U a2 a3/\Hr=e3 a0 U a2 a3)) (l2:aq Nat) (H':aq Fact) (h2:(QP H l,QP Φ l2,fR (l++m) H.length,QP H m)=(Hf,Φf,true,H'))
  (next:∀a0 U a2 a3,WL P C n Q (e2 a0 U a2 a3++Φ) (e3 a0 U a2 a3++H') ((d,e1 a0 U a2 a3)::S) ops rest):WL P C n Q Φ H S ops (o::rest):=by
 obtain⟨g1,h2⟩:=p6 h2;obtain⟨g2,h2⟩:=p6 h2;obtain⟨g3,g4⟩:=p6 h2;refine wC l m h ja g1 (spec hc) (br l2 g2) g3 g4 ?_;rintro _ _ _ ⟨a0,U,a2,a3,rfl,rfl,rfl⟩;exact next a0 U a2 a3
theorem c6 {A4 A5:Type} {e1:A0->A1->A2->A3->A4->A5->bc} {e2 e3:A0->A1->A2->A3->A4->A5->aq Fact} (l m:aq Nat)
  (h:(QM ops S o,o.dst,i' d n,ko d S,o.op,um S xs.toList)=(some true,some d,true,true,.call {callee:=.value (.func f),args:=xs,argTypes:=ts},some args)) (ja:dq P f=true) (hc:X)
  (spec:X->QF P f args Φf Hf (λv bz Hr=>∃a0 U a2 a3 a4 a5,v=e1 a0 U a2 a3 a4 a5/\bz=e2 a0 U a2 a3 a4 a5/\Hr=e3 a0 U a2 a3 a4 a5)) (l2:aq Nat) (H':aq Fact) (h2:(QP H l,QP Φ l2,fR (l++m) H.length,QP H m)=(Hf,Φf,true,H'))
  (next:∀a0 U a2 a3 a4 a5,WL P C n Q (e2 a0 U a2 a3 a4 a5++Φ) (e3 a0 U a2 a3 a4 a5++H') ((d,e1 a0 U a2 a3 a4 a5)::S) ops rest):WL P C n Q Φ H S ops (o::rest):=by
 obtain⟨g1,h2⟩:=p6 h2;obtain⟨g2,h2⟩:=p6 h2;obtain⟨g3,g4⟩:=p6 h2;refine wC l m h ja g1 (spec hc) (br l2 g2) g3 g4 ?_;rintro _ _ _ ⟨a0,U,a2,a3,a4,a5,rfl,rfl,rfl⟩;exact next a0 U a2 a3 a4 a5
end
section
variable {P:da} {C:Ctx} {n:FD} {Q:Exit->Act->bx->Prop} {ops:Array Oper} {ax L:aq Nat} {D:aq (Nat×Fact)} {Φ H:aq Fact} {S S':aq (Nat×bc)} {d:Nat}
variable {t b k sz d2 q e tb:Nat}{v:bc}{g:Bool}{all:aq bc}{o2:Oper}{p:bf Addr}
private theorem p7.{u,v} {α:Type u} {β:Type v} {a U:α} {b b':β} (h:(a,b)=(U,b')):a=U/\b=b':=by cases h;exact⟨rfl,rfl⟩
theorem QS {v':bc} (h:v=v')(next:WX P C n Q ops ax L D Φ H ((d,v')::S)):WX P C n Q ops ax L D Φ H ((d,v)::S):=by subst h;exact next
theorem cy (U:j2 ops ax=true)(i:Nat) {o:Oper} {d:Nat} {v2:bc} (h:((ops[i]?,o.dst,nD ops ax L i n d o,ko d S,QM ops S o,Ba S o.op),(ops[i+1]?,o2.dst,nD ops ax (i::L) (i+1) n d2 o2,ko d2 ((d,v)::S),QM ops ((d,v)::S) o2,Ba ((d,v)::S) o2.op))=((some o,some d,true,true,some true,some v),(some o2,some d2,true,true,some true,some v2)))
  (next:WX P C n Q ops ax ((i+1)::i::L) D Φ H ((d2,v2)::(d,v)::S)):WX P C n Q ops ax L D Φ H S:=by
 obtain⟨h1,h2⟩:=p7 h;exact xP U i h1 (xP U (i+1) h2 next)
theorem dv (U:j2 ops ax=true)(i:Nat) {o:Oper} {d:Nat} (h:((ops[i]?,o.dst,nD ops ax L i n d o,ko d S,QM ops S o),(ops[i+1]?,o2.dst,nD ops ax (i::L) (i+1) n d2 o2,ko d2 ((d,undef)::S),QM ops ((d,undef)::S) o2))=((some o,some d,true,true,some false),(some o2,some d2,true,true,some false)))
  (next:WX P C n Q ops ax ((i+1)::i::L) D Φ H ((d2,undef)::(d,undef)::S)):WX P C n Q ops ax L D Φ H S:=by
 obtain⟨h1,h2⟩:=p7 h;exact xO U i h1 (xO U (i+1) h2 next)
theorem xF (U:j2 ops ax=true)(i:Nat) {o:Oper} {d off:Nat} {x:bw} (h:(ops[i]?,o.dst,nD ops ax L i n d o,ko d S,QM ops S o,o.op,dy S x)=(some o,some d,true,true,some true,.fieldAddr t x k,some (.pointer (some ⟨b,q,none⟩))))(hk:QZ P t k=some off)
  (next:WX P C n Q ops ax (i::L) D Φ H ((d,.pointer (some ⟨b,q+off,none⟩))::S)):WX P C n Q ops ax L D Φ H S:=by
 obtain⟨h1,h⟩:=p7 h;obtain⟨h2,h⟩:=p7 h;obtain⟨h3,h⟩:=p7 h;obtain⟨h4,h⟩:=p7 h;obtain⟨h5,h⟩:=p7 h;obtain⟨h6,h7⟩:=p7 h;exact AF U i h1 h2 h3 (Q0 h4) h5 h6 h7 hk next
theorem xN (U:j2 ops ax=true)(i:Nat) {o:Oper} {d:Nat} {x:bw} {c:Nat} (h:(ops[i]?,o.dst,nD ops ax L i n d o,ko d S,QM ops S o,o.op,dy S x)=(some o,some d,true,true,some true,.call {callee:=.builtin .len,args:=#[x],argTypes:=#[t]},some (.slice p k c)))(ht:gG P t=some e)
  (next:WX P C n Q ops ax (i::L) D Φ H ((d,.int .i64 (k:Int))::S)):WX P C n Q ops ax L D Φ H S:=by
 obtain⟨h1,h⟩:=p7 h;obtain⟨h2,h⟩:=p7 h;obtain⟨h3,h⟩:=p7 h;obtain⟨h4,h⟩:=p7 h;obtain⟨h5,h⟩:=p7 h;obtain⟨h6,h7⟩:=p7 h;exact YG U i h1 h2 h3 (Q0 h4) h5 h6 h7 ht next
theorem xM (U:j2 ops ax=true)(i:Nat) {o:Oper} {d:Nat} {x:bw} (k j:Nat)(cs:aq bc)(h:(ops[i]?,o.dst,nD ops ax L i n d o,ko d S,QM ops S o,o.op,QP H [k],dy S x,(all.drop j).take sz)=(some o,some d,true,true,some true,.load t x,[.blk b all tb],some (.pointer (some ⟨b,j,none⟩)),cs))
  (hs:QV P t=some sz) (ha:fJ P t=some g) (hv:(cs.length,lK g cs)=(sz,some v))
  (next:WX P C n Q ops ax (i::L) ((i,.blk b all tb)::D) Φ H ((d,v)::S)):WX P C n Q ops ax L D Φ H S:=by
 obtain⟨h1,h⟩:=p7 h;obtain⟨h2,h⟩:=p7 h;obtain⟨h3,h⟩:=p7 h;obtain⟨h4,h⟩:=p7 h;obtain⟨h5,h⟩:=p7 h;obtain⟨h6,h⟩:=p7 h;obtain⟨h7,h⟩:=p7 h;obtain⟨h8,h9⟩:=p7 h;obtain⟨g1,g2⟩:=p7 hv;exact Dv U i k j h1 h2 h3 (Q0 h4) h5 h6 h7 h8 h9 hs ha g1 g2 next
theorem xD (U:j2 ops ax=true)(i:Nat) {o:Oper} {d:Nat} {x:bw} {c:bc} (k j:Nat)(h:(ops[i]?,o.dst,nD ops ax L i n d o,ko d S,QM ops S o,o.op,QP H [k],dy S x,all[j]?)=(some o,some d,true,true,some true,.load t x,[.blk b all tb],some (.pointer (some ⟨b,j,none⟩)),some c))
  (hs:QV P t=some 1) (ha:fJ P t=some g) (hv:lK g [c]=some v)
  (next:WX P C n Q ops ax (i::L) ((i,.blk b all tb)::D) Φ H ((d,v)::S)):WX P C n Q ops ax L D Φ H S:=by
 obtain⟨h1,h⟩:=p7 h;obtain⟨h2,h⟩:=p7 h;obtain⟨h3,h⟩:=p7 h;obtain⟨h4,h⟩:=p7 h;obtain⟨h5,h⟩:=p7 h;obtain⟨h6,h⟩:=p7 h;obtain⟨h7,h⟩:=p7 h;obtain⟨h8,h9⟩:=p7 h;refine Dv U i k j h1 h2 h3 (Q0 h4) h5 h6 h7 h8 (cs:=[c]) ?_ hs ha rfl hv next
 obtain⟨hj,hc⟩:=g'.1 h9;rw[j' hj,hc];rfl
theorem xL (U:j2 ops ax=true)(i:Nat) {o:Oper} {d:Nat} {x:bw} (k j:Nat)(cs:aq bc)(h:(ops[i]?,o.dst,nD ops ax L i n d o,ko d S,QM ops S o,o.op,Φ[k]?,dy S x,(all.drop j).take sz)=(some o,some d,true,true,some true,.load t x,some (.cells b q all),some (.pointer (some ⟨b,q+j,none⟩)),cs))
  (hs:QV P t=some sz) (ha:fJ P t=some g) (hv:(cs.length,lK g cs)=(sz,some v))
  (next:WX P C n Q ops ax (i::L) D Φ H ((d,v)::S)):WX P C n Q ops ax L D Φ H S:=by
 obtain⟨h1,h⟩:=p7 h;obtain⟨h2,h⟩:=p7 h;obtain⟨h3,h⟩:=p7 h;obtain⟨h4,h⟩:=p7 h;obtain⟨h5,h⟩:=p7 h;obtain⟨h6,h⟩:=p7 h;obtain⟨h7,h⟩:=p7 h;obtain⟨h8,h9⟩:=p7 h;obtain⟨g1,g2⟩:=p7 hv;exact Sy U i k j h1 h2 h3 (Q0 h4) h5 h6 h7 h8 h9 hs ha g1 g2 next
theorem xI {α:Type} (U:j2 ops ax=true)(i:Nat) {o:Oper} {d:Nat} {x y:bw} {R:fc α} {cp:Nat} {l:aq α} {ik:IntKind} {u:α} (k j:Nat)(h:(ops[i]?,o.dst,nD ops ax L i n d o,ko d S,QM ops S o,o.op,Φ[k]?,dy S x,dy S y)=(some o,some d,true,true,some true,.indexAddr t x y,some (.sli sz R p cp l),some (.slice p l.length cp),some (.int ik (j:Int))))(hu:l[j]? =some u)(he:gG P t=some e)(hs:QV P e=some sz)
  (next:∀b q cs,cs.length=sz->WX P C n Q ops ax (i::L) D (.cells b q cs::.rep R cs u::Φ) H ((d,.pointer (some ⟨b,q,none⟩))::S)):WX P C n Q ops ax L D Φ H S:=by
 obtain⟨h1,h⟩:=p7 h;obtain⟨h2,h⟩:=p7 h;obtain⟨h3,h⟩:=p7 h;obtain⟨h4,h⟩:=p7 h;obtain⟨h5,h⟩:=p7 h;obtain⟨h6,h⟩:=p7 h;obtain⟨h7,h⟩:=p7 h;obtain⟨h8,h9⟩:=p7 h;exact Qc2 U i k j h1 h2 h3 (Q0 h4) h5 h6 h7 h8 h9 rfl hu he hs next
theorem cv {Φ' H':aq Fact} {S':aq (Nat×bc)} (i:Nat)(m:aq Nat)(h:(Φ'.drop i,QP H' m)=(Φ,yd ops k D))(next:WX P C n Q ops ax (k::L) D Φ' H' S'):WE C n (QX P C n Q ops ax L D Φ k) Φ' H' S' .normal:=by
 obtain⟨h1,h2⟩:=p7 h;refine gB ((E' Φ'.length).drop i) m ?_ h2 next
 rw[<-h1];clear next h
 have:∀(l:aq Fact) (a:aq Fact),QP (a++l) ((E' (a++l).length).drop a.length)=l:=by
  intro l;induction l with
  |nil=>intro a;rw[k' bh];rfl
  | cons x l ih=>
    intro a
    have e:(E' (a++x::l).length).drop a.length=a.length::(E' ((a++[x])++l).length).drop (a++[x]).length:=by
     rw[j' bh];simp
    rw[e];have:=ih (a++[x]);unfold QP at this⊢;rw[List.filterMap_cons];simp only[F',x']at this;rw[show(a++x::l)[a.length]? =some x by simp];simp only[F',x'];rw[this]
 rcases Nat.le_total i Φ'.length with hi|hi
 ·have U:=this (Φ'.drop i) (Φ'.take i);rw[List.take_append_drop,List.length_take,Nat.min_eq_left hi]at U;exact U
 · rw[k' (du hi),k' hi];rfl
end
end
section
open Go Go.RowKit
set_option maxRecDepth 100000
set_option maxHeartbeats 4000000
abbrev Ni (st:cz):bc:=.iface (cz.tag st) (.pointer (some ⟨cz.adr st,0,none⟩))
theorem pF {C:Ctx} {n:FD} {Q:Exit->Act->bx->Prop} {Φ Φ' H:aq Fact} {S:aq (Nat×bc)} {e:Exit} (hs:∀φ∈Φ',φ∈Φ)(h:WE C n Q Φ' H S e):WE C n Q Φ H S e:=λa w U hw=>h a w U (hw.sub hs)
theorem lj {P:da} {f:FuncId} {args:aq bc} {Φ H L:aq Fact} {u:bc} {Q:Qe->Prop} {X:Qe->aq Fact} (h:QF P f args Φ H (λv U Hr=>∃o,Q o/\v=u/\U=L/\Hr=X o)):QF P f args Φ H (λv U Hr=>∃o,Q o/\v=u/\U=[]/\Hr=X o):=by
 intro F N w h1 h2 h3 h4 h5;refine(h F N w h1 h2 h3 h4 h5).mono ?_;rintro e w' ⟨v,U,Hr,rfl,⟨o,q1,q2,rfl,rfl⟩,hh⟩;exact⟨_,_,_,rfl,⟨o,q1,q2,rfl,rfl⟩,hh.sub λ_ h=>by cases h⟩
def vy (K:cz->Qe->WM Qe)(r:Nat)(y:nQ):Nat->Qe->WM Qe
 |0,s=>fq s
 |i+1,s=>QA (gRow s r) λU=>fN (U.stepsP=y.stepsP/\U.steps=y.steps/\U.stepsC=y.stepsC)<|QA (y.steps[i]?) λst=>fu (K st s) λs'=>vy K r y i s'
def Hp (K:cz->Qe->WM Qe)(a0:Nat)(x:gP):aq Nat->Qe->WM Qe
 |[],s=>fq s
 |r::rs,s=>QA (gNet s a0) λU=>fN (U.rowsP=x.rowsP/\U.rows=x.rows/\U.rowsC=x.rowsC)<|QA (gRow s r) λy=>fN (y.steps.length<=9223372036854775807)<|fu (vy K r y y.steps.length s) λs'=>Hp K a0 x rs s'
def Gr (K:cz->Qe->WM Qe)(a0:Nat)(s:Qe):WM Qe:=QA (gNet s a0) λx=>fN (x.rows.length<=9223372036854775806) (Hp K a0 x x.rows s)
theorem Ew (v:bc)(h1:v.cells.toList=[v]):QF Tryz.prog 179 [v] [] [] (λu bz Hr=>∃g,u=.func (.func 265) #[] #[.pointer (some ⟨g,0,none⟩)]/\bz=[]/\Hr=[.blk g [v] 110]):=by
 refine Qm Tryz.func179 rfl rfl rfl rfl λC=>?_;refine Q5 ?_;refine Qa ?_;refine vV rfl rfl rfl (Q0 rfl) rfl rfl h1 (λg=>?_);refine Qs rfl rfl rfl (Q0 rfl) rfl ?_;refine Q2 ?_;refine Qy ?_;refine Q5 ?_;refine Qa ?_;refine rV rfl rfl rfl (Q0 rfl) rfl rfl ?_;refine Qs (S':=[_,_,_]) rfl rfl rfl rfl rfl ?_;refine Q2 ?_;refine Qy ?_;refine Qn ?_;exact pR (Hr:=[_]) [0] Tryz.results179 (jt rfl) ⟨g,rfl,rfl,rfl⟩ (λ_ _ U=>ask [] rfl U) rfl rfl (.inl rfl)
abbrev Ci (g gb tb:Nat) (U:bc) (cs:aq bc) (s:Qe):aq Fact:=[.blk g [U] 225,.blk gb cs tb,Qh gg s]
variable {gb tb:Nat}{cs:aq bc}{OP:aq Fact}{K:cz->Qe->WM Qe}{s:Qe}{Q:Qe->Prop}
theorem PH {l fn D g gk r:Nat} {tmps:Array bc} {assign body:Code} {ps:Array Tmp} {Vp:bc} {y:nQ} (Ru:ps.size=2)(hlen:y.steps.length<=9223372036854775807)
  (rs:∀(i:Nat) (st:cz) (s:Qe) (Q':Qe->Prop),K st s Q'->zi Tryz.prog l fn ((ps.zip #[.int .i64 (i:Int),Ni st]).foldl (λtmps (t,a)=>tmps.setIfInBounds t a) tmps) assign body OP (sa l {state:=.ready,pending:=none,fn:=fn,tmps:=tmps,params:=ps,assign:=assign,body:=body,defers:=D}::Ci g gb tb Vp cs s) (λv bz Hr=>∃s',Q' s'/\v=.bool true/\bz=[]/\Hr=sa l {state:=.ready,pending:=none,fn:=fn,tmps:=tmps,params:=ps,assign:=assign,body:=body,defers:=D}::Ci g gb tb Vp cs s'))
  (hm:vy K r y y.steps.length s Q):
  QF Tryz.prog 265 [.func (.yield l) #[] #[],.pointer (some ⟨gk,0,none⟩)] OP (sa l {state:=.ready,pending:=none,fn:=fn,tmps:=tmps,params:=ps,assign:=assign,body:=body,defers:=D}::(Ci g gb tb Vp cs s++[.blk gk [.slice y.stepsP y.steps.length y.stepsC] 110]))
   (λ_ bz Hr=>∃rr Hx,rr.state≠.busy/\rr.pending=none/\Hr=sa l rr::Hx/\(∃s',Q s'/\bz=[]/\Hx=Ci g gb tb Vp cs s'++[.blk gk [.slice y.stepsP y.steps.length y.stepsC] 110])):=by
 refine Qm Tryz.func265 rfl rfl rfl rfl λC=>?_;refine Q5 ?_;refine Qa ?_;refine On 4 0 rfl rfl rfl (Q0 rfl) rfl rfl rfl (cs:=[_]) rfl JO PC rfl rfl ?_;refine Ga rfl rfl rfl (Q0 rfl) rfl rfl JN ?_;refine Qs rfl rfl rfl (Q0 rfl) rfl ?_;refine Qp (i64_in (by unfold inI;omega)) ?_;refine Qs rfl rfl rfl (Q0 rfl) rfl ?_;refine Q2 ?_;refine Qy ?_;refine Qk ?_
 refine UZ (σ:=Nat×Qe) (λ(i,s)=>i<=9223372036854775807/\vy K r y i s Q) (λ(i,_)=>i) (λ(i,_)=>[(3,.int .i64 ((i:Int)-1)),(1,.pointer (some ⟨gk,0,none⟩)),(0,.func (.yield l) #[] #[])]) (λ_=>OP)
  (λ(_,s)=>sa l {state:=.ready,pending:=none,fn:=fn,tmps:=tmps,params:=ps,assign:=assign,body:=body,defers:=D}::(Ci g gb tb Vp cs s++[.blk gk [.slice y.stepsP y.steps.length y.stepsC] 110])) (y.steps.length,s) ⟨hlen,hm⟩ [3,1,0] rfl (λ_ _ bs=>bs) rfl (λs_ hm=>?_)
 obtain⟨i,s⟩:=s_;try dsimp only at hm⊢
 obtain⟨hi,hm⟩:=hm;refine Q5 ?_;refine Q5 ?_;refine Qa ?_;refine Qs rfl rfl rfl (Q0 rfl) rfl ?_;refine Qs rfl rfl rfl (Q0 rfl) rfl ?_;refine Q2 ?_;refine Qy ?_;refine iB rfl (λhb=>?_) (λhb=>?_)
 ·rcases i with _|k;· simp at hb
  refine QY ?_;refine Qy ?_;refine ly [3,1,0] (S':=[_,_,_]) rfl ?_;refine a1Y 0 (v':=.int .i64 ((k:Nat):Int)) rfl bh ?_;refine Q5 ?_;refine Qk ?_;refine Q5 ?_;refine vT ?_;refine Th (P:=Tryz.prog) (l2:=[_,_]) [_,_,_,_,_,_] rfl rfl ?_;refine Qs rfl rfl rfl (Q0 rfl) rfl ?_;refine Qs rfl rfl rfl (Q0 rfl) rfl ?_;refine On 4 0 rfl rfl rfl (Q0 rfl) rfl rfl rfl (cs:=[_]) rfl JO PC rfl rfl ?_;refine Qs rfl rfl rfl (Q0 rfl) rfl ?_;replace hm:=JF hm;obtain⟨U,hy,hm⟩:=hm;replace hy:=qe hy;replace hm:=xR hm;obtain⟨JV,hm⟩:=hm;replace hm:=JF hm;obtain⟨st,cx,hm⟩:=hm;have a19:U.steps[k]? =some st:=by rw[JV.2.1];exact cx
  refine Ki 3 rfl hy rfl (λ_=>[eH gI false Qx U.wholeA U.whole,.own 213 1 Kp (.slice U.stepsP U.steps.length U.stepsC) U.steps,.blk r [.pointer (some ⟨U.net,0,none⟩),.slice U.stepsP U.steps.length U.stepsC,.map (some U.wholeA)] 112,_,_,_,Qh gg (del s r),_]) (λ_=>rfl) (λ_=>?_);refine pG 1 (v':=.slice U.stepsP U.steps.length U.stepsC) rfl (by rw[JV.1,JV.2.1,JV.2.2]) ?_;refine HX 1 k rfl rfl rfl (Q0 rfl) rfl rfl rfl rfl rfl (lI a19) JN PF (λge ege=>?_);refine UI ege Qc6 1 k 0 rfl rfl rfl (Q0 rfl) rfl rfl rfl a19 PF FV (v:=λ_=>Ni st) (λ_=>rfl) (λ_=>rfl) (λ_ _=>?_);refine ZF (gg:=gg) (a:=r) (o:=PO.row U) (x:=U) [0,1,2,3,4,5,6,7] 3 () rfl rfl rfl rfl rfl (λF w bs=>QQ) (UH hy) (H':=[_,_,_,Qh gg s,_]) rfl (λ_=>?_);refine Q2 ?_;refine Ue ?_;refine yO [0,1,2,3] [4] rfl rfl rfl (Q0 rfl) rfl rfl rfl rfl Ru.symm (rs k st s _ (gH hm)) (λ_ _ bs=>bs) rfl rfl ?_;rintro _ _ _ ⟨s',hm',rfl,rfl,rfl⟩;refine Th (P:=Tryz.prog) (l2:=[]) [_] rfl rfl ?_;refine Qs rfl rfl rfl (Q0 rfl) rfl ?_;refine Q2 ?_;refine qV ?_;refine Qy ?_;refine DG rfl ?_;refine QY ?_;refine Q6 ?_;refine Qy ?_;refine ly [3,1,0] (S':=[_,_,_]) rfl ?_;refine Qa ?_;refine Qs rfl rfl rfl (Q0 rfl) rfl ?_;refine Qs rfl rfl rfl (Q0 rfl) rfl ?_;refine Qp (i64_in (by unfold inI;omega)) ?_;refine Qs (S':=[_,_,_,_]) rfl rfl rfl rfl rfl ?_;refine Q2 ?_;refine Pf (k,s') (p' _) ⟨au,hm'⟩ [3,1,0] rfl (λ_ _ bs=>bs) rfl
 ·rcases i with _|k
  ·refine gW ?_;refine Q7 ?_;refine Q7 ?_;refine Qv ?_;exact vq (Hr:=[_,_,_,_,_]) [0,1,2,3,4] Tryz.results265 ⟨_,_,bh,rfl,rfl,s,hm,rfl,rfl⟩ (λ_ _ bs=>ask [] rfl bs) rfl rfl (.inr rfl)
  · simp at hb
theorem zy {a0 cf:Nat} (ZK:dq Tryz.prog cf=true)
  (hK:∀st s Q',K st s Q'->QF Tryz.prog cf [Ni st,.pointer (some ⟨gb,0,none⟩)] OP [.blk gb cs tb,Qh gg s] (λv bz Hr=>∃s',Q' s'/\v=.tuple #[]/\bz=[]/\Hr=[.blk gb cs tb,Qh gg s']))
  (hm:Gr K a0 s Q):QF Tryz.prog 96 [.pointer (some ⟨a0,0,none⟩),.func (.func cf) #[] #[.pointer (some ⟨gb,0,none⟩)]] OP [.blk gb cs tb,Qh gg s] (λv bz Hr=>∃s',Q s'/\v=.tuple #[]/\bz=[]/\Hr=[.blk gb cs tb,Qh gg s']):=by
 refine CO Tryz.func96 rfl rfl rfl rfl λC=>?_;refine Q5 ?_;refine Qa ?_;refine vV rfl rfl rfl (Q0 rfl) rfl rfl rfl (λg=>?_);refine Q2 ?_;refine Qy ?_;refine Q5 ?_;refine Qa ?_;refine Qs rfl rfl rfl (Q0 rfl) rfl ?_;refine Qs rfl rfl rfl (Q0 rfl) rfl ?_;refine QcH rfl rfl rfl (Q0 rfl) rfl rfl pe ?_;replace hm:=JF hm;obtain⟨x,hx,hm⟩:=hm;replace hx:=qd hx;replace hm:=xR hm;obtain⟨Xh,hm⟩:=hm;refine Ki 3 rfl hx rfl (λr0=>[eH (iH (ie jS)).X true QH x.factsA x.facts,eH (JJ (Gi nq)).X false kp x.alphasA x.alphas,.own 108 1 kp (.slice x.rowsP x.rows.length x.rowsC) x.rows,.blk a0 [.slice r0.1 x.types.length r0.2,.slice x.rowsP x.rows.length x.rowsC,.map (some x.alphasA),.map (some x.factsA),.int .i64 (x.parts)] 85,_,_,_,Qh gg (del s a0)]) (λ_=>rfl) (λr0=>?_);refine On 3 1 rfl rfl rfl (Q0 rfl) rfl rfl rfl (cs:=[_]) rfl Db Hv rfl rfl ?_;refine Ga rfl rfl rfl (Q0 rfl) rfl rfl rN ?_;refine Qs rfl rfl rfl (Q0 rfl) rfl ?_;refine ZF (gg:=gg) (a:=a0) (o:=PO.net x) (x:=x) [0,1,2,3,4,5,6,7] 3 r0 rfl rfl rfl rfl rfl (λF w bs=>(jf (bs _ (gv (k:=0) rfl)) QQ)) (UH hx) (H':=[_,_,_,Qh gg s]) rfl (λ_=>?_);refine Q2 ?_;refine pF (Φ':=OP) (λ_ h=>l' _ h) ?_;refine Qj [1,0,2,3] rfl (H':=[_,_,_,_]) rfl ?_;refine Qy ?_;refine Qk ?_
 refine NY (σ:=aq Nat×aq Nat×aq Nat×Qe) (λ(_,pre,rs,s)=>x.rows=pre++rs/\Hp K a0 x rs s Q) (λ(_,_,rs,_)=>rs.length) (λ(Ds,_,_,_)=>⟨28,marks Ds⟩)
  (λ(_,pre,_,_)=>[(13,.int .i64 ((pre.length:Nat):Int)),(12,.int .i64 ((x.rows.length:Nat):Int)),(11,.slice x.rowsP x.rows.length x.rowsC),(3,.pointer (some ⟨g,0,none⟩))]) (λ_=>OP)
  (λ(Ds,_,_,s)=>[tQ Ds,.blk g [.func (.func cf) #[] #[.pointer (some ⟨gb,0,none⟩)]] 225,.blk gb cs tb,Qh gg s]) ([],[],x.rows,s) ⟨rfl,hm⟩ rfl [13,12,11,3] rfl (λ_ _ bs=>bs) rfl (λs_ hm=>?_)
 obtain⟨Ds,pre,rs,s⟩:=s_;try dsimp only at hm⊢
 obtain⟨gh,hm⟩:=hm;refine Q5 ?_;refine Qa ?_;refine Qs rfl rfl rfl (Q0 rfl) rfl ?_;refine Q2 ?_;refine Qy ?_;refine Q5 ?_;refine iB rfl (λhb=>?_) (λhb=>?_)
 ·rcases rs with _|⟨r,rs⟩
  · rw[gh]at hb;simp at hb
  have hr0:x.rows[pre.length]? =some r:=by rw[gh];simp
  replace hm:=JF hm;obtain⟨U,nH,hm⟩:=hm;replace nH:=qd nH;replace hm:=xR hm;obtain⟨JV,hm⟩:=hm;have hr1:U.rows[pre.length]? =some r:=by rw[JV.2.1];exact hr0
  refine QY ?_;refine Qy ?_;refine ly [13,12,11,3] (S':=[_,_,_,_]) rfl ?_;refine Q5 ?_;refine Qk ?_;refine Q5 ?_;refine Qa ?_;refine Ki 3 rfl nH rfl (λr0=>[eH (iH (ie jS)).X true QH U.factsA U.facts,eH (JJ (Gi nq)).X false kp U.alphasA U.alphas,.own 108 1 kp (.slice U.rowsP U.rows.length U.rowsC) U.rows,.blk a0 [.slice r0.1 U.types.length r0.2,.slice U.rowsP U.rows.length U.rowsC,.map (some U.alphasA),.map (some U.factsA),.int .i64 (U.parts)] 85,_,_,_,Qh gg (del s a0)]) (λ_=>rfl) (λr0=>?_);refine pG 2 (v':=.slice U.rowsP U.rows.length U.rowsC) rfl (by rw[JV.1,JV.2.1,JV.2.2]) ?_;refine HX 2 pre.length rfl rfl rfl (Q0 rfl) rfl rfl rfl rfl rfl (lI hr1) rN Bb (λge ege=>?_);refine pG 3 (v':=.slice x.rowsP x.rows.length x.rowsC) rfl (by rw[JV.1,JV.2.1,JV.2.2]) ?_;refine UI ege SY 2 pre.length 0 rfl rfl rfl (Q0 rfl) rfl rfl rfl hr1 Bb I8 (v:=λ_=>.pointer (some ⟨r,0,none⟩)) (λ_=>rfl) (λ_=>rfl) (λ_ _=>?_);refine Qs rfl rfl rfl (Q0 rfl) rfl ?_;refine ZF (gg:=gg) (a:=a0) (o:=PO.net U) (x:=U) [0,1,2,3,4,5,6,7] 3 r0 rfl rfl rfl rfl rfl (λF w bs=>(jf (bs _ (gv (k:=0) rfl)) QQ)) (UH nH) (H':=[_,_,_,Qh gg s]) rfl (λ_=>?_);refine Q2 ?_;refine pF (Φ':=OP) (λ_ h=>l' _ (l' _ h)) ?_;refine Qy ?_;refine ly [5,13,12,11,3] (S':=[_,_,_,_,_]) rfl ?_;refine Q5 ?_;refine Qa ?_;refine Qs rfl rfl rfl (Q0 rfl) rfl ?_;refine Qs rfl rfl rfl (Q0 rfl) rfl ?_;refine QcH rfl rfl rfl (Q0 rfl) rfl rfl Ol ?_;replace hm:=JF hm;obtain⟨y,hy,hm⟩:=hm;replace hy:=qe hy;replace hm:=xR hm;obtain⟨hsl,hm⟩:=hm;refine Ki 3 rfl hy rfl (λ_=>[eH gI false Qx y.wholeA y.whole,.own 213 1 Kp (.slice y.stepsP y.steps.length y.stepsC) y.steps,.blk r [.pointer (some ⟨y.net,0,none⟩),.slice y.stepsP y.steps.length y.stepsC,.map (some y.wholeA)] 112,_,_,_,Qh gg (del s r)]) (λ_=>rfl) (λ_=>?_);refine On 2 1 rfl rfl rfl (Q0 rfl) rfl rfl rfl (cs:=[_]) rfl JO PC rfl rfl ?_;refine ZF (gg:=gg) (a:=r) (o:=PO.row y) (x:=y) [0,1,2,3,4,5,6] 3 () rfl rfl rfl rfl rfl (λF w bs=>QQ) (UH hy) (H':=[_,_,_,Qh gg s]) rfl (λ_=>?_);refine AD [] [0,1,2,3] rfl rfl rfl (Q0 rfl) rfl rfl aw rfl (Ew _ rfl) (λ_ _ bs=>ask [] rfl bs) rfl (H':=[_,_,_,_]) rfl ?_;rintro _ _ _ ⟨gk,rfl,rfl,rfl⟩;refine Q2 ?_;refine Qy ?_;refine ly [21,13,12,11,3] (S':=[_,_,_,_,_]) rfl ?_;refine Qk ?_;refine Dk (Φf:=OP) (H':=[tQ Ds]) [0,4,5,6,2] [1,3] rfl aw (λ_ _=>rfl) (λ_ _ bs=>bs) rfl (λ_ _=>rfl) (λfn l D a hf=>PH (K:=K) rfl hsl (λi st s Q' hk=>?_) (gH hm)) (λD bz Hx hR=>?_)
  ·refine CH (LC hf rfl rfl rfl rfl) λC=>?_;refine QcF ?_;refine Th (P:=Tryz.prog) (l2:=[]) [_] rfl rfl ?_;refine Qs rfl rfl rfl (Q0 rfl) rfl ?_;refine Q2 ?_;refine qV ?_;refine Dl 0 rfl rfl rfl ?_;refine yJ ?_;refine QcF ?_;refine Th (P:=Tryz.prog) (l2:=[]) [_,_,_] rfl rfl ?_;refine On 1 0 rfl rfl rfl (Q0 rfl) rfl rfl rfl (cs:=[_]) rfl Ym Y7 rfl rfl ?_;refine Qs rfl rfl rfl (Q0 rfl) rfl ?_;refine nA [2,3] [0,1] rfl rfl rfl (Q0 rfl) rfl rfl rfl ZK rfl rfl (hK st s Q' hk) (λ_ _ bs=>bs) rfl (H':=[_,_]) rfl ?_;rintro _ _ _ ⟨s',hm',rfl,rfl,rfl⟩;refine Q2 ?_;refine qV ?_;refine Q6 ?_;refine pF (Φ':=[]) (λ_ h=>by cases h) ?_;refine Qj [2,3,0,1] rfl (H':=[_,_,_,_]) rfl ?_;exact rQ 0 rfl rfl ⟨s',hm',rfl,rfl,rfl⟩
  ·obtain⟨s',hm',rfl,rfl⟩:=hR;refine HJ (Ds:=Ds) (Es:=[D]) 5 4 rfl rfl rfl rfl ?_;refine Q6 ?_;refine Q6 ?_;refine Qy ?_;refine Qa ?_;refine Qs rfl rfl rfl (Q0 rfl) rfl ?_;refine Qp (i64_in (by unfold inI;have:=(g'.1 hr0).1;omega)) ?_;refine Qs (S':=[_,_,_,_,_]) rfl rfl rfl rfl rfl ?_;refine Q2 ?_;refine Qj [4,0,1,2] rfl (H':=[tQ (D::Ds),_,_,_]) rfl ?_;refine a2a 0 (v':=.int .i64 (((pre++[r]).length:Nat):Int)) rfl bh ?_;exact Jq (D::Ds,pre++[r],rs,s') (p' _) ⟨by rw[gh];simp,hm'⟩ rfl [13,12,11,3] rfl (λ_ _ bs=>bs) rfl
 ·rcases rs with _|⟨r,rs⟩
  ·refine gW ?_;refine Q7 ?_;refine Q7 ?_;refine Qv ?_;refine Qj [0,2,3] rfl (H':=[tQ Ds,_,_]) rfl ?_;refine pF (Φ':=[]) (λ_ h=>by cases h) ?_;exact Dn (Ds:=Ds) (.inl rfl) rfl rfl (CF Tryz.results96) ⟨s,hm,rfl,rfl,rfl⟩
  · rw[gh]at hb;simp at hb;omega
end
section
open Go Go.RowKit
def lB (m:bf Bool)(p:Prop):Prop:=∃b,m=some b/\(b=true↔p)
theorem lB.id {m:bf Bool} {p:Prop} (h:lB m p):lB (Qf m λv=>some v) p:=by
 obtain⟨b,h1,U⟩:=h;rw[h1];exact⟨b,rfl,U⟩
theorem lB.iff {m:bf Bool} {p q:Prop} (h:lB m p)(e:p↔q):lB m q:=by
 obtain⟨b,h1,U⟩:=h;exact⟨b,h1,U.trans e⟩
end
section
open Go Go.RowKit
variable {x y:Int}{N:Nat}
def num (x:Int):V:=⟨1,x,⟨#[]⟩⟩
theorem a3t:¬((!true)=true):=λh=>by cases h
theorem XG:¬(false=true):=λh=>by cases h
theorem Ja (N:Nat)(x:Int):yZ N 1 x (⟨#[]⟩:cq)=some true:=by
 unfold yZ;rw[if_pos (show((1:Int)==1)=true from rfl)];simp
theorem PR (hN:9223372036854775808<=N) {l:aq V} (hl:∀v∈l,∃x,v=num x)(h2:l.length<=2):fp (DA N l) N (0,false)=some (.inl false):=by
 obtain ⟨o,h1,h3⟩:=HY (f:=DA N l) (λs=>s.1<=l.length/\s.2=false) (λs=>l.length-s.1) (λo=>o=.inl false) (λs hs=>by
  obtain⟨i,b⟩:=s;obtain⟨hi,hb⟩:=hs;subst hb;unfold DA;simp only;by_cases cj:i<l.length
  ·left;have U:=c' cj;obtain⟨x,IP⟩:=hl _ (n' cj);rw[IP]at U;refine⟨(i+1,false),?_,⟨by simp only;omega,rfl⟩,by simp only;omega⟩
   have hc:SO N l i false=some (.inl false):=by
    unfold SO;rw[U,Q1];simp only[num];rw[Ja,Q1,if_neg a3t,if_neg XG];rfl
   rw[cg cj,hc,lH,QC au]
  ·right;exact⟨_,by rw[ct cj],rfl⟩) N (0,false) ⟨bh,rfl⟩ (by simp only;omega)
 rw[h1,h3]
def KW (r:Int×Bool):Nat×Int×Nat:=if r.2=true then(1,r.1,0)else(0,0,300)
theorem pZ {op:Int} (hN:9223372036854775808<=N)(h0:1<=op)(h1:op<=10)(h4:op≠4)(h5:op≠5)(h6:op≠6) {r:Int×Bool} (h:QT N op (num x) (num y)=some r):DB N op [num x,num y]=some (KW r):=by
 have hc:Zc N op=some 2:=by
  unfold Zc;rw[ct h4,Q1,if_neg fh]
 unfold DB;rw[hc,Q1,if_neg fh,if_neg fh,Q1,if_neg bh,PR hN (λv U=>by simp at U;first|(rcases U with rfl|rfl<;>exact⟨_,rfl⟩)|(subst U;exact⟨_,rfl⟩)) bh,lH];simp only[f',Q1];rw[QC au,QC au];rw[show[num x,num y][(((2:Nat):Int)-1).toNat]? =some (num y)from rfl,Q1,ct h5,ct h6,if_neg XG,h,Q1];obtain⟨n,b⟩:=r;cases b<;>rfl
def eM (x:Int):Prop:=-9223372036854775808<=x/\x<=9223372036854775807
instance (x:Int):Decidable (eM x):=inferInstanceAs (Decidable (_/\_))
theorem uj {n:Int} {b:Bool} (h:b=decide (eM x))(hn:eM x->n=x):KW (n,b)=if eM x then(1,x,0)else(0,0,300):=by
 subst h;unfold KW;by_cases U:eM x;· rw[cg U,if_pos U,hn U]
 · rw[ct U,if_neg U]
theorem Vw (U:9223372036854775808<=N)(hx:eM x)(hy:eM y):DB N 1 [num x,num y]=some (if eM (x+y)then(1,x+y,0)else(0,0,300)):=by
 have h:QT N 1 (num x) (num y)=some (IntKind.wrap .i64 (x+y),(decide (IntKind.wrap .i64 (x+y)<x))==(decide (y<0))):=by
  unfold QT;rfl
 rw[pZ U au au au au au h,uj]
 ·rw[IntKind.wrap_i64,d'];simp only[beq_iff_eq,decide_eq_decide,decide_eq_true_eq];unfold eM at*;omega
 · intro h;exact IntWalk.i64_in _ h
theorem Vz (U:9223372036854775808<=N)(hx:eM x)(hy:eM y):DB N 2 [num x,num y]=some (if eM (x-y)then(1,x-y,0)else(0,0,300)):=by
 have h:QT N 2 (num x) (num y)=some (IntKind.wrap .i64 (x-y),(decide (IntKind.wrap .i64 (x-y)>x))==(decide (y<0))):=by
  unfold QT;rfl
 rw[pZ U au au au au au h,uj]
 ·rw[IntKind.wrap_i64,d'];simp only[beq_iff_eq,decide_eq_decide,decide_eq_true_eq];unfold eM at*;omega
 · intro h;exact IntWalk.i64_in _ h
theorem Pq (N:Nat)(b:Bool):UF N b=some (if b=true then 1 else 0):=by cases b<;>rfl
theorem Gz (U:eM x):(if(decide (x<0))=true then some (IntKind.wrap .u64 (0-(IntKind.wrap .u64 x)))else some (IntKind.wrap .u64 x))=some ((x.natAbs:Nat):Int):=by
 unfold eM at U;rw[IntKind.wrap_u64,IntKind.wrap_u64];by_cases h:x<0;· rw[cg h];congr 1;omega
 · rw[ct h];congr 1;omega
theorem J8:x*y=if(decide (x<0) !=decide (y<0))=true then-((x.natAbs*y.natAbs:Nat):Int)else((x.natAbs*y.natAbs:Nat):Int):=by
 rw[<-Int.natAbs_mul];rcases d! x 0 with U|U<;>rcases d! y 0 with hy|hy
 ·rw[if_neg (by simp[U,hy])];have:=Int.mul_pos_of_neg_of_neg U hy;omega
 ·rw[if_pos (by simp[U,hy])];have:=Int.mul_nonpos_of_nonpos_of_nonneg (e! U) hy;omega
 ·rw[if_pos (by simp[U,hy])];have:=Int.mul_nonpos_of_nonneg_of_nonpos U (e! hy);omega
 ·rw[if_neg fh];have:=Int.mul_nonneg U hy;omega
theorem vl (U:eM x)(hy:eM y):∃n,Z7 N x y=some (n,decide (eM (x*y)))/\(eM (x*y)->n=x*y):=by
 have hA:x.natAbs<=9223372036854775808:=by unfold eM at U;omega
 have hB:y.natAbs<=9223372036854775808:=by unfold eM at hy;omega
 unfold Z7;rw[Gz U,Q1,Gz hy,Q1,QC au,QC au,J8];simp only[K'];by_cases hs:(decide (x<0) !=decide (y<0))=true
 ·rw [if_pos hs,if_pos hs];by_cases hh:x.natAbs*y.natAbs/18446744073709551616=0
  ·rw[if_pos fh];refine⟨_,congrArg some (congrArg (z' _) ?_),λh=>?_⟩;· simp only[decide_eq_decide];unfold eM;omega
   · unfold eM at h;rw[IntKind.wrap_u64,IntKind.wrap_i64];omega
  ·rw[if_neg fh];refine⟨_,congrArg some (congrArg (z' _) ?_),λh=>?_⟩;· simp only[b!,decide_eq_false_iff_not];unfold eM;omega
   · unfold eM at h;omega
 ·rw [if_neg hs,if_neg hs];by_cases hh:x.natAbs*y.natAbs/18446744073709551616=0
  ·rw[if_pos fh];refine⟨_,congrArg some (congrArg (z' _) ?_),λh=>?_⟩;· simp only[decide_eq_decide];unfold eM;omega
   · unfold eM at h;rw[IntKind.wrap_i64];omega
  ·rw[if_neg fh];refine⟨_,congrArg some (congrArg (z' _) ?_),λh=>?_⟩;· simp only[b!,decide_eq_false_iff_not];unfold eM;omega
   · unfold eM at h;omega
theorem Vx (hN:9223372036854775808<=N)(hx:eM x)(hy:eM y):DB N 3 [num x,num y]=some (if eM (x*y)then(1,x*y,0)else(0,0,300)):=by
 obtain⟨n,h1,U⟩:=vl (N:=N) hx hy
 have h:QT N 3 (num x) (num y)=some (n,decide (eM (x*y))):=by
  unfold QT;simp only[num,h1,Q1];rfl
 rw[pZ hN au au au au au h,uj rfl U]
end
section
open Go Go.RowKit
theorem a03 (s:cq)(i:Nat):s[i]? =s.data.toList[i]?:=by
 by_cases h:i<s.size
 ·rw[getElem?_pos s i h];have U:i<s.data.toList.length:=by simpa using h
  rw[c' U];rfl
 ·rw[getElem?_neg s i h];rw[List.getElem?_eq_none (du h)]
theorem btl (s:cq):s.toList=s.data.toList:=ByteArray.toList_eq s
def wW (b:UInt8):Prop:=97<=b.toNat/\b.toNat<=122
def Fz (b:UInt8):Prop:=wW b\/(48<=b.toNat/\b.toNat<=57)\/b.toNat=95
def kH (l:aq UInt8):Prop:=0<l.length/\l.length<=24/\(∀b,l[0]? =some b->wW b)/\∀b∈l,Fz b
theorem Hh (c:UInt8):c∈[97,98,99,100,101,102,103,104,105,106,107,108,109,110,111,112,113,114,115,116,117,118,119,120,121,(122:UInt8)]↔wW c:=by
 unfold wW;simp[<-UInt8.toNat_inj];omega
theorem RM (c:UInt8):c∈[97,98,99,100,101,102,103,104,105,106,107,108,109,110,111,112,113,114,115,116,117,118,119,120,121,122,48,49,50,51,52,53,54,55,56,57,(95:UInt8)]↔Fz c:=by
 unfold Fz wW;simp[<-UInt8.toNat_inj];omega
theorem qm:∀(l:aq UInt8)(c:UInt8),0<=Lib.indexByte l c↔c∈l
 |[],c=>by simp[Lib.indexByte]
 | b::l,c=>by
   unfold Lib.indexByte;have ih:=qm l c;by_cases h:b=c;· subst h;simp
   ·rw[ct h];have U:c≠b:=λe=>h e.symm
    simp only[B',U,false_or,<-ih,beq_iff_eq];split<;>omega
theorem EI (p:UInt8->Bool):∀l:aq UInt8,l.dropWhile p=[]↔∀b∈l,p b=true
 |[]=>bh
 | a::l=>by
   rw[List.dropWhile_cons];by_cases h:p a=true;· rw[if_pos h,EI p l];simp[h]
   · rw[if_neg h];simp[h]
theorem bsize (s:cq):s.size=s.data.toList.length:=Array.length_toList.symm
theorem NV (l cs:aq UInt8):Lib.trimS l cs=[]↔∀b∈l,b∈cs:=by
 unfold Lib.trimS Lib.trimLeftS Lib.trimRightS;rw[EI];constructor
 ·intro h;cases hd:l.reverse.dropWhile (cs.contains ·)with
  | nil=>
    rw[EI]at hd;intro b U;have:=hd b (q'.2 U);simpa using this
  | cons x t=>
    have h1:=List.head?_dropWhile_not (cs.contains ·) l.reverse;rw[hd]at h1 h;have h2:=h x bh;simp only[List.head?_cons]at h1;rw[h2]at h1;simp at h1
 ·intro h b U
  have h1:b∈l:=by
    have:=q'.1 U;exact q'.1 ((List.dropWhile_sublist _).subset this)
  simpa using h b h1
theorem Sv (x:UInt8):(((x.toNat:Nat):Int)).toNat.toUInt8=x:=by
 rw[K'];exact UInt8.ofNat_toNat
theorem yG (N:Nat)(s:cq):lB (Q9s N s) (kH s.data.toList):=by
 have hs:s.size=s.data.toList.length:=bsize s;refine lB.id ?_;unfold Q9c;simp only[btl,hs,a03];generalize s.data.toList=l;cases l with
 |nil=>exact⟨false,by rw[if_neg bh],by simp[kH]⟩
 | cons c l=>
   rw[if_pos bh];by_cases U:(c::l).length<=24
   ·rw [cg U];simp only[f',Q1,Sv];by_cases hi:0<=Lib.indexByte [97,98,99,100,101,102,103,104,105,106,107,108,109,110,111,112,113,114,115,116,117,118,119,120,121,122] c
    ·rw[cg hi,QC au];refine⟨_,rfl,?_⟩;simp only[beq_iff_eq,NV,RM];rw[qm,Hh]at hi;constructor;· intro h;exact⟨bh,U,λb hb=>by cases hb;exact hi,h⟩
     · intro h;exact h.2.2.2
    ·rw[ct hi];refine⟨false,rfl,?_⟩;rw[qm,Hh]at hi;constructor;· intro h;cases h
     · intro h;exact absurd (h.2.2.1 c rfl) hi
   ·rw[ct U]
    exact ⟨false,rfl,by constructor;· intro h;cases h
                        · intro h;exact absurd h.2.1 U⟩
theorem Jc {N:Nat} {s:cq} (hN:9223372036854775808<=N)(iR:s.size<=9223372036854775807):lB (Q6J N s) (kH s.data.toList):=by
 have hs:s.size=s.data.toList.length:=bsize s
 obtain ⟨o, h1,h2⟩:=HY (f:=Q5M N s) (λi=>i<=s.size/\(∀b∈s.data.toList.take i,Fz b)/\(0<i->∀b,s.data.toList[0]? =some b->wW b)) (λi=>s.size-i)
  (fun o=>(o=.inl ()/\(∀b∈s.data.toList,Fz b)/\(0<s.size->∀b,s.data.toList[0]? =some b->wW b))\/(o=.inr false/\¬kH s.data.toList)) (λi hi=>by
   obtain⟨hi,ha,hb⟩:=hi;unfold Q5M;by_cases cj:i<s.size
   ·have a2X:i<s.data.toList.length:=au
    have hx:=c' a2X;rw[cg cj,a03,hx,Q1];generalize hc:s.data.toList[i]=c at hx;have kB:=List.mem_of_getElem? hx;rw[show(if(decide (97<=c.toNat))=true then some (decide (c.toNat<=122))else some false)=some (decide (97<=c.toNat/\c.toNat<=122)) by
         by_cases q:97<=c.toNat
         · rw[cg q];simp[q]
         · rw[ct q];simp[q],Q1]
    have hC:Q5L N (decide (97<=c.toNat/\c.toNat<=122)) i c=some (decide (¬(97<=c.toNat/\c.toNat<=122)/\(i=0\/¬((48<=c.toNat/\c.toNat<=57)\/c.toNat=95)))):=by
         unfold Q5L;by_cases q:97<=c.toNat/\c.toNat<=122;· rw[if_neg (by simp[q])];simp[q]
         ·rw [if_pos (show(!decide (97<=c.toNat/\c.toNat<=122))=true by rw[decide_eq_false q];rfl)];by_cases q0:i=0;· rw[cg q0];simp[q,q0]
          ·rw [ct q0];by_cases q1:48<=c.toNat
           ·rw[cg q1];by_cases q2:c.toNat<=57;· rw[cg q2];simp[q0,q1,q2]
            ·rw[ct q2];congr 1;rw[d'];simp only[M',beq_eq_false_iff_ne,ne_eq,decide_eq_true_eq];omega
           ·rw[ct q1];congr 1;rw[d'];simp only[M',beq_eq_false_iff_ne,ne_eq,decide_eq_true_eq];omega
    rw[hC,Q1];by_cases kA:¬(97<=c.toNat/\c.toNat<=122)/\(i=0\/¬((48<=c.toNat/\c.toNat<=57)\/c.toNat=95))
    ·    right;refine⟨_,by rw[if_pos (by rw[decide_eq_true_eq];exact kA)],.inr ⟨rfl,λhn=>?_⟩⟩;obtain⟨_,_,n1,n2⟩:=hn;rcases kA.2 with h0|h0;· subst h0;exact kA.1 (n1 c hx)
         ·rcases n2 c kB with q|q|q;· exact kA.1 q
          · exact h0 (.inl q)
          · exact h0 (.inr q)
    ·    left;refine⟨i+1,by rw[if_neg (by rw[decide_eq_true_eq];exact kA),QC au],⟨au,λb U=>?_,λ_ b U=>?_⟩,au⟩
         ·rw[N',hx]at U;rcases a!.1 U with U|U;· exact ha b U
          ·simp at U;subst U;unfold Fz wW;omega
         ·by_cases h0:i=0
          ·subst h0;rw[hx]at U;cases U;unfold wW;omega
          · exact hb au b U
   ·right;have e:i=s.size:=au
    subst e;rw[hs,List.take_length]at ha;exact⟨_,by rw[if_neg bh],.inl ⟨rfl,ha,hb⟩⟩) N 0 ⟨au,bh,au⟩ au
 unfold Q6J;rw[h1];rcases h2 with⟨rfl,h2,h3⟩|⟨rfl,h2⟩
 ·rw [lH];by_cases q:1<=s.size
  ·rw[cg q];refine⟨_,rfl,?_⟩;simp only[decide_eq_true_eq];unfold kH;constructor;· intro h;exact⟨au,au,h3 au,h2⟩
   · intro h;omega
  ·rw[ct q];refine⟨false,rfl,?_⟩;constructor;· intro h;cases h
   · intro h;have:=h.1;omega
 · exact ⟨false,rfl,by constructor;· intro h;cases h
                       · intro h;exact absurd h h2⟩
theorem Sd {m m':bf Bool} {p:Prop} (h:lB m p)(h':lB m' p):m=m':=by
 obtain⟨b,h1,U⟩:=h;obtain⟨b',h3,h4⟩:=h';rw[h1,h3];congr 1;rw[d',U,h4]
def JK (v:V):Prop:=(v.k=1/\v.s.data.toList=[])\/(v.k=2/\v.n=0/\kH v.s.data.toList)
theorem oM (N:Nat)(v:V):lB (yZ N v.k v.n v.s) (JK v):=by
 unfold yZ JK;by_cases h:v.k=1
 ·rw [cg h];refine⟨_,rfl,?_⟩;simp only[btl,beq_iff_eq];constructor;· intro q;exact .inl ⟨h,q⟩
  ·rintro(q|q);· exact q.2
   · omega
 ·rw [ct h];by_cases U:v.k=2
  ·rw [cg U];by_cases h3:v.n=0
   ·rw [cg h3];refine lB.iff (lB.id (yG N v.s)) ?_;constructor;· intro q;exact .inr ⟨U,h3,q⟩
    ·rintro(q|q);· omega
     · exact q.2.2
   ·rw[ct h3];refine⟨false,rfl,?_⟩;constructor;· intro q;cases q
    · rintro(q|q)<;>omega
  ·rw[ct U];refine⟨false,rfl,?_⟩;constructor;· intro q;cases q
   · rintro(q|q)<;>omega
end
section
open Go Go.RowKit
variable {N:Nat}{x op y:Int}{l:aq V}
theorem nb {s:cq} (a b:Int)(U:9223372036854775808<=N)(iR:s.size<=9223372036854775807):yZ N a b s=ω N a b s:=by
 unfold yZ ω;rw[Sd (yG N s) (Jc U iR)]
theorem UO (N:Nat)(b:Bool):OV N b=some (if b=true then 1 else 0):=by cases b<;>rfl
theorem Hq (U:eM x)(hy:eM y):∃n,Q5S N x y=some (n,decide (eM (x+y)))/\(eM (x+y)->n=x+y):=by
 unfold eM at U hy
 have hC:Q6j N y x=some (decide (¬eM (x+y))):=by
  unfold Q6j;by_cases h1:y>0
  ·rw [cg h1,QC au];by_cases h2:x>9223372036854775807-y
   ·rw[cg h2];congr 1;have:¬eM (x+y):=by unfold eM;omega
    simp[this]
   ·rw[ct h2,if_neg fh];congr 1;have:eM (x+y):=by unfold eM;omega
    simp[this]
  ·rw [ct h1];by_cases h2:y<0
   ·rw[cg h2,QC au];congr 1;rw[d'];simp only[decide_eq_true_eq];unfold eM;omega
   ·rw[ct h2];congr 1;have:eM (x+y):=by unfold eM;omega
    simp[this]
 unfold Q5S;rw[hC,Q1];by_cases h:eM (x+y)
 ·rw[ct h];have h':=h;unfold eM at h';rw[QC h'];exact⟨x+y,by simp[h],λ_=>rfl⟩
 ·rw[cg h];exact⟨0,by simp[h],λq=>absurd q h⟩
theorem MT {a b:Int} (ha:eM a)(hb:eM b)(h0:b≠0)(h1:b≠-1):((IntKind.wrap .i64 (y' (IntKind.wrap .i64 (a*b)) b))==a)=decide (eM (a*b)):=by
 unfold eM at ha hb;by_cases h:eM (a*b)
 ·have e1:IntKind.wrap .i64 (a*b)=a*b:=IntWalk.i64_in _ h;have e2:y' (a*b) b=a:=Int.mul_tdiv_cancel a h0;rw[e1,e2,IntWalk.i64_in _ ha];simp[h]
 ·have hw:=IntKind.wrap_i64 (a*b);generalize hp:IntKind.wrap .i64 (a*b)=p at*;have U:-9223372036854775808<=p/\p<=9223372036854775807:=by rw[hw];omega
  have BL:=Int.mul_tdiv_add_tmod p b
  have a0U:(Int.tmod p b).natAbs<b.natAbs:=by
   have:=Int.natAbs_tmod p b;rw[this];exact Nat.mod_lt _ au
  have hq2:-9223372036854775808<=y' p b/\y' p b<=9223372036854775807:=by
   by_cases WS:b=1;· subst WS;rw[Int.tdiv_one];exact U
   ·have h2:(y' p b).natAbs<=4611686018427387904:=by
     rw[Int.natAbs_tdiv];exact Nat.le_trans (Nat.div_le_div_left (show 2<=b.natAbs by omega) au) au
    omega
  rw[IntWalk.i64_in _ hq2]
  have ep:y' p b≠a:=λe=>by
   rw[e]at BL;have e3:b*a=a*b:=Int.mul_comm b a;rw[e3]at BL;unfold eM at h;omega
  simp[h,ep]
theorem N3 (hx:eM x)(hy:eM y):∃n,Q61 N x y=some (n,decide (eM (x*y)))/\(eM (x*y)->n=x*y):=by
 have nH:=hx;have hy':=hy;unfold eM at nH hy';unfold Q61;by_cases h0:x=0
 ·subst h0;rw[if_pos bh,Q1,if_pos rfl];have:eM (0*y):=by rw[g!];unfold eM;omega
  exact⟨0,by rw[decide_eq_true this],λ_=>by rw[g!]⟩
 ·rw [ct h0,Q1];by_cases h1:y=0
  ·subst h1;rw[if_pos bh];have:eM (x*0):=by rw[h!];unfold eM;omega
   exact⟨0,by rw[decide_eq_true this],λ_=>by rw[h!]⟩
  ·rw [ct h1];by_cases h2:x=-1
   ·subst h2;rw[if_pos bh];have e:-1*y=0-y:=au
    rw[e];refine⟨_,congrArg some (congrArg (z' _) ?_),λq=>IntWalk.i64_in _ q⟩;rw[d'];simp only[bne_iff_ne,ne_eq,decide_eq_true_eq];unfold eM;omega
   ·rw [ct h2];by_cases U:y=-1
    ·subst U;rw[if_pos bh];have e:x* -1=0-x:=au
     rw[e];refine⟨_,congrArg some (congrArg (z' _) ?_),λq=>IntWalk.i64_in _ q⟩;rw[d'];simp only[bne_iff_ne,ne_eq,decide_eq_true_eq];unfold eM;omega
    ·rw[ct U,QC h1,MT hx hy h1 U];exact⟨_,rfl,λq=>IntWalk.i64_in _ q⟩
theorem XV {n:Int} {b:Bool} (U:b=decide (eM x))(hn:eM x->n=x):(if(!b)=true then some ((0,0,300):Nat×Int×Nat)else Qf (Q4P N n) λ_=>some (1,n,0))=some (if eM x then(1,x,0)else(0,0,300)):=by
 subst U;by_cases h:eM x;· rw[ct h,if_pos h,hn h];rfl
 · rw[cg h,if_neg h]
theorem EA {v w:V}:QT N op v w=QT N op (num v.n) (num w.n):=rfl
theorem Fw (hN:9223372036854775808<=N)(hl:∀v∈l,v.s.size<=140737488351232):DA N l=Q6I N l:=by
 funext ⟨i,b⟩;unfold DA Q6I;simp only;by_cases U:i<l.length
 ·have hx:=c' U
  have hC:SO N l i b=Q6H N l i b:=by
   unfold SO Q6H;rw[hx];simp only[Q1];rw[nb _ _ hN (by have:=hl _ (n' U);omega)]
  rw[hC]
 · rw[ct U,ct U]
theorem ov (hN:9223372036854775808<=N)(hl:l.length<=2):(∃b,fp (DA N l) N (0,false)=some (.inl b))\/fp (DA N l) N (0,false)=some (.inr (0,0,2)):=by
 obtain ⟨o,h1,U⟩:=HY (f:=DA N l) (λs=>s.1<=l.length) (λs=>l.length-s.1) (λo=>(∃b,o=.inl b)\/o=.inr (0,0,2)) (λs hs=>by
  obtain⟨i,b⟩:=s;unfold DA;simp only;by_cases cj:i<l.length
  ·have hx:=c' cj;obtain⟨r,hr,_⟩:=oM N l[i]
   have hC:SO N l i b=if r=true then some (.inl (if b=true then true else(l[i].k==2)))else some (.inr (.inr (.inr (0,0,2)))):=by
     unfold SO;rw[hx,Q1,hr,Q1];cases r<;>cases b<;>rfl
   rw[cg cj,hC];cases r with
   | true=>
     left;exact⟨(i+1,if b=true then true else(l[i].k==2)),by rw[if_pos rfl,lH,QC au],by simp only;omega,by simp only;omega⟩
   | false=>
     right;exact⟨.inr (0,0,2),by rw[if_neg XG];rfl,.inr rfl⟩
  ·right;exact⟨.inl b,by rw[ct cj],.inl ⟨b,rfl⟩⟩) N (0,false) bh (by simp only;omega)
 rcases U with⟨b,rfl⟩|rfl;· exact .inl ⟨b,h1⟩
 · exact .inr h1
theorem GG (N:Nat)(op:Int):Zc N op=some (if op=4\/op=11 then 1 else 2)/\Q6G N op=some (if op=4\/op=11 then 1 else 2):=by
 unfold Zc Q6G;by_cases h:op=4;· subst h;exact⟨rfl,rfl⟩
 ·rw[ct h,Q1];by_cases h2:op=11;· subst h2;exact⟨rfl,rfl⟩
  · rw[ct h2,if_neg au];exact⟨rfl,rfl⟩
theorem Ey {k j:Nat}:(if(decide (op<1))=true then some true else(if(decide (op>11))=true then some true else some (k !=j)))=some (decide (op<1\/op>11\/k≠j)):=by
 by_cases h1:op<1;· rw[cg h1];simp[h1]
 ·rw[ct h1];by_cases h2:op>11;· rw[cg h2];simp[h2]
  ·rw[ct h2];congr 1;rw[d'];simp only[bne_iff_ne,ne_eq,decide_eq_true_eq];omega
theorem PQ (hN:9223372036854775808<=N)(hl:∀v∈l,eM v.n/\v.s.size<=140737488351232):∃r,DB N op l=some r/\Q8d N op l=some r:=by
 obtain⟨c1,c2⟩:=GG N op;unfold DB Q8d;rw[c1,c2,Q1,Q1,Ey,Q1,Q1];by_cases kA:op<1\/op>11\/l.length≠(if op=4\/op=11 then 1 else 2)
 ·have hd:=decide_eq_true kA;simp only[hd,if_true];exact⟨_,rfl,rfl⟩
 ·have hd:=decide_eq_false kA;simp only[hd,a',if_false];rw[<-Fw hN (λv hv=>(hl v hv).2)]
  have hlen:l.length<=2:=by
   have:l.length=(if op=4\/op=11 then 1 else 2):=au
   rw[this];split<;>omega
  rcases ov (N:=N) hN hlen with⟨names,Fj⟩|Fj
  ·rw [Fj,lH,lH];by_cases h1:op=4\/op=11
   ·rw [if_pos h1]at kA;have jx:l.length=1:=au
    match l,jx with
    | [v],_=>
      obtain⟨hv,_⟩:=hl v bh;simp only[if_pos h1,f',Q1,List.length_singleton];rw[QC au,QC au,QC au,QC au];simp only[show(((1:Nat):Int)-1).toNat=0 from rfl,f',Q1];rcases h1 with rfl|rfl
      ·simp only[show((4:Int)==5)=false from rfl,show((4:Int)==6)=false from rfl,show((4:Int)==7)=false from rfl,show((4:Int)==8)=false from rfl,show((4:Int)==9)=false from rfl,show((4:Int)==10)=false from rfl,show((4:Int)==11)=false from rfl,a',if_false,Q1];cases names with
       |true=>exact⟨_,rfl,rfl⟩
       | false=>
         have e:QT N 4 v v=some (IntKind.wrap .i64 (0-v.n),v.n !=-9223372036854775808):=by unfold QT;rfl
         have U:OW N 4 v.n v.n=some (IntKind.wrap .i64 (0-v.n),v.n !=-9223372036854775808):=by unfold OW;rfl
         simp only[a',if_false,e,U,Q1];cases hq:v.n !=-9223372036854775808<;>exact⟨_,rfl,rfl⟩
      ·simp only[show((11:Int)==5)=false from rfl,show((11:Int)==6)=false from rfl,show((11:Int)==7)=false from rfl,show((11:Int)==8)=false from rfl,show((11:Int)==9)=false from rfl,show((11:Int)==10)=false from rfl,show((11:Int)==11)=true from rfl,a',if_false,if_true,Q1];cases names with
       |true=>exact⟨_,rfl,rfl⟩
       | false=>
         have e:QT N 11 v v=some ((if(v.n==0)=true then 1 else 0),true):=by
          unfold QT Q8L Dz;simp only[Pq,Q1];rfl
         simp only[a',if_false,e,UO,Q1];exact⟨_,rfl,rfl⟩
   ·rw [if_neg h1]at kA;have jx:l.length=2:=au
    have kd:1<=op/\op<=11:=au
    match l,jx with
    | [v,w],_=>
      obtain⟨hv,_⟩:=hl v bh;obtain⟨hw,_⟩:=hl w bh;simp only[if_neg h1,f',Q1,o',u'];rw[QC au,QC au,QC au,QC au];simp only[show(((2:Nat):Int)-1).toNat=1 from rfl,List.getElem?_cons_succ,f',Q1];have h9:op=1\/op=2\/op=3\/op=5\/op=6\/op=7\/op=8\/op=9\/op=10:=au
      rcases h9 with rfl|rfl|rfl|rfl|rfl|rfl|rfl|rfl|rfl
      ·simp only[show((1:Int)==5)=false from rfl,show((1:Int)==6)=false from rfl,show((1:Int)==7)=false from rfl,show((1:Int)==8)=false from rfl,show((1:Int)==9)=false from rfl,show((1:Int)==10)=false from rfl,show((1:Int)==11)=false from rfl,a',if_false,Q1];cases names with
       |true=>exact⟨_,rfl,rfl⟩
       | false=>
         obtain⟨n,e1,U⟩:=Hq (N:=N) hv hw;have e3:OW N 1 v.n w.n=some (n,decide (eM (v.n+w.n))):=by unfold OW;rw[if_pos bh,e1];rfl
         rw[e3];simp only[Q1];rw[XV rfl U];refine⟨_,?_,rfl⟩;have h:QT N 1 (num v.n) (num w.n)=some (IntKind.wrap .i64 (v.n+w.n),(decide (IntKind.wrap .i64 (v.n+w.n)<v.n))==(decide (w.n<0))):=by unfold QT;rfl
         have h2:=(pZ hN au au au au au h).symm.trans (Vw hN hv hw);rw[EA,h,Q1,<-Option.some.inj h2];cases(decide (IntKind.wrap .i64 (v.n+w.n)<v.n))==(decide (w.n<0))<;>rfl
      ·simp only[show((2:Int)==5)=false from rfl,show((2:Int)==6)=false from rfl,show((2:Int)==7)=false from rfl,show((2:Int)==8)=false from rfl,show((2:Int)==9)=false from rfl,show((2:Int)==10)=false from rfl,show((2:Int)==11)=false from rfl,a',if_false,Q1];cases names with
       |true=>exact⟨_,rfl,rfl⟩
       | false=>
         have hR:∃n,OW N 2 v.n w.n=some (n,decide (eM (v.n-w.n)))/\(eM (v.n-w.n)->n=v.n-w.n):=by
          unfold OW;rw[if_neg bh,if_pos bh];by_cases hm:w.n=-9223372036854775808
          ·rw[cg hm];refine⟨_,congrArg some (congrArg (z' _) ?_),λq=>IntWalk.i64_in _ q⟩;rw[d'];simp only[decide_eq_true_eq];unfold eM at*;omega
          ·rw[ct hm];have TL:eM (0-w.n):=by unfold eM at*;omega
           rw[IntWalk.i64_in _ TL];obtain⟨n,e1,U⟩:=Hq (N:=N) hv TL;rw[e1,show v.n+(0-w.n)=v.n-w.n by omega];rw[show v.n+(0-w.n)=v.n-w.n by omega]at U;exact⟨n,rfl,U⟩
         obtain⟨n,e3,U⟩:=hR;rw[e3];simp only[Q1];rw[XV rfl U];refine⟨_,?_,rfl⟩;have h:QT N 2 (num v.n) (num w.n)=some (IntKind.wrap .i64 (v.n-w.n),(decide (IntKind.wrap .i64 (v.n-w.n)>v.n))==(decide (w.n<0))):=by unfold QT;rfl
         have h2:=(pZ hN au au au au au h).symm.trans (Vz hN hv hw);rw[EA,h,Q1,<-Option.some.inj h2];cases(decide (IntKind.wrap .i64 (v.n-w.n)>v.n))==(decide (w.n<0))<;>rfl
      ·simp only[show((3:Int)==5)=false from rfl,show((3:Int)==6)=false from rfl,show((3:Int)==7)=false from rfl,show((3:Int)==8)=false from rfl,show((3:Int)==9)=false from rfl,show((3:Int)==10)=false from rfl,show((3:Int)==11)=false from rfl,a',if_false,Q1];cases names with
       |true=>exact⟨_,rfl,rfl⟩
       | false=>
         obtain⟨n,e1,U⟩:=N3 (N:=N) hv hw;have e3:OW N 3 v.n w.n=some (n,decide (eM (v.n*w.n))):=by unfold OW;rw[if_neg bh,if_neg bh,if_pos bh,e1];rfl
         rw[e3];simp only[Q1];rw[XV rfl U];refine⟨_,?_,rfl⟩;obtain⟨m,q1,q2⟩:=vl (N:=N) hv hw
         have h:QT N 3 (num v.n) (num w.n)=some (m,decide (eM (v.n*w.n))):=by
          unfold QT;simp only[num,q1,Q1];rfl
         have h2:=(pZ hN au au au au au h).symm.trans (Vx hN hv hw);rw[EA,h,Q1,<-Option.some.inj h2];cases decide (eM (v.n*w.n))<;>rfl
      ·simp only[show((5:Int)==5)=true from rfl,show((5:Int)==6)=false from rfl,show((5:Int)==7)=false from rfl,show((5:Int)==8)=false from rfl,show((5:Int)==9)=false from rfl,show((5:Int)==10)=false from rfl,show((5:Int)==11)=false from rfl,a',if_false,if_true,Q1];rw[Pq,UO];refine⟨_,rfl,?_⟩;simp[Q1]
      ·simp only[show((6:Int)==5)=false from rfl,show((6:Int)==6)=true from rfl,show((6:Int)==7)=false from rfl,show((6:Int)==8)=false from rfl,show((6:Int)==9)=false from rfl,show((6:Int)==10)=false from rfl,show((6:Int)==11)=false from rfl,a',if_false,if_true,Q1];rw[Pq,UO];refine⟨_,rfl,?_⟩;simp[Q1]
      ·simp only[show((7:Int)==5)=false from rfl,show((7:Int)==6)=false from rfl,show((7:Int)==7)=true from rfl,show((7:Int)==8)=false from rfl,show((7:Int)==9)=false from rfl,show((7:Int)==10)=false from rfl,show((7:Int)==11)=false from rfl,a',if_false,if_true,Q1];cases names with
       |true=>exact⟨_,rfl,rfl⟩
       | false=>
         have h:QT N 7 v w=some ((if(decide (v.n<w.n))=true then 1 else 0),true):=by
          unfold QT Q8H Dz;simp only[Pq,Q1];rfl
         rw[h,UO];exact⟨_,rfl,rfl⟩
      ·simp only[show((8:Int)==5)=false from rfl,show((8:Int)==6)=false from rfl,show((8:Int)==7)=false from rfl,show((8:Int)==8)=true from rfl,show((8:Int)==9)=false from rfl,show((8:Int)==10)=false from rfl,show((8:Int)==11)=false from rfl,a',if_false,if_true,Q1];cases names with
       |true=>exact⟨_,rfl,rfl⟩
       | false=>
         have h:QT N 8 v w=some ((if(decide (v.n<=w.n))=true then 1 else 0),true):=by
          unfold QT Q8I Dz;simp only[Pq,Q1];rfl
         rw[h,UO];exact⟨_,rfl,rfl⟩
      ·simp only[show((9:Int)==5)=false from rfl,show((9:Int)==6)=false from rfl,show((9:Int)==7)=false from rfl,show((9:Int)==8)=false from rfl,show((9:Int)==9)=true from rfl,show((9:Int)==10)=false from rfl,show((9:Int)==11)=false from rfl,a',if_false,if_true,Q1];cases names with
       |true=>exact⟨_,rfl,rfl⟩
       | false=>
         have h:QT N 9 v w=some ((if(v.n !=0&&w.n !=0)=true then 1 else 0),true):=by
          unfold QT Q8J Dz;simp only[Pq,Q1];cases hq:v.n !=0<;>rfl
         simp only[a',if_false,UO];rw[h];refine⟨_,rfl,?_⟩;cases hq:v.n !=0<;>rfl
      ·simp only[show((10:Int)==5)=false from rfl,show((10:Int)==6)=false from rfl,show((10:Int)==7)=false from rfl,show((10:Int)==8)=false from rfl,show((10:Int)==9)=false from rfl,show((10:Int)==10)=true from rfl,show((10:Int)==11)=false from rfl,a',if_false,if_true,Q1];cases names with
       |true=>exact⟨_,rfl,rfl⟩
       | false=>
         have h:QT N 10 v w=some ((if(v.n !=0||w.n !=0)=true then 1 else 0),true):=by
          unfold QT Q8K Dz;simp only[Pq,Q1];cases hq:v.n !=0<;>rfl
         simp only[a',if_false,UO];rw[h];refine⟨_,rfl,?_⟩;cases hq:v.n !=0<;>rfl
  · rw[Fj];exact⟨_,rfl,rfl⟩
end
section
open Go Go.RowKit
variable {N:Nat}{n v op:Int}{b c:Bool}
theorem tE (x:Int):eM (IntKind.wrap .i64 x):=by
 have e:IntKind.wrap .i64 x=if(9223372036854775808:Int)<=x%18446744073709551616 then x%18446744073709551616-18446744073709551616 else x%18446744073709551616:=by
  by_cases h:(9223372036854775808:Int)<=x%18446744073709551616<;>simp[IntKind.wrap,IntKind.bits,IntKind.signed,h]
 rw[e];unfold eM;split<;>omega
theorem Qdm (h:Dz N b=some v):eM v:=by
 unfold Dz at h;rw[Pq,Q1]at h;cases h;unfold eM;split<;>omega
theorem S8 {a b:Int} (h:Z7 N a b=some (n,c)):eM n:=by
 obtain⟨x,_,h⟩:=Qw h;obtain⟨y,_,h⟩:=Qw h;obtain⟨_,h⟩:=oc h;obtain⟨_,h⟩:=oc h;rcases j6 h with⟨_,h⟩|⟨_,h⟩<;>rcases j6 h with⟨_,h⟩|⟨_,h⟩<;>(cases h;exact tE _)
theorem a04 {v w:V} (h:QT N op v w=some (n,c)):eM n:=by
 obtain⟨x,_,h⟩:=Qw h;rcases x with _|_|_|_|_|_|_|_|_|_;· obtain⟨_,_,h⟩:=Qw h;cases h;exact tE _
 · obtain⟨_,_,h⟩:=Qw h;cases h;exact tE _
 · obtain⟨⟨a,b⟩,h1,h⟩:=Qw h;cases h;exact S8 h1
 · obtain⟨_,_,h⟩:=Qw h;cases h;exact tE _
 · obtain⟨a,h1,h⟩:=Qw h;cases h;obtain⟨b,U,h3⟩:=Qw h1;cases h3;exact Qdm U
 · obtain⟨a,h1,h⟩:=Qw h;cases h;obtain⟨b,U,h3⟩:=Qw h1;cases h3;exact Qdm U
 ·obtain⟨a,h1,h⟩:=Qw h;cases h;rcases j6 h1 with⟨_,h1⟩|⟨_,h1⟩<;>(obtain⟨b,U,h3⟩:=Qw h1;cases h3;exact Qdm U)
 ·obtain⟨a,h1,h⟩:=Qw h;cases h;rcases j6 h1 with⟨_,h1⟩|⟨_,h1⟩<;>(obtain⟨b,U,h3⟩:=Qw h1;cases h3;exact Qdm U)
 · obtain⟨a,h1,h⟩:=Qw h;cases h;obtain⟨b,U,h3⟩:=Qw h1;cases h3;exact Qdm U
 · cases h
theorem yH (h:UF N b=some v):eM v:=by
 rw[Pq]at h;cases h;unfold eM;split<;>omega
theorem Vy {l:aq V} {k:Nat} {e:Nat} (hN:9223372036854775808<=N)(h:DB N op l=some (k,n,e)):(k=1/\e=0/\eM n)\/(k=0/\n=0/\e≠0):=by
 unfold DB at h;obtain⟨c1,_⟩:=GG N op;rw[c1,Q1,Ey,Q1]at h;rcases j6 h with⟨_,h⟩|⟨hb,h⟩
 · cases h;exact .inr ⟨rfl,rfl,bp⟩
 ·have hb:=of_decide_eq_false hb
  have hlen:l.length<=2:=by
   have:l.length=(if op=4\/op=11 then 1 else 2):=au
   rw[this];split<;>omega
  rcases ov (N:=N) hN hlen with⟨b,U⟩|U
  ·rw [U,lH]at h;obtain⟨x,_,h⟩:=Qw h;obtain⟨_,h⟩:=oc h;obtain⟨_,h⟩:=oc h;obtain⟨y,_,h⟩:=Qw h;rcases j6 h with⟨_,h⟩|⟨_,h⟩
   ·obtain⟨t,h1,h⟩:=Qw h;cases h;exact .inl ⟨rfl,rfl,yH h1⟩
   ·rcases j6 h with⟨_,h⟩|⟨_,h⟩
    ·obtain⟨t,h1,h⟩:=Qw h;cases h;exact .inl ⟨rfl,rfl,yH h1⟩
    ·rcases j6 h with⟨_,h⟩|⟨_,h⟩
     · cases h;exact .inr ⟨rfl,rfl,bp⟩
     ·obtain⟨⟨a,c⟩,h1,h⟩:=Qw h;rcases j6 h with⟨_,h⟩|⟨_,h⟩
      · cases h;exact .inr ⟨rfl,rfl,bp⟩
      ·obtain⟨_,_,h⟩:=Qw h;cases h;exact .inl ⟨rfl,rfl,a04 h1⟩
  ·rw[U,B5]at h;cases h;exact .inr ⟨rfl,rfl,bp⟩
abbrev Kt:=Int×Int×cq×Nat
variable {l:aq Q3}{N:Nat}{vars:aq V}{rc:Int->Int->Int->cq->Int->Int->aq Q3->aq V->bf Kt}
def nT (f:Q3->bf Kt):aq Q3->aq V->bf (aq V⊕Nat)
 |[],acc=>some (.inl acc)
 |x::l,acc=>Qf (f x) λ(a,b,c,e)=>if(e !=0)=true then some (.inr e)else nT f l (acc++[⟨a,b,c⟩])
def YB {α β:Type} (g:aq V->β)(k:Nat->α):bf (aq V⊕Nat)->bf (β⊕α)
 |none=>none
 |some (.inl a)=>some (.inl (g a))
 |some (.inr e)=>some (.inr (k e))
theorem CI {O:Type} {F:(Nat×aq V)->bf ((Nat×aq V)⊕(aq V⊕O))} {f:Q3->bf Kt} {l:aq Q3} {k:Nat->O}
   (gC:∀i acc x,l[i]? =some x->acc.length=i->F (i,acc)=Qf (f x) λ(a,b,c,e)=>if(e !=0)=true then some (.inr (.inr (k e)))else some (.inl (i+1,acc++[⟨a,b,c⟩])))
   (H4:∀i acc,l.length<=i->F (i,acc)=some (.inr (.inl acc))):
   ∀(m i n:Nat) (acc:aq V),l.length-i=m->i<=l.length->acc.length=i->m<n->fp F n (i,acc)=YB id k (nT f (l.drop i) acc)
 | 0,i,n+1,acc,hm,hi,U,hn=>by
   have hle:l.length<=i:=au
   rw[pJ (H4 i acc hle),List.drop_of_length_le hle];rfl
 | m + 1,i,n+1,acc,hm,hi,U,hn=>by
   have cj:i<l.length:=au
   have hx:=c' cj;have hd:l.drop i=l[i]::l.drop (i+1):=j' cj;rw[hd];show iT (F (i,acc)) (fp F n)=_;rw[gC i acc _ hx U];unfold nT;cases hf:f l[i]with
   |none=>rfl
   | some r=>
     obtain⟨a,b,c,e⟩:=r;simp only[Q1];cases he:e !=0 with
     |true=>simp only[if_true];rfl
     | false=>
       exact CI gC H4 m (i+1) n _ au au (by simp[U]) au
theorem yx {O:Type} {F:(Nat×aq V)->bf ((Nat×aq V)⊕(aq V⊕O))} {f:Q3->bf Kt} {k:Nat->O} {n:Nat}
  (gC:∀i acc x,l[i]? =some x->acc.length=i->F (i,acc)=Qf (f x) λ(a,b,c,e)=>if(e !=0)=true then some (.inr (.inr (k e)))else some (.inl (i+1,acc++[⟨a,b,c⟩])))
  (U:∀i acc,l.length<=i->F (i,acc)=some (.inr (.inl acc))) (hn:l.length<n):fp F n (0,[])=YB id k (nT f l []):=by
 have:=CI gC U l.length 0 n [] au au rfl au;simpa using this
def at_ (rc:Int->Int->Int->cq->Int->Int->aq Q3->aq V->bf Kt)(vars:aq V)(x:Q3):bf Kt:=rc x.kind x.value.k x.value.n x.value.s x.var x.op x.kids vars
theorem XA (hN:9223372036854775808<=N)(hl:l.length<=1000000):fp (Z5 N l rc vars) N (0,[])=YB id (λe=>([],e)) (nT (at_ rc vars) l []):=by
 refine yx (λi acc x U ha=>?_) (λi acc hi=>?_) au
 ·have cj:=(g'.1 U).1;unfold Z5;simp only;rw[cg cj,U,Q1];congr 1;funext ⟨a,b,c,e⟩;rw[QC (by simp only[o',u'];omega),QC au]
 ·unfold Z5;simp only;rw[ct hi]
theorem a1r (hN:9223372036854775808<=N)(hl:l.length<=1000000):fp (Q4C N l rc vars) N (0,[])=YB id (λe=>(.inr (0,0,(⟨#[]⟩:cq),e):(Int×Int×cq)⊕Kt)) (nT (at_ rc vars) l []):=by
 refine yx (λi acc x U ha=>?_) (λi acc hi=>?_) au
 ·have cj:=(g'.1 U).1;unfold Q4C;simp only;rw[cg cj,U,Q1];congr 1;funext ⟨a,b,c,e⟩;rw[QC (by simp only[o',u'];omega),QC au]
 ·unfold Q4C;simp only;rw[ct hi]
end
section
open Go Go.RowKit
theorem y0 {ε:Type} {f:Nat->bf (Nat⊕(Unit⊕ε))} (n:Nat)(step:∀i,i<n->f i=some (.inl (i+1)))(stop:f n=some (.inr (.inl ()))) {N:Nat} (hN:n<N):fp f N 0=some (.inl ()):=by
 obtain ⟨o,h1,U⟩:=HY (f:=f) (λi=>i<=n) (λi=>n-i) (λo=>o=.inl ()) (λi hi=>by
  by_cases h:i<n;· exact .inl ⟨_,step i h,au,au⟩
  ·obtain rfl:i=n:=au
   exact .inr ⟨_,stop,rfl⟩) N 0 (i! _) au
 rw[h1,U]
end
section
open Go Go.RowKit
mutual
def nodes:Q3->Nat
 |⟨_,_,_,_,l⟩=>1+pM l
def pM:aq Q3->Nat
 |[]=>0
 |e::l=>nodes e+pM l
end
theorem Oj (e:Q3):nodes e=1+pM e.kids:=by cases e;simp[nodes]
theorem vc:∀(a b:aq Q3),pM (a++b)=pM a+pM b
 |[],b=>by simp[pM]
 |x::a,b=>by simp only[List.cons_append,pM];rw[vc a b];omega
theorem UL {x:Q3}:∀{l:aq Q3},x∈l->nodes x<=pM l
 | y::l,h=>by
   simp only[pM];rcases B'.1 h with rfl|h;· omega
   · have:=UL h;omega
theorem Zj:∀(l:aq Q3),l.length<=pM l
 |[]=>bh
 | x::l=>by
   have:=Zj l;simp only[o',pM,Oj];omega
theorem Cq {l:aq Q3} {i:Nat} {x:Q3} (h:l[i]? =some x):pM (l.take (i+1))=pM (l.take i)+1+pM x.kids:=by
 rw[N',h,vc];simp[pM,Oj];omega
theorem zW {x:Q3} (h:db x):x.kids.length<=1759218604390/\∀y∈x.kids,db y:=by
 cases h with
 |mk _ _ _ _ _ U g4=>exact⟨U,g4⟩
theorem MG {x:Q3} (h:db x):wZ x.value:=by
 cases h with
 |mk _ _ h1 _ _ _ _=>exact h1
theorem uq:∀(m N:Nat)(l:aq Q3)(most:Int),(∀y∈l,db y)->l.length<=1759218604390->9223372036854775808+m<N→-1<=most->most+1<=m->most<=1000000->
   ∃v,Kc N l most=some v/\0<=v/\v<=most+1/\(v<=most->v=pM l):=by
 intro m;induction m with
 | zero=>
   intro N l most dh hl hN h1 h2 h3;obtain⟨N,rfl⟩:∃k,N=k+1:=⟨N-1,au⟩
   have hm:most=-1:=au
   subst hm;show∃v,Ut N (Kc N) l (-1)=some v/\_;unfold Ut;obtain⟨k,hk⟩:∃k,N=k+1:=⟨N-1,au⟩
   have hs:SD N l (-1) (Kc N) (0,0)=some (.inr 0):=by
    unfold SD;by_cases h:0<l.length;· simp only[h,decide_true,if_true];rfl
    · simp only[h,decide_false,a',if_false];rfl
   have hi:fp (SD N l (-1) (Kc N)) N (0,0)=some 0:=by
    have:=pJ (n:=N-1) hs;rwa [show N-1+1=N by omega]at this
   rw[hi,Q1,QC au];exact⟨_,rfl,bp,bp,λh=>by exact absurd h bp⟩
 | succ m ih=>
   intro N l most dh hl hN h1 h2 h3;obtain⟨N,rfl⟩:∃k,N=k+1:=⟨N-1,au⟩
   show∃v,Ut N (Kc N) l most=some v/\_;unfold Ut
   obtain ⟨o,e1,e2,e3,e4⟩:=HY (f:=SD N l most (Kc N)) (λs=>s.1<=l.length/\0<=s.2/\s.2<=most+1/\(s.2<=most->s.2=pM (l.take s.1))) (λs=>l.length-s.1)
    (fun o=>0<=o/\o<=most+1/\(o<=most->o=pM l)) (λs hs=>by
     obtain⟨i,c⟩:=s;obtain⟨g1,g2,g3,g4⟩:=hs;simp only at g1 g2 g3 g4;unfold SD;simp only;by_cases cj:i<l.length
     ·have hx:=c' cj;rw[cg cj,Q1];by_cases U:c<=most
      · rw[cg U,QC au,hx,Q1,QC au,QC au];have kB:=n' cj;obtain⟨k1,k2⟩:=zW (dh _ kB);obtain⟨v,v1,v2,v3,v4⟩:=ih N l[i].kids (most-c-1) k2 k1 au au au au;rw[v1,Q1,QC au,QC au];left;refine⟨_,rfl,⟨by simp only;omega,by simp only;omega,by simp only;omega,λhle=>?_⟩,by simp only;omega⟩;rw[Cq hx];omega
      · rw[ct U];right;exact⟨c,rfl,g2,g3,λh=>absurd h U⟩
     ·rw[ct cj,Q1,if_neg bh];right;refine⟨c,rfl,g2,g3,λh=>?_⟩;have:=g4 h;rwa [List.take_of_length_le au]at this) N (0,0) ⟨bh,bh,by simp only;omega,λ_=>by simp[pM]⟩ (by simp only;omega)
   rw[e1,Q1,QC au];refine⟨_,rfl,?_,?_,?_⟩<;>unfold RO;· split<;>omega
   · split<;>omega
   ·intro h;split at h;· omega
    ·rename_i h5;rw[if_neg h5];exact e4 h
end
section
open Go Go.RowKit
def qv (v:V):Prop:=eM v.n/\v.s.size<=140737488351232
def CE (r:Kt):Prop:=eM r.2.1/\r.2.2.1.size<=140737488351232/\(r.2.2.2=0->JK ⟨r.1,r.2.1,r.2.2.1⟩)
theorem YI:eM 0:=by unfold eM;omega
theorem U3:(⟨#[]⟩:cq).size<=140737488351232:=bp
theorem QbJ {n:Nat} (h:n≠0):CE (0,0,(⟨#[]⟩:cq),n):=⟨YI,U3,λq=>absurd q h⟩
theorem Hu (N:Nat)(v:V):∃q:Bool,(q=true↔JK v)/\yZ N v.k v.n v.s=some q/\Zh N v.k v.n v.s=some (if q=true then(v.k,v.n,v.s,0)else(0,0,(⟨#[]⟩:cq),2)):=by
 obtain⟨q,h1,U⟩:=oM N v;refine⟨q,U,h1,?_⟩;unfold Zh;rw[h1,Q1];cases q<;>rfl
theorem vo {v:V} {q:Bool} (U:qv v)(h:q=true↔JK v):CE (if q=true then(v.k,v.n,v.s,0)else(0,0,(⟨#[]⟩:cq),2)):=by
 cases q with
 |true=>exact⟨U.1,U.2,λ_=>h.1 rfl⟩
 |false=>exact QbJ bp
theorem xt {f g:Q3->bf Kt}:∀(l:aq Q3)(acc:aq V),(∀x∈l,∃r,f x=some r/\g x=some r/\CE r)->(∀v∈acc,qv v)->
   ∃o,nT f l acc=some o/\nT g l acc=some o/\(∀a,o=.inl a->∀v∈a,qv v)/\(∀e,o=.inr e->e≠0)
 |[],acc,_,ha=>⟨.inl acc,rfl,rfl,λa h=>(by cases h;exact ha),λe h=>(by cases h)⟩
 | x ::l,acc,h,ha=>by
   obtain⟨⟨a,b,c,e⟩,h1,h2,h3⟩:=h x bh;unfold nT;rw[h1,h2];simp only[Q1];by_cases he:e=0
   ·subst he
    exact xt l _ (λy hy=>h y (by simp[hy])) (λv U=>by
     rcases a!.1 U with U|U;· exact ha v U
     ·simp only[B',List.not_mem_nil,or_false]at U;subst U;exact⟨h3.1,h3.2.1⟩)
   ·rw[cg he,cg he];exact⟨.inr e,rfl,rfl,λa h=>(by cases h),λe' h=>(by cases h;exact he)⟩
theorem Ad (N:Nat):ω N 0 0 (⟨#[]⟩:cq)=some false:=rfl
theorem both:∀(m N:Nat) (e:Q3) (vars:aq V),db e->nodes e<=m->m<=1000->9223372036854775808+m<=N->(∀v∈vars,qv v)->vars.length<=1000000->
   ∃r,at_ (w5 N) vars e=some r/\at_ (Q5z N) vars e=some r/\CE r:=by
 intro m;induction m with
 | zero=>
   intro N e vars _ hn;rw[Oj]at hn;omega
 | succ m ih=>
   intro N e vars dh hn hm hN hv Mj;obtain⟨N,rfl⟩:∃k,N=k+1:=⟨N-1,au⟩
   obtain⟨k,v,x,o,kids⟩:=e;have U:9223372036854775808<=N:=au
   rw[Oj]at hn;simp only at hn;show∃r,SN N (w5 N) k v.k v.n v.s x o kids vars=some r/\Q6k N (Q5z N) k v.k v.n v.s x o kids vars=some r/\CE r;have a0V:qv v:=⟨H9 (MG dh).2.1,(MG dh).2.2⟩
   unfold SN Q6k Q8o;by_cases k1:k=1
   ·subst k1;simp only[show((1:Int)==1)=true from rfl,if_true];unfold Q9p;obtain⟨q,q1,q2,q3⟩:=Hu N v;rw[q3];refine⟨_,rfl,?_,vo a0V q1⟩;rw[lH];simp only;rw[<-nb v.k v.n U (by have:=a0V.2;omega),q2,Q1];cases q<;>rfl
   ·have b1:(k==1)=false:=by simpa using k1
    simp only[b1,a',if_false];by_cases k2:k=2
    ·subst k2;simp only[show((2:Int)==2)=true from rfl,if_true];unfold Q9q;by_cases hr:0<=x/\x<(vars.length:Int)
     ·have cj:x.toNat<vars.length:=au
      have hx:=c' cj;obtain⟨q,q1,q2,q3⟩:=Hu N vars[x.toNat];have hvx:=hv _ (n' cj);refine⟨_,?_,?_,vo hvx q1⟩
      · rw[ct hr.1,Q1,ct hr.2,QC hr.1,hx,Q1,q3];rfl
      · rw[cg hr.1,Q1,cg hr.2,QC hr.1,hx,Q1,lH];simp only;rw[<-nb _ _ U (by have:=hvx.2;omega),q2,Q1];cases q<;>rfl
     ·refine⟨_,?_,?_,QbJ (n:=2) bp⟩
      · by_cases h0:x<0;· rw[cg h0];rfl
        · rw[ct h0,Q1,if_pos fh];rfl
      · by_cases h0:x>=0
        ·rw[cg h0,Q1,if_neg fh,lH];rw[Ad];rfl
        ·rw[ct h0,Q1,if_neg bh,lH];rw[Ad];rfl
    ·have b2:(k==2)=false:=by simpa using k2
     simp only[b2,a',if_false];by_cases k3:k=3
     ·subst k3;simp only[show((3:Int)==3)=true from rfl,if_true];unfold Z' Q7S;have kZ:kids.length<=1000000:=by have:=Zj kids;omega
      rw[XA U kZ,a1r U kZ];obtain⟨h4,g4⟩:=zW dh;obtain⟨w,w1,w2,w3,w4⟩:=xt (f:=at_ (w5 N) vars) (g:=at_ (Q5z N) vars) kids [] (λy hy=>ih N y vars (g4 y hy) (by have:=UL hy;omega) au au hv Mj) bh;rw[w1,w2];cases w with
      | inr e=>
        have he:=w4 e rfl;refine⟨_,?_,rfl,QbJ he⟩;simp only[YB,B5,Q1];rw[cg he];rfl
      | inl a=>
        have ha:=w3 a rfl;obtain⟨⟨rk,rn,re⟩,d1,d2⟩:=PQ (N:=N) (op:=o) (l:=a) U ha;have mO:=Vy U d1;refine⟨(((rk:Nat):Int),rn,(⟨#[]⟩:cq),re),?_,?_,?_⟩
        ·simp only[YB,id,lH,Q1];rw[if_neg bh,d1];rfl
        ·simp only[YB,id,lH];rw[d2];rfl
        ·rcases mO with⟨r1,r2,r3⟩|⟨r1,r2,r3⟩
         ·subst r1;subst r2;exact⟨r3,U3,λ_=>.inl ⟨rfl,rfl⟩⟩
         ·subst r1;subst r2;exact QbJ r3
     ·have b3:(k==3)=false:=by simpa using k3
      simp only[b3,a',if_false];refine⟨_,rfl,?_,QbJ (n:=2) bp⟩;rw[lH];rw[Ad];rfl
end
section
open Go Go.RowKit Go.Maps Go.Sort
def nB {α:Type} (m:MS Int α):aq Int:=m.keys.mergeSort leI
def UW {α:Type} (m:MS Int α):Bool:=m.keys.all (λx=>(Lit.int .i64 x).wf)&&decide (m.keys.length<=8796093022207)
abbrev Oz:bc->bf (DataW Unit×aq MemPlace):=λ_=>some (.lit (.bool true),[])
section
variable {P:da} {α:Type} {kt:TypeId} {K:wj P kt Int} {ag:Bool} {R:fc α} {b:Nat} {m:MS Int α}
variable {f it:FuncId}{t:TypeId}
theorem IX {N F:eL} {w:bx} (hk:P.underlying kt=some (.int .i64))(hK:∀x,K.enc x=.int .i64 x)(h:iK K ag R N F b m w)(hf:UW m=true):
  ∃D0:DataW Unit,w.ownsMap P kt Oz b m.keys.length D0/\(intKeys D0).Perm m.keys/\Maps.size D0=m.keys.length:=by
 obtain⟨_,E,h2,h3,h4,h5,h6,h7,h8,h9⟩:=h;simp only[UW,T',List.all_eq_true,decide_eq_true_eq]at hf;obtain⟨DU,BO⟩:=hf;have LM:E.toList.map (·.key)=m.keys.map K.enc:=by rw[h3,MS.keys,r'];rfl
 have hlen:E.toList.length=m.keys.length:=by simpa using congrArg List.length LM
 have sk:∀e∈E.toList,∃x:Int,e.key=.int .i64 x/\(Lit.int .i64 x).wf=true:=λe he=>by
  have:e.key∈m.keys.map K.enc:=by rw[<-LM];exact t'.2 ⟨e,he,rfl⟩
  obtain⟨x,U,hxe⟩:=t'.1 this;exact⟨x,by rw[<-hxe,hK],DU x U⟩
 have IL:∀e∈E.toList,∃x:Int,e.key=.int .i64 x/\Go.WideElems.rd P kt Oz e=some (.int .i64 x,.lit (.bool true)):=λe he=>by
  obtain⟨x,U,hl⟩:=sk e he;refine⟨x,U,?_⟩;unfold Go.WideElems.rd;rw[U];simp[keyOf,mapKey,hk,hl,Oz]
 have cx:Go.MapKept.Stamped E m.clock:=by
  refine(Go.MapKept.stamped_iff E m.clock).2 ⟨?_,?_,?_⟩
  ·intro x U;have:x.born∈m.es.map (·.2.2):=by rw[<-h7];exact t'.2 ⟨x,U,rfl⟩
   obtain⟨y,hy,e⟩:=t'.1 this;rw[<-e];exact h9 y hy
  · rw[h7];exact h8
  ·have:(E.toList.map (·.key)).Nodup:=by
    rw[LM];exact R'.2 (List.Pairwise.imp (λep e=>ep (by rw[hK,hK]at e;simpa using e)) h5)
   exact R'.1 this
 have M1:Go.WideElems.Fit P kt Oz E m.clock:=⟨by simp at hlen;rw[hlen];unfold maxLen;omega,cx,λe he=>by obtain⟨x,_,h⟩:=IL e he;exact⟨_,h⟩⟩
 refine⟨_,⟨E,m.clock,h2,M1,by simp at hlen;rw[hlen];exact W' _,rfl⟩,?_,?_⟩
 ·show ((j! DataW.insert [] (E.toList.map (Go.WideElems.rg P kt Oz))).map λp=>Go.intOf p.1).Perm _;refine((Go.WideShapes.sorted_perm _).map _).trans ?_;rw[r']
  have:E.toList.map ((λp:Lit×DataW Unit=>Go.intOf p.1)∘Go.WideElems.rg P kt Oz)=m.keys:=by
   have e1:E.toList.map ((λp:Lit×DataW Unit=>Go.intOf p.1)∘Go.WideElems.rg P kt Oz)=(E.toList.map (·.key)).map (λv=>match v with| .int _ x=>x|_=>0):=by
    rw[r'];refine A' λe he=>?_
    obtain⟨x,U,h⟩:=IL e he;simp[Go.WideElems.rg_of h,U,Go.intOf]
   rw[e1,LM,r']
   conv=>rhs;rw[<-List.map_id m.keys]
   refine A' λx _=>?_;simp[hK]
  rw[this]
 ·show(j! DataW.insert [] (E.toList.map (Go.WideElems.rg P kt Oz))).length=_;rw[(Go.WideShapes.sorted_perm _).length_eq,List.length_map,hlen]
theorem FN {b:Nat} (h:∀W,CallsIn Fence.wide 5 P f #[.map (some b)] W λe w'=>e=.returned (.func (.func it) #[] #[.pointer (some ⟨W.heap.size,0,none⟩)])/\w'=W.alloc (.cells #[.map (some b)] t)):
  QF P f [.map (some b)] [] [] (λv bz Hr=>∃g,v=.func (.func it) #[] #[.pointer (some ⟨g,0,none⟩)]/\bz=[]/\Hr=[.blk g [.map (some b)] t]):=by
 intro F N w hF eN hH U qi;refine(callsIn_wide.1 (h w)).mono ?_;rintro e w' ⟨rfl,rfl⟩;refine⟨_,_,_,rfl,⟨w.heap.size,rfl,rfl,rfl⟩,?_⟩;have h0:Ql ⟨w,λk=>∃i,i<([]:aq Fact).length/\N i k,F⟩ [] [] w:=⟨F,N,hF,λ_ h=>h,λ_ h=>.inl h,eN,hH,λi k hi hk=>⟨(U i k hi hk).1,.inr ⟨i,hi,hk⟩,(U i k hi hk).2⟩,qi,Mod.refl _ _⟩
 exact h0.alloc #[.map (some b)] t
theorem u7 {R:aq bc->Int->Prop}:∀(l:aq Int),(∀x,R [.int .i64 x] x)->fD 1 R (l.map encZ) l
 |[],_=>rfl
 |x::l,h=>⟨[.int .i64 x],_,rfl,rfl,h _,u7 l h⟩
theorem Ai {g:Nat} {Rs:fc Int} (hk:P.underlying kt=some (.int .i64))(hK:∀x,K.enc x=.int .i64 x)(hRs:∀F w x,Rs.p F w [.int .i64 x] x)(hf:UW m=true)
  (h:∀(nn:Nat) (D0:DataW Unit) (W:bx),g<W.heap.size->W.cell? ⟨g,0,none⟩=some (.map (some b))->W.ownsMap P kt Oz b nn D0->Maps.size D0<=maxLen->Maps.size D0*8<=140737488355328->
   CallsIn Fence.wide 5 P f #[.func (.func it) #[] #[.pointer (some ⟨g,0,none⟩)]] W λe w'=>∃(v:bc) (U:aq Int),e=.returned v/\U.Perm (intKeys D0)/\
    w'.ownsRow W.heap.size kt 1 v U.length ((U.mergeSort (λx y=>decide (x<=y))).map encZ)/\(v=.slice none 0 0↔U=[])/\Below W.heap.size W w'):
  QF P f [.func (.func it) #[] #[.pointer (some ⟨g,0,none⟩)]] [] [.blk g [.map (some b)] t,eH K ag R b m] (λv bz Hr=>∃p c,v=.slice p (nB m).length c/\bz=[]/\Hr=[.own kt 1 Rs v (nB m),.blk g [.map (some b)] t,eH K ag R b m]):=by
 intro F N w hF eN hH cj qi;have hb:=hH 0 _ rfl;have hm:iK K ag R (N 1) F b m w:=hH 1 _ rfl;obtain⟨D0,q1,q2,q3⟩:=IX hk hK hm hf;have BO:m.keys.length<=8796093022207:=by simp only[UW,T',decide_eq_true_eq]at hf;exact hf.2
 have hgl:=(Array.getElem?_eq_some_iff.1 hb.2).1
 have iJ:w.cell? ⟨g,0,none⟩=some (.map (some b)):=by
  have:=cell_of_row w g 0 _ _ _ hb.2;simpa using this
 refine(callsIn_wide.1 (h _ D0 w hgl iJ q1 (by rw[q3];unfold maxLen;omega) (by rw[q3];omega))).mono ?_;rintro e w' ⟨v,U,rfl,r1,r2,r3,r4⟩
 have hl:U.mergeSort leI=nB m:=by
  unfold nB;exact mergeSort_of_perm_i (r1.trans q2)
 have hlen:U.length=(nB m).length:=by rw[<-hl];simp
 have h0:gX ⟨w,λk=>∃i,i<[Fact.blk g [.map (some b)] t,eH K ag R b m].length/\N i k,F⟩ [] [.blk g [.map (some b)] t,eH K ag R b m] F N w:=⟨hF,λ_ h=>h,λ_ h=>.inl h,eN,hH,λi k hi hk=>⟨(cj i k hi hk).1,.inr ⟨i,hi,hk⟩,(cj i k hi hk).2⟩,qi,Mod.refl _ _⟩
 have fl:mx w.heap.size kt 1 (Rs.p F w') (nB m) v w':=by
  refine⟨_,hlen▸r2,?_⟩;rw[<-hl];exact u7 _ λx=>hRs _ _ _
 obtain⟨p,n,c,rfl⟩:=fl.shape;have hn:n=(nB m).length:=fl.len;subst hn;refine⟨_,_,_,rfl,⟨p,c,rfl,rfl,rfl⟩,F,_,(h0.grow r4).push (.own kt 1 Rs (.slice p (nB m).length c) (nB m)) (λk=>(Value.slice p (nB m).length c).ownBlock=some k) ⟨λk hk=>hk,fl.mono (i! _)⟩ ?_ ?_⟩
 ·intro k hk;obtain⟨a1,a2⟩:=fl.lt k hk;exact⟨a2,.inl a1,λhf=>by have:=hF k hf;omega⟩
 ·intro i k hi hk hn;obtain⟨a1,a2⟩:=fl.lt k hk;have:=(cj i k hi hn).1;omega
theorem rJ {κ:Type} {kt:TypeId} {K:wj P kt κ} {m:MS κ α} {b:Nat} (h:∀(es:Array MapEntry)(clock:Nat)(w:bx),w.heap[b]? =some (.map es clock)->Calls P f #[.map (some b)] w λe w'=>e=.returned (.map (some w.heap.size))/\w'=w.alloc (.map es clock)):
  QF P f [.map (some b)] [] [eH K ag R b m] (λv bz Hr=>∃g,v=.map (some g)/\bz=[]/\Hr=[eH K ag R g m,eH K ag R b m]):=by
 intro F N w hF eN hH cj qi;have hm:iK K ag R (N 0) F b m w:=hH 0 _ rfl;obtain⟨hb,E,h2,a14⟩:=hm;refine(h E m.clock w h2).mono ?_;rintro e w' ⟨rfl,rfl⟩;refine⟨_,_,_,rfl,⟨w.heap.size,rfl,rfl,rfl⟩,?_⟩;have U:Below w.heap.size w (w.alloc (.map E m.clock)):=(Below.refl _ _).alloc (W' _) _;have h0:gX ⟨w,λk=>∃i,i<[eH K ag R b m].length/\N i k,F⟩ [] [eH K ag R b m] F N w:=⟨hF,λ_ h=>h,λ_ h=>.inl h,eN,hH,λi k hi hk=>⟨(cj i k hi hk).1,.inr ⟨i,hi,hk⟩,(cj i k hi hk).2⟩,qi,Mod.refl _ _⟩
 have hFa:fX F w (w.alloc (.map E m.clock)):=λk hk=>U.block k (hF k hk);obtain⟨r1,r2,r3⟩:=a14;refine⟨F,_,(h0.grow U).push (eH K ag R w.heap.size m) (λk=>k=w.heap.size) ⟨rfl,E,heap_alloc_new w _,r1,λi e x hi hx=>?_,r3⟩ ?_ ?_⟩
 ·obtain⟨cs,q1,q2⟩:=r2 i e x hi hx;exact⟨cs,q1,R.good (λ_ h=>h) hFa q2⟩
 ·rintro k rfl;exact⟨bh,.inl (W' _),λhf=>c! _ (hF _ hf)⟩
 ·rintro i k hi rfl hn;exact c! _ (cj i _ hi hn).1
end
end
section
open Go Go.RowKit
noncomputable section
def SK (_:Nat)(s:Nat)(s1:Qe):WM Bool:=
 QA (gRow s1 s) λz=>
 QA (gNet s1 z.net) λU=>
 fq (decide (U.parts>4096))
def OZ (_:Nat)(a0:Nat)(U:Nat)(l2:aq Bool)(l3:aq V)(a4:Int)(s5:Qe):WM (Nat×Qe):=
 lM λ(a8:Nat)=>
 so s5 (λ_=>PO.part ⟨l2,l3,(some U),a4,(MS.nil:MS Nat Bool),a8,none⟩) λs s1=>
 QA (gPart s1 U) λa5=>
 fN (∀y,y=s\/y∈a5.kids.keys->s1 y≠none)<|
 j4 (dp s1 U (PO.part ({a5 with kids:=MS.put a5.kids s true}))) λs2=>
 QA (gRow s2 a0) λa6=>
 QA (gNet s2 a6.net) λz=>
 fN (-9223372036854775808<=z.parts+1/\z.parts+1<=9223372036854775807)<|
 j4 (dp s2 a6.net (PO.net ({z with parts:=z.parts+1}))) λs3=>
 fq (s,s3)
def D' (_:Nat)(a0:Nat)(U:Nat)(s:Qe):WM Qe:=
 QA (jo s a0) λz=>
 fN (∀y,y=U\/y∈z.parts.keys->s y≠none)<|
 j4 (dp s a0 (PO.join ({z with parts:=MS.del z.parts U}))) λs1=>
 fq s1
def ζ (_:Nat)(a0:Nat)(U:Nat)(s:Qe):WM Qe:=
 QA (jq s a0) λz=>
 fN (∀y,y=U\/y∈z.parts.keys->s y≠none)<|
 j4 (dp s a0 (PO.nt ({z with parts:=MS.del z.parts U}))) λs1=>
 fq s1
def η (_:Nat)(a0:Nat)(U:Nat)(s:Qe):WM Qe:=
 QA (ru s a0) λz=>
 fN (∀y,y=U\/y∈z.parts.keys->s y≠none)<|
 j4 (dp s a0 (PO.test ({z with parts:=MS.del z.parts U}))) λs1=>
 fq s1
def Q6i (N:Nat)(rc:Nat->Nat->Qe->WM Qe)(a0:Nat)(U:Nat)(s2:Qe):WM Qe:=
 fu (rc a0 U s2) λs2=>
 QA (gRow s2 a0) λaG=>
 QA (gNet s2 aG.net) λaA=>
 fN (-9223372036854775808<=aA.parts-1/\aA.parts-1<=9223372036854775807)<|
 j4 (dp s2 aG.net (PO.net ({aA with parts:=aA.parts-1}))) λs3=>
 QA (gPart s3 U) λaK=>
 QA (aK.up) λaH=>
 QA (gPart s3 aH) λaC=>
 fN (∀y,y=U\/y∈aC.kids.keys->s3 y≠none)<|
 j4 (dp s3 aH (PO.part ({aC with kids:=MS.del aC.kids U}))) λs4=>
 QA (gRow s4 a0) λa5=>
 fN (∀y,y=U\/y∈a5.whole.keys->s4 y≠none)<|
 j4 (dp s4 a0 (PO.row ({a5 with whole:=MS.del a5.whole U}))) λs5=>
 jR (λ(aI:(Nat×Qe)->WM Qe) ((z,s))=>
  fZ ((decide (z<a5.steps.length))) (
   lA (λa6=>(
    fN (z+1<=9223372036854775807)<|
    aI (z+1,a6)
  )) λa7=>
  QA (gRow s a0) λaB=>
  fN (aB.stepsP=a5.stepsP/\aB.steps.length=a5.steps.length/\aB.stepsC=a5.stepsC)<|
  QA (aB.steps[z]?) λaD=>
  mg aD (λa8=>
  fu (D' N a8 U s) λs9=>
  a7 s9
  ) (λa8=>
  fu (ζ N a8 U s) λaM=>
  a7 aM
  ) (λa8=>
  fu (η N a8 U s) λaN=>
  a7 aN
  )
  ) (
   fq s
  )
 ) N (0,s5)
def Q9b (N:Nat)(rc:Nat->Nat->Qe->WM Qe)(a0:Nat)(U:Nat)(s2:Qe):WM Qe:=
 QA (gPart s2 U) λx9=>
 fu (Mp x9.kids) λa5=>
 jR (λ(a6:(Nat×Qe)->WM Qe) ((s,z))=>
  fZ ((decide (s<a5.length))) (
   QA (a5[s]?) λa8=>
   fu (Q6i N rc a0 a8 z) λs2=>
   fN (s+1<=9223372036854775807)<|
   a6 (s+1,s2)
  ) (
   fq z
  )
 ) N (0,s2)
def SP:Nat->Nat->Nat->Qe->WM Qe
 |0=>λ_=>λ_=>λ_=>KP
 |N+1=>Q9b N (SP N)
def QcK (N:Nat)(a0:Nat)(U:Nat)(s2:Qe):WM Qe:=
 fu (SP N a0 U s2) λs2=>
 QA (gRow s2 a0) λaG=>
 QA (gNet s2 aG.net) λaA=>
 fN (-9223372036854775808<=aA.parts-1/\aA.parts-1<=9223372036854775807)<|
 j4 (dp s2 aG.net (PO.net ({aA with parts:=aA.parts-1}))) λs3=>
 QA (gPart s3 U) λaK=>
 QA (aK.up) λaH=>
 QA (gPart s3 aH) λaC=>
 fN (∀y,y=U\/y∈aC.kids.keys->s3 y≠none)<|
 j4 (dp s3 aH (PO.part ({aC with kids:=MS.del aC.kids U}))) λs4=>
 QA (gRow s4 a0) λa5=>
 fN (∀y,y=U\/y∈a5.whole.keys->s4 y≠none)<|
 j4 (dp s4 a0 (PO.row ({a5 with whole:=MS.del a5.whole U}))) λs5=>
 jR (λ(aI:(Nat×Qe)->WM Qe) ((z,s))=>
  fZ ((decide (z<a5.steps.length))) (
   lA (λa6=>(
    fN (z+1<=9223372036854775807)<|
    aI (z+1,a6)
  )) λa7=>
  QA (gRow s a0) λaB=>
  fN (aB.stepsP=a5.stepsP/\aB.steps.length=a5.steps.length/\aB.stepsC=a5.stepsC)<|
  QA (aB.steps[z]?) λaD=>
  mg aD (λa8=>
  fu (D' N a8 U s) λs9=>
  a7 s9
  ) (λa8=>
  fu (ζ N a8 U s) λaM=>
  a7 aM
  ) (λa8=>
  fu (η N a8 U s) λaN=>
  a7 aN
  )
  ) (
   fq s
  )
 ) N (0,s5)
def YT (N:Nat)(a0:Nat)(s1:Qe):WM (aq Qg):=
 lA (λa1=>(
  fq a1
)) λa7=>
QA (wa s1 a0) λU=>
fN (UW U.facts=true)<|
jR (λ(a8:(Nat×(aq Qg))->WM (aq Qg)) ((z,s))=>
 fZ ((decide (z<((nB U.facts).length)))) (
  lA (λa5=>(
   fN (z+1<=9223372036854775807)<|
   a8 (z+1,a5)
 )) λa6=>
 QA ((nB U.facts)[z]?) λaB=>
 A6 (MS.look U.facts aB) (
 fN (s.length+([(⟨0,0,[]⟩:Qg)]).length<=3518437208883)<|
 a6 (s++([(⟨0,0,[]⟩:Qg)]))
 ) (λa9=>
 fN (s.length+[a9].length<=3518437208883)<|
 a6 (s++[a9])
 )
 ) (
  a7 s
 )
) N (0,[])
def Q6g (N:Nat)(rc:Nat->Int->Nat->Qe->WM Qe)(a0:Nat)(a1:Nat)(a2:Int)(a3:Int)(l4:aq V)(U:Qe):WM Qe:=
 QA (jo U a0) λz=>
 fu (SK N z.row U) λaB=>
 fZ (aB) (
  fq U
 ) (
  QA (gPart U a1) λa9=>
  QA (Jy N z.cond.kind z.cond.type z.cond.args z.cond.test.kind z.cond.test.value.k z.cond.test.value.n z.cond.test.value.s z.cond.test.var z.cond.test.op z.cond.test.kids a2 a3 l4 a9.has a9.vals) λ(a5,a6,a7)=>
  fZ (a7) (
   fN (-9223372036854775808<=z.k+1/\z.k+1<=9223372036854775807)<|
   fu (OZ N z.row a1 a5 a6 a2 (del U a0)) λ(aC,s1)=>
   fu (rc z.row (z.k+1) aC s1) λs2=>
   j4 (dp s2 a0 (PO.join z)) λs3=>
   jL s2 a0<|
   fq s3
  ) (
   fq U
  )
 )
def Q5x (N:Nat)(rc:Nat->Int->Nat->Qe->WM Qe)(a0:Nat)(U:Nat)(s2:Qe):WM Qe:=
 QA (jo s2 a0) λa5=>
 fN (∀y,y=U\/y∈a5.parts.keys->s2 y≠none)<|
 j4 (dp s2 a0 (PO.join ({a5 with parts:=MS.put a5.parts U true}))) λs2=>
 fu (YT N a5.alpha s2) λa8=>
 jR (λ(a9:(Nat×Qe)->WM Qe) ((s,z))=>
  fZ ((decide (s<a8.length))) (
   QA (a8[s]?) λa6=>
   fu (Q6g N rc a0 U a6.id a6.ty a6.args z) λs4=>
   fN (s+1<=9223372036854775807)<|
   a9 (s+1,s4)
  ) (
   fq z
  )
 ) N (0,s2)
def Q6h (N:Nat)(rc:Nat->Int->Nat->Qe->WM Qe)(a0:Nat)(U:Nat)(z:Qe):WM Qe:=
 lA (λa5=>(
  fZ (a5) (
   QA (jq z a0) λs=>
   QA (gPart z U) λa8=>
   fN (-9223372036854775808<=s.k+1/\s.k+1<=9223372036854775807)<|
   fu (OZ N s.row U a8.has a8.vals 0 (del z a0)) λ(aA,s1)=>
   fu (rc s.row (s.k+1) aA s1) λz=>
   j4 (dp z a0 (PO.nt s)) λs3=>
   jL z a0<|
   fq s3
  ) (
   fq z
  )
)) λa6=>
QA (gPart z U) λx7=>
QA (x7.blocks) λaB=>
fZ ((aB.2.es.length==0)) (
 QA (jq z a0) λaC=>
 fu (SK N aC.row z) λaD=>
 a6 (!aD)
) (
 a6 false
)
def Q5R (N:Nat)(rc:Nat->Int->Nat->Qe->WM Qe)(a0:Nat)(a1:Nat)(s2:Qe):WM Qe:=
 QA (jq s2 a0) λaG=>
 fN (∀y,y=a1\/y∈aG.parts.keys->s2 y≠none)<|
 j4 (dp s2 a0 (PO.nt ({aG with parts:=MS.put aG.parts a1 true}))) λs1=>
 QA (gPart s1 a1) λaH=>
 lM λ(aP:Nat)=>
 j4 (dp s1 a1 (PO.part ({aH with blocks:=some (aP,(MS.nil:MS Int Bool))}))) λs4=>
 lA (λaA=>(
  fu (Q6h N rc a0 a1 aA) λs5=>
  fq s5
)) λaL=>
QA (jq s4 a0) λaM=>
QA (wa s4 aM.alpha) λaN=>
jR (λ(aE:(Nat×(MS Int _)×(aq Int)×Qe)->WM Qe) ((aB,aC,a6,z))=>
 QA (wa z aM.alpha) λU=>
 fN (U.facts=aC/\U.factsA=aB)<|
 kJ U.facts a6 (
 aL z
 ) λaD=>(
 QA (MS.look U.facts aD) λaI=>
 QA (jq z a0) λa5=>
 QA (gPart z a1) λa8=>
 QA (Jy N a5.cond.kind a5.cond.type a5.cond.args a5.cond.test.kind a5.cond.test.value.k a5.cond.test.value.n a5.cond.test.value.s a5.cond.test.var a5.cond.test.op a5.cond.test.kids aI.id aI.ty aI.args a8.has a8.vals) λ(_,_,aJ)=>
 fZ (aJ) (
  QA (a8.blocks) λa9=>
  j4 (dp z a1 (PO.part ({a8 with blocks:=some (a9.1,MS.put a9.2 aD true)}))) λs6=>
  aE (U.factsA,U.facts,a6++[aD],s6)
 ) (
  aE (U.factsA,U.facts,a6++[aD],z)
 )
 )
) N (aN.factsA,aN.facts,([]:aq Int),s4)
def Q5y (N:Nat)(rc:Nat->Int->Nat->Qe->WM Qe)(a0:Nat)(a1:Nat)(s2:Qe):WM Qe:=
 QA (ru s2 a0) λz=>
 QA (gPart s2 a1) λaF=>
 QA (w5 N z.cond.test.kind z.cond.test.value.k z.cond.test.value.n z.cond.test.value.s z.cond.test.var z.cond.test.op z.cond.test.kids aF.vals) λ(aA,aB,_,aC)=>
 lA (λa8=>(
  fZ (a8) (
   QA (ru s2 a0) λU=>
   QA (gPart s2 a1) λa9=>
   fN (-9223372036854775808<=U.k+1/\U.k+1<=9223372036854775807)<|
   fu (OZ N U.row a1 a9.has a9.vals 0 (del s2 a0)) λ(aH,s1)=>
   fu (rc U.row (U.k+1) aH s1) λs2=>
   j4 (dp s2 a0 (PO.test U)) λs3=>
   jL s2 a0<|
   fq s3
  ) (
   fq s2
  )
)) λa5=>
fZ ((aC==0)) (
 fZ ((aA==1)) (
  fZ ((aB !=0)) (
   fu (SK N z.row s2) λaI=>
   a5 (!aI)
  ) (
   a5 false
  )
 ) (
  a5 false
 )
) (
 a5 false
)
def Q9O (N:Nat)(rc:Nat->Int->Nat->Qe->WM Qe)(a0:Nat)(a1:Int)(a2:Nat)(U:Qe):WM Qe:=
 QA (gRow U a0) λs=>
 fZ ((a1==(s.steps.length:Int))) (
  fN (∀y,y=a2\/y∈s.whole.keys->U y≠none)<|
  j4 (dp U a0 (PO.row ({s with whole:=MS.put s.whole a2 true}))) λs1=>
  fq s1
 ) (
  fN (0<=a1)<|
  QA (s.steps[a1.toNat]?) λa7=>
  mg a7 (λz=>
  fu (Q5x N rc z a2 U) λs2=>
  fq s2
  ) (λz=>
  fu (Q5R N rc z a2 U) λU=>
  fq U
  ) (λz=>
  fu (Q5y N rc z a2 U) λs4=>
  fq s4
  )
 )
def P7:Nat->Nat->Int->Nat->Qe->WM Qe
 |0=>λ_=>λ_=>λ_=>λ_=>KP
 |N+1=>Q9O N (P7 N)
def UD (_:Nat)(s:Nat)(s1:Qe):WM Bool:=
 QA (gNet s1 s) λz=>
 fq (!Option.isNone z.rowsP)
def Q8C (N:Nat)(s:Nat)(s1:Qe):WM Nat:=
 fu (UD N s s1) λz=>
 fZ ((!z)) (
  fq 0
 ) (
  QA (gNet s1 s) λU=>
  fq U.facts.es.length
 )
def I' (_:Nat)(rc:(bf Nat)->Qe->WM (aq Int))(a0:bf Nat)(s1:Qe):WM (aq Int):=
 QA (a0) λa5=>
 QA (gPart s1 a5) λx7=>
 fZ (x7.up.isNone) (
  fq []
 ) (
  QA (a0) λa8=>
  QA (gPart s1 a8) λa9=>
  fu (rc a9.up s1) λU=>
  lA (λs=>(
   fq s
 )) λz=>
 QA (a0) λaA=>
 QA (gPart s1 aA) λaB=>
 fZ ((decide (aB.id>0))) (
  QA (a0) λaC=>
  QA (gPart s1 aC) λa6=>
  fN (U.length+[a6.id].length<=17592186044416)<|
  z (U++[a6.id])
 ) (
  z U
 )
 )
def Uz:Nat->(bf Nat)->Qe->WM (aq Int)
 |0=>λ_=>λ_=>KP
 |N+1=>I' N (Uz N)
def Q86 (N:Nat)(a0:Nat)(s1:Qe):WM (aq Int):=
 QA (gPart s1 a0) λU=>
 fZ (U.up.isNone) (
  fq []
 ) (
  fu (Uz N U.up s1) λa1=>
  lA (λs=>(
   fq s
 )) λz=>
 fZ ((decide (U.id>0))) (
  fN (a1.length+[U.id].length<=17592186044416)<|
  z (a1++[U.id])
 ) (
  z a1
 )
 )
def Q6M (N:Nat)(a0:Nat)(s1:Qe):WM (aq Qb):=
 fu (UD N a0 s1) λv9=>
 fZ ((!v9)) (
  fq []
 ) (
  lA (λa6=>(
   fq a6
 )) λa9=>
 QA (gNet s1 a0) λaA=>
 jR (λ(aB:(Nat×(aq Qb))->WM (aq Qb)) ((s,z))=>
  fZ ((decide (s<aA.rows.length))) (
   QA (aA.rows[s]?) λaH=>
   lA (λa7=>(
    QA (rI (λx_ y_=>SG N x_.rule x_.ids y_.rule y_.ids) a7) λaC=>
    fN (z.length+aC.length<=4398046511104)<|
    fN (s+1<=9223372036854775807)<|
    aB (s+1,z++aC)
  )) λaD=>
  QA (gRow s1 aH) λaE=>
  jR (λ(aF:((aq Nat)×(aq Qb))->WM (aq Qb)) ((a5,U))=>
   kJ aE.whole a5 (
   aD U
   ) λa8=>(
   QA (MS.look aE.whole a8) λ_=>
   fu (Q86 N a8 s1) λaG=>
   fN (U.length+([(⟨((s:Int)),aG⟩:Qb)]).length<=4398046511104)<|
   aF (a5++[a8],(U++[(⟨((s:Int)),aG⟩:Qb)]))
   )
  ) N (([]:aq Nat),[])
  ) (
   a9 z
  )
 ) N (0,[])
 )
def Q7n (N:Nat)(a0:Nat)(a1:Int)(s2:Qe):WM Qe:=
 QA (jo s2 a0) λaD=>
 jR (λ(aE:(Nat×(MS Nat Bool)×(aq Nat)×Qe)->WM Qe) ((a9,aA,a6,z))=>
  QA (jo z a0) λU=>
  fN (U.parts=aA/\U.partsA=a9)<|
  kJ U.parts a6 (
  fq z
  ) λaC=>(
  QA (MS.look U.parts aC) λ_=>
  QA (gPart z aC) λaK=>
  fu (Mp aK.kids) λaF=>
  jR (λ(aG:(Nat×Qe)->WM Qe) ((a5,s))=>
   fZ ((decide (a5<aF.length))) (
    lA (λa8=>(
     fN (a5+1<=9223372036854775807)<|
     aG (a5+1,a8)
   )) λaB=>
   QA (aF[a5]?) λaH=>
   QA (gPart s aH) λaL=>
   fZ ((aL.id==a1)) (
    QA (jo s a0) λaM=>
    fu (QcK N aM.row aH s) λs2=>
    aB s2
   ) (
    aB s
   )
   ) (
    aE (U.partsA,U.parts,a6++[aC],s)
   )
  ) N (0,z)
  )
 ) N (aD.partsA,aD.parts,([]:aq Nat),s2)
def Q8F (_:Nat)(_:Nat)(_:Int)(_:Qe):WM Unit:=
 fq ()
def Q70 (_:Nat)(_:Nat)(_:Int)(_:Qe):WM Unit:=
 fq ()
def Z3 (N:Nat)(a0:cz)(U:Int)(s:Qe):WM Qe:=
 mg a0 (λz=>
 fu (Q7n N z U s) λs1=>
 fq s1
 ) (λz=>
 fu (Q8F N z U s) λ_=>
 fq s
 ) (λz=>
 fu (Q70 N z U s) λ_=>
 fq s
 )
def Q8E (_:Nat)(_:Nat)(_:Int)(_:Qe):WM Unit:=
 fq ()
def QcJ (N:Nat)(a0:Nat)(U:Nat)(z:Qe):WM Qe:=
 lA (λa5=>(
  fZ (a5) (
   QA (jq z a0) λs=>
   QA (gPart z U) λa8=>
   fN (-9223372036854775808<=s.k+1/\s.k+1<=9223372036854775807)<|
   fu (OZ N s.row U a8.has a8.vals 0 (del z a0)) λ(aA,s1)=>
   fu (P7 N s.row (s.k+1) aA s1) λz=>
   j4 (dp z a0 (PO.nt s)) λs3=>
   jL z a0<|
   fq s3
  ) (
   fq z
  )
)) λa6=>
QA (gPart z U) λx7=>
QA (x7.blocks) λaB=>
fZ ((aB.2.es.length==0)) (
 QA (jq z a0) λaC=>
 fu (SK N aC.row z) λaD=>
 a6 (!aD)
) (
 a6 false
)
def Q85 (N:Nat)(a0:Nat)(U:Int)(s2:Qe):WM Qe:=
 QA (jq s2 a0) λx9=>
 jR (λ(a7:((aq Nat)×Qe)->WM Qe) ((z,s))=>
  kJ x9.parts z (
  fq s
  ) λuT=>(
  QA (MS.look x9.parts uT) λ_=>
  lA (λa6=>(
   fZ (a6) (
    QA (gPart s uT) λa9=>
    QA (a9.blocks) λa5=>
    j4 (dp s uT (PO.part ({a9 with blocks:=some (a5.1,MS.del a5.2 U)}))) λs1=>
    fu (QcJ N a0 uT s1) λs2=>
    a7 (z++[uT],s2)
   ) (
    a7 (z++[uT],s)
   )
 )) λa8=>
 QA (gPart s uT) λaC=>
 QA (aC.blocks) λaA=>
 A6 (MS.look aA.2 U) (
 a8 false
 ) (λaD=>
 a8 aD
 )
  )
 ) N (([]:aq Nat),s2)
def Q6Z (_:Nat)(_:Nat)(_:Int)(_:Qe):WM Unit:=
 fq ()
def YX (N:Nat)(a0:cz)(U:Int)(s:Qe):WM Qe:=
 mg a0 (λz=>
 fu (Q8E N z U s) λ_=>
 fq s
 ) (λz=>
 fu (Q85 N z U s) λs1=>
 fq s1
 ) (λz=>
 fu (Q6Z N z U s) λ_=>
 fq s
 )
def Q6t (N:Nat)(a0:Nat)(U:Int)(s2:Qe):WM Qe:=
 QA (gNet s2 a0) λz=>
 j4 (dp s2 a0 (PO.net ({z with facts:=MS.del z.facts U}))) λs3=>
 lA (λa6=>(
  fu (Gr (λnj ni=>Z3 N nj U ni) a0 a6) λs5=>
  fu (Gr (λnj ni=>YX N nj U ni) a0 s5) λs6=>
  fq s6
)) λaD=>
j4 (dp s3 a0 (PO.net ({({z with facts:=MS.del z.facts U}:gP)with rows:=({z with facts:=MS.del z.facts U}:gP).rows}))) λs7=>
jR (λ(aE:(Nat×(MS cq Nat)×(aq cq)×Qe)->WM Qe) ((a8,a9,a5,s))=>
 QA (gNet s a0) λa7=>
 fN (a7.alphas=a9/\a7.alphasA=a8)<|
 kJ a7.alphas a5 (
 aD s
 ) λaF=>(
 QA (MS.look a7.alphas aF) λaG=>
 QA (wa s aG) λaB=>
 j4 (dp s aG (PO.alpha ({aB with facts:=MS.del aB.facts U}))) λs8=>
 aE (a7.alphasA,a7.alphas,a5++[aF],s8)
 )
) N ((({z with facts:=MS.del z.facts U}:gP).alphasA),(({z with facts:=MS.del z.facts U}:gP).alphas),([]:aq cq),s7)
def OY (N:Nat)(a0:Nat)(_:Int)(a2:Int)(l3:aq V)(s4:Qe):WM Bool:=
 QA (wa s4 a0) λU=>
 fZ ((a2 !=U.kind)) (
  fq false
 ) (
  lA (λ_=>(
   fq true
 )) λa7=>
 jR (λ(a8:Nat->WM Bool) (s:Nat)=>
  fZ ((decide (s<U.args.length))) (
   QA (U.args[s]?) λa9=>
   lA (λz=>(
    fZ (z) (
     fq false
    ) (
     fN (s+1<=9223372036854775807)<|
     a8 (s+1)
    )
  )) λa5=>
  fZ ((a9.k==4)) (
   QA (l3[s]?) λaA=>
   a5 (!decide (a9.v=aA))
  ) (
   a5 false
  )
  ) (
   a7 ()
  )
 ) N 0
 )
def Q8c (_:Nat)(_:Nat)(_:Int)(_:Int)(_:aq V)(_:Qe):WM Unit:=
 fq ()
def Q7o (N:Nat)(a0:Nat)(a1:Int)(a2:Int)(l3:aq V)(s4:Qe):WM Qe:=
 QA (jq s4 a0) λaD=>
 fu (OY N aD.alpha a1 a2 l3 s4) λaI=>
 fZ ((!aI)) (
  fq s4
 ) (
  jR (λ(aC:(Nat×(MS Nat Bool)×(aq Nat)×Qe)->WM Qe) ((aA,aB,a6,a5))=>
   QA (jq a5 a0) λz=>
   fN (z.parts=aB/\z.partsA=aA)<|
   kJ z.parts a6 (
   fq a5
   ) λa9=>(
   QA (MS.look z.parts a9) λ_=>
   QA (gPart a5 a9) λU=>
   QA (Jy N z.cond.kind z.cond.type z.cond.args z.cond.test.kind z.cond.test.value.k z.cond.test.value.n z.cond.test.value.s z.cond.test.var z.cond.test.op z.cond.test.kids a1 a2 l3 U.has U.vals) λ(_,_,aE)=>
   fZ (aE) (
    QA (U.blocks) λa8=>
    j4 (dp a5 a9 (PO.part ({U with blocks:=some (a8.1,MS.put a8.2 a1 true)}))) λs1=>
    QA (jq s1 a0) λaL=>
    fu (SP N aL.row a9 s1) λs2=>
    aC (z.partsA,z.parts,a6++[a9],s2)
   ) (
    aC (z.partsA,z.parts,a6++[a9],a5)
   )
   )
  ) N (aD.partsA,aD.parts,([]:aq Nat),s4)
 )
def Q6F (_:Nat)(_:Nat)(_:Int)(_:Int)(_:aq V)(_:Qe):WM Unit:=
 fq ()
def Z1 (N:Nat)(a0:cz)(U:Int)(a2:Int)(l3:aq V)(s:Qe):WM Qe:=
 mg a0 (λz=>
 fu (Q8c N z U a2 l3 s) λ_=>
 fq s
 ) (λz=>
 fu (Q7o N z U a2 l3 s) λs1=>
 fq s1
 ) (λz=>
 fu (Q6F N z U a2 l3 s) λ_=>
 fq s
 )
def QcI (N:Nat)(a0:Nat)(a1:Nat)(a2:Int)(a3:Int)(l4:aq V)(U:Qe):WM Qe:=
 QA (jo U a0) λz=>
 fu (SK N z.row U) λaB=>
 fZ (aB) (
  fq U
 ) (
  QA (gPart U a1) λa9=>
  QA (Jy N z.cond.kind z.cond.type z.cond.args z.cond.test.kind z.cond.test.value.k z.cond.test.value.n z.cond.test.value.s z.cond.test.var z.cond.test.op z.cond.test.kids a2 a3 l4 a9.has a9.vals) λ(a5,a6,a7)=>
  fZ (a7) (
   fN (-9223372036854775808<=z.k+1/\z.k+1<=9223372036854775807)<|
   fu (OZ N z.row a1 a5 a6 a2 (del U a0)) λ(aC,s1)=>
   fu (P7 N z.row (z.k+1) aC s1) λs2=>
   j4 (dp s2 a0 (PO.join z)) λs3=>
   jL s2 a0<|
   fq s3
  ) (
   fq U
  )
 )
def Q7m (N:Nat)(a0:Nat)(a1:Int)(a2:Int)(l3:aq V)(U:Qe):WM Qe:=
 QA (jo U a0) λa5=>
 fu (OY N a5.alpha a1 a2 l3 U) λa9=>
 fZ ((!a9)) (
  fq U
 ) (
  jR (λ(a7:((aq Nat)×Qe)->WM Qe) ((s,z))=>
   kJ a5.parts s (
   fq z
   ) λa6=>(
   QA (MS.look a5.parts a6) λ_=>
   fu (QcI N a0 a6 a1 a2 l3 z) λs1=>
   a7 (s++[a6],s1)
   )
  ) N (([]:aq Nat),U)
 )
def Q8D (_:Nat)(_:Nat)(_:Int)(_:Int)(_:aq V)(_:Qe):WM Unit:=
 fq ()
def Q6Y (_:Nat)(_:Nat)(_:Int)(_:Int)(_:aq V)(_:Qe):WM Unit:=
 fq ()
def Z2 (N:Nat)(a0:cz)(U:Int)(a2:Int)(l3:aq V)(s:Qe):WM Qe:=
 mg a0 (λz=>
 fu (Q7m N z U a2 l3 s) λs1=>
 fq s1
 ) (λz=>
 fu (Q8D N z U a2 l3 s) λ_=>
 fq s
 ) (λz=>
 fu (Q6Y N z U a2 l3 s) λ_=>
 fq s
 )
def Q6s (N:Nat)(a0:Nat)(U:Int)(a2:Int)(l3:aq V)(s4:Qe):WM Qe:=
 QA (gNet s4 a0) λa5=>
 j4 (dp s4 a0 (PO.net ({a5 with facts:=MS.put a5.facts U (⟨U,a2,l3⟩:Qg)}))) λs3=>
 lA (λa8=>(
  fu (Gr (λnj ni=>Z1 N nj U a2 l3 ni) a0 a8) λs5=>
  fu (Gr (λnj ni=>Z2 N nj U a2 l3 ni) a0 s5) λs6=>
  fq s6
)) λaH=>
j4 (dp s3 a0 (PO.net ({({a5 with facts:=MS.put a5.facts U (⟨U,a2,l3⟩:Qg)}:gP)with rows:=({a5 with facts:=MS.put a5.facts U (⟨U,a2,l3⟩:Qg)}:gP).rows}))) λs7=>
jR (λ(aC:(Nat×(MS cq Nat)×(aq cq)×Qe)->WM Qe) ((a9,aA,z,s))=>
 QA (gNet s a0) λa6=>
 fN (a6.alphas=aA/\a6.alphasA=a9)<|
 kJ a6.alphas z (
 aH s
 ) λaE=>(
 QA (MS.look a6.alphas aE) λaF=>
 fu (OY N aF U a2 l3 s) λaI=>
 fZ (aI) (
  QA (wa s aF) λaD=>
  j4 (dp s aF (PO.alpha ({aD with facts:=MS.put aD.facts U (⟨U,a2,l3⟩:Qg)}))) λs8=>
  aC (a6.alphasA,a6.alphas,z++[aE],s8)
 ) (
  aC (a6.alphasA,a6.alphas,z++[aE],s)
 )
 )
) N ((({a5 with facts:=MS.put a5.facts U (⟨U,a2,l3⟩:Qg)}:gP).alphasA),(({a5 with facts:=MS.put a5.facts U (⟨U,a2,l3⟩:Qg)}:gP).alphas),([]:aq cq),s7)
def Q84 (N:Nat)(a0:Nat)(a1:Int)(s2:Qe):WM (Nat×Qe):=
 fu (UD N a0 s2) λv8=>
 fZ ((!v8)) (
  fq (1,s2)
 ) (
  lA (λ(z,a5,s,a7)=>(
   fZ ((!a7)) (
    fq (6,s2)
   ) (
    fu (Q6t N a0 a1 s2) λs6=>
    QA (gNet s6 a0) λaC=>
    fZ ((decide (aC.parts>4096))) (
     fu (Q6s N a0 z a5 s s6) λs8=>
     fq (204,s8)
    ) (
     fq (0,s6)
    )
   )
 )) λa6=>
 QA (gNet s2 a0) λaD=>
 A6 (MS.look aD.facts a1) (
 a6 (0,0,[],false)
 ) (λU=>
 a6 (U.id,U.ty,U.args,true)
 )
 )
def Q8B (N:Nat)(a0:Nat)(a1:Int)(a2:Int)(l3:aq V)(U:Qe):WM (Nat×Qe):=
 fu (UD N a0 U) λv8=>
 fZ ((!v8)) (
  fq (1,U)
 ) (
  lA (λz=>(
   fZ (z) (
    fq (2,U)
   ) (
    lA (λa8=>(
     fZ (a8) (
      fq (7,U)
     ) (
      fN (l3.length<=4398046511104)<|
      fu (Q6s N a0 a1 a2 l3 U) λs6=>
      QA (gNet s6 a0) λaE=>
      fZ ((decide (aE.parts>4096))) (
       fu (Q6t N a0 a1 s6) λs8=>
       fq (204,s8)
      ) (
       fq (0,s6)
      )
     )
   )) λa5=>
   QA (gNet U a0) λaB=>
   A6 (MS.look aB.facts a1) (
   a5 false
   ) (λ_=>
   a5 true
   )
   )
 )) λs=>
 QA (gNet U a0) λa6=>
 fZ ((decide (a1<1))) (
  s true
 ) (
  fZ ((decide (a1>1099511627776))) (
   s true
  ) (
   fZ ((decide (a2<0))) (
    s true
   ) (
    fZ ((decide (a2>=(a6.types.length:Int)))) (
     s true
    ) (
     fN (0<=a2)<|
     QA (a6.types[a2.toNat]?) λaF=>
     fZ (((l3.length:Int) !=aF.fields)) (
      s true
     ) (
      QA (YL N l3) λaG=>
      s aG
     )
    )
   )
  )
 )
 )
def UC (N:Nat)(a0:Nat)(_:Int)(a2:Int)(l3:aq fK)(_:Int)(_:Int)(_:Int)(_:cq)(_:Int)(_:Int)(_:aq Q3)(b1:Qe):WM ((bf Nat)×Qe):=
 lM λ(b2:Nat)=>
 so b1 (λ_=>PO.alpha ⟨a2,[],none,0,(MS.nil:MS Int Qg),b2⟩) λaL s1=>
 lA (λz=>(
  QA (wa z aL) λaM=>
  fN (-9223372036854775808<=aM.kind/\aM.kind<=9223372036854775807)<|
  lA (λaJ=>(
   lA (λaA=>(
    QA (gNet aA a0) λb3=>
    A6 (MS.look b3.alphas aJ) (
    fq (none,aA)
    ) (λb4=>
    fq (some b4,aA)
    )
  )) λaQ=>
  lA (λaP=>(
   fZ (aP) (
    QA (gNet z a0) λaV=>
    j4 (dp z a0 (PO.net ({aV with alphas:=MS.put aV.alphas aJ aL}))) λs3=>
    aQ s3
   ) (
    aQ z
   )
 )) λaR=>
 QA (gNet z a0) λb5=>
 A6 (MS.look b5.alphas aJ) (
 aR true
 ) (λ_=>
 aR false
 )
 )) λaW=>
 jR (λ(aX:(Nat×cq)->WM ((bf Nat)×Qe)) ((aH,aN))=>
  fZ ((decide (aH<aM.args.length))) (
   QA (aM.args[aH]?) λaT=>
   QA (Q8G N aT.v.k aT.v.n aT.v.s) λaU=>
   fN ((⟨#[44]⟩:cq).size+aU.size<=9223372036854775807)<|
   fN (aN.size+((⟨#[44]⟩:cq)++aU).size<=9223372036854775807)<|
   fN (aH+1<=9223372036854775807)<|
   aX (aH+1,(aN++((⟨#[44]⟩:cq)++aU)))
  ) (
   aW aN
  )
 ) N (0,wy aM.kind)
)) λaY=>
jR (λ(aZ:(Nat×Qe)->WM ((bf Nat)×Qe)) ((aI,aB))=>
 fZ ((decide (aI<l3.length))) (
  QA (l3[aI]?) λU=>
  lA (λ(aC,aD,aE,aF,aG)=>(
   QA (wa aB aL) λaO=>
   fN (aO.args.length+([(⟨aC,aD,(⟨aE,aF,aG⟩:V)⟩:fK)]).length<=2932031007402)<|
   fN (aI+1<=9223372036854775807)<|
   lM λ(b6:bf Addr)=>
   lM λ(b7:Nat)=>
   j4 (dp aB aL (PO.alpha ({aO with args:=aO.args++([(⟨aC,aD,(⟨aE,aF,aG⟩:V)⟩:fK)]),argsP:=b6,argsC:=b7}))) λs4=>
   aZ (aI+1,s4)
 )) λaS=>
 fZ ((U.k !=4)) (
  aS (1,0,0,0,(⟨#[]⟩:cq))
 ) (
  aS (U.k,U.var,U.v.k,U.v.n,U.v.s)
 )
 ) (
  aY aB
 )
) N (0,s1)
def Qaz (N:Nat)(l0:aq Q9)(l1:aq Q8)(s2:Qe):WM ((bf Nat)×Qe):=
 QA (P5 N l0 l1) λbB=>
 fZ ((!bB)) (
  fq (none,s2)
 ) (
  fN (l0.length<=5864062014805)<|
  lM λ(bC:Nat)=>
  lM λ(bD:Nat)=>
  lM λ(bF:Nat)=>
  so s2 (λ_=>PO.net ⟨l0,[],(some (⟨bC,0,none⟩:Addr)),0,(MS.nil:MS cq Nat),bD,(MS.nil:MS Int Qg),bF,0⟩) λa9 s2=>
  lA (λaD=>(
   fq (some a9,aD)
 )) λaU=>
 jR (λ(aV:(Nat×Qe)->WM ((bf Nat)×Qe)) ((a7,a8))=>
  fZ ((decide (a7<l1.length))) (
   QA (l1[a7]?) λaP=>
   lM λ(bG:Nat)=>
   so a8 (λ_=>PO.row ⟨a9,[],none,0,(MS.nil:MS Nat Bool),bG⟩) λU bH=>
   lA (λa6=>(
    QA (gNet a6 a9) λaF=>
    fN (aF.rows.length+[U].length<=17592186044416)<|
    QA (P6 N aP.vars) λ(aI,aJ)=>
    lM λ(aK:bf Addr)=>
    lM λ(aW:Nat)=>
    Vi (aK.isSome=true)<|
    j4 (dp a6 a9 (PO.net ({aF with rows:=aF.rows++[U],rowsP:=aK,rowsC:=aW}))) λaX=>
    lM λ(aY:Nat)=>
    so aX (λ_=>PO.part ⟨aI,aJ,none,0,(MS.nil:MS Nat Bool),aY,none⟩) λaL aZ=>
    fu (P7 N U 0 aL aZ) λb0=>
    fN (a7+1<=9223372036854775807)<|
    aV (a7+1,b0)
  )) λb1=>
  jR (λ(b2:(Nat×Qe)->WM ((bf Nat)×Qe)) ((a5,a0))=>
   fZ ((decide (a5<aP.conds.length))) (
    lA (λaE=>(
     fN (a5+1<=9223372036854775807)<|
     b2 (a5+1,aE)
   )) λaG=>
   QA (aP.conds[a5]?) λz=>
   QA (Zb N z.kind z.type z.args z.test.kind z.test.value.k z.test.value.n z.test.value.s z.test.var z.test.op z.test.kids) λaQ=>
   fZ ((z.kind==1)) (
    QA (gRow a0 U) λaA=>
    fu (UC N a9 z.kind z.type z.args z.test.kind z.test.value.k z.test.value.n z.test.value.s z.test.var z.test.op z.test.kids (del a0 U)) λ(bI,b3)=>
    QA (bI) λbK=>
    lM λ(aH:Nat)=>
    so b3 (λ_=>PO.join ⟨bK,U,(a5:Int),(⟨z.kind,z.type,z.args,(⟨z.test.kind,z.test.value,z.test.var,z.test.op,aQ⟩:Q3)⟩:Qq),(MS.nil:MS Nat Bool),aH⟩) λaR aM=>
    fN (aA.steps.length+([(.join aR:cz)]).length<=8796093022208)<|
    lM λ(bL:bf Addr)=>
    lM λ(bM:Nat)=>
    j4 (dp aM U (PO.row ({aA with steps:=aA.steps++([(.join aR:cz)]),stepsP:=bL,stepsC:=bM}))) λb4=>
    jL aM U<|
    aG b4
   ) (
    fZ ((z.kind==2)) (
     QA (gRow a0 U) λaB=>
     fu (UC N a9 z.kind z.type z.args z.test.kind z.test.value.k z.test.value.n z.test.value.s z.test.var z.test.op z.test.kids (del a0 U)) λ(bN,b5)=>
     QA (bN) λbO=>
     lM λ(aH:Nat)=>
     so b5 (λ_=>PO.nt ⟨bO,U,(a5:Int),(⟨z.kind,z.type,z.args,(⟨z.test.kind,z.test.value,z.test.var,z.test.op,aQ⟩:Q3)⟩:Qq),(MS.nil:MS Nat Bool),aH⟩) λaS aN=>
     fN (aB.steps.length+([(.nt aS:cz)]).length<=8796093022208)<|
     lM λ(bP:bf Addr)=>
     lM λ(bQ:Nat)=>
     j4 (dp aN U (PO.row ({aB with steps:=aB.steps++([(.nt aS:cz)]),stepsP:=bP,stepsC:=bQ}))) λb6=>
     jL aN U<|
     aG b6
    ) (
     QA (gRow a0 U) λaC=>
     lM λ(aH:Nat)=>
     so (del a0 U) (λ_=>PO.test ⟨U,(a5:Int),(⟨z.kind,z.type,z.args,(⟨z.test.kind,z.test.value,z.test.var,z.test.op,aQ⟩:Q3)⟩:Qq),(MS.nil:MS Nat Bool),aH⟩) λaT aO=>
     fN (aC.steps.length+([(.test aT:cz)]).length<=8796093022208)<|
     lM λ(bR:bf Addr)=>
     lM λ(bS:Nat)=>
     j4 (dp aO U (PO.row ({aC with steps:=aC.steps++([(.test aT:cz)]),stepsP:=bR,stepsC:=bS}))) λb7=>
     jL aO U<|
     aG b7
    )
   )
   ) (
    b1 a0
   )
  ) N (0,bH)
  ) (
   aU a8
  )
 ) N (0,s2)
 )
end
end
end Go.Proofs.YtocfkfhdcnjklaaGreatDoor
