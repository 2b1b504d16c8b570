import Derived.Test.YtocfkfhdcnjklaaGreatDoorShelf
import Derived.Lib.Strings
import Derived.Lib.SlTrimSet
import Derived.Lib.SlKeysI
import Derived.Sort.KeysCollected
import Derived.CallsIn
namespace Go.Proofs.YtocfkfhdcnjklaaGreatDoor
section
open Go Go.RowKit
abbrev R0 (a:Value) (b c:List Fact):Value->List Fact->List Fact->Prop:=λv p q=>v=a/\p=b/\q=c
theorem zs {α:Type} {a b:α} (h:some a=some b):b=a:=(Option.some.inj h).symm
theorem kn {p:Prop} {α β:Type} {m:Option α} {k:α->Option β} {b:β} (h:Qg m k=some b)(next:∀x,m=some x->k x=some b->p):p:=by
 obtain⟨a,h1,U⟩:=Qw h;exact next a h1 U
theorem kg {p c:Prop} [Decidable c] {α:Type} {m:Option α} {b:α} (h:gd c m=some b)(next:c->m=some b->p):p:=(mA h).elim next
theorem ks {p:Prop} {σ O:Type} {X:Option (σ⊕O)} {Y:σ->Option O} {b:O} (h:j7 X Y=some b)(next:∀x,X=some x->vz Y x b->p):p:=by
 obtain⟨a,h1,U⟩:=kQ h;exact next a h1 U
section
variable {P:Program} {C:Ctx} {n:FD} {Q:Exit->Act->World->Prop} {Φ Φ':List Fact} {H H':List Fact} {S S':List (Nat×Value)} {ops:Array Oper} {rest:List Oper} {o:Oper} {d:Nat} {c x y:Code}
theorem Qs {v v':Value} (h:v=v')(next:WL P C n Q Φ H ((d,v')::S) ops rest):WL P C n Q Φ H ((d,v)::S) ops rest:=by subst h;exact next
theorem QZ {o:Operand} {α:Type} {t:Bool} {m1 m2 r:α} (hm:(if t=true then m1 else m2)=r)(U:da S o=some (.bool t))(ht:m1=r->WC P C n Q Φ H S x)(hf:m2=r->WC P C n Q Φ H S y):WC P C n Q Φ H S (.cond o x y):=
 gu U (λh=>ht (Zy hm h)) (λh=>hf (Zx hm h))
theorem a0e {α:Type} {t:Bool} {m1 m2 r:α} (hm:(if t=true then m1 else m2)=r)(ht:t=true->m1=r->WL P C n Q Φ H ((d,.bool true)::S) ops rest)(U:t=false->m2=r->WL P C n Q Φ H ((d,.bool false)::S) ops rest):WL P C n Q Φ H ((d,.bool t)::S) ops rest:=by
 cases t;· exact U rfl (Zx hm rfl)
 · exact ht rfl (Zy hm rfl)
theorem eV {α:Type} {t:Bool} {m1 m2 r:α} (hm:(if t=true then m1 else m2)=r)(ht:m1=r->WL P C n Q Φ H ((d,.bool true)::S) ops rest)(U:m2=r->WL P C n Q Φ H ((d,.bool false)::S) ops rest):WL P C n Q Φ H ((d,.bool t)::S) ops rest:=a0e hm (λ_=>ht) (λ_=>U)
private theorem p4.{u,v} {α:Type u} {β:Type v} {a U:α} {b b':β} (h:(a,b)=(U,b')):a=U/\b=b':=by cases h;exact⟨rfl,rfl⟩
theorem ay {U:Oper} {d2:Nat} {v v2:Value} (h:((QJ ops S o,o.dst,Nat.blt d n,jV d S,z7 S o.op),(QJ ops ((d,v)::S) U,U.dst,Nat.blt d2 n,jV d2 ((d,v)::S),z7 ((d,v)::S) U.op))=((some true,some d,true,true,some v),(some true,some d2,true,true,some v2)))
  (next:WL P C n Q Φ H ((d2,v2)::(d,v)::S) ops rest):WL P C n Q Φ H S ops (o::U::rest):=by
 obtain⟨h1,h2⟩:=p4 h;exact wP h1 (wP h2 next)
theorem eD {U:Oper} {d2:Nat} (h:((QJ ops S o,o.dst,Nat.blt d n,jV d S),(QJ ops ((d,undef)::S) U,U.dst,Nat.blt d2 n,jV d2 ((d,undef)::S)))=((some false,some d,true,true),(some false,some d2,true,true)))
  (next:WL P C n Q Φ H ((d2,undef)::(d,undef)::S) ops rest):WL P C n Q Φ H S ops (o::U::rest):=by
 obtain⟨h1,h2⟩:=p4 h;exact wO h1 (wO h2 next)
theorem ef {U o3 o4:Oper} {d2 d3 d4:Nat} (h:(((QJ ops S o,o.dst,Nat.blt d n,jV d S),(QJ ops ((d,undef)::S) U,U.dst,Nat.blt d2 n,jV d2 ((d,undef)::S))),((QJ ops ((d2,undef)::(d,undef)::S) o3,o3.dst,Nat.blt d3 n,jV d3 ((d2,undef)::(d,undef)::S)),(QJ ops ((d3,undef)::(d2,undef)::(d,undef)::S) o4,o4.dst,Nat.blt d4 n,jV d4 ((d3,undef)::(d2,undef)::(d,undef)::S))))=(((some false,some d,true,true),(some false,some d2,true,true)),((some false,some d3,true,true),(some false,some d4,true,true))))
  (next:WL P C n Q Φ H ((d4,undef)::(d3,undef)::(d2,undef)::(d,undef)::S) ops rest):WL P C n Q Φ H S ops (o::U::o3::o4::rest):=by
 obtain⟨h1,h2⟩:=p4 h;exact eD h1 (eD h2 next)
theorem wM {t b tb sz:Nat} {x:Operand} {g:Bool} {all:List Value} {v:Value} (k j:Nat)(cs:List Value)(h:(QJ ops S o,o.dst,Nat.blt d n,jV d S,o.op,H[k]?,da S x,(all.drop j).take sz)=(some true,some d,true,true,.load t x,some (.blk b all tb),some (.pointer (some ⟨b,j,none⟩)),cs))
  (hs:QM P t=some sz) (ha:eW P t=some g) (hv:(cs.length,kd g cs)=(sz,some v)) (next:WL P C n Q Φ H ((d,v)::S) ops rest):WL P C n Q Φ H S ops (o::rest):=by
 obtain⟨h1,h⟩:=p4 h;obtain⟨U,h⟩:=p4 h;obtain⟨h3,h⟩:=p4 h;obtain⟨h4,h⟩:=p4 h;obtain⟨h5,h⟩:=p4 h;obtain⟨h6,h⟩:=p4 h;obtain⟨h7,h8⟩:=p4 h;obtain⟨g1,g2⟩:=p4 hv;exact LF k j h1 U h3 (Q0 h4) h5 h6 h7 h8 hs ha g1 g2 next
def JP {σ β:Type} (b:β)(K:σ->β×List (Nat×Value)×List Fact×List Fact)(C:Ctx)(n:FD):Act->World->Prop:=λa w=>∃s,nX (λs=>b=(K s).1) (λs=>(K s).2.1) (λs=>(K s).2.2.1) (λs=>(K s).2.2.2) C n s a w
theorem cut {σ β:Type} (b:β)(K:σ->β×List (Nat×Value)×List Fact×List Fact)(U:WC P C n (Exit.then (JP b K C n) Q) Φ H S x)(hy:∀s,b=(K s).1->WC P C n Q (K s).2.2.1 (K s).2.2.2 (K s).2.1 y):WC P C n (Exit.then (λa w=>y.wp P Q a w) Q) Φ H S x:=
 yv _ _ _ _ U hy
theorem jn {σ β:Type} {b:β} {K:σ->β×List (Nat×Value)×List Fact×List Fact} (s:σ)(h:b=(K s).1)(l l2:List Nat)(U:(gC l S,QK Φ l2,H)=(K s).2):WE C n (Exit.then (JP b K C n) Q) Φ H S .normal:=by
 have h3:gC l S=(K s).2.1:=congrArg (·.1) U;have h4:QK Φ l2=(K s).2.2.1:=congrArg (·.2.1) U;have h5:H=(K s).2.2.2:=congrArg (·.2.2) U;exact jS s h l h3 (bg l2 h4) h5
theorem jM {σ β:Type} {b:β} {K:σ->β×List (Nat×Value)×List Fact×List Fact} (s:σ)(hm:some (K s).1=some b)(l l2:List Nat)(U:(gC l S,QK Φ l2,H)=(K s).2):WE C n (Exit.then (JP b K C n) Q) Φ H S .normal:=jn s (zs hm) l l2 U
def LP {σ U O:Type} (f:U->Option (U⊕O))(b:O)(K:σ->U×List (Nat×Value)×List Fact×List Fact)(m:Nat)(C:Ctx)(n:FD):Act->World->Prop:=λa w=>∃s:Nat×σ,s.1<m+1/\nX (λs:Nat×σ=>fF f s.1 (K s.2).1=some b) (λs=>(K s.2).2.1) (λs=>(K s.2).2.2.1) (λs=>(K s.2).2.2.2) C n s a w
theorem yP {σ τ O:Type} (f:τ->Option (τ⊕O)) {N:Nat} {b:O} (K:σ->τ×List (Nat×Value)×List Fact×List Fact)(U:σ)(hm:fF f N (K U).1=some b)(l l2:List Nat)(h2:(gC l S,QK Φ l2,H)=(K U).2)
  (round:∀s m v,f (K s).1=some v->vz (fF f m) v b->WC P C n (Exit.then (LP f b K m C n) Q) (K s).2.2.1 (K s).2.2.2 (K s).2.1 c):WC P C n Q Φ H S (.loop c):=by
 have h3:gC l S=(K U).2.1:=congrArg (·.1) h2;have h4:QK Φ l2=(K U).2.2.1:=congrArg (·.2.1) h2;have h5:H=(K U).2.2.2:=congrArg (·.2.2) h2;refine RU (σ:=Nat×σ) (λs=>fF f s.1 (K s.2).1=some b) (λs=>s.1) (λs=>(K s.2).2.1) (λs=>(K s.2).2.2.1) (λs=>(K s.2).2.2.2) (N,U) hm l h3 (bg l2 h4) h5 ?_;rintro⟨k,s⟩ hs;obtain⟨m,v,rfl,h6,h7⟩:=Gj hs;exact round s m v h6 h7
theorem yR {σ τ O:Type} {f:τ->Option (τ⊕O)} {b:O} {K:σ->τ×List (Nat×Value)×List Fact×List Fact} {m:Nat} (s:σ)(h:fF f m (K s).1=some b)(l l2:List Nat)(U:(gC l S,QK Φ l2,H)=(K s).2):WE C n (Exit.then (LP f b K m C n) Q) Φ H S .normal:=by
 have h3:gC l S=(K s).2.1:=congrArg (·.1) U;have h4:QK Φ l2=(K s).2.2.1:=congrArg (·.2.1) U;have h5:H=(K s).2.2.2:=congrArg (·.2.2) U;exact Mk (μ:=λs:Nat×σ=>s.1) (m,s) (Nat.lt_succ_self _) h l h3 (bg l2 h4) h5
def Ac:Exit->Bool
 | .ret=>true
 | .normal=>true
 |_=>false
theorem sL {e:Exit} (h:Ac e=true):e=.ret\/e=.normal:=by cases e<;>simp_all [Ac]
private theorem p6.{u,v} {α:Type u} {β:Type v} {a U:α} {b b':β} (h:(a,b)=(U,b')):a=U/\b=b':=by cases h;exact⟨rfl,rfl⟩
theorem cr {fn:Func} {m:Nat} {R:Value->List Fact->List Fact->Prop} {v:Value} {U Hr:List Fact} {t:Nat} {e:Exit} (l l2:List Nat)(la:fn.results=#[.tmp t])(h1:look S t=some v)(hR:R v U Hr)(h:(QK Φ l2,fD l H.length,QK H l,Ac e)=(U,true,Hr,true)):WE C ⟨m,[]⟩ (bodyPost P fn (rD C R)) Φ H S e:=by
 obtain⟨g1,h⟩:=p6 h;obtain⟨g2,h⟩:=p6 h;obtain⟨g3,g4⟩:=p6 h;exact ry l la (iO h1) hR (bg l2 g1) g2 g3 (sL g4)
theorem AG {fn:Func} {m:Nat} {R:Value->List Fact->List Fact->Prop} {v u:Value} {U Hr:List Fact} {t t':Nat} {e:Exit} (l l2:List Nat)(la:fn.results=#[.tmp t,.tmp t'])(h1:(look S t,look S t')=(some v,some u))(hR:R (.tuple #[v,u]) U Hr)(h:(QK Φ l2,fD l H.length,QK H l,Ac e)=(U,true,Hr,true)):WE C ⟨m,[]⟩ (bodyPost P fn (rD C R)) Φ H S e:=by
 obtain⟨g1,h⟩:=p6 h;obtain⟨g2,h⟩:=p6 h;obtain⟨g3,g4⟩:=p6 h;obtain⟨g5,g6⟩:=p6 h1;exact tV l la (iO g5) (iO g6) hR (bg l2 g1) g2 g3 (sL g4)
theorem gO {fn:Func} {m:Nat} {R:Value->List Fact->List Fact->Prop} {U Hr:List Fact} {e:Exit} (l l2:List Nat)(la:fn.results=#[])(hR:R (.tuple #[]) U Hr)(h:(QK Φ l2,fD l H.length,QK H l,Ac e)=(U,true,Hr,true)):WE C ⟨m,[]⟩ (bodyPost P fn (rD C R)) Φ H S e:=by
 obtain⟨g1,h⟩:=p6 h;obtain⟨g2,h⟩:=p6 h;obtain⟨g3,g4⟩:=p6 h;exact tj l la hR (bg l2 g1) g2 g3 (sL g4)
theorem wI {α:Type} {t e sz:Nat} {x i:Operand} {R:eI α} {p:Option Addr} {cp:Nat} {l:List α} {ik:IntKind} {u:α} (k j:Nat)(h:(QJ ops S o,o.dst,Nat.blt d n,jV d S,o.op,Φ[k]?,da S x,da S i)=(some true,some d,true,true,.indexAddr t x i,some (.sli sz R p cp l),some (.slice p l.length cp),some (.int ik (j:Int))))(hu:l[j]? =some u)(he:fJ P t=some e)(hs:QM P e=some sz)
  (next:∀b q cs,cs.length=sz->WL P C n Q (.cells b q cs::.rep R cs u::Φ) H ((d,.pointer (some ⟨b,q,none⟩))::S) ops rest):WL P C n Q Φ H S ops (o::rest):=by
 obtain⟨h1,h⟩:=p6 h;obtain⟨U,h⟩:=p6 h;obtain⟨h3,h⟩:=p6 h;obtain⟨h4,h⟩:=p6 h;obtain⟨h5,h⟩:=p6 h;obtain⟨h6,h⟩:=p6 h;obtain⟨h7,h8⟩:=p6 h;exact pe k j h1 U h3 (Q0 h4) h5 h6 h7 h8 rfl hu he hs next
theorem oQ {t sz b q:Nat} {x:Operand} {g:Bool} {all:List Value} {v:Value} (k j:Nat)(cs:List Value)(h:(QJ ops S o,o.dst,Nat.blt d n,jV d S,o.op,Φ[k]?,da S x,(all.drop j).take sz)=(some true,some d,true,true,.load t x,some (.cells b q all),some (.pointer (some ⟨b,q+j,none⟩)),cs))
  (hs:QM P t=some sz) (ha:eW P t=some g) (hv:(cs.length,kd g cs)=(sz,some v)) (next:WL P C n Q Φ H ((d,v)::S) ops rest):WL P C n Q Φ H S ops (o::rest):=by
 obtain⟨h1,h⟩:=p6 h;obtain⟨U,h⟩:=p6 h;obtain⟨h3,h⟩:=p6 h;obtain⟨h4,h⟩:=p6 h;obtain⟨h5,h⟩:=p6 h;obtain⟨h6,h⟩:=p6 h;obtain⟨h7,h8⟩:=p6 h;obtain⟨g1,g2⟩:=p6 hv;exact Ot k j h1 U h3 (Q0 h4) h5 h6 h7 h8 hs ha g1 g2 next
theorem lO (a b:Nat):Value.bool (decide ((a:Int)<(b:Int)))=.bool (decide (a<b)):=ZG
theorem Nle (a b:Nat):Value.bool (decide ((a:Int)<=(b:Int)))=.bool (decide (a<=b)):=ZF
theorem Rg (a b:Nat):Value.bool (decide ((a:Int)>(b:Int)))=.bool (decide (b<a)):=ZE
theorem Nge (a b:Nat):Value.bool (decide ((a:Int)>=(b:Int)))=.bool (decide (b<=a)):=ZD
theorem u6 (a b:Nat):Value.bool ((a:Int)==(b:Int))=.bool (a==b):=ZC
theorem Wr (a b:Nat):Value.bool ((a:Int) !=(b:Int))=.bool (a !=b):=ZH
theorem sq {id:Nat} {l:List Oper} (h:WL P C n (Exit.then (λa w=>y.wp P Q a w) Q) Φ H S l.toArray l):WC P C n Q Φ H S (.seq (.region id l.toArray false) y):=Q6 (Qc h)
theorem nt (h:WC P C n Q Φ H S y):WL P C n (Exit.then (λa w=>y.wp P Q a w) Q) Φ H S ops []:=Q2 (Qu h)
theorem kt (h:WC P C n Q Φ H S y):WC P C n (Exit.then (λa w=>y.wp P Q a w) Q) Φ H S .skip:=QT (Qu h)
theorem nr (h:WE C n Q Φ H S .ret):WL P C n (Exit.then (λa w=>Code.ret.wp P Q a w) Q) Φ H S ops []:=Q2 (Qu (Ql h))
theorem rb {id:Nat} {K:Act->World->Prop} (h:WE C n Q Φ H S .ret):WE C n (Exit.then K (Exit.inBlock id Q)) Φ H S .ret:=Q5 (Qp h)
theorem k0 (h:gC [] S=[])(y:WC P C n Q Φ H [] c):WC P C n Q Φ H S c:=jT _ h y
theorem nk0 (h:gC [] S=[])(x:WC P C n Q Φ H [] y):WL P C n (Exit.then (λa w=>y.wp P Q a w) Q) Φ H S ops []:=nt (jT _ h x)
theorem k1 (a:Nat) {A:Nat×Value} (h:gC [a] S=[A])(y:WC P C n Q Φ H [A] c):WC P C n Q Φ H S c:=jT _ h y
theorem dw (a:Nat) {A:Nat×Value} (h:gC [a] S=[A])(x:WC P C n Q Φ H [A] y):WL P C n (Exit.then (λa w=>y.wp P Q a w) Q) Φ H S ops []:=nt (jT _ h x)
theorem k2 (a b:Nat) {A B:Nat×Value} (h:gC [a,b] S=[A,B])(y:WC P C n Q Φ H [A,B] c):WC P C n Q Φ H S c:=jT _ h y
theorem de (a b:Nat) {A B:Nat×Value} (h:gC [a,b] S=[A,B])(x:WC P C n Q Φ H [A,B] y):WL P C n (Exit.then (λa w=>y.wp P Q a w) Q) Φ H S ops []:=nt (jT _ h x)
theorem k3 (a b e:Nat) {A B D:Nat×Value} (h:gC [a,b,e] S=[A,B,D])(y:WC P C n Q Φ H [A,B,D] c):WC P C n Q Φ H S c:=jT _ h y
theorem fh (a b e:Nat) {A B D:Nat×Value} (h:gC [a,b,e] S=[A,B,D])(x:WC P C n Q Φ H [A,B,D] y):WL P C n (Exit.then (λa w=>y.wp P Q a w) Q) Φ H S ops []:=nt (jT _ h x)
theorem k4 (a b e f:Nat) {A B D E:Nat×Value} (h:gC [a,b,e,f] S=[A,B,D,E])(y:WC P C n Q Φ H [A,B,D,E] c):WC P C n Q Φ H S c:=jT _ h y
theorem fH (a b e f:Nat) {A B D E:Nat×Value} (h:gC [a,b,e,f] S=[A,B,D,E])(x:WC P C n Q Φ H [A,B,D,E] y):WL P C n (Exit.then (λa w=>y.wp P Q a w) Q) Φ H S ops []:=nt (jT _ h x)
theorem k5 (a b e f g:Nat) {A B D E F:Nat×Value} (h:gC [a,b,e,f,g] S=[A,B,D,E,F])(y:WC P C n Q Φ H [A,B,D,E,F] c):WC P C n Q Φ H S c:=jT _ h y
theorem lr (a b e f g:Nat) {A B D E F:Nat×Value} (h:gC [a,b,e,f,g] S=[A,B,D,E,F])(x:WC P C n Q Φ H [A,B,D,E,F] y):WL P C n (Exit.then (λa w=>y.wp P Q a w) Q) Φ H S ops []:=nt (jT _ h x)
theorem k6 (a b e f g i:Nat) {A B D E F G:Nat×Value} (h:gC [a,b,e,f,g,i] S=[A,B,D,E,F,G])(y:WC P C n Q Φ H [A,B,D,E,F,G] c):WC P C n Q Φ H S c:=jT _ h y
theorem kC (a b e f g i:Nat) {A B D E F G:Nat×Value} (h:gC [a,b,e,f,g,i] S=[A,B,D,E,F,G])(x:WC P C n Q Φ H [A,B,D,E,F,G] y):WL P C n (Exit.then (λa w=>y.wp P Q a w) Q) Φ H S ops []:=nt (jT _ h x)
theorem k7 (a b e f g i j:Nat) {A B D E F G I:Nat×Value} (h:gC [a,b,e,f,g,i,j] S=[A,B,D,E,F,G,I])(y:WC P C n Q Φ H [A,B,D,E,F,G,I] c):WC P C n Q Φ H S c:=jT _ h y
theorem NV (a b e f g i j:Nat) {A B D E F G I:Nat×Value} (h:gC [a,b,e,f,g,i,j] S=[A,B,D,E,F,G,I])(x:WC P C n Q Φ H [A,B,D,E,F,G,I] y):WL P C n (Exit.then (λa w=>y.wp P Q a w) Q) Φ H S ops []:=nt (jT _ h x)
theorem k8 (a b e f g i j k:Nat) {A B D E F G I J:Nat×Value} (h:gC [a,b,e,f,g,i,j,k] S=[A,B,D,E,F,G,I,J])(y:WC P C n Q Φ H [A,B,D,E,F,G,I,J] c):WC P C n Q Φ H S c:=jT _ h y
theorem U7 (a b e f g i j k:Nat) {A B D E F G I J:Nat×Value} (h:gC [a,b,e,f,g,i,j,k] S=[A,B,D,E,F,G,I,J])(x:WC P C n Q Φ H [A,B,D,E,F,G,I,J] y):WL P C n (Exit.then (λa w=>y.wp P Q a w) Q) Φ H S ops []:=nt (jT _ h x)
theorem k9 (a b e f g i j k l:Nat) {A B D E F G I J K:Nat×Value} (h:gC [a,b,e,f,g,i,j,k,l] S=[A,B,D,E,F,G,I,J,K])(y:WC P C n Q Φ H [A,B,D,E,F,G,I,J,K] c):WC P C n Q Φ H S c:=jT _ h y
theorem nk9 (a b e f g i j k l:Nat) {A B D E F G I J K:Nat×Value} (h:gC [a,b,e,f,g,i,j,k,l] S=[A,B,D,E,F,G,I,J,K])(x:WC P C n Q Φ H [A,B,D,E,F,G,I,J,K] y):WL P C n (Exit.then (λa w=>y.wp P Q a w) Q) Φ H S ops []:=nt (jT _ h x)
theorem k10 (a b e f g i j k l m:Nat) {A B D E F G I J K L:Nat×Value} (h:gC [a,b,e,f,g,i,j,k,l,m] S=[A,B,D,E,F,G,I,J,K,L])(y:WC P C n Q Φ H [A,B,D,E,F,G,I,J,K,L] c):WC P C n Q Φ H S c:=jT _ h y
theorem a13 (a b e f g i j k l m:Nat) {A B D E F G I J K L:Nat×Value} (h:gC [a,b,e,f,g,i,j,k,l,m] S=[A,B,D,E,F,G,I,J,K,L])(x:WC P C n Q Φ H [A,B,D,E,F,G,I,J,K,L] y):WL P C n (Exit.then (λa w=>y.wp P Q a w) Q) Φ H S ops []:=nt (jT _ h x)
theorem k11 (a b e f g i j k l m p:Nat) {A B D E F G I J K L M:Nat×Value} (h:gC [a,b,e,f,g,i,j,k,l,m,p] S=[A,B,D,E,F,G,I,J,K,L,M])(y:WC P C n Q Φ H [A,B,D,E,F,G,I,J,K,L,M] c):WC P C n Q Φ H S c:=jT _ h y
theorem ZK (a b e f g i j k l m p:Nat) {A B D E F G I J K L M:Nat×Value} (h:gC [a,b,e,f,g,i,j,k,l,m,p] S=[A,B,D,E,F,G,I,J,K,L,M])(x:WC P C n Q Φ H [A,B,D,E,F,G,I,J,K,L,M] y):WL P C n (Exit.then (λa w=>y.wp P Q a w) Q) Φ H S ops []:=nt (jT _ h x)
theorem gK (a b e f g i j k l m p q:Nat) {A B D E F G I J K L M N:Nat×Value} (h:gC [a,b,e,f,g,i,j,k,l,m,p,q] S=[A,B,D,E,F,G,I,J,K,L,M,N])(y:WC P C n Q Φ H [A,B,D,E,F,G,I,J,K,L,M,N] c):WC P C n Q Φ H S c:=jT _ h y
theorem ZL (a b e f g i j k l m p q:Nat) {A B D E F G I J K L M N:Nat×Value} (h:gC [a,b,e,f,g,i,j,k,l,m,p,q] S=[A,B,D,E,F,G,I,J,K,L,M,N])(x:WC P C n Q Φ H [A,B,D,E,F,G,I,J,K,L,M,N] y):WL P C n (Exit.then (λa w=>y.wp P Q a w) Q) Φ H S ops []:=nt (jT _ h x)
theorem a14 (a b e f g i j k l m p q r:Nat) {A B D E F G I J K L M N O:Nat×Value} (h:gC [a,b,e,f,g,i,j,k,l,m,p,q,r] S=[A,B,D,E,F,G,I,J,K,L,M,N,O])(x:WC P C n Q Φ H [A,B,D,E,F,G,I,J,K,L,M,N,O] y):WL P C n (Exit.then (λa w=>y.wp P Q a w) Q) Φ H S ops []:=nt (jT _ h x)
theorem c0 {f:FuncId} {xs:Array Operand} {ts:Array TypeId} {args:List Value} {Φf Hf:List Fact} {X:Prop} {e1:Value} {e2 e3:List Fact} (l m:List Nat)
  (h:(QJ ops S o,o.dst,Nat.blt d n,jV d S,o.op,vk S xs.toList)=(some true,some d,true,true,.call {callee:=.value (.func f),args:=xs,argTypes:=ts},some args)) (ji:QW P f=true) (hc:X)
  (spec:X->QA P f args Φf Hf (λv bo Hr=>v=e1/\bo=e2/\Hr=e3)) (l2:List Nat) (H':List Fact) (U:(QK H l,QK Φ l2,fD (l++m) H.length,QK H m)=(Hf,Φf,true,H'))
  (next:WL P C n Q (e2++Φ) (e3++H') ((d,e1)::S) ops rest):WL P C n Q Φ H S ops (o::rest):=by
 obtain⟨g1,U⟩:=p6 U;obtain⟨g2,U⟩:=p6 U;obtain⟨g3,g4⟩:=p6 U;refine wC l m h ji g1 (spec hc) (bg l2 g2) g3 g4 ?_;rintro _ _ _ ⟨rfl,rfl,rfl⟩;exact next
theorem c1 {A0:Type} {f:FuncId} {xs:Array Operand} {ts:Array TypeId} {args:List Value} {Φf Hf:List Fact} {X:Prop} {e1:A0->Value} {e2 e3:A0->List Fact} (l m:List Nat)
  (h:(QJ ops S o,o.dst,Nat.blt d n,jV d S,o.op,vk S xs.toList)=(some true,some d,true,true,.call {callee:=.value (.func f),args:=xs,argTypes:=ts},some args)) (ji:QW P f=true) (hc:X)
  (spec:X->QA P f args Φf Hf (λv bo Hr=>∃a0,v=e1 a0/\bo=e2 a0/\Hr=e3 a0)) (l2:List Nat) (H':List Fact) (U:(QK H l,QK Φ l2,fD (l++m) H.length,QK H m)=(Hf,Φf,true,H'))
  (next:∀a0,WL P C n Q (e2 a0++Φ) (e3 a0++H') ((d,e1 a0)::S) ops rest):WL P C n Q Φ H S ops (o::rest):=by
 obtain⟨g1,U⟩:=p6 U;obtain⟨g2,U⟩:=p6 U;obtain⟨g3,g4⟩:=p6 U;refine wC l m h ji g1 (spec hc) (bg l2 g2) g3 g4 ?_;rintro _ _ _ ⟨a0,rfl,rfl,rfl⟩;exact next a0
theorem c4 {A0 A1 A2 A3:Type} {f:FuncId} {xs:Array Operand} {ts:Array TypeId} {args:List Value} {Φf Hf:List Fact} {X:Prop} {e1:A0->A1->A2->A3->Value} {e2 e3:A0->A1->A2->A3->List Fact} (l m:List Nat)
  (h:(QJ ops S o,o.dst,Nat.blt d n,jV d S,o.op,vk S xs.toList)=(some true,some d,true,true,.call {callee:=.value (.func f),args:=xs,argTypes:=ts},some args)) (ji:QW P f=true) (hc:X)
  (spec:X->QA P f args Φf Hf (λv bo Hr=>∃a0 U a2 a3,v=e1 a0 U a2 a3/\bo=e2 a0 U a2 a3/\Hr=e3 a0 U a2 a3)) (l2:List Nat) (H':List Fact) (h2:(QK H l,QK Φ l2,fD (l++m) H.length,QK H m)=(Hf,Φf,true,H'))
  (next:∀a0 U a2 a3,WL P C n Q (e2 a0 U a2 a3++Φ) (e3 a0 U a2 a3++H') ((d,e1 a0 U a2 a3)::S) ops rest):WL P C n Q Φ H S ops (o::rest):=by
 obtain⟨g1,h2⟩:=p6 h2;obtain⟨g2,h2⟩:=p6 h2;obtain⟨g3,g4⟩:=p6 h2;refine wC l m h ji g1 (spec hc) (bg l2 g2) g3 g4 ?_;rintro _ _ _ ⟨a0,U,a2,a3,rfl,rfl,rfl⟩;exact next a0 U a2 a3
end
section
variable {P:Program} {C:Ctx} {n:FD} {Q:Exit->Act->World->Prop} {ops:Array Oper} {aq L:List Nat} {D:List (Nat×Fact)} {Φ H:List Fact} {S S':List (Nat×Value)} {d:Nat}
private theorem p7.{u,v} {α:Type u} {β:Type v} {a U:α} {b b':β} (h:(a,b)=(U,b')):a=U/\b=b':=by cases h;exact⟨rfl,rfl⟩
theorem fA {v v':Value} (h:v=v')(next:WX P C n Q ops aq L D Φ H ((d,v')::S)):WX P C n Q ops aq L D Φ H ((d,v)::S):=by subst h;exact next
theorem ct (cn:gL ops aq=true)(i:Nat) {o U:Oper} {d d2:Nat} {v v2:Value} (h:((ops[i]?,o.dst,kL ops aq L i n d o,jV d S,QJ ops S o,z7 S o.op),(ops[i+1]?,U.dst,kL ops aq (i::L) (i+1) n d2 U,jV d2 ((d,v)::S),QJ ops ((d,v)::S) U,z7 ((d,v)::S) U.op))=((some o,some d,true,true,some true,some v),(some U,some d2,true,true,some true,some v2)))
  (next:WX P C n Q ops aq ((i+1)::i::L) D Φ H ((d2,v2)::(d,v)::S)):WX P C n Q ops aq L D Φ H S:=by
 obtain⟨h1,h2⟩:=p7 h;exact xP cn i h1 (xP cn (i+1) h2 next)
theorem ec (cn:gL ops aq=true)(i:Nat) {o U:Oper} {d d2:Nat} (h:((ops[i]?,o.dst,kL ops aq L i n d o,jV d S,QJ ops S o),(ops[i+1]?,U.dst,kL ops aq (i::L) (i+1) n d2 U,jV d2 ((d,undef)::S),QJ ops ((d,undef)::S) U))=((some o,some d,true,true,some false),(some U,some d2,true,true,some false)))
  (next:WX P C n Q ops aq ((i+1)::i::L) D Φ H ((d2,undef)::(d,undef)::S)):WX P C n Q ops aq L D Φ H S:=by
 obtain⟨h1,h2⟩:=p7 h;exact xO cn i h1 (xO cn (i+1) h2 next)
theorem xF (U:gL ops aq=true)(i:Nat) {o:Oper} {d t k off b q:Nat} {x:Operand} (h:(ops[i]?,o.dst,kL ops aq L i n d o,jV d S,QJ ops S o,o.op,da S x)=(some o,some d,true,true,some true,.fieldAddr t x k,some (.pointer (some ⟨b,q,none⟩))))(hk:QQ P t k=some off)
  (next:WX P C n Q ops aq (i::L) D Φ H ((d,.pointer (some ⟨b,q+off,none⟩))::S)):WX P C n Q ops aq L D Φ H S:=by
 obtain⟨h1,h⟩:=p7 h;obtain⟨h2,h⟩:=p7 h;obtain⟨h3,h⟩:=p7 h;obtain⟨h4,h⟩:=p7 h;obtain⟨h5,h⟩:=p7 h;obtain⟨h6,h7⟩:=p7 h;exact yA U i h1 h2 h3 (Q0 h4) h5 h6 h7 hk next
theorem xN (U:gL ops aq=true)(i:Nat) {o:Oper} {d t:Nat} {x:Operand} {p:Option Addr} {k c e:Nat} (h:(ops[i]?,o.dst,kL ops aq L i n d o,jV d S,QJ ops S o,o.op,da S x)=(some o,some d,true,true,some true,.call {callee:=.builtin .len,args:=#[x],argTypes:=#[t]},some (.slice p k c)))(ht:fJ P t=some e)
  (next:WX P C n Q ops aq (i::L) D Φ H ((d,.int .i64 (k:Int))::S)):WX P C n Q ops aq L D Φ H S:=by
 obtain⟨h1,h⟩:=p7 h;obtain⟨h2,h⟩:=p7 h;obtain⟨h3,h⟩:=p7 h;obtain⟨h4,h⟩:=p7 h;obtain⟨h5,h⟩:=p7 h;obtain⟨h6,h7⟩:=p7 h;exact UU U i h1 h2 h3 (Q0 h4) h5 h6 h7 ht next
theorem xM (cn:gL ops aq=true)(i:Nat) {o:Oper} {d t sz b U:Nat} {x:Operand} {g:Bool} {all:List Value} {v:Value} (k j:Nat)(cs:List Value)(h:(ops[i]?,o.dst,kL ops aq L i n d o,jV d S,QJ ops S o,o.op,QK H [k],da S x,(all.drop j).take sz)=(some o,some d,true,true,some true,.load t x,[.blk b all U],some (.pointer (some ⟨b,j,none⟩)),cs))
  (hs:QM P t=some sz) (ha:eW P t=some g) (hv:(cs.length,kd g cs)=(sz,some v))
  (next:WX P C n Q ops aq (i::L) ((i,.blk b all U)::D) Φ H ((d,v)::S)):WX P C n Q ops aq L D Φ H S:=by
 obtain⟨h1,h⟩:=p7 h;obtain⟨h2,h⟩:=p7 h;obtain⟨h3,h⟩:=p7 h;obtain⟨h4,h⟩:=p7 h;obtain⟨h5,h⟩:=p7 h;obtain⟨h6,h⟩:=p7 h;obtain⟨h7,h⟩:=p7 h;obtain⟨h8,h9⟩:=p7 h;obtain⟨g1,g2⟩:=p7 hv;exact Bv cn i k j h1 h2 h3 (Q0 h4) h5 h6 h7 h8 h9 hs ha g1 g2 next
theorem xD (cn:gL ops aq=true)(i:Nat) {o:Oper} {d t b U:Nat} {x:Operand} {g:Bool} {all:List Value} {c v:Value} (k j:Nat)(h:(ops[i]?,o.dst,kL ops aq L i n d o,jV d S,QJ ops S o,o.op,QK H [k],da S x,all[j]?)=(some o,some d,true,true,some true,.load t x,[.blk b all U],some (.pointer (some ⟨b,j,none⟩)),some c))
  (hs:QM P t=some 1) (ha:eW P t=some g) (hv:kd g [c]=some v)
  (next:WX P C n Q ops aq (i::L) ((i,.blk b all U)::D) Φ H ((d,v)::S)):WX P C n Q ops aq L D Φ H S:=by
 obtain⟨h1,h⟩:=p7 h;obtain⟨h2,h⟩:=p7 h;obtain⟨h3,h⟩:=p7 h;obtain⟨h4,h⟩:=p7 h;obtain⟨h5,h⟩:=p7 h;obtain⟨h6,h⟩:=p7 h;obtain⟨h7,h⟩:=p7 h;obtain⟨h8,h9⟩:=p7 h;refine Bv cn i k j h1 h2 h3 (Q0 h4) h5 h6 h7 h8 (cs:=[c]) ?_ hs ha rfl hv next
 obtain⟨hj,hc⟩:=List.getElem?_eq_some_iff.1 h9;rw[List.drop_eq_getElem_cons hj,hc];rfl
theorem xL (U:gL ops aq=true)(i:Nat) {o:Oper} {d t sz b q:Nat} {x:Operand} {g:Bool} {all:List Value} {v:Value} (k j:Nat)(cs:List Value)(h:(ops[i]?,o.dst,kL ops aq L i n d o,jV d S,QJ ops S o,o.op,Φ[k]?,da S x,(all.drop j).take sz)=(some o,some d,true,true,some true,.load t x,some (.cells b q all),some (.pointer (some ⟨b,q+j,none⟩)),cs))
  (hs:QM P t=some sz) (ha:eW P t=some g) (hv:(cs.length,kd g cs)=(sz,some v))
  (next:WX P C n Q ops aq (i::L) D Φ H ((d,v)::S)):WX P C n Q ops aq L D Φ H S:=by
 obtain⟨h1,h⟩:=p7 h;obtain⟨h2,h⟩:=p7 h;obtain⟨h3,h⟩:=p7 h;obtain⟨h4,h⟩:=p7 h;obtain⟨h5,h⟩:=p7 h;obtain⟨h6,h⟩:=p7 h;obtain⟨h7,h⟩:=p7 h;obtain⟨h8,h9⟩:=p7 h;obtain⟨g1,g2⟩:=p7 hv;exact Ov U i k j h1 h2 h3 (Q0 h4) h5 h6 h7 h8 h9 hs ha g1 g2 next
theorem xI {α:Type} (U:gL ops aq=true)(i:Nat) {o:Oper} {d t e sz:Nat} {x y:Operand} {R:eI α} {p:Option Addr} {cp:Nat} {l:List α} {ik:IntKind} {u:α} (k j:Nat)(h:(ops[i]?,o.dst,kL ops aq L i n d o,jV d S,QJ ops S o,o.op,Φ[k]?,da S x,da S y)=(some o,some d,true,true,some true,.indexAddr t x y,some (.sli sz R p cp l),some (.slice p l.length cp),some (.int ik (j:Int))))(hu:l[j]? =some u)(he:fJ P t=some e)(hs:QM P e=some sz)
  (next:∀b q cs,cs.length=sz->WX P C n Q ops aq (i::L) D (.cells b q cs::.rep R cs u::Φ) H ((d,.pointer (some ⟨b,q,none⟩))::S)):WX P C n Q ops aq L D Φ H S:=by
 obtain⟨h1,h⟩:=p7 h;obtain⟨h2,h⟩:=p7 h;obtain⟨h3,h⟩:=p7 h;obtain⟨h4,h⟩:=p7 h;obtain⟨h5,h⟩:=p7 h;obtain⟨h6,h⟩:=p7 h;obtain⟨h7,h⟩:=p7 h;obtain⟨h8,h9⟩:=p7 h;exact pf U i k j h1 h2 h3 (Q0 h4) h5 h6 h7 h8 h9 rfl hu he hs next
theorem cu {k:Nat} {Φ' H':List Fact} {S':List (Nat×Value)} (i:Nat)(m:List Nat)(h:(Φ'.drop i,QK H' m)=(Φ,vB ops k D))(next:WX P C n Q ops aq (k::L) D Φ' H' S'):WE C n (QX P C n Q ops aq L D Φ k) Φ' H' S' .normal:=by
 obtain⟨h1,h2⟩:=p7 h;refine fB ((List.range Φ'.length).drop i) m ?_ h2 next
 rw[<-h1];clear next h
 have:∀(l:List Fact) (a:List Fact),QK (a++l) ((List.range (a++l).length).drop a.length)=l:=by
  intro l;induction l with
  |nil=>intro a;rw[List.drop_eq_nil_of_le ax];rfl
  | cons x l ih=>
    intro a
    have e:(List.range (a++x::l).length).drop a.length=a.length::(List.range ((a++[x])++l).length).drop (a++[x]).length:=by
     rw[List.drop_eq_getElem_cons ax];simp
    rw[e];have:=ih (a++[x]);unfold QK at this⊢;rw[List.filterMap_cons];simp only[List.append_assoc,List.singleton_append]at this;rw[show(a++x::l)[a.length]? =some x by simp];simp only[List.append_assoc,List.singleton_append];rw[this]
 rcases Nat.le_total i Φ'.length with hi|hi
 ·have U:=this (Φ'.drop i) (Φ'.take i);rw[List.take_append_drop,List.length_take,Nat.min_eq_left hi]at U;exact U
 · rw[List.drop_eq_nil_of_le (cw hi),List.drop_eq_nil_of_le hi];rfl
end
end
section
open Go Go.RowKit
set_option maxRecDepth 100000
set_option maxHeartbeats 4000000
abbrev KC (st:bu):Value:=.iface (bu.tag st) (.pointer (some ⟨bu.adr st,0,none⟩))
theorem nM {C:Ctx} {n:FD} {Q:Exit->Act->World->Prop} {Φ Φ' H:List Fact} {S:List (Nat×Value)} {e:Exit} (hs:∀φ∈Φ',φ∈Φ)(h:WE C n Q Φ' H S e):WE C n Q Φ H S e:=λa w U hw=>h a w U (hw.sub hs)
theorem jF {P:Program} {f:FuncId} {args:List Value} {Φ H L:List Fact} {u:Value} {Q:Q7->Prop} {X:Q7->List Fact} (h:QA P f args Φ H (λv U Hr=>∃o,Q o/\v=u/\U=L/\Hr=X o)):QA P f args Φ H (λv U Hr=>∃o,Q o/\v=u/\U=[]/\Hr=X o):=by
 intro F N w h1 h2 h3 h4 h5;refine(h F N w h1 h2 h3 h4 h5).mono ?_;rintro e w' ⟨v,U,Hr,rfl,⟨o,q1,q2,rfl,rfl⟩,hh⟩;exact⟨_,_,_,rfl,⟨o,q1,q2,rfl,rfl⟩,hh.sub λ_ h=>by cases h⟩
def tu (K:bu->Q7->WM Q7)(r:Nat)(y:mg):Nat->Q7->WM Q7
 |0,s=>eF s
 |i+1,s=>Qr (gRow s r) λU=>eS (U.stepsP=y.stepsP/\U.steps=y.steps/\U.stepsC=y.stepsC)<|Qr (y.steps[i]?) λst=>eG (K st s) λs'=>tu K r y i s'
def ES (K:bu->Q7->WM Q7)(a0:Nat)(x:fk):List Nat->Q7->WM Q7
 |[],s=>eF s
 |r::rs,s=>Qr (gNet s a0) λU=>eS (U.rowsP=x.rowsP/\U.rows=x.rows/\U.rowsC=x.rowsC)<|Qr (gRow s r) λy=>eS (y.steps.length<=9223372036854775807)<|eG (tu K r y y.steps.length s) λs'=>ES K a0 x rs s'
def E4 (K:bu->Q7->WM Q7)(a0:Nat)(s:Q7):WM Q7:=Qr (gNet s a0) λx=>eS (x.rows.length<=9223372036854775806) (ES K a0 x x.rows s)
theorem Cq (v:Value)(h1:v.cells.toList=[v]):QA Tryz.prog 179 [v] [] [] (λu bo Hr=>∃g,u=.func (.func 265) #[] #[.pointer (some ⟨g,0,none⟩)]/\bo=[]/\Hr=[.blk g [v] 110]):=by
 refine Qi Tryz.func179 rfl rfl rfl rfl λC=>?_;refine Q6 ?_;refine Qc ?_;refine tP rfl rfl rfl (Q0 rfl) rfl rfl h1 (λg=>?_);refine Qt rfl rfl rfl (Q0 rfl) rfl ?_;refine Q2 ?_;refine Qu ?_;refine Q6 ?_;refine Qc ?_;refine wH rfl rfl rfl (Q0 rfl) rfl rfl ?_;refine Qt (S':=[_,_,_]) rfl rfl rfl rfl rfl ?_;refine Q2 ?_;refine Qu ?_;refine Ql ?_;exact ry (Hr:=[_]) [0] Tryz.results179 (iO rfl) ⟨g,rfl,rfl,rfl⟩ (λ_ _ U=>ask [] rfl U) rfl rfl (.inl rfl)
abbrev Aj (g gb tb:Nat) (U:Value) (cs:List Value) (s:Q7):List Fact:=[.blk g [U] 225,.blk gb cs tb,Q3 gg s]
theorem MI {l fn D g gb tb gk r:Nat} {tmps:Array Value} {assign body:Code} {ps:Array Tmp} {Sa:Value} {cs:List Value} {M5:List Fact} {K:bu->Q7->WM Q7} {y:mg} {s:Q7} {Q:Q7->Prop} (Nx:ps.size=2)(hlen:y.steps.length<=9223372036854775807)
  (rs:∀(i:Nat) (st:bu) (s:Q7) (Q':Q7->Prop),K st s Q'->x5 Tryz.prog l fn ((ps.zip #[.int .i64 (i:Int),KC st]).foldl (λtmps (t,a)=>tmps.setIfInBounds t a) tmps) assign body M5 (q8 l {state:=.ready,pending:=none,fn:=fn,tmps:=tmps,params:=ps,assign:=assign,body:=body,defers:=D}::Aj g gb tb Sa cs s) (λv bo Hr=>∃s',Q' s'/\v=.bool true/\bo=[]/\Hr=q8 l {state:=.ready,pending:=none,fn:=fn,tmps:=tmps,params:=ps,assign:=assign,body:=body,defers:=D}::Aj g gb tb Sa cs s'))
  (hm:tu K r y y.steps.length s Q):
  QA Tryz.prog 265 [.func (.yield l) #[] #[],.pointer (some ⟨gk,0,none⟩)] M5 (q8 l {state:=.ready,pending:=none,fn:=fn,tmps:=tmps,params:=ps,assign:=assign,body:=body,defers:=D}::(Aj g gb tb Sa cs s++[.blk gk [.slice y.stepsP y.steps.length y.stepsC] 110]))
   (λ_ bo Hr=>∃rr Hx,rr.state≠.busy/\rr.pending=none/\Hr=q8 l rr::Hx/\(∃s',Q s'/\bo=[]/\Hx=Aj g gb tb Sa cs s'++[.blk gk [.slice y.stepsP y.steps.length y.stepsC] 110])):=by
 refine Qi Tryz.func265 rfl rfl rfl rfl λC=>?_;refine Q6 ?_;refine Qc ?_;refine LF 4 0 rfl rfl rfl (Q0 rfl) rfl rfl rfl (cs:=[_]) rfl Hg MD rfl rfl ?_;refine DQ rfl rfl rfl (Q0 rfl) rfl rfl He ?_;refine Qt rfl rfl rfl (Q0 rfl) rfl ?_;refine Qs (i64_in (by unfold inI;omega)) ?_;refine Qt rfl rfl rfl (Q0 rfl) rfl ?_;refine Q2 ?_;refine Qu ?_;refine Qo ?_
 refine RU (σ:=Nat×Q7) (λ(i,s)=>i<=9223372036854775807/\tu K r y i s Q) (λ(i,_)=>i) (λ(i,_)=>[(3,.int .i64 ((i:Int)-1)),(1,.pointer (some ⟨gk,0,none⟩)),(0,.func (.yield l) #[] #[])]) (λ_=>M5)
  (λ(_,s)=>q8 l {state:=.ready,pending:=none,fn:=fn,tmps:=tmps,params:=ps,assign:=assign,body:=body,defers:=D}::(Aj g gb tb Sa cs s++[.blk gk [.slice y.stepsP y.steps.length y.stepsC] 110])) (y.steps.length,s) ⟨hlen,hm⟩ [3,1,0] rfl (λ_ _ bh=>bh) rfl (λs_ hm=>?_)
 obtain⟨i,s⟩:=s_;try dsimp only at hm⊢
 obtain⟨hi,hm⟩:=hm;refine Q6 ?_;refine Q6 ?_;refine Qc ?_;refine Qt rfl rfl rfl (Q0 rfl) rfl ?_;refine Qt rfl rfl rfl (Q0 rfl) rfl ?_;refine Q2 ?_;refine Qu ?_;refine gu rfl (λhb=>?_) (λhb=>?_)
 ·rcases i with _|k;· simp at hb
  refine QT ?_;refine Qu ?_;refine jT [3,1,0] (S':=[_,_,_]) rfl ?_;refine a0b 0 (v':=.int .i64 ((k:Nat):Int)) rfl ax ?_;refine Q6 ?_;refine Qo ?_;refine Q6 ?_;refine tN ?_;refine P6 (P:=Tryz.prog) (l2:=[_,_]) [_,_,_,_,_,_] rfl rfl ?_;refine Qt rfl rfl rfl (Q0 rfl) rfl ?_;refine Qt rfl rfl rfl (Q0 rfl) rfl ?_;refine LF 4 0 rfl rfl rfl (Q0 rfl) rfl rfl rfl (cs:=[_]) rfl Hg MD rfl rfl ?_;refine Qt rfl rfl rfl (Q0 rfl) rfl ?_;replace hm:=H5 hm;obtain⟨U,hy,hm⟩:=hm;replace hy:=ov hy;replace hm:=vp hm;obtain⟨Ho,hm⟩:=hm;replace hm:=H5 hm;obtain⟨st,bw,hm⟩:=hm;have Zc:U.steps[k]? =some st:=by rw[Ho.2.1];exact bw
  refine HP 3 rfl hy rfl (λ_=>[QE Qz false Qe U.wholeA U.whole,.own 213 1 BI (.slice U.stepsP U.steps.length U.stepsC) U.steps,.blk r [.pointer (some ⟨U.net,0,none⟩),.slice U.stepsP U.steps.length U.stepsC,.map (some U.wholeA)] 112,_,_,_,Q3 gg (del s r),_]) (λ_=>rfl) (λ_=>?_);refine nN 1 (v':=.slice U.stepsP U.steps.length U.stepsC) rfl (by rw[Ho.1,Ho.2.1,Ho.2.2]) ?_;refine Fv 1 k rfl rfl rfl (Q0 rfl) rfl rfl rfl rfl rfl (kc Zc) He MF (λge ege=>?_);refine Rz ege QaA 1 k 0 rfl rfl rfl (Q0 rfl) rfl rfl rfl Zc MF DB (v:=λ_=>KC st) (λ_=>rfl) (λ_=>rfl) (λ_ _=>?_);refine VP (gg:=gg) (a:=r) (o:=PO.row U) (x:=U) [0,1,2,3,4,5,6,7] 3 () rfl rfl rfl rfl rfl (λF w bh=>QP) (Ry hy) (H':=[_,_,_,Q3 gg s,_]) rfl (λ_=>?_);refine Q2 ?_;refine R3 ?_;refine wm [0,1,2,3] [4] rfl rfl rfl (Q0 rfl) rfl rfl rfl rfl Nx.symm (rs k st s _ (QO hm)) (λ_ _ bh=>bh) rfl rfl ?_;rintro _ _ _ ⟨s',YT,rfl,rfl,rfl⟩;refine P6 (P:=Tryz.prog) (l2:=[]) [_] rfl rfl ?_;refine Qt rfl rfl rfl (Q0 rfl) rfl ?_;refine Q2 ?_;refine pc ?_;refine Qu ?_;refine yE rfl ?_;refine QT ?_;refine Q8 ?_;refine Qu ?_;refine jT [3,1,0] (S':=[_,_,_]) rfl ?_;refine Qc ?_;refine Qt rfl rfl rfl (Q0 rfl) rfl ?_;refine Qt rfl rfl rfl (Q0 rfl) rfl ?_;refine Qs (i64_in (by unfold inI;omega)) ?_;refine Qt (S':=[_,_,_,_]) rfl rfl rfl rfl rfl ?_;refine Q2 ?_;refine Mk (k,s') (Nat.lt_succ_self _) ⟨an,YT⟩ [3,1,0] rfl (λ_ _ bh=>bh) rfl
 ·rcases i with _|k
  ·refine ib ?_;refine Qa ?_;refine Qa ?_;refine Qx ?_;exact tj (Hr:=[_,_,_,_,_]) [0,1,2,3,4] Tryz.results265 ⟨_,_,ax,rfl,rfl,s,hm,rfl,rfl⟩ (λ_ _ bh=>ask [] rfl bh) rfl rfl (.inr rfl)
  · simp at hb
theorem xm {a0 gb tb cf:Nat} {cs:List Value} {M5:List Fact} {K:bu->Q7->WM Q7} {s:Q7} {Q:Q7->Prop} (VV:QW Tryz.prog cf=true)
  (hK:∀st s Q',K st s Q'->QA Tryz.prog cf [KC st,.pointer (some ⟨gb,0,none⟩)] M5 [.blk gb cs tb,Q3 gg s] (λv bo Hr=>∃s',Q' s'/\v=.tuple #[]/\bo=[]/\Hr=[.blk gb cs tb,Q3 gg s']))
  (hm:E4 K a0 s Q):QA Tryz.prog 96 [.pointer (some ⟨a0,0,none⟩),.func (.func cf) #[] #[.pointer (some ⟨gb,0,none⟩)]] M5 [.blk gb cs tb,Q3 gg s] (λv bo Hr=>∃s',Q s'/\v=.tuple #[]/\bo=[]/\Hr=[.blk gb cs tb,Q3 gg s']):=by
 refine AV Tryz.func96 rfl rfl rfl rfl λC=>?_;refine Q6 ?_;refine Qc ?_;refine tP rfl rfl rfl (Q0 rfl) rfl rfl rfl (λg=>?_);refine Q2 ?_;refine Qu ?_;refine Q6 ?_;refine Qc ?_;refine Qt rfl rfl rfl (Q0 rfl) rfl ?_;refine Qt rfl rfl rfl (Q0 rfl) rfl ?_;refine Qbc rfl rfl rfl (Q0 rfl) rfl rfl jP ?_;replace hm:=H5 hm;obtain⟨x,hx,hm⟩:=hm;replace hx:=ou hx;replace hm:=vp hm;obtain⟨W1,hm⟩:=hm;refine HP 3 rfl hx rfl (λr0=>[QE (QV (Qy fX)).X true j0 x.factsA x.facts,QE (Ci (yX j4)).X false gD x.alphasA x.alphas,.own 108 1 gD (.slice x.rowsP x.rows.length x.rowsC) x.rows,.blk a0 [.slice r0.1 x.types.length r0.2,.slice x.rowsP x.rows.length x.rowsC,.map (some x.alphasA),.map (some x.factsA),.int .i64 (x.parts)] 85,_,_,_,Q3 gg (del s a0)]) (λ_=>rfl) (λr0=>?_);refine LF 3 1 rfl rfl rfl (Q0 rfl) rfl rfl rfl (cs:=[_]) rfl w9 B3 rfl rfl ?_;refine DQ rfl rfl rfl (Q0 rfl) rfl rfl nf ?_;refine Qt rfl rfl rfl (Q0 rfl) rfl ?_;refine VP (gg:=gg) (a:=a0) (o:=PO.net x) (x:=x) [0,1,2,3,4,5,6,7] 3 r0 rfl rfl rfl rfl rfl (λF w bh=>(pW (bh _ (iL (k:=0) rfl)) QP)) (Ry hx) (H':=[_,_,_,Q3 gg s]) rfl (λ_=>?_);refine Q2 ?_;refine nM (Φ':=M5) (λ_ h=>List.mem_append_right _ h) ?_;refine Qk [1,0,2,3] rfl (H':=[_,_,_,_]) rfl ?_;refine Qu ?_;refine Qo ?_
 refine Le (σ:=List Nat×List Nat×List Nat×Q7) (λ(_,pre,rs,s)=>x.rows=pre++rs/\ES K a0 x rs s Q) (λ(_,_,rs,_)=>rs.length) (λ(Ds,_,_,_)=>⟨28,marks Ds⟩)
  (λ(_,pre,_,_)=>[(13,.int .i64 ((pre.length:Nat):Int)),(12,.int .i64 ((x.rows.length:Nat):Int)),(11,.slice x.rowsP x.rows.length x.rowsC),(3,.pointer (some ⟨g,0,none⟩))]) (λ_=>M5)
  (λ(Ds,_,_,s)=>[rA Ds,.blk g [.func (.func cf) #[] #[.pointer (some ⟨gb,0,none⟩)]] 225,.blk gb cs tb,Q3 gg s]) ([],[],x.rows,s) ⟨rfl,hm⟩ rfl [13,12,11,3] rfl (λ_ _ bh=>bh) rfl (λs_ hm=>?_)
 obtain⟨Ds,pre,rs,s⟩:=s_;try dsimp only at hm⊢
 obtain⟨ft,hm⟩:=hm;refine Q6 ?_;refine Qc ?_;refine Qt rfl rfl rfl (Q0 rfl) rfl ?_;refine Q2 ?_;refine Qu ?_;refine Q6 ?_;refine gu rfl (λhb=>?_) (λhb=>?_)
 ·rcases rs with _|⟨r,rs⟩
  · rw[ft]at hb;simp at hb
  have hr0:x.rows[pre.length]? =some r:=by rw[ft];simp
  replace hm:=H5 hm;obtain⟨U,lU,hm⟩:=hm;replace lU:=ou lU;replace hm:=vp hm;obtain⟨Ho,hm⟩:=hm;have hr1:U.rows[pre.length]? =some r:=by rw[Ho.2.1];exact hr0
  refine QT ?_;refine Qu ?_;refine jT [13,12,11,3] (S':=[_,_,_,_]) rfl ?_;refine Q6 ?_;refine Qo ?_;refine Q6 ?_;refine Qc ?_;refine HP 3 rfl lU rfl (λr0=>[QE (QV (Qy fX)).X true j0 U.factsA U.facts,QE (Ci (yX j4)).X false gD U.alphasA U.alphas,.own 108 1 gD (.slice U.rowsP U.rows.length U.rowsC) U.rows,.blk a0 [.slice r0.1 U.types.length r0.2,.slice U.rowsP U.rows.length U.rowsC,.map (some U.alphasA),.map (some U.factsA),.int .i64 (U.parts)] 85,_,_,_,Q3 gg (del s a0)]) (λ_=>rfl) (λr0=>?_);refine nN 2 (v':=.slice U.rowsP U.rows.length U.rowsC) rfl (by rw[Ho.1,Ho.2.1,Ho.2.2]) ?_;refine Fv 2 pre.length rfl rfl rfl (Q0 rfl) rfl rfl rfl rfl rfl (kc hr1) nf z8 (λge ege=>?_);refine nN 3 (v':=.slice x.rowsP x.rows.length x.rowsC) rfl (by rw[Ho.1,Ho.2.1,Ho.2.2]) ?_;refine Rz ege OO 2 pre.length 0 rfl rfl rfl (Q0 rfl) rfl rfl rfl hr1 z8 FE (v:=λ_=>.pointer (some ⟨r,0,none⟩)) (λ_=>rfl) (λ_=>rfl) (λ_ _=>?_);refine Qt rfl rfl rfl (Q0 rfl) rfl ?_;refine VP (gg:=gg) (a:=a0) (o:=PO.net U) (x:=U) [0,1,2,3,4,5,6,7] 3 r0 rfl rfl rfl rfl rfl (λF w bh=>(pW (bh _ (iL (k:=0) rfl)) QP)) (Ry lU) (H':=[_,_,_,Q3 gg s]) rfl (λ_=>?_);refine Q2 ?_;refine nM (Φ':=M5) (λ_ h=>List.mem_append_right _ (List.mem_append_right _ h)) ?_;refine Qu ?_;refine jT [5,13,12,11,3] (S':=[_,_,_,_,_]) rfl ?_;refine Q6 ?_;refine Qc ?_;refine Qt rfl rfl rfl (Q0 rfl) rfl ?_;refine Qt rfl rfl rfl (Q0 rfl) rfl ?_;refine Qbc rfl rfl rfl (Q0 rfl) rfl rfl LC ?_;replace hm:=H5 hm;obtain⟨y,hy,hm⟩:=hm;replace hy:=ov hy;replace hm:=vp hm;obtain⟨hsl,hm⟩:=hm;refine HP 3 rfl hy rfl (λ_=>[QE Qz false Qe y.wholeA y.whole,.own 213 1 BI (.slice y.stepsP y.steps.length y.stepsC) y.steps,.blk r [.pointer (some ⟨y.net,0,none⟩),.slice y.stepsP y.steps.length y.stepsC,.map (some y.wholeA)] 112,_,_,_,Q3 gg (del s r)]) (λ_=>rfl) (λ_=>?_);refine LF 2 1 rfl rfl rfl (Q0 rfl) rfl rfl rfl (cs:=[_]) rfl Hg MD rfl rfl ?_;refine VP (gg:=gg) (a:=r) (o:=PO.row y) (x:=y) [0,1,2,3,4,5,6] 3 () rfl rfl rfl rfl rfl (λF w bh=>QP) (Ry hy) (H':=[_,_,_,Q3 gg s]) rfl (λ_=>?_);refine yy [] [0,1,2,3] rfl rfl rfl (Q0 rfl) rfl rfl au rfl (Cq _ rfl) (λ_ _ bh=>ask [] rfl bh) rfl (H':=[_,_,_,_]) rfl ?_;rintro _ _ _ ⟨gk,rfl,rfl,rfl⟩;refine Q2 ?_;refine Qu ?_;refine jT [21,13,12,11,3] (S':=[_,_,_,_,_]) rfl ?_;refine Qo ?_;refine Bl (Φf:=M5) (H':=[rA Ds]) [0,4,5,6,2] [1,3] rfl au (λ_ _=>rfl) (λ_ _ bh=>bh) rfl (λ_ _=>rfl) (λfn l D a hf=>MI (K:=K) rfl hsl (λi st s Q' hk=>?_) (QO hm)) (λD bo Hx hR=>?_)
  ·refine AO (Jd hf rfl rfl rfl rfl) λC=>?_;refine Qba ?_;refine P6 (P:=Tryz.prog) (l2:=[]) [_] rfl rfl ?_;refine Qt rfl rfl rfl (Q0 rfl) rfl ?_;refine Q2 ?_;refine pc ?_;refine Bn 0 rfl rfl rfl ?_;refine wh ?_;refine Qba ?_;refine P6 (P:=Tryz.prog) (l2:=[]) [_,_,_] rfl rfl ?_;refine LF 1 0 rfl rfl rfl (Q0 rfl) rfl rfl rfl (cs:=[_]) rfl UC Uo rfl rfl ?_;refine Qt rfl rfl rfl (Q0 rfl) rfl ?_;refine pk [2,3] [0,1] rfl rfl rfl (Q0 rfl) rfl rfl rfl VV rfl rfl (hK st s Q' hk) (λ_ _ bh=>bh) rfl (H':=[_,_]) rfl ?_;rintro _ _ _ ⟨s',YT,rfl,rfl,rfl⟩;refine Q2 ?_;refine pc ?_;refine Q8 ?_;refine nM (Φ':=[]) (λ_ h=>by cases h) ?_;refine Qk [2,3,0,1] rfl (H':=[_,_,_,_]) rfl ?_;exact pR 0 rfl rfl ⟨s',YT,rfl,rfl,rfl⟩
  ·obtain⟨s',YT,rfl,rfl⟩:=hR;refine Fh (Ds:=Ds) (Es:=[D]) 5 4 rfl rfl rfl rfl ?_;refine Q8 ?_;refine Q8 ?_;refine Qu ?_;refine Qc ?_;refine Qt rfl rfl rfl (Q0 rfl) rfl ?_;refine Qs (i64_in (by unfold inI;have:=(List.getElem?_eq_some_iff.1 hr0).1;omega)) ?_;refine Qt (S':=[_,_,_,_,_]) rfl rfl rfl rfl rfl ?_;refine Q2 ?_;refine Qk [4,0,1,2] rfl (H':=[rA (D::Ds),_,_,_]) rfl ?_;refine a0d 0 (v':=.int .i64 (((pre++[r]).length:Nat):Int)) rfl ax ?_;exact GM (D::Ds,pre++[r],rs,s') (Nat.lt_succ_self _) ⟨by rw[ft];simp,YT⟩ rfl [13,12,11,3] rfl (λ_ _ bh=>bh) rfl
 ·rcases rs with _|⟨r,rs⟩
  ·refine ib ?_;refine Qa ?_;refine Qa ?_;refine Qx ?_;refine Qk [0,2,3] rfl (H':=[rA Ds,_,_]) rfl ?_;refine nM (Φ':=[]) (λ_ h=>by cases h) ?_;exact Bp (Ds:=Ds) (.inl rfl) rfl rfl (AL Tryz.results96) ⟨s,hm,rfl,rfl,rfl⟩
  · rw[ft]at hb;simp at hb;omega
end
section
open Go Go.RowKit
def jW (m:Option Bool)(p:Prop):Prop:=∃b,m=some b/\(b=true↔p)
theorem jW.id {m:Option Bool} {p:Prop} (h:jW m p):jW (Qg m λv=>some v) p:=by
 obtain⟨b,h1,U⟩:=h;rw[h1];exact⟨b,rfl,U⟩
theorem jW.iff {m:Option Bool} {p q:Prop} (h:jW m p)(e:p↔q):jW m q:=by
 obtain⟨b,h1,U⟩:=h;exact⟨b,h1,U.trans e⟩
end
section
open Go Go.RowKit
def num (x:Int):V:=⟨1,x,⟨#[]⟩⟩
theorem a15:¬((!true)=true):=λh=>by cases h
theorem U8:¬(false=true):=λh=>by cases h
theorem Gw (N:Nat)(x:Int):yC N 1 x (⟨#[]⟩:ByteArray)=some true:=by
 unfold yC;rw[if_pos (show((1:Int)==1)=true from rfl)];simp
theorem MR {N:Nat} (hN:9223372036854775808<=N) {l:List V} (hl:∀v∈l,∃x,v=num x)(h2:l.length<=2):fF (BA N l) N (0,false)=some (.inl false):=by
 obtain ⟨o,h1,h3⟩:=VI (f:=BA N l) (λs=>s.1<=l.length/\s.2=false) (λs=>l.length-s.1) (λo=>o=.inl false) (λs hs=>by
  obtain⟨i,b⟩:=s;obtain⟨hi,U⟩:=hs;simp only at hi U;subst U;unfold BA;simp only;by_cases bp:i<l.length
  ·left;have hx:=List.getElem?_eq_getElem bp;obtain⟨x,Gg⟩:=hl _ (List.getElem_mem bp);rw[Gg]at hx;refine⟨(i+1,false),?_,⟨by simp only;omega,rfl⟩,by simp only;omega⟩
   have hc:OL N l i false=some (.inl false):=by
    unfold OL;rw[hx,Q1];simp only[num];rw[Gw,Q1,if_neg a15,if_neg U8];rfl
   rw[br bp,hc,rv,QY an]
  ·right;exact⟨_,by rw[bs bp],rfl⟩) N (0,false) ⟨ax,rfl⟩ (by simp only;omega)
 rw[h1,h3]
def vh (r:Int×Bool):Nat×Int×Nat:=if r.2=true then(1,r.1,0)else(0,0,300)
theorem oe {N:Nat} {op x y:Int} (hN:9223372036854775808<=N)(h0:1<=op)(h1:op<=10)(h4:op≠4)(h5:op≠5)(h6:op≠6) {r:Int×Bool} (h:QH N op (num x) (num y)=some r):BD N op [num x,num y]=some (vh r):=by
 have hc:Vu N op=some 2:=by
  unfold Vu;rw[bs h4,Q1,if_neg (by simp;omega)]
 unfold BD;rw[hc,Q1,if_neg (by simp;omega),if_neg (by simp;omega),Q1,if_neg ax,MR hN (λv U=>by simp at U;first|(rcases U with rfl|rfl<;>exact⟨_,rfl⟩)|(subst U;exact⟨_,rfl⟩)) ax,rv];simp only[List.getElem?_cons_zero,Q1];rw[QY an,QY an];rw[show[num x,num y][(((2:Nat):Int)-1).toNat]? =some (num y)from rfl,Q1,bs h5,bs h6,if_neg U8,h,Q1];obtain⟨n,b⟩:=r;cases b<;>rfl
def du (x:Int):Prop:=-9223372036854775808<=x/\x<=9223372036854775807
instance (x:Int):Decidable (du x):=inferInstanceAs (Decidable (_/\_))
theorem rY {x n:Int} {b:Bool} (h:b=decide (du x))(hn:du x->n=x):vh (n,b)=if du x then(1,x,0)else(0,0,300):=by
 subst h;unfold vh;by_cases U:du x;· rw[br U,if_pos U,hn U]
 · rw[bs U,if_neg U]
theorem Sf {N:Nat} {x y:Int} (U:9223372036854775808<=N)(hx:du x)(hy:du y):BD N 1 [num x,num y]=some (if du (x+y)then(1,x+y,0)else(0,0,300)):=by
 have h:QH N 1 (num x) (num y)=some (IntKind.wrap .i64 (x+y),(decide (IntKind.wrap .i64 (x+y)<x))==(decide (y<0))):=by
  unfold QH;rfl
 rw[oe U an an an an an h,rY]
 ·rw[IntKind.wrap_i64,Bool.eq_iff_iff];simp only[beq_iff_eq,decide_eq_decide,decide_eq_true_eq];unfold du at*;omega
 · intro h;exact IntWalk.i64_in _ h
theorem Si {N:Nat} {x y:Int} (U:9223372036854775808<=N)(hx:du x)(hy:du y):BD N 2 [num x,num y]=some (if du (x-y)then(1,x-y,0)else(0,0,300)):=by
 have h:QH N 2 (num x) (num y)=some (IntKind.wrap .i64 (x-y),(decide (IntKind.wrap .i64 (x-y)>x))==(decide (y<0))):=by
  unfold QH;rfl
 rw[oe U an an an an an h,rY]
 ·rw[IntKind.wrap_i64,Bool.eq_iff_iff];simp only[beq_iff_eq,decide_eq_decide,decide_eq_true_eq];unfold du at*;omega
 · intro h;exact IntWalk.i64_in _ h
theorem Mt (N:Nat)(b:Bool):Rx N b=some (if b=true then 1 else 0):=by cases b<;>rfl
theorem E8 {x:Int} (U:du x):(if(decide (x<0))=true then some (IntKind.wrap .u64 (0-(IntKind.wrap .u64 x)))else some (IntKind.wrap .u64 x))=some ((x.natAbs:Nat):Int):=by
 unfold du at U;rw[IntKind.wrap_u64,IntKind.wrap_u64];by_cases h:x<0;· rw[br h];congr 1;omega
 · rw[bs h];congr 1;omega
theorem Gt {x y:Int}:x*y=if(decide (x<0) !=decide (y<0))=true then-((x.natAbs*y.natAbs:Nat):Int)else((x.natAbs*y.natAbs:Nat):Int):=by
 rw[<-Int.natAbs_mul];rcases Int.lt_or_le x 0 with U|U<;>rcases Int.lt_or_le y 0 with hy|hy
 ·rw[if_neg (by simp[U,hy])];have:=Int.mul_pos_of_neg_of_neg U hy;omega
 ·rw[if_pos (by simp[U,hy])];have:=Int.mul_nonpos_of_nonpos_of_nonneg (Int.le_of_lt U) hy;omega
 ·rw[if_pos (by simp[U,hy])];have:=Int.mul_nonpos_of_nonneg_of_nonpos U (Int.le_of_lt hy);omega
 ·rw[if_neg (by simp;omega)];have:=Int.mul_nonneg U hy;omega
theorem te {N:Nat} {x y:Int} (U:du x)(hy:du y):∃n,Ru N x y=some (n,decide (du (x*y)))/\(du (x*y)->n=x*y):=by
 have hA:x.natAbs<=9223372036854775808:=by unfold du at U;omega
 have hB:y.natAbs<=9223372036854775808:=by unfold du at hy;omega
 unfold Ru;rw[E8 U,Q1,E8 hy,Q1,QY an,QY an,Gt];simp only[Int.toNat_natCast];by_cases hs:(decide (x<0) !=decide (y<0))=true
 ·rw [if_pos hs,if_pos hs];by_cases hh:x.natAbs*y.natAbs/18446744073709551616=0
  ·rw[if_pos (by simp;omega)];refine⟨_,congrArg some (congrArg (Prod.mk _) ?_),λh=>?_⟩;· simp only[decide_eq_decide];unfold du;omega
   · unfold du at h;rw[IntKind.wrap_u64,IntKind.wrap_i64];omega
  ·rw[if_neg (by simp;omega)];refine⟨_,congrArg some (congrArg (Prod.mk _) ?_),λh=>?_⟩;· simp only[Bool.false_eq,decide_eq_false_iff_not];unfold du;omega
   · unfold du at h;omega
 ·rw [if_neg hs,if_neg hs];by_cases hh:x.natAbs*y.natAbs/18446744073709551616=0
  ·rw[if_pos (by simp;omega)];refine⟨_,congrArg some (congrArg (Prod.mk _) ?_),λh=>?_⟩;· simp only[decide_eq_decide];unfold du;omega
   · unfold du at h;rw[IntKind.wrap_i64];omega
  ·rw[if_neg (by simp;omega)];refine⟨_,congrArg some (congrArg (Prod.mk _) ?_),λh=>?_⟩;· simp only[Bool.false_eq,decide_eq_false_iff_not];unfold du;omega
   · unfold du at h;omega
theorem Sg {N:Nat} {x y:Int} (hN:9223372036854775808<=N)(hx:du x)(hy:du y):BD N 3 [num x,num y]=some (if du (x*y)then(1,x*y,0)else(0,0,300)):=by
 obtain⟨n,h1,U⟩:=te (N:=N) hx hy
 have h:QH N 3 (num x) (num y)=some (n,decide (du (x*y))):=by
  unfold QH;simp only[num,h1,Q1];rfl
 rw[oe hN an an an an an h,rY rfl U]
end
section
open Go Go.RowKit
theorem XR (s:ByteArray)(i:Nat):s[i]? =s.data.toList[i]?:=by
 by_cases h:i<s.size
 ·rw[getElem?_pos s i h];have U:i<s.data.toList.length:=by simpa using h
  rw[List.getElem?_eq_getElem U];rfl
 ·rw[getElem?_neg s i h];rw[List.getElem?_eq_none (cw h)]
theorem btl (s:ByteArray):s.toList=s.data.toList:=ByteArray.toList_eq s
def uC (b:UInt8):Prop:=97<=b.toNat/\b.toNat<=122
def De (b:UInt8):Prop:=uC b\/(48<=b.toNat/\b.toNat<=57)\/b.toNat=95
def MC (l:List UInt8):Prop:=0<l.length/\l.length<=24/\(∀b,l[0]? =some b->uC b)/\∀b∈l,De b
theorem EH (c:UInt8):c∈[97,98,99,100,101,102,103,104,105,106,107,108,109,110,111,112,113,114,115,116,117,118,119,120,121,(122:UInt8)]↔uC c:=by
 unfold uC;simp[<-UInt8.toNat_inj];omega
theorem NQ (c:UInt8):c∈[97,98,99,100,101,102,103,104,105,106,107,108,109,110,111,112,113,114,115,116,117,118,119,120,121,122,48,49,50,51,52,53,54,55,56,57,(95:UInt8)]↔De c:=by
 unfold De uC;simp[<-UInt8.toNat_inj];omega
theorem oA:∀(l:List UInt8)(c:UInt8),0<=Lib.indexByte l c↔c∈l
 |[],c=>by simp[Lib.indexByte]
 | b::l,c=>by
   unfold Lib.indexByte;have ih:=oA l c;have hg:=Lib.indexByte_ge l c;by_cases h:b=c;· subst h;simp
   ·rw[bs h];have U:c≠b:=λe=>h e.symm
    simp only[List.mem_cons,U,false_or,<-ih,beq_iff_eq];split<;>omega
theorem Cz (p:UInt8->Bool):∀l:List UInt8,l.dropWhile p=[]↔∀b∈l,p b=true
 |[]=>ax
 | a::l=>by
   rw[List.dropWhile_cons];by_cases h:p a=true;· rw[if_pos h,Cz p l];simp[h]
   · rw[if_neg h];simp[h]
theorem bsize (s:ByteArray):s.size=s.data.toList.length:=Array.length_toList.symm
theorem Lb (l cs:List UInt8):Lib.trimS l cs=[]↔∀b∈l,b∈cs:=by
 unfold Lib.trimS Lib.trimLeftS Lib.trimRightS;rw[Cz];constructor
 ·intro h;cases hd:l.reverse.dropWhile (cs.contains ·)with
  | nil=>
    rw[Cz]at hd;intro b U;have:=hd b (List.mem_reverse.2 U);simpa using this
  | cons x t=>
    have h1:=List.head?_dropWhile_not (cs.contains ·) l.reverse;rw[hd]at h1 h;have h2:=h x ax;simp only[List.head?_cons]at h1;rw[h2]at h1;simp at h1
 ·intro h b U
  have h1:b∈l:=by
    have:=List.mem_reverse.1 U;exact List.mem_reverse.1 ((List.dropWhile_sublist _).subset this)
  simpa using h b h1
theorem On (x:UInt8):(((x.toNat:Nat):Int)).toNat.toUInt8=x:=by
 rw[Int.toNat_natCast];exact UInt8.ofNat_toNat
theorem wc (N:Nat)(s:ByteArray):jW (Xf N s) (MC s.data.toList):=by
 have hs:s.size=s.data.toList.length:=bsize s;unfold Xf;refine jW.id ?_;unfold Q89;simp only[btl,hs,XR];generalize s.data.toList=l;cases l with
 |nil=>exact⟨false,by rw[if_neg ax],by simp[MC]⟩
 | cons c l=>
   rw[if_pos ax];by_cases U:(c::l).length<=24
   ·rw [br U];simp only[List.getElem?_cons_zero,Q1,On];by_cases hi:0<=Lib.indexByte [97,98,99,100,101,102,103,104,105,106,107,108,109,110,111,112,113,114,115,116,117,118,119,120,121,122] c
    ·rw[br hi,QY an];refine⟨_,rfl,?_⟩;simp only[beq_iff_eq,Lb,NQ];rw[oA,EH]at hi;unfold MC;constructor;· intro h;exact⟨ax,U,λb hb=>by cases hb;exact hi,h⟩
     · intro h;exact h.2.2.2
    ·rw[bs hi];refine⟨false,rfl,?_⟩;rw[oA,EH]at hi;constructor;· intro h;cases h
     · intro h;exact absurd (h.2.2.1 c rfl) hi
   ·rw[bs U]
    exact ⟨false,rfl,by constructor;· intro h;cases h
                        · intro h;exact absurd h.2.1 U⟩
theorem Gy {N:Nat} {s:ByteArray} (hN:9223372036854775808<=N)(iJ:s.size<=9223372036854775807):jW (Q5L N s) (MC s.data.toList):=by
 have hs:s.size=s.data.toList.length:=bsize s
 obtain ⟨o, h1,h2⟩:=VI (f:=Q4W N s) (λi=>i<=s.size/\(∀b∈s.data.toList.take i,De b)/\(0<i->∀b,s.data.toList[0]? =some b->uC b)) (λi=>s.size-i)
  (fun o=>(o=.inl ()/\(∀b∈s.data.toList,De b)/\(0<s.size->∀b,s.data.toList[0]? =some b->uC b))\/(o=.inr false/\¬MC s.data.toList)) (λi hi=>by
   obtain⟨hi,ha,hb⟩:=hi;unfold Q4W;by_cases bp:i<s.size
   ·have YS:i<s.data.toList.length:=an
    have hx:=List.getElem?_eq_getElem YS;rw[br bp,XR,hx,Q1];generalize hc:s.data.toList[i]=c at hx;have zP:=List.mem_of_getElem? hx;rw[show(if(decide (97<=c.toNat))=true then some (decide (c.toNat<=122))else some false)=some (decide (97<=c.toNat/\c.toNat<=122)) by
         by_cases q:97<=c.toNat
         · rw[br q];simp[q]
         · rw[bs q];simp[q],Q1]
    have hC:Q4V N (decide (97<=c.toNat/\c.toNat<=122)) i c=some (decide (¬(97<=c.toNat/\c.toNat<=122)/\(i=0\/¬((48<=c.toNat/\c.toNat<=57)\/c.toNat=95)))):=by
         unfold Q4V;by_cases q:97<=c.toNat/\c.toNat<=122;· rw[if_neg (by simp[q])];simp[q]
         ·rw [if_pos (show(!decide (97<=c.toNat/\c.toNat<=122))=true by rw[decide_eq_false q];rfl)];by_cases q0:i=0;· rw[br q0];simp[q,q0]
          ·rw [bs q0];by_cases q1:48<=c.toNat
           ·rw[br q1];by_cases q2:c.toNat<=57;· rw[br q2];simp[q0,q1,q2]
            ·rw[bs q2];congr 1;rw[Bool.eq_iff_iff];simp only[Bool.not_eq_true',beq_eq_false_iff_ne,ne_eq,decide_eq_true_eq];omega
           ·rw[bs q1];congr 1;rw[Bool.eq_iff_iff];simp only[Bool.not_eq_true',beq_eq_false_iff_ne,ne_eq,decide_eq_true_eq];omega
    rw[hC,Q1];by_cases iI:¬(97<=c.toNat/\c.toNat<=122)/\(i=0\/¬((48<=c.toNat/\c.toNat<=57)\/c.toNat=95))
    ·    right;refine⟨_,by rw[if_pos (by rw[decide_eq_true_eq];exact iI)],.inr ⟨rfl,λhn=>?_⟩⟩;obtain⟨_,_,n1,n2⟩:=hn;rcases iI.2 with h0|h0;· subst h0;exact iI.1 (n1 c hx)
         ·rcases n2 c zP with q|q|q;· exact iI.1 q
          · exact h0 (.inl q)
          · exact h0 (.inr q)
    ·    left;refine⟨i+1,by rw[if_neg (by rw[decide_eq_true_eq];exact iI),QY an],⟨an,λb U=>?_,λ_ b U=>?_⟩,an⟩
         ·rw[List.take_add_one,hx]at U;rcases List.mem_append.1 U with U|U;· exact ha b U
          ·simp at U;subst U;unfold De uC;omega
         ·by_cases h0:i=0
          ·subst h0;rw[hx]at U;cases U;unfold uC;omega
          · exact hb an b U
   ·right;have e:i=s.size:=an
    subst e;rw[hs,List.take_length]at ha;exact⟨_,by rw[if_neg ax],.inl ⟨rfl,ha,hb⟩⟩) N 0 ⟨an,ax,an⟩ an
 unfold Q5L;rw[h1];rcases h2 with⟨rfl,h2,h3⟩|⟨rfl,h2⟩
 ·rw [rv];by_cases q:1<=s.size
  ·rw[br q];refine⟨_,rfl,?_⟩;simp only[decide_eq_true_eq];unfold MC;constructor;· intro h;exact⟨an,an,h3 an,h2⟩
   · intro h;omega
  ·rw[bs q];refine⟨false,rfl,?_⟩;constructor;· intro h;cases h
   · intro h;have:=h.1;omega
 · exact ⟨false,rfl,by constructor;· intro h;cases h
                       · intro h;exact absurd h h2⟩
theorem O9 {m m':Option Bool} {p:Prop} (h:jW m p)(h':jW m' p):m=m':=by
 obtain⟨b,h1,U⟩:=h;obtain⟨b',h3,h4⟩:=h';rw[h1,h3];congr 1;rw[Bool.eq_iff_iff,U,h4]
def Hb (v:V):Prop:=(v.k=1/\v.s.data.toList=[])\/(v.k=2/\v.n=0/\MC v.s.data.toList)
theorem mY (N:Nat)(v:V):jW (yC N v.k v.n v.s) (Hb v):=by
 unfold yC Hb;by_cases h:v.k=1
 ·rw [br h];refine⟨_,rfl,?_⟩;simp only[btl,beq_iff_eq];constructor;· intro q;exact .inl ⟨h,q⟩
  ·rintro(q|q);· exact q.2
   · omega
 ·rw [bs h];by_cases U:v.k=2
  ·rw [br U];by_cases h3:v.n=0
   ·rw [br h3];refine jW.iff (jW.id (wc N v.s)) ?_;constructor;· intro q;exact .inr ⟨U,h3,q⟩
    ·rintro(q|q);· omega
     · exact q.2.2
   ·rw[bs h3];refine⟨false,rfl,?_⟩;constructor;· intro q;cases q
    · rintro(q|q)<;>omega
  ·rw[bs U];refine⟨false,rfl,?_⟩;constructor;· intro q;cases q
   · rintro(q|q)<;>omega
end
section
open Go Go.RowKit
theorem lB {N:Nat} {s:ByteArray} (a b:Int)(U:9223372036854775808<=N)(iJ:s.size<=9223372036854775807):yC N a b s=WJ N a b s:=by
 unfold yC WJ;rw[O9 (wc N s) (Gy U iJ)]
theorem RE (N:Nat)(b:Bool):Ma N b=some (if b=true then 1 else 0):=by cases b<;>rfl
theorem ET {N:Nat} {x y:Int} (U:du x)(hy:du y):∃n,Q53 N x y=some (n,decide (du (x+y)))/\(du (x+y)->n=x+y):=by
 unfold du at U hy
 have hC:Q5n N y x=some (decide (¬du (x+y))):=by
  unfold Q5n;by_cases h1:y>0
  ·rw [br h1,QY an];by_cases h2:x>9223372036854775807-y
   ·rw[br h2];congr 1;have:¬du (x+y):=by unfold du;omega
    simp[this]
   ·rw[bs h2,if_neg (by simp;omega)];congr 1;have:du (x+y):=by unfold du;omega
    simp[this]
  ·rw [bs h1];by_cases h2:y<0
   ·rw[br h2,QY an];congr 1;rw[Bool.eq_iff_iff];simp only[decide_eq_true_eq];unfold du;omega
   ·rw[bs h2];congr 1;have:du (x+y):=by unfold du;omega
    simp[this]
 unfold Q53;rw[hC,Q1];by_cases h:du (x+y)
 ·rw[bs h];have h':=h;unfold du at h';rw[QY h'];exact⟨x+y,by simp[h],λ_=>rfl⟩
 ·rw[br h];exact⟨0,by simp[h],λq=>absurd q h⟩
theorem Kh {a b:Int} (ha:du a)(hb:du b)(h0:b≠0)(h1:b≠-1):((IntKind.wrap .i64 (Int.tdiv (IntKind.wrap .i64 (a*b)) b))==a)=decide (du (a*b)):=by
 unfold du at ha hb;by_cases h:du (a*b)
 ·have e1:IntKind.wrap .i64 (a*b)=a*b:=IntWalk.i64_in _ h;have e2:Int.tdiv (a*b) b=a:=Int.mul_tdiv_cancel a h0;rw[e1,e2,IntWalk.i64_in _ ha];simp[h]
 ·have hw:=IntKind.wrap_i64 (a*b);generalize hp:IntKind.wrap .i64 (a*b)=p at*;have U:-9223372036854775808<=p/\p<=9223372036854775807:=by rw[hw];omega
  have zI:=Int.mul_tdiv_add_tmod p b
  have YU:(Int.tmod p b).natAbs<b.natAbs:=by
   have:=Int.natAbs_tmod p b;rw[this];exact Nat.mod_lt _ an
  have hq:(Int.tdiv p b).natAbs<=p.natAbs:=by rw[Int.natAbs_tdiv];exact Nat.div_le_self _ _
  have hq2:-9223372036854775808<=Int.tdiv p b/\Int.tdiv p b<=9223372036854775807:=by
   by_cases Tq:b=1;· subst Tq;rw[Int.tdiv_one];exact U
   ·have h2:(Int.tdiv p b).natAbs<=4611686018427387904:=by
     rw[Int.natAbs_tdiv];exact Nat.le_trans (Nat.div_le_div_left (show 2<=b.natAbs by omega) an) an
    omega
  rw[IntWalk.i64_in _ hq2]
  have db:Int.tdiv p b≠a:=λe=>by
   rw[e]at zI;have e3:b*a=a*b:=Int.mul_comm b a;rw[e3]at zI;unfold du at h;omega
  simp[h,db]
theorem Kq {N:Nat} {x y:Int} (hx:du x)(hy:du y):∃n,Q58 N x y=some (n,decide (du (x*y)))/\(du (x*y)->n=x*y):=by
 have lU:=hx;have Zr:=hy;unfold du at lU Zr;unfold Q58;by_cases h0:x=0
 ·subst h0;rw[if_pos ax,Q1,if_pos rfl];have:du (0*y):=by rw[Int.zero_mul];unfold du;omega
  exact⟨0,by rw[decide_eq_true this],λ_=>by rw[Int.zero_mul]⟩
 ·rw [bs h0,Q1];by_cases h1:y=0
  ·subst h1;rw[if_pos ax];have:du (x*0):=by rw[Int.mul_zero];unfold du;omega
   exact⟨0,by rw[decide_eq_true this],λ_=>by rw[Int.mul_zero]⟩
  ·rw [bs h1];by_cases h2:x=-1
   ·subst h2;rw[if_pos ax];have e:-1*y=0-y:=an
    rw[e];refine⟨_,congrArg some (congrArg (Prod.mk _) ?_),λq=>IntWalk.i64_in _ q⟩;rw[Bool.eq_iff_iff];simp only[bne_iff_ne,ne_eq,decide_eq_true_eq];unfold du;omega
   ·rw [bs h2];by_cases U:y=-1
    ·subst U;rw[if_pos ax];have e:x* -1=0-x:=an
     rw[e];refine⟨_,congrArg some (congrArg (Prod.mk _) ?_),λq=>IntWalk.i64_in _ q⟩;rw[Bool.eq_iff_iff];simp only[bne_iff_ne,ne_eq,decide_eq_true_eq];unfold du;omega
    ·rw[bs U,QY h1,Kh hx hy h1 U];exact⟨_,rfl,λq=>IntWalk.i64_in _ q⟩
theorem Uf {n x:Int} {b:Bool} {N:Nat} (U:b=decide (du x))(hn:du x->n=x):(if(!b)=true then some ((0,0,300):Nat×Int×Nat)else Qg (Q44 N n) λ_=>some (1,n,0))=some (if du x then(1,x,0)else(0,0,300)):=by
 subst U;by_cases h:du x;· rw[bs h,if_pos h,hn h];rfl
 · rw[br h,if_neg h]
theorem Ct {N:Nat} {op:Int} {v w:V}:QH N op v w=QH N op (num v.n) (num w.n):=rfl
theorem Dc {N:Nat} {l:List V} (hN:9223372036854775808<=N)(hl:∀v∈l,v.s.size<=140737488351232):BA N l=Q5K N l:=by
 funext ⟨i,b⟩;unfold BA Q5K;simp only;by_cases U:i<l.length
 ·have hx:=List.getElem?_eq_getElem U
  have hC:OL N l i b=Q5J N l i b:=by
   unfold OL Q5J;rw[hx];simp only[Q1];rw[lB _ _ hN (by have:=hl _ (List.getElem_mem U);omega)]
  rw[hC]
 · rw[bs U,bs U]
theorem mP {N:Nat} {l:List V} (hN:9223372036854775808<=N)(hl:l.length<=2):(∃b,fF (BA N l) N (0,false)=some (.inl b))\/fF (BA N l) N (0,false)=some (.inr (0,0,2)):=by
 obtain ⟨o,h1,U⟩:=VI (f:=BA N l) (λs=>s.1<=l.length) (λs=>l.length-s.1) (λo=>(∃b,o=.inl b)\/o=.inr (0,0,2)) (λs hs=>by
  obtain⟨i,b⟩:=s;simp only at hs;unfold BA;simp only;by_cases bp:i<l.length
  ·have hx:=List.getElem?_eq_getElem bp;obtain⟨r,hr,_⟩:=mY N l[i]
   have hC:OL N l i b=if r=true then some (.inl (if b=true then true else(l[i].k==2)))else some (.inr (.inr (.inr (0,0,2)))):=by
     unfold OL;rw[hx,Q1,hr,Q1];cases r<;>cases b<;>rfl
   rw[br bp,hC];cases r with
   | true=>
     left;exact⟨(i+1,if b=true then true else(l[i].k==2)),by rw[if_pos rfl,rv,QY an],by simp only;omega,by simp only;omega⟩
   | false=>
     right;exact⟨.inr (0,0,2),by rw[if_neg U8];rfl,.inr rfl⟩
  ·right;exact⟨.inl b,by rw[bs bp],.inl ⟨b,rfl⟩⟩) N (0,false) ax (by simp only;omega)
 rcases U with⟨b,rfl⟩|rfl;· exact .inl ⟨b,h1⟩
 · exact .inr h1
theorem Ee (N:Nat)(op:Int):Vu N op=some (if op=4\/op=11 then 1 else 2)/\Q5I N op=some (if op=4\/op=11 then 1 else 2):=by
 unfold Vu Q5I;by_cases h:op=4;· subst h;exact⟨rfl,rfl⟩
 ·rw[bs h,Q1];by_cases h2:op=11;· subst h2;exact⟨rfl,rfl⟩
  · rw[bs h2,if_neg an];exact⟨rfl,rfl⟩
theorem Cr {op:Int} {k j:Nat}:(if(decide (op<1))=true then some true else(if(decide (op>11))=true then some true else some (k !=j)))=some (decide (op<1\/op>11\/k≠j)):=by
 by_cases h1:op<1;· rw[br h1];simp[h1]
 ·rw[bs h1];by_cases h2:op>11;· rw[br h2];simp[h2]
  ·rw[bs h2];congr 1;rw[Bool.eq_iff_iff];simp only[bne_iff_ne,ne_eq,decide_eq_true_eq];omega
theorem MQ {N:Nat} {op:Int} {l:List V} (hN:9223372036854775808<=N)(hl:∀v∈l,du v.n/\v.s.size<=140737488351232):∃r,BD N op l=some r/\Q74 N op l=some r:=by
 obtain⟨c1,c2⟩:=Ee N op;unfold BD Q74;rw[c1,c2,Q1,Q1,Cr,Q1,Q1];by_cases iI:op<1\/op>11\/l.length≠(if op=4\/op=11 then 1 else 2)
 ·have hd:=decide_eq_true iI;simp only[hd,if_true];exact⟨_,rfl,rfl⟩
 ·have hd:=decide_eq_false iI;simp only[hd,Bool.false_eq_true,if_false];rw[<-Dc hN (λv hv=>(hl v hv).2)]
  have hlen:l.length<=2:=by
   have:l.length=(if op=4\/op=11 then 1 else 2):=an
   rw[this];split<;>omega
  rcases mP (N:=N) hN hlen with⟨names,D5⟩|D5
  ·rw [D5,rv,rv];by_cases h1:op=4\/op=11
   ·rw [if_pos h1]at iI;have iU:l.length=1:=an
    clear iI hd;match l,iU with
    | [v],_=>
      obtain⟨hv,_⟩:=hl v ax;simp only[if_pos h1,List.getElem?_cons_zero,Q1,List.length_singleton];rw[QY an,QY an,QY an,QY an];simp only[show(((1:Nat):Int)-1).toNat=0 from rfl,List.getElem?_cons_zero,Q1];rcases h1 with rfl|rfl
      ·simp only[show((4:Int)==1)=false from rfl,show((4:Int)==2)=false from rfl,show((4:Int)==3)=false from rfl,show((4:Int)==5)=false from rfl,show((4:Int)==6)=false from rfl,show((4:Int)==7)=false from rfl,show((4:Int)==8)=false from rfl,show((4:Int)==9)=false from rfl,show((4:Int)==10)=false from rfl,show((4:Int)==11)=false from rfl,Bool.false_eq_true,if_false,if_true,Q1];cases names with
       |true=>exact⟨_,rfl,rfl⟩
       | false=>
         have e:QH N 4 v v=some (IntKind.wrap .i64 (0-v.n),v.n !=-9223372036854775808):=by unfold QH;rfl
         have U:M9 N 4 v.n v.n=some (IntKind.wrap .i64 (0-v.n),v.n !=-9223372036854775808):=by unfold M9;rfl
         simp only[Bool.false_eq_true,if_false,e,U,Q1];cases hq:v.n !=-9223372036854775808<;>exact⟨_,rfl,rfl⟩
      ·simp only[show((11:Int)==1)=false from rfl,show((11:Int)==2)=false from rfl,show((11:Int)==3)=false from rfl,show((11:Int)==5)=false from rfl,show((11:Int)==6)=false from rfl,show((11:Int)==7)=false from rfl,show((11:Int)==8)=false from rfl,show((11:Int)==9)=false from rfl,show((11:Int)==10)=false from rfl,show((11:Int)==11)=true from rfl,Bool.false_eq_true,if_false,if_true,Q1];cases names with
       |true=>exact⟨_,rfl,rfl⟩
       | false=>
         have e:QH N 11 v v=some ((if(v.n==0)=true then 1 else 0),true):=by
          unfold QH Q7H BC;simp only[Mt,Q1];rfl
         simp only[Bool.false_eq_true,if_false,e,RE,Q1];exact⟨_,rfl,rfl⟩
   ·rw [if_neg h1]at iI;have iU:l.length=2:=an
    have ja:1<=op/\op<=11:=an
    clear iI hd;match l,iU with
    | [v,w],_=>
      obtain⟨hv,_⟩:=hl v ax;obtain⟨hw,_⟩:=hl w ax;simp only[if_neg h1,List.getElem?_cons_zero,Q1,List.length_cons,List.length_nil];rw[QY an,QY an,QY an,QY an];simp only[show(((2:Nat):Int)-1).toNat=1 from rfl,show(((0+1+1:Nat):Int)-1).toNat=1 from rfl,List.getElem?_cons_succ,List.getElem?_cons_zero,Q1];have h9:op=1\/op=2\/op=3\/op=5\/op=6\/op=7\/op=8\/op=9\/op=10:=an
      rcases h9 with rfl|rfl|rfl|rfl|rfl|rfl|rfl|rfl|rfl
      ·simp only[show((1:Int)==1)=true from rfl,show((1:Int)==2)=false from rfl,show((1:Int)==3)=false from rfl,show((1:Int)==5)=false from rfl,show((1:Int)==6)=false from rfl,show((1:Int)==7)=false from rfl,show((1:Int)==8)=false from rfl,show((1:Int)==9)=false from rfl,show((1:Int)==10)=false from rfl,show((1:Int)==11)=false from rfl,Bool.false_eq_true,if_false,if_true,Q1];cases names with
       |true=>exact⟨_,rfl,rfl⟩
       | false=>
         simp only[Bool.false_eq_true,if_false];obtain⟨n,e1,U⟩:=ET (N:=N) hv hw;have e3:M9 N 1 v.n w.n=some (n,decide (du (v.n+w.n))):=by unfold M9;rw[if_pos ax,e1];rfl
         rw[e3];simp only[Q1];rw[Uf rfl U];refine⟨_,?_,rfl⟩;have h:QH N 1 (num v.n) (num w.n)=some (IntKind.wrap .i64 (v.n+w.n),(decide (IntKind.wrap .i64 (v.n+w.n)<v.n))==(decide (w.n<0))):=by unfold QH;rfl
         have h2:=(oe hN an an an an an h).symm.trans (Sf hN hv hw);rw[Ct,h,Q1,<-Option.some.inj h2];unfold vh;simp only;cases(decide (IntKind.wrap .i64 (v.n+w.n)<v.n))==(decide (w.n<0))<;>rfl
      ·simp only[show((2:Int)==1)=false from rfl,show((2:Int)==2)=true from rfl,show((2:Int)==3)=false from rfl,show((2:Int)==5)=false from rfl,show((2:Int)==6)=false from rfl,show((2:Int)==7)=false from rfl,show((2:Int)==8)=false from rfl,show((2:Int)==9)=false from rfl,show((2:Int)==10)=false from rfl,show((2:Int)==11)=false from rfl,Bool.false_eq_true,if_false,if_true,Q1];cases names with
       |true=>exact⟨_,rfl,rfl⟩
       | false=>
         simp only[Bool.false_eq_true,if_false]
         have hR:∃n,M9 N 2 v.n w.n=some (n,decide (du (v.n-w.n)))/\(du (v.n-w.n)->n=v.n-w.n):=by
          unfold M9;rw[if_neg ax,if_pos ax];by_cases hm:w.n=-9223372036854775808
          ·rw[br hm];refine⟨_,congrArg some (congrArg (Prod.mk _) ?_),λq=>IntWalk.i64_in _ q⟩;rw[Bool.eq_iff_iff];simp only[decide_eq_true_eq];unfold du at*;omega
          ·rw[bs hm];have Pw:du (0-w.n):=by unfold du at*;omega
           rw[IntWalk.i64_in _ Pw];obtain⟨n,e1,U⟩:=ET (N:=N) hv Pw;rw[e1,show v.n+(0-w.n)=v.n-w.n by omega];rw[show v.n+(0-w.n)=v.n-w.n by omega]at U;exact⟨n,rfl,U⟩
         obtain⟨n,e3,U⟩:=hR;rw[e3];simp only[Q1];rw[Uf rfl U];refine⟨_,?_,rfl⟩;have h:QH N 2 (num v.n) (num w.n)=some (IntKind.wrap .i64 (v.n-w.n),(decide (IntKind.wrap .i64 (v.n-w.n)>v.n))==(decide (w.n<0))):=by unfold QH;rfl
         have h2:=(oe hN an an an an an h).symm.trans (Si hN hv hw);rw[Ct,h,Q1,<-Option.some.inj h2];unfold vh;simp only;cases(decide (IntKind.wrap .i64 (v.n-w.n)>v.n))==(decide (w.n<0))<;>rfl
      ·simp only[show((3:Int)==1)=false from rfl,show((3:Int)==2)=false from rfl,show((3:Int)==3)=true from rfl,show((3:Int)==5)=false from rfl,show((3:Int)==6)=false from rfl,show((3:Int)==7)=false from rfl,show((3:Int)==8)=false from rfl,show((3:Int)==9)=false from rfl,show((3:Int)==10)=false from rfl,show((3:Int)==11)=false from rfl,Bool.false_eq_true,if_false,if_true,Q1];cases names with
       |true=>exact⟨_,rfl,rfl⟩
       | false=>
         simp only[Bool.false_eq_true,if_false];obtain⟨n,e1,U⟩:=Kq (N:=N) hv hw;have e3:M9 N 3 v.n w.n=some (n,decide (du (v.n*w.n))):=by unfold M9;rw[if_neg ax,if_neg ax,if_pos ax,e1];rfl
         rw[e3];simp only[Q1];rw[Uf rfl U];refine⟨_,?_,rfl⟩;obtain⟨m,q1,q2⟩:=te (N:=N) hv hw
         have h:QH N 3 (num v.n) (num w.n)=some (m,decide (du (v.n*w.n))):=by
          unfold QH;simp only[num,q1,Q1];rfl
         have h2:=(oe hN an an an an an h).symm.trans (Sg hN hv hw);rw[Ct,h,Q1,<-Option.some.inj h2];unfold vh;simp only;cases decide (du (v.n*w.n))<;>rfl
      ·simp only[show((5:Int)==1)=false from rfl,show((5:Int)==2)=false from rfl,show((5:Int)==3)=false from rfl,show((5:Int)==5)=true from rfl,show((5:Int)==6)=false from rfl,show((5:Int)==7)=false from rfl,show((5:Int)==8)=false from rfl,show((5:Int)==9)=false from rfl,show((5:Int)==10)=false from rfl,show((5:Int)==11)=false from rfl,Bool.false_eq_true,if_false,if_true,Q1];rw[Mt,RE];refine⟨_,rfl,?_⟩;simp[Q1]
      ·simp only[show((6:Int)==1)=false from rfl,show((6:Int)==2)=false from rfl,show((6:Int)==3)=false from rfl,show((6:Int)==5)=false from rfl,show((6:Int)==6)=true from rfl,show((6:Int)==7)=false from rfl,show((6:Int)==8)=false from rfl,show((6:Int)==9)=false from rfl,show((6:Int)==10)=false from rfl,show((6:Int)==11)=false from rfl,Bool.false_eq_true,if_false,if_true,Q1];rw[Mt,RE];refine⟨_,rfl,?_⟩;simp[Q1]
      ·simp only[show((7:Int)==1)=false from rfl,show((7:Int)==2)=false from rfl,show((7:Int)==3)=false from rfl,show((7:Int)==5)=false from rfl,show((7:Int)==6)=false from rfl,show((7:Int)==7)=true from rfl,show((7:Int)==8)=false from rfl,show((7:Int)==9)=false from rfl,show((7:Int)==10)=false from rfl,show((7:Int)==11)=false from rfl,Bool.false_eq_true,if_false,if_true,Q1];cases names with
       |true=>exact⟨_,rfl,rfl⟩
       | false=>
         have h:QH N 7 v w=some ((if(decide (v.n<w.n))=true then 1 else 0),true):=by
          unfold QH Q7D BC;simp only[Mt,Q1];rfl
         simp only[Bool.false_eq_true,if_false];rw[h,RE];exact⟨_,rfl,rfl⟩
      ·simp only[show((8:Int)==1)=false from rfl,show((8:Int)==2)=false from rfl,show((8:Int)==3)=false from rfl,show((8:Int)==5)=false from rfl,show((8:Int)==6)=false from rfl,show((8:Int)==7)=false from rfl,show((8:Int)==8)=true from rfl,show((8:Int)==9)=false from rfl,show((8:Int)==10)=false from rfl,show((8:Int)==11)=false from rfl,Bool.false_eq_true,if_false,if_true,Q1];cases names with
       |true=>exact⟨_,rfl,rfl⟩
       | false=>
         have h:QH N 8 v w=some ((if(decide (v.n<=w.n))=true then 1 else 0),true):=by
          unfold QH Q7E BC;simp only[Mt,Q1];rfl
         simp only[Bool.false_eq_true,if_false];rw[h,RE];exact⟨_,rfl,rfl⟩
      ·simp only[show((9:Int)==1)=false from rfl,show((9:Int)==2)=false from rfl,show((9:Int)==3)=false from rfl,show((9:Int)==5)=false from rfl,show((9:Int)==6)=false from rfl,show((9:Int)==7)=false from rfl,show((9:Int)==8)=false from rfl,show((9:Int)==9)=true from rfl,show((9:Int)==10)=false from rfl,show((9:Int)==11)=false from rfl,Bool.false_eq_true,if_false,if_true,Q1];cases names with
       |true=>exact⟨_,rfl,rfl⟩
       | false=>
         have h:QH N 9 v w=some ((if(v.n !=0&&w.n !=0)=true then 1 else 0),true):=by
          unfold QH Q7F BC;simp only[Mt,Q1];cases hq:v.n !=0<;>rfl
         simp only[Bool.false_eq_true,if_false,RE];rw[h];refine⟨_,rfl,?_⟩;cases hq:v.n !=0<;>rfl
      ·simp only[show((10:Int)==1)=false from rfl,show((10:Int)==2)=false from rfl,show((10:Int)==3)=false from rfl,show((10:Int)==5)=false from rfl,show((10:Int)==6)=false from rfl,show((10:Int)==7)=false from rfl,show((10:Int)==8)=false from rfl,show((10:Int)==9)=false from rfl,show((10:Int)==10)=true from rfl,show((10:Int)==11)=false from rfl,Bool.false_eq_true,if_false,if_true,Q1];cases names with
       |true=>exact⟨_,rfl,rfl⟩
       | false=>
         have h:QH N 10 v w=some ((if(v.n !=0||w.n !=0)=true then 1 else 0),true):=by
          unfold QH Q7G BC;simp only[Mt,Q1];cases hq:v.n !=0<;>rfl
         simp only[Bool.false_eq_true,if_false,RE];rw[h];refine⟨_,rfl,?_⟩;cases hq:v.n !=0<;>rfl
  · rw[D5];exact⟨_,rfl,rfl⟩
end
section
open Go Go.RowKit
theorem rf (x:Int):du (IntKind.wrap .i64 x):=by
 have e:IntKind.wrap .i64 x=if(9223372036854775808:Int)<=x%18446744073709551616 then x%18446744073709551616-18446744073709551616 else x%18446744073709551616:=by
  by_cases h:(9223372036854775808:Int)<=x%18446744073709551616<;>simp[IntKind.wrap,IntKind.bits,IntKind.signed,h]
 rw[e];unfold du;split<;>omega
theorem XJ {N:Nat} {b:Bool} {v:Int} (h:BC N b=some v):du v:=by
 unfold BC at h;rw[Mt,Q1]at h;cases h;unfold du;split<;>omega
theorem O5 {N:Nat} {a b n:Int} {c:Bool} (h:Ru N a b=some (n,c)):du n:=by
 unfold Ru at h;obtain⟨x,_,h⟩:=Qw h;obtain⟨y,_,h⟩:=Qw h;obtain⟨_,h⟩:=mA h;obtain⟨_,h⟩:=mA h;rcases iM h with⟨_,h⟩|⟨_,h⟩<;>rcases iM h with⟨_,h⟩|⟨_,h⟩<;>(cases h;exact rf _)
theorem XT {N:Nat} {op:Int} {v w:V} {n:Int} {c:Bool} (h:QH N op v w=some (n,c)):du n:=by
 unfold QH at h;obtain⟨x,_,h⟩:=Qw h;rcases x with _|_|_|_|_|_|_|_|_|_;· obtain⟨_,_,h⟩:=Qw h;cases h;exact rf _
 · obtain⟨_,_,h⟩:=Qw h;cases h;exact rf _
 · obtain⟨⟨a,b⟩,h1,h⟩:=Qw h;cases h;exact O5 h1
 · obtain⟨_,_,h⟩:=Qw h;cases h;exact rf _
 · obtain⟨a,h1,h⟩:=Qw h;cases h;obtain⟨b,U,h3⟩:=Qw h1;cases h3;exact XJ U
 · obtain⟨a,h1,h⟩:=Qw h;cases h;obtain⟨b,U,h3⟩:=Qw h1;cases h3;exact XJ U
 ·obtain⟨a,h1,h⟩:=Qw h;cases h;rcases iM h1 with⟨_,h1⟩|⟨_,h1⟩<;>(obtain⟨b,U,h3⟩:=Qw h1;cases h3;exact XJ U)
 ·obtain⟨a,h1,h⟩:=Qw h;cases h;rcases iM h1 with⟨_,h1⟩|⟨_,h1⟩<;>(obtain⟨b,U,h3⟩:=Qw h1;cases h3;exact XJ U)
 · obtain⟨a,h1,h⟩:=Qw h;cases h;obtain⟨b,U,h3⟩:=Qw h1;cases h3;exact XJ U
 · cases h
theorem we {N:Nat} {b:Bool} {v:Int} (h:Rx N b=some v):du v:=by
 rw[Mt]at h;cases h;unfold du;split<;>omega
theorem Sh {N:Nat} {op:Int} {l:List V} {k:Nat} {n:Int} {e:Nat} (hN:9223372036854775808<=N)(h:BD N op l=some (k,n,e)):(k=1/\e=0/\du n)\/(k=0/\n=0/\e≠0):=by
 unfold BD at h;obtain⟨c1,_⟩:=Ee N op;rw[c1,Q1,Cr,Q1]at h;rcases iM h with⟨_,h⟩|⟨hb,h⟩
 · cases h;exact .inr ⟨rfl,rfl,bj⟩
 ·have hb:=of_decide_eq_false hb
  have hlen:l.length<=2:=by
   have:l.length=(if op=4\/op=11 then 1 else 2):=an
   rw[this];split<;>omega
  rcases mP (N:=N) hN hlen with⟨b,U⟩|U
  ·rw [U,rv]at h;obtain⟨x,_,h⟩:=Qw h;obtain⟨_,h⟩:=mA h;obtain⟨_,h⟩:=mA h;obtain⟨y,_,h⟩:=Qw h;rcases iM h with⟨_,h⟩|⟨_,h⟩
   ·obtain⟨t,h1,h⟩:=Qw h;cases h;exact .inl ⟨rfl,rfl,we h1⟩
   ·rcases iM h with⟨_,h⟩|⟨_,h⟩
    ·obtain⟨t,h1,h⟩:=Qw h;cases h;exact .inl ⟨rfl,rfl,we h1⟩
    ·rcases iM h with⟨_,h⟩|⟨_,h⟩
     · cases h;exact .inr ⟨rfl,rfl,bj⟩
     ·obtain⟨⟨a,c⟩,h1,h⟩:=Qw h;rcases iM h with⟨_,h⟩|⟨_,h⟩
      · cases h;exact .inr ⟨rfl,rfl,bj⟩
      ·obtain⟨_,_,h⟩:=Qw h;cases h;exact .inl ⟨rfl,rfl,XT h1⟩
  ·rw[U,H3]at h;cases h;exact .inr ⟨rfl,rfl,bj⟩
abbrev I3:=Int×Int×ByteArray×Nat
def mn (f:Q4->Option I3):List Q4->List V->Option (List V⊕Nat)
 |[],acc=>some (.inl acc)
 |x::l,acc=>Qg (f x) λ(a,b,c,e)=>if(e !=0)=true then some (.inr e)else mn f l (acc++[⟨a,b,c⟩])
def UQ {α β:Type} (g:List V->β)(k:Nat->α):Option (List V⊕Nat)->Option (β⊕α)
 |none=>none
 |some (.inl a)=>some (.inl (g a))
 |some (.inr e)=>some (.inr (k e))
theorem AP {O:Type} {F:(Nat×List V)->Option ((Nat×List V)⊕(List V⊕O))} {f:Q4->Option I3} {l:List Q4} {k:Nat->O}
   (fa:∀i acc x,l[i]? =some x->acc.length=i->F (i,acc)=Qg (f x) λ(a,b,c,e)=>if(e !=0)=true then some (.inr (.inr (k e)))else some (.inl (i+1,acc++[⟨a,b,c⟩])))
   (zS:∀i acc,l.length<=i->F (i,acc)=some (.inr (.inl acc))):
   ∀(m i n:Nat) (acc:List V),l.length-i=m->i<=l.length->acc.length=i->m<n->fF F n (i,acc)=UQ id k (mn f (l.drop i) acc)
 | 0,i,n+1,acc,hm,hi,U,hn=>by
   have hle:l.length<=i:=an
   rw[ua (zS i acc hle),List.drop_of_length_le hle];rfl
 | m + 1,i,n+1,acc,hm,hi,U,hn=>by
   have bp:i<l.length:=an
   have hx:=List.getElem?_eq_getElem bp;have hd:l.drop i=l[i]::l.drop (i+1):=List.drop_eq_getElem_cons bp;rw[hd];show j7 (F (i,acc)) (fF F n)=_;rw[fa i acc _ hx U];unfold mn;cases hf:f l[i]with
   |none=>rfl
   | some r=>
     obtain⟨a,b,c,e⟩:=r;simp only[Q1];cases he:e !=0 with
     |true=>simp only[if_true];rfl
     | false=>
       simp only[Bool.false_eq_true,if_false,rv];exact AP fa zS m (i+1) n _ an an (by simp[U]) an
theorem vU {O:Type} {F:(Nat×List V)->Option ((Nat×List V)⊕(List V⊕O))} {f:Q4->Option I3} {l:List Q4} {k:Nat->O} {n:Nat}
  (U:∀i acc x,l[i]? =some x->acc.length=i->F (i,acc)=Qg (f x) λ(a,b,c,e)=>if(e !=0)=true then some (.inr (.inr (k e)))else some (.inl (i+1,acc++[⟨a,b,c⟩])))
  (zS:∀i acc,l.length<=i->F (i,acc)=some (.inr (.inl acc))) (hn:l.length<n):fF F n (0,[])=UQ id k (mn f l []):=by
 have:=AP U zS l.length 0 n [] an an rfl an;simpa using this
def at_ (rc:Int->Int->Int->ByteArray->Int->Int->List Q4->List V->Option I3)(vars:List V)(x:Q4):Option I3:=rc x.kind x.value.k x.value.n x.value.s x.var x.op x.kids vars
theorem U2 {N:Nat} {l:List Q4} {vars:List V} {rc:Int->Int->Int->ByteArray->Int->Int->List Q4->List V->Option I3} (hN:9223372036854775808<=N)(hl:l.length<=1000000):fF (Vo N l rc vars) N (0,[])=UQ id (λe=>([],e)) (mn (at_ rc vars) l []):=by
 refine vU (λi acc x U ha=>?_) (λi acc hi=>?_) an
 ·have bp:=(List.getElem?_eq_some_iff.1 U).1;unfold Vo;simp only;rw[br bp,U,Q1];unfold at_;congr 1;funext ⟨a,b,c,e⟩;simp only;rw[QY (by simp only[List.length_cons,List.length_nil];omega),QY an]
 ·unfold Vo;simp only;rw[bs hi]
theorem ZB {N:Nat} {l:List Q4} {vars:List V} {rc:Int->Int->Int->ByteArray->Int->Int->List Q4->List V->Option I3} (hN:9223372036854775808<=N)(hl:l.length<=1000000):fF (Q3K N l rc vars) N (0,[])=UQ id (λe=>(.inr (0,0,(⟨#[]⟩:ByteArray),e):(Int×Int×ByteArray)⊕I3)) (mn (at_ rc vars) l []):=by
 refine vU (λi acc x U ha=>?_) (λi acc hi=>?_) an
 ·have bp:=(List.getElem?_eq_some_iff.1 U).1;unfold Q3K;simp only;rw[br bp,U,Q1];unfold at_;congr 1;funext ⟨a,b,c,e⟩;simp only;rw[QY (by simp only[List.length_cons,List.length_nil];omega),QY an]
 ·unfold Q3K;simp only;rw[bs hi]
end
section
open Go Go.RowKit
mutual
def nodes:Q4->Nat
 |⟨_,_,_,_,l⟩=>1+Ha l
def Ha:List Q4->Nat
 |[]=>0
 |e::l=>nodes e+Ha l
end
theorem Mq (e:Q4):nodes e=1+Ha e.kids:=by cases e;simp[nodes]
theorem RC {x:Q4}:∀{l:List Q4},x∈l->nodes x<=Ha l
 | y::l,h=>by
   simp only[Ha];rcases List.mem_cons.1 h with rfl|h;· omega
   · have:=RC h;omega
theorem Vz:∀(l:List Q4),l.length<=Ha l
 |[]=>ax
 | x::l=>by
   have:=Vz l;simp only[List.length_cons,Ha,Mq];omega
theorem EN {x:Q4} (h:cx x):x.kids.length<=1759218604390/\∀y∈x.kids,cx y:=by
 cases h with
 |mk _ _ _ _ _ U g4=>exact⟨U,g4⟩
theorem K9 {x:Q4} (h:cx x):xU x.value:=by
 cases h with
 |mk _ _ h1 _ _ _ _=>exact h1
end
section
open Go Go.RowKit
def pH (v:V):Prop:=du v.n/\v.s.size<=140737488351232
def AK (r:I3):Prop:=du r.2.1/\r.2.2.1.size<=140737488351232/\(r.2.2.2=0->Hb ⟨r.1,r.2.1,r.2.2.1⟩)
theorem UW:du 0:=by unfold du;omega
theorem PM:(⟨#[]⟩:ByteArray).size<=140737488351232:=bj
theorem Xu {n:Nat} (h:n≠0):AK (0,0,(⟨#[]⟩:ByteArray),n):=⟨UW,PM,λq=>absurd q h⟩
theorem EW (N:Nat)(v:V):∃q:Bool,(q=true↔Hb v)/\yC N v.k v.n v.s=some q/\Vw N v.k v.n v.s=some (if q=true then(v.k,v.n,v.s,0)else(0,0,(⟨#[]⟩:ByteArray),2)):=by
 obtain⟨q,h1,U⟩:=mY N v;refine⟨q,U,h1,?_⟩;unfold Vw;rw[h1,Q1];cases q<;>rfl
theorem th {v:V} {q:Bool} (U:pH v)(h:q=true↔Hb v):AK (if q=true then(v.k,v.n,v.s,0)else(0,0,(⟨#[]⟩:ByteArray),2)):=by
 cases q with
 |true=>exact⟨U.1,U.2,λ_=>h.1 rfl⟩
 |false=>exact Xu bj
theorem uY {f g:Q4->Option I3}:∀(l:List Q4)(acc:List V),(∀x∈l,∃r,f x=some r/\g x=some r/\AK r)->(∀v∈acc,pH v)->
   ∃o,mn f l acc=some o/\mn g l acc=some o/\(∀a,o=.inl a->∀v∈a,pH v)/\(∀e,o=.inr e->e≠0)
 |[],acc,_,ha=>⟨.inl acc,rfl,rfl,λa h=>(by cases h;exact ha),λe h=>(by cases h)⟩
 | x ::l,acc,h,ha=>by
   obtain⟨⟨a,b,c,e⟩,h1,h2,h3⟩:=h x ax;unfold mn;rw[h1,h2];simp only[Q1];by_cases he:e=0
   ·subst he;simp only[bne_self_eq_false,Bool.false_eq_true,if_false]
    exact uY l _ (λy hy=>h y (by simp[hy])) (λv U=>by
     rcases List.mem_append.1 U with U|U;· exact ha v U
     ·simp only[List.mem_cons,List.not_mem_nil,or_false]at U;subst U;exact⟨h3.1,h3.2.1⟩)
   ·rw[br he,br he];exact⟨.inr e,rfl,rfl,λa h=>(by cases h),λe' h=>(by cases h;exact he)⟩
theorem ya (N:Nat):WJ N 0 0 (⟨#[]⟩:ByteArray)=some false:=rfl
theorem both:∀(m N:Nat) (e:Q4) (vars:List V),cx e->nodes e<=m->m<=1000->9223372036854775808+m<=N->(∀v∈vars,pH v)->vars.length<=1000000->
   ∃r,at_ (wG N) vars e=some r/\at_ (Q4N N) vars e=some r/\AK r:=by
 intro m;induction m with
 | zero=>
   intro N e vars _ hn;rw[Mq]at hn;omega
 | succ m ih=>
   intro N e vars cn hn hm hN hv JL;obtain⟨N,rfl⟩:∃k,N=k+1:=⟨N-1,an⟩
   obtain⟨k,v,x,o,kids⟩:=e;have U:9223372036854775808<=N:=an
   rw[Mq]at hn;simp only at hn;show∃r,OJ N (wG N) k v.k v.n v.s x o kids vars=some r/\Q5o N (Q4N N) k v.k v.n v.s x o kids vars=some r/\AK r;have YW:pH v:=⟨NG (K9 cn).2.1,(K9 cn).2.2⟩
   unfold OJ Q5o Q7e;by_cases k1:k=1
   ·subst k1;simp only[show((1:Int)==1)=true from rfl,if_true];unfold Q8m;obtain⟨q,q1,q2,q3⟩:=EW N v;rw[q3];refine⟨_,rfl,?_,th YW q1⟩;rw[rv];simp only;rw[<-lB v.k v.n U (by have:=YW.2;omega),q2,Q1];cases q<;>rfl
   ·have b1:(k==1)=false:=by simpa using k1
    simp only[b1,Bool.false_eq_true,if_false];by_cases k2:k=2
    ·subst k2;simp only[show((2:Int)==2)=true from rfl,if_true];unfold Q8n;by_cases hr:0<=x/\x<(vars.length:Int)
     ·have bp:x.toNat<vars.length:=an
      have hx:=List.getElem?_eq_getElem bp;obtain⟨q,q1,q2,q3⟩:=EW N vars[x.toNat];have hvx:=hv _ (List.getElem_mem bp);refine⟨_,?_,?_,th hvx q1⟩
      · rw[bs hr.1,Q1,bs hr.2,QY hr.1,hx,Q1,q3];rfl
      · rw[br hr.1,Q1,br hr.2,QY hr.1,hx,Q1,rv];simp only;rw[<-lB _ _ U (by have:=hvx.2;omega),q2,Q1];cases q<;>rfl
     ·refine⟨_,?_,?_,Xu (n:=2) bj⟩
      · by_cases h0:x<0;· rw[br h0];rfl
        · rw[bs h0,Q1,if_pos (by simp;omega)];rfl
      · by_cases h0:x>=0
        ·rw[br h0,Q1,if_neg (by simp;omega),rv];simp only;rw[ya];rfl
        ·rw[bs h0,Q1,if_neg ax,rv];simp only;rw[ya];rfl
    ·have b2:(k==2)=false:=by simpa using k2
     simp only[b2,Bool.false_eq_true,if_false];by_cases k3:k=3
     ·subst k3;simp only[show((3:Int)==3)=true from rfl,if_true];unfold X4 Xe;have jC:kids.length<=1000000:=by have:=Vz kids;omega
      rw[U2 U jC,ZB U jC];obtain⟨h4,g4⟩:=EN cn;simp only at h4 g4;obtain⟨w,w1,w2,w3,w4⟩:=uY (f:=at_ (wG N) vars) (g:=at_ (Q4N N) vars) kids [] (λy hy=>ih N y vars (g4 y hy) (by have:=RC hy;omega) an an hv JL) ax;rw[w1,w2];cases w with
      | inr e=>
        have he:=w4 e rfl;refine⟨_,?_,rfl,Xu he⟩;simp only[UQ,H3,Q1];rw[br he];rfl
      | inl a=>
        have ha:=w3 a rfl;obtain⟨⟨rk,rn,re⟩,d1,d2⟩:=MQ (N:=N) (op:=o) (l:=a) U ha;have la:=Sh U d1;refine⟨(((rk:Nat):Int),rn,(⟨#[]⟩:ByteArray),re),?_,?_,?_⟩
        ·simp only[UQ,id,rv,Q1];rw[if_neg ax,d1];rfl
        ·simp only[UQ,id,rv];rw[d2];rfl
        ·rcases la with⟨r1,r2,r3⟩|⟨r1,r2,r3⟩
         ·subst r1;subst r2;exact⟨r3,PM,λ_=>.inl ⟨rfl,rfl⟩⟩
         ·subst r1;subst r2;exact Xu r3
     ·have b3:(k==3)=false:=by simpa using k3
      simp only[b3,Bool.false_eq_true,if_false];refine⟨_,rfl,?_,Xu (n:=2) bj⟩;rw[rv];simp only;rw[ya];rfl
end
section
open Go Go.RowKit Go.Maps Go.Sort
def QU {α:Type} (m:MS Int α):List Int:=m.keys.mergeSort leI
def RF {α:Type} (m:MS Int α):Bool:=m.keys.all (λx=>(Lit.int .i64 x).wf)&&decide (m.keys.length<=8796093022207)
abbrev LM:Value->Option (DataW Unit×List MemPlace):=λ_=>some (.lit (.bool true),[])
section
variable {P:Program} {α:Type} {kt:TypeId} {K:u5 P kt Int} {ag:Bool} {R:eI α} {b:Nat} {m:MS Int α}
theorem Gk {N F:dW} {w:World} (hk:P.underlying kt=some (.int .i64))(hK:∀x,K.enc x=.int .i64 x)(h:gy K ag R N F b m w)(hf:RF m=true):
  ∃D0:DataW Unit,w.ownsMap P kt LM b m.keys.length D0/\(intKeys D0).Perm m.keys/\Maps.size D0=m.keys.length:=by
 obtain⟨_,E,h2,h3,h4,h5,h6,h7,h8,h9⟩:=h;simp only[RF,Bool.and_eq_true,List.all_eq_true,decide_eq_true_eq]at hf;obtain⟨BV,zL⟩:=hf;have Jk:E.toList.map (·.key)=m.keys.map K.enc:=by rw[h3,MS.keys,List.map_map];rfl
 have hlen:E.toList.length=m.keys.length:=by simpa using congrArg List.length Jk
 have qc:∀e∈E.toList,∃x:Int,e.key=.int .i64 x/\(Lit.int .i64 x).wf=true:=λe he=>by
  have:e.key∈m.keys.map K.enc:=by rw[<-Jk];exact List.mem_map.2 ⟨e,he,rfl⟩
  obtain⟨x,U,Zp⟩:=List.mem_map.1 this;exact⟨x,by rw[<-Zp,hK],BV x U⟩
 have Gc:∀e∈E.toList,∃x:Int,e.key=.int .i64 x/\Go.WideElems.rd P kt LM e=some (.int .i64 x,.lit (.bool true)):=λe he=>by
  obtain⟨x,U,hl⟩:=qc e he;refine⟨x,U,?_⟩;unfold Go.WideElems.rd;rw[U];simp[keyOf,mapKey,hk,hl,LM]
 have bw:Go.MapKept.Stamped E m.clock:=by
  refine(Go.MapKept.stamped_iff E m.clock).2 ⟨?_,?_,?_⟩
  ·intro x U;have:x.born∈m.es.map (·.2.2):=by rw[<-h7];exact List.mem_map.2 ⟨x,U,rfl⟩
   obtain⟨y,hy,e⟩:=List.mem_map.1 this;rw[<-e];exact h9 y hy
  · rw[h7];exact h8
  ·have:(E.toList.map (·.key)).Nodup:=by
    rw[Jk];exact List.pairwise_map.2 (List.Pairwise.imp (λdb e=>db (by rw[hK,hK]at e;simpa using e)) h5)
   exact List.pairwise_map.1 this
 have Jw:Go.WideElems.Fit P kt LM E m.clock:=⟨by simp at hlen;rw[hlen];unfold maxLen;omega,bw,λe he=>by obtain⟨x,_,h⟩:=Gc e he;exact⟨_,h⟩⟩
 refine⟨_,⟨E,m.clock,h2,Jw,by simp at hlen;rw[hlen];exact Nat.le_refl _,rfl⟩,?_,?_⟩
 ·show ((List.foldr DataW.insert [] (E.toList.map (Go.WideElems.rg P kt LM))).map λp=>Go.intOf p.1).Perm _;refine((Go.WideShapes.sorted_perm _).map _).trans ?_;rw[List.map_map]
  have:E.toList.map ((λp:Lit×DataW Unit=>Go.intOf p.1)∘Go.WideElems.rg P kt LM)=m.keys:=by
   have e1:E.toList.map ((λp:Lit×DataW Unit=>Go.intOf p.1)∘Go.WideElems.rg P kt LM)=(E.toList.map (·.key)).map (λv=>match v with| .int _ x=>x|_=>0):=by
    rw[List.map_map];refine List.map_congr_left λe he=>?_
    obtain⟨x,U,h⟩:=Gc e he;simp[Go.WideElems.rg_of h,U,Go.intOf]
   rw[e1,Jk,List.map_map]
   conv=>rhs;rw[<-List.map_id m.keys]
   refine List.map_congr_left λx _=>?_;simp[hK]
  rw[this]
 ·show(List.foldr DataW.insert [] (E.toList.map (Go.WideElems.rg P kt LM))).length=_;rw[(Go.WideShapes.sorted_perm _).length_eq,List.length_map,hlen]
theorem Dv {f it:FuncId} {t:TypeId} {b:Nat} (h:∀W,CallsIn Fence.wide 5 P f #[.map (some b)] W λe w'=>e=.returned (.func (.func it) #[] #[.pointer (some ⟨W.heap.size,0,none⟩)])/\w'=W.alloc (.cells #[.map (some b)] t)):
  QA P f [.map (some b)] [] [] (λv bo Hr=>∃g,v=.func (.func it) #[] #[.pointer (some ⟨g,0,none⟩)]/\bo=[]/\Hr=[.blk g [.map (some b)] t]):=by
 intro F N w hF dV hH U sy;refine(callsIn_wide.1 (h w)).mono ?_;rintro e w' ⟨rfl,rfl⟩;refine⟨_,_,_,rfl,⟨w.heap.size,rfl,rfl,rfl⟩,?_⟩;have h0:Qj ⟨w,λk=>∃i,i<([]:List Fact).length/\N i k,F⟩ [] [] w:=⟨F,N,hF,λ_ h=>h,λ_ h=>.inl h,dV,hH,λi k hi hk=>⟨(U i k hi hk).1,.inr ⟨i,hi,hk⟩,(U i k hi hk).2⟩,sy,Mod.refl _ _⟩
 exact h0.alloc #[.map (some b)] t
theorem rO {R:List Value->Int->Prop}:∀(l:List Int),(∀x,R [.int .i64 x] x)->fC 1 R (l.map encZ) l
 |[],_=>rfl
 |x::l,h=>⟨[.int .i64 x],_,rfl,rfl,h _,rO l h⟩
theorem ye {f it:FuncId} {t:TypeId} {g:Nat} {Rs:eI Int} (hk:P.underlying kt=some (.int .i64))(hK:∀x,K.enc x=.int .i64 x)(hRs:∀F w x,Rs.p F w [.int .i64 x] x)(hf:RF m=true)
  (h:∀(nn:Nat) (D0:DataW Unit) (W:World),g<W.heap.size->W.cell? ⟨g,0,none⟩=some (.map (some b))->W.ownsMap P kt LM b nn D0->Maps.size D0<=maxLen->Maps.size D0*8<=140737488355328->
   CallsIn Fence.wide 5 P f #[.func (.func it) #[] #[.pointer (some ⟨g,0,none⟩)]] W λe w'=>∃(v:Value) (U:List Int),e=.returned v/\U.Perm (intKeys D0)/\
    w'.ownsRow W.heap.size kt 1 v U.length ((U.mergeSort (λx y=>decide (x<=y))).map encZ)/\(v=.slice none 0 0↔U=[])/\Below W.heap.size W w'):
  QA P f [.func (.func it) #[] #[.pointer (some ⟨g,0,none⟩)]] [] [.blk g [.map (some b)] t,QE K ag R b m] (λv bo Hr=>∃p c,v=.slice p (QU m).length c/\bo=[]/\Hr=[.own kt 1 Rs v (QU m),.blk g [.map (some b)] t,QE K ag R b m]):=by
 intro F N w hF dV hH bp sy;have hb:=hH 0 _ rfl;have hm:gy K ag R (N 1) F b m w:=hH 1 _ rfl;obtain⟨D0,q1,q2,q3⟩:=Gk hk hK hm hf;have zL:m.keys.length<=8796093022207:=by simp only[RF,Bool.and_eq_true,decide_eq_true_eq]at hf;exact hf.2
 have hgl:=(Array.getElem?_eq_some_iff.1 hb.2).1
 have iT:w.cell? ⟨g,0,none⟩=some (.map (some b)):=by
  have:=cell_of_row w g 0 _ _ _ hb.2;simpa using this
 refine(callsIn_wide.1 (h _ D0 w hgl iT q1 (by rw[q3];unfold maxLen;omega) (by rw[q3];omega))).mono ?_;rintro e w' ⟨v,U,rfl,r1,r2,r3,r4⟩
 have hl:U.mergeSort leI=QU m:=by
  unfold QU;exact mergeSort_of_perm_i (r1.trans q2)
 have hlen:U.length=(QU m).length:=by rw[<-hl];simp
 have h0:fQ ⟨w,λk=>∃i,i<[Fact.blk g [.map (some b)] t,QE K ag R b m].length/\N i k,F⟩ [] [.blk g [.map (some b)] t,QE K ag R b m] F N w:=⟨hF,λ_ h=>h,λ_ h=>.inl h,dV,hH,λi k hi hk=>⟨(bp i k hi hk).1,.inr ⟨i,hi,hk⟩,(bp i k hi hk).2⟩,sy,Mod.refl _ _⟩
 have eP:lS w.heap.size kt 1 (Rs.p F w') (QU m) v w':=by
  refine⟨_,hlen▸r2,?_⟩;rw[<-hl];exact rO _ λx=>hRs _ _ _
 obtain⟨p,n,c,rfl⟩:=eP.shape;have hn:n=(QU m).length:=eP.len;subst hn;refine⟨_,_,_,rfl,⟨p,c,rfl,rfl,rfl⟩,F,_,(h0.grow r4).push (.own kt 1 Rs (.slice p (QU m).length c) (QU m)) (λk=>(Value.slice p (QU m).length c).ownBlock=some k) ⟨λk hk=>hk,eP.mono (Nat.zero_le _)⟩ ?_ ?_⟩
 ·intro k hk;obtain⟨a1,a2⟩:=eP.lt k hk;exact⟨a2,.inl a1,λhf=>by have:=hF k hf;omega⟩
 ·intro i k hi hk hn;obtain⟨a1,a2⟩:=eP.lt k hk;have:=(bp i k hi hn).1;omega
theorem pK {κ:Type} {kt:TypeId} {K:u5 P kt κ} {m:MS κ α} {f:FuncId} {b:Nat} (h:∀(es:Array MapEntry)(clock:Nat)(w:World),w.heap[b]? =some (.map es clock)->Calls P f #[.map (some b)] w λe w'=>e=.returned (.map (some w.heap.size))/\w'=w.alloc (.map es clock)):
  QA P f [.map (some b)] [] [QE K ag R b m] (λv bo Hr=>∃g,v=.map (some g)/\bo=[]/\Hr=[QE K ag R g m,QE K ag R b m]):=by
 intro F N w hF dV hH bp sy;have hm:gy K ag R (N 0) F b m w:=hH 0 _ rfl;obtain⟨hb,E,h2,Z7⟩:=hm;refine(h E m.clock w h2).mono ?_;rintro e w' ⟨rfl,rfl⟩;refine⟨_,_,_,rfl,⟨w.heap.size,rfl,rfl,rfl⟩,?_⟩;have U:Below w.heap.size w (w.alloc (.map E m.clock)):=(Below.refl _ _).alloc (Nat.le_refl _) _;have h0:fQ ⟨w,λk=>∃i,i<[QE K ag R b m].length/\N i k,F⟩ [] [QE K ag R b m] F N w:=⟨hF,λ_ h=>h,λ_ h=>.inl h,dV,hH,λi k hi hk=>⟨(bp i k hi hk).1,.inr ⟨i,hi,hk⟩,(bp i k hi hk).2⟩,sy,Mod.refl _ _⟩
 have hFa:fy F w (w.alloc (.map E m.clock)):=λk hk=>U.block k (hF k hk);obtain⟨r1,r2,r3⟩:=Z7;refine⟨F,_,(h0.grow U).push (QE K ag R w.heap.size m) (λk=>k=w.heap.size) ⟨rfl,E,heap_alloc_new w _,r1,λi e x hi hx=>?_,r3⟩ ?_ ?_⟩
 ·obtain⟨cs,q1,q2⟩:=r2 i e x hi hx;exact⟨cs,q1,R.good (λ_ h=>h) hFa q2⟩
 ·rintro k rfl;exact⟨ax,.inl (Nat.le_refl _),λhf=>Nat.lt_irrefl _ (hF _ hf)⟩
 ·rintro i k hi rfl hn;exact Nat.lt_irrefl _ (bp i _ hi hn).1
end
end
end Go.Proofs.YtocfkfhdcnjklaaGreatDoor
