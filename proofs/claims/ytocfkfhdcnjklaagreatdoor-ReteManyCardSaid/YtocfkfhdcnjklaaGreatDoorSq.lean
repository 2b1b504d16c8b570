import Derived.Test.YtocfkfhdcnjklaaGreatDoorShelf
import Derived.Lib.Strings
import Derived.Lib.SlTrimSet
import Derived.Lib.SlKeysI
import Derived.Sort.KeysCollected
import Derived.CallsIn
namespace Go.Proofs.YtocfkfhdcnjklaaGreatDoor
section
open Go Go.RowKit
abbrev R0 (a:Value) (b c:List Fact):Value->List Fact->List Fact->Prop:=λv p q=>v=a/\p=b/\q=c
theorem zs {α:Type} {a b:α} (h:some a=some b):b=a:=(Option.some.inj h).symm
theorem kn {p:Prop} {α β:Type} {m:Option α} {k:α->Option β} {b:β} (h:Qg m k=some b)(next:∀x,m=some x->k x=some b->p):p:=by
 obtain⟨a,h1,U⟩:=Qv h;exact next a h1 U
theorem kg {p c:Prop} [Decidable c] {α:Type} {m:Option α} {b:α} (h:gd c m=some b)(next:c->m=some b->p):p:=(mD h).elim next
theorem ks {p:Prop} {σ O:Type} {X:Option (σ⊕O)} {Y:σ->Option O} {b:O} (h:ji X Y=some b)(next:∀x,X=some x->vH Y x b->p):p:=by
 obtain⟨a,h1,U⟩:=kU h;exact next a h1 U
section
variable {P:Program} {C:Ctx} {n:FD} {Q:Exit->Act->World->Prop} {Φ Φ':List Fact} {H H':List Fact} {S S':List (Nat×Value)} {ops:Array Oper} {rest:List Oper} {o:Oper} {d:Nat} {c x y:Code}
theorem Qs {v v':Value} (h:v=v')(next:WL P C n Q Φ H ((d,v')::S) ops rest):WL P C n Q Φ H ((d,v)::S) ops rest:=by subst h;exact next
theorem QU {o:Operand} {α:Type} {t:Bool} {m1 m2 r:α} (hm:(if t=true then m1 else m2)=r)(U:de S o=some (.bool t))(ht:m1=r->WC P C n Q Φ H S x)(hf:m2=r->WC P C n Q Φ H S y):WC P C n Q Φ H S (.cond o x y):=
 gw U (λh=>ht (ZM hm h)) (λh=>hf (ZL hm h))
theorem a0u {α:Type} {t:Bool} {m1 m2 r:α} (hm:(if t=true then m1 else m2)=r)(ht:t=true->m1=r->WL P C n Q Φ H ((d,.bool true)::S) ops rest)(U:t=false->m2=r->WL P C n Q Φ H ((d,.bool false)::S) ops rest):WL P C n Q Φ H ((d,.bool t)::S) ops rest:=by
 cases t;· exact U rfl (ZL hm rfl)
 · exact ht rfl (ZM hm rfl)
theorem eJ {α:Type} {t:Bool} {m1 m2 r:α} (hm:(if t=true then m1 else m2)=r)(ht:m1=r->WL P C n Q Φ H ((d,.bool true)::S) ops rest)(U:m2=r->WL P C n Q Φ H ((d,.bool false)::S) ops rest):WL P C n Q Φ H ((d,.bool t)::S) ops rest:=a0u hm (λ_=>ht) (λ_=>U)
private theorem p4.{u,v} {α:Type u} {β:Type v} {a U:α} {b b':β} (h:(a,b)=(U,b')):a=U/\b=b':=by cases h;exact⟨rfl,rfl⟩
theorem ay {U:Oper} {d2:Nat} {v v2:Value} (h:((QI ops S o,o.dst,Nat.blt d n,kf d S,zj S o.op),(QI ops ((d,v)::S) U,U.dst,Nat.blt d2 n,kf d2 ((d,v)::S),zj ((d,v)::S) U.op))=((some true,some d,true,true,some v),(some true,some d2,true,true,some v2)))
  (next:WL P C n Q Φ H ((d2,v2)::(d,v)::S) ops rest):WL P C n Q Φ H S ops (o::U::rest):=by
 obtain⟨h1,h2⟩:=p4 h;exact wP h1 (wP h2 next)
theorem ep {U:Oper} {d2:Nat} (h:((QI ops S o,o.dst,Nat.blt d n,kf d S),(QI ops ((d,undef)::S) U,U.dst,Nat.blt d2 n,kf d2 ((d,undef)::S)))=((some false,some d,true,true),(some false,some d2,true,true)))
  (next:WL P C n Q Φ H ((d2,undef)::(d,undef)::S) ops rest):WL P C n Q Φ H S ops (o::U::rest):=by
 obtain⟨h1,h2⟩:=p4 h;exact wO h1 (wO h2 next)
theorem dx {U o3 o4:Oper} {d2 d3 d4:Nat} (h:(((QI ops S o,o.dst,Nat.blt d n,kf d S),(QI ops ((d,undef)::S) U,U.dst,Nat.blt d2 n,kf d2 ((d,undef)::S))),((QI ops ((d2,undef)::(d,undef)::S) o3,o3.dst,Nat.blt d3 n,kf d3 ((d2,undef)::(d,undef)::S)),(QI ops ((d3,undef)::(d2,undef)::(d,undef)::S) o4,o4.dst,Nat.blt d4 n,kf d4 ((d3,undef)::(d2,undef)::(d,undef)::S))))=(((some false,some d,true,true),(some false,some d2,true,true)),((some false,some d3,true,true),(some false,some d4,true,true))))
  (next:WL P C n Q Φ H ((d4,undef)::(d3,undef)::(d2,undef)::(d,undef)::S) ops rest):WL P C n Q Φ H S ops (o::U::o3::o4::rest):=by
 obtain⟨h1,h2⟩:=p4 h;exact ep h1 (ep h2 next)
theorem wM {t b tb sz:Nat} {x:Operand} {g:Bool} {all:List Value} {v:Value} (k j:Nat)(cs:List Value)(h:(QI ops S o,o.dst,Nat.blt d n,kf d S,o.op,H[k]?,de S x,(all.drop j).take sz)=(some true,some d,true,true,.load t x,some (.blk b all tb),some (.pointer (some ⟨b,j,none⟩)),cs))
  (hs:QP P t=some sz) (ha:eY P t=some g) (hv:(cs.length,ku g cs)=(sz,some v)) (next:WL P C n Q Φ H ((d,v)::S) ops rest):WL P C n Q Φ H S ops (o::rest):=by
 obtain⟨h1,h⟩:=p4 h;obtain⟨U,h⟩:=p4 h;obtain⟨h3,h⟩:=p4 h;obtain⟨h4,h⟩:=p4 h;obtain⟨h5,h⟩:=p4 h;obtain⟨h6,h⟩:=p4 h;obtain⟨h7,h8⟩:=p4 h;obtain⟨g1,g2⟩:=p4 hv;exact LY k j h1 U h3 (Q0 h4) h5 h6 h7 h8 hs ha g1 g2 next
def JP {σ β:Type} (b:β)(K:σ->β×List (Nat×Value)×List Fact×List Fact)(C:Ctx)(n:FD):Act->World->Prop:=λa w=>∃s,og (λs=>b=(K s).1) (λs=>(K s).2.1) (λs=>(K s).2.2.1) (λs=>(K s).2.2.2) C n s a w
theorem cut {σ β:Type} (b:β)(K:σ->β×List (Nat×Value)×List Fact×List Fact)(U:WC P C n (Exit.then (JP b K C n) Q) Φ H S x)(hy:∀s,b=(K s).1->WC P C n Q (K s).2.2.1 (K s).2.2.2 (K s).2.1 y):WC P C n (Exit.then (λa w=>y.wp P Q a w) Q) Φ H S x:=
 yF _ _ _ _ U hy
theorem jn {σ β:Type} {b:β} {K:σ->β×List (Nat×Value)×List Fact×List Fact} (s:σ)(h:b=(K s).1)(l l2:List Nat)(U:(gD l S,QO Φ l2,H)=(K s).2):WE C n (Exit.then (JP b K C n) Q) Φ H S .normal:=by
 have h3:gD l S=(K s).2.1:=congrArg (·.1) U;have h4:QO Φ l2=(K s).2.2.1:=congrArg (·.2.1) U;have h5:H=(K s).2.2.2:=congrArg (·.2.2) U;exact kb s h l h3 (bh l2 h4) h5
theorem jM {σ β:Type} {b:β} {K:σ->β×List (Nat×Value)×List Fact×List Fact} (s:σ)(hm:some (K s).1=some b)(l l2:List Nat)(U:(gD l S,QO Φ l2,H)=(K s).2):WE C n (Exit.then (JP b K C n) Q) Φ H S .normal:=jn s (zs hm) l l2 U
def LP {σ U O:Type} (f:U->Option (U⊕O))(b:O)(K:σ->U×List (Nat×Value)×List Fact×List Fact)(m:Nat)(C:Ctx)(n:FD):Act->World->Prop:=λa w=>∃s:Nat×σ,s.1<m+1/\og (λs:Nat×σ=>fk f s.1 (K s.2).1=some b) (λs=>(K s.2).2.1) (λs=>(K s.2).2.2.1) (λs=>(K s.2).2.2.2) C n s a w
theorem vK {σ τ O:Type} (f:τ->Option (τ⊕O)) {N:Nat} {b:O} (K:σ->τ×List (Nat×Value)×List Fact×List Fact)(U:σ)(hm:fk f N (K U).1=some b)(l l2:List Nat)(h2:(gD l S,QO Φ l2,H)=(K U).2)
  (round:∀s m v,f (K s).1=some v->vH (fk f m) v b->WC P C n (Exit.then (LP f b K m C n) Q) (K s).2.2.1 (K s).2.2.2 (K s).2.1 c):WC P C n Q Φ H S (.loop c):=by
 have h3:gD l S=(K U).2.1:=congrArg (·.1) h2;have h4:QO Φ l2=(K U).2.2.1:=congrArg (·.2.1) h2;have h5:H=(K U).2.2.2:=congrArg (·.2.2) h2;refine Sf (σ:=Nat×σ) (λs=>fk f s.1 (K s.2).1=some b) (λs=>s.1) (λs=>(K s.2).2.1) (λs=>(K s.2).2.2.1) (λs=>(K s.2).2.2.2) (N,U) hm l h3 (bh l2 h4) h5 ?_;rintro⟨k,s⟩ hs;obtain⟨m,v,rfl,h6,h7⟩:=GL hs;exact round s m v h6 h7
theorem w6 {σ τ O:Type} {f:τ->Option (τ⊕O)} {b:O} {K:σ->τ×List (Nat×Value)×List Fact×List Fact} {m:Nat} (s:σ)(h:fk f m (K s).1=some b)(l l2:List Nat)(U:(gD l S,QO Φ l2,H)=(K s).2):WE C n (Exit.then (LP f b K m C n) Q) Φ H S .normal:=by
 have h3:gD l S=(K s).2.1:=congrArg (·.1) U;have h4:QO Φ l2=(K s).2.2.1:=congrArg (·.2.1) U;have h5:H=(K s).2.2.2:=congrArg (·.2.2) U;exact MG (μ:=λs:Nat×σ=>s.1) (m,s) (Nat.lt_succ_self _) h l h3 (bh l2 h4) h5
def Aq:Exit->Bool
 | .ret=>true
 | .normal=>true
 |_=>false
theorem tc {e:Exit} (h:Aq e=true):e=.ret\/e=.normal:=by cases e<;>simp_all [Aq]
private theorem p6.{u,v} {α:Type u} {β:Type v} {a U:α} {b b':β} (h:(a,b)=(U,b')):a=U/\b=b':=by cases h;exact⟨rfl,rfl⟩
theorem cr {fn:Func} {m:Nat} {R:Value->List Fact->List Fact->Prop} {v:Value} {U Hr:List Fact} {t:Nat} {e:Exit} (l l2:List Nat)(lk:fn.results=#[.tmp t])(h1:look S t=some v)(hR:R v U Hr)(h:(QO Φ l2,fE l H.length,QO H l,Aq e)=(U,true,Hr,true)):WE C ⟨m,[]⟩ (bodyPost P fn (rR C R)) Φ H S e:=by
 obtain⟨g1,h⟩:=p6 h;obtain⟨g2,h⟩:=p6 h;obtain⟨g3,g4⟩:=p6 h;exact rK l lk (iS h1) hR (bh l2 g1) g2 g3 (tc g4)
theorem AU {fn:Func} {m:Nat} {R:Value->List Fact->List Fact->Prop} {v u:Value} {U Hr:List Fact} {t t':Nat} {e:Exit} (l l2:List Nat)(lk:fn.results=#[.tmp t,.tmp t'])(h1:(look S t,look S t')=(some v,some u))(hR:R (.tuple #[v,u]) U Hr)(h:(QO Φ l2,fE l H.length,QO H l,Aq e)=(U,true,Hr,true)):WE C ⟨m,[]⟩ (bodyPost P fn (rR C R)) Φ H S e:=by
 obtain⟨g1,h⟩:=p6 h;obtain⟨g2,h⟩:=p6 h;obtain⟨g3,g4⟩:=p6 h;obtain⟨g5,g6⟩:=p6 h1;exact ug l lk (iS g5) (iS g6) hR (bh l2 g1) g2 g3 (tc g4)
theorem gQ {fn:Func} {m:Nat} {R:Value->List Fact->List Fact->Prop} {U Hr:List Fact} {e:Exit} (l l2:List Nat)(lk:fn.results=#[])(hR:R (.tuple #[]) U Hr)(h:(QO Φ l2,fE l H.length,QO H l,Aq e)=(U,true,Hr,true)):WE C ⟨m,[]⟩ (bodyPost P fn (rR C R)) Φ H S e:=by
 obtain⟨g1,h⟩:=p6 h;obtain⟨g2,h⟩:=p6 h;obtain⟨g3,g4⟩:=p6 h;exact tC l lk hR (bh l2 g1) g2 g3 (tc g4)
theorem wI {α:Type} {t e sz:Nat} {x i:Operand} {R:eO α} {p:Option Addr} {cp:Nat} {l:List α} {ik:IntKind} {u:α} (k j:Nat)(h:(QI ops S o,o.dst,Nat.blt d n,kf d S,o.op,Φ[k]?,de S x,de S i)=(some true,some d,true,true,.indexAddr t x i,some (.sli sz R p cp l),some (.slice p l.length cp),some (.int ik (j:Int))))(hu:l[j]? =some u)(he:fR P t=some e)(hs:QP P e=some sz)
  (next:∀b q cs,cs.length=sz->WL P C n Q (.cells b q cs::.rep R cs u::Φ) H ((d,.pointer (some ⟨b,q,none⟩))::S) ops rest):WL P C n Q Φ H S ops (o::rest):=by
 obtain⟨h1,h⟩:=p6 h;obtain⟨U,h⟩:=p6 h;obtain⟨h3,h⟩:=p6 h;obtain⟨h4,h⟩:=p6 h;obtain⟨h5,h⟩:=p6 h;obtain⟨h6,h⟩:=p6 h;obtain⟨h7,h8⟩:=p6 h;exact pk k j h1 U h3 (Q0 h4) h5 h6 h7 h8 rfl hu he hs next
theorem tX {t sz b q:Nat} {x:Operand} {g:Bool} {all:List Value} {v:Value} (k j:Nat)(cs:List Value)(h:(QI ops S o,o.dst,Nat.blt d n,kf d S,o.op,Φ[k]?,de S x,(all.drop j).take sz)=(some true,some d,true,true,.load t x,some (.cells b q all),some (.pointer (some ⟨b,q+j,none⟩)),cs))
  (hs:QP P t=some sz) (ha:eY P t=some g) (hv:(cs.length,ku g cs)=(sz,some v)) (next:WL P C n Q Φ H ((d,v)::S) ops rest):WL P C n Q Φ H S ops (o::rest):=by
 obtain⟨h1,h⟩:=p6 h;obtain⟨U,h⟩:=p6 h;obtain⟨h3,h⟩:=p6 h;obtain⟨h4,h⟩:=p6 h;obtain⟨h5,h⟩:=p6 h;obtain⟨h6,h⟩:=p6 h;obtain⟨h7,h8⟩:=p6 h;obtain⟨g1,g2⟩:=p6 hv;exact ON k j h1 U h3 (Q0 h4) h5 h6 h7 h8 hs ha g1 g2 next
theorem nZ (a b:Nat):Value.bool (decide ((a:Int)<(b:Int)))=.bool (decide (a<b)):=ZX
theorem Nle (a b:Nat):Value.bool (decide ((a:Int)<=(b:Int)))=.bool (decide (a<=b)):=ZW
theorem WR (a b:Nat):Value.bool (decide ((a:Int)>(b:Int)))=.bool (decide (b<a)):=ZV
theorem Nge (a b:Nat):Value.bool (decide ((a:Int)>=(b:Int)))=.bool (decide (b<=a)):=ZU
theorem nY (a b:Nat):Value.bool ((a:Int)==(b:Int))=.bool (a==b):=ZT
theorem OS (a b:Nat):Value.bool ((a:Int) !=(b:Int))=.bool (a !=b):=ZY
theorem sq {id:Nat} {l:List Oper} (h:WL P C n (Exit.then (λa w=>y.wp P Q a w) Q) Φ H S l.toArray l):WC P C n Q Φ H S (.seq (.region id l.toArray false) y):=Q6 (Qb h)
theorem nt (h:WC P C n Q Φ H S y):WL P C n (Exit.then (λa w=>y.wp P Q a w) Q) Φ H S ops []:=Q2 (Qw h)
theorem kt (h:WC P C n Q Φ H S y):WC P C n (Exit.then (λa w=>y.wp P Q a w) Q) Φ H S .skip:=QV (Qw h)
theorem nr (h:WE C n Q Φ H S .ret):WL P C n (Exit.then (λa w=>Code.ret.wp P Q a w) Q) Φ H S ops []:=Q2 (Qw (Qk h))
theorem rb {id:Nat} {K:Act->World->Prop} (h:WE C n Q Φ H S .ret):WE C n (Exit.then K (Exit.inBlock id Q)) Φ H S .ret:=Q5 (Qr h)
theorem k0 (h:gD [] S=[])(y:WC P C n Q Φ H [] c):WC P C n Q Φ H S c:=kc _ h y
theorem nk0 (h:gD [] S=[])(x:WC P C n Q Φ H [] y):WL P C n (Exit.then (λa w=>y.wp P Q a w) Q) Φ H S ops []:=nt (kc _ h x)
theorem k1 (a:Nat) {A:Nat×Value} (h:gD [a] S=[A])(y:WC P C n Q Φ H [A] c):WC P C n Q Φ H S c:=kc _ h y
theorem dz (a:Nat) {A:Nat×Value} (h:gD [a] S=[A])(x:WC P C n Q Φ H [A] y):WL P C n (Exit.then (λa w=>y.wp P Q a w) Q) Φ H S ops []:=nt (kc _ h x)
theorem k2 (a b:Nat) {A B:Nat×Value} (h:gD [a,b] S=[A,B])(y:WC P C n Q Φ H [A,B] c):WC P C n Q Φ H S c:=kc _ h y
theorem dp (a b:Nat) {A B:Nat×Value} (h:gD [a,b] S=[A,B])(x:WC P C n Q Φ H [A,B] y):WL P C n (Exit.then (λa w=>y.wp P Q a w) Q) Φ H S ops []:=nt (kc _ h x)
theorem k3 (a b e:Nat) {A B D:Nat×Value} (h:gD [a,b,e] S=[A,B,D])(y:WC P C n Q Φ H [A,B,D] c):WC P C n Q Φ H S c:=kc _ h y
theorem fp (a b e:Nat) {A B D:Nat×Value} (h:gD [a,b,e] S=[A,B,D])(x:WC P C n Q Φ H [A,B,D] y):WL P C n (Exit.then (λa w=>y.wp P Q a w) Q) Φ H S ops []:=nt (kc _ h x)
theorem k4 (a b e f:Nat) {A B D E:Nat×Value} (h:gD [a,b,e,f] S=[A,B,D,E])(y:WC P C n Q Φ H [A,B,D,E] c):WC P C n Q Φ H S c:=kc _ h y
theorem fO (a b e f:Nat) {A B D E:Nat×Value} (h:gD [a,b,e,f] S=[A,B,D,E])(x:WC P C n Q Φ H [A,B,D,E] y):WL P C n (Exit.then (λa w=>y.wp P Q a w) Q) Φ H S ops []:=nt (kc _ h x)
theorem k5 (a b e f g:Nat) {A B D E F:Nat×Value} (h:gD [a,b,e,f,g] S=[A,B,D,E,F])(y:WC P C n Q Φ H [A,B,D,E,F] c):WC P C n Q Φ H S c:=kc _ h y
theorem jx (a b e f g:Nat) {A B D E F:Nat×Value} (h:gD [a,b,e,f,g] S=[A,B,D,E,F])(x:WC P C n Q Φ H [A,B,D,E,F] y):WL P C n (Exit.then (λa w=>y.wp P Q a w) Q) Φ H S ops []:=nt (kc _ h x)
theorem k6 (a b e f g i:Nat) {A B D E F G:Nat×Value} (h:gD [a,b,e,f,g,i] S=[A,B,D,E,F,G])(y:WC P C n Q Φ H [A,B,D,E,F,G] c):WC P C n Q Φ H S c:=kc _ h y
theorem j8 (a b e f g i:Nat) {A B D E F G:Nat×Value} (h:gD [a,b,e,f,g,i] S=[A,B,D,E,F,G])(x:WC P C n Q Φ H [A,B,D,E,F,G] y):WL P C n (Exit.then (λa w=>y.wp P Q a w) Q) Φ H S ops []:=nt (kc _ h x)
theorem k7 (a b e f g i j:Nat) {A B D E F G I:Nat×Value} (h:gD [a,b,e,f,g,i,j] S=[A,B,D,E,F,G,I])(y:WC P C n Q Φ H [A,B,D,E,F,G,I] c):WC P C n Q Φ H S c:=kc _ h y
theorem Ki (a b e f g i j:Nat) {A B D E F G I:Nat×Value} (h:gD [a,b,e,f,g,i,j] S=[A,B,D,E,F,G,I])(x:WC P C n Q Φ H [A,B,D,E,F,G,I] y):WL P C n (Exit.then (λa w=>y.wp P Q a w) Q) Φ H S ops []:=nt (kc _ h x)
theorem k8 (a b e f g i j k:Nat) {A B D E F G I J:Nat×Value} (h:gD [a,b,e,f,g,i,j,k] S=[A,B,D,E,F,G,I,J])(y:WC P C n Q Φ H [A,B,D,E,F,G,I,J] c):WC P C n Q Φ H S c:=kc _ h y
theorem R6 (a b e f g i j k:Nat) {A B D E F G I J:Nat×Value} (h:gD [a,b,e,f,g,i,j,k] S=[A,B,D,E,F,G,I,J])(x:WC P C n Q Φ H [A,B,D,E,F,G,I,J] y):WL P C n (Exit.then (λa w=>y.wp P Q a w) Q) Φ H S ops []:=nt (kc _ h x)
theorem k9 (a b e f g i j k l:Nat) {A B D E F G I J K:Nat×Value} (h:gD [a,b,e,f,g,i,j,k,l] S=[A,B,D,E,F,G,I,J,K])(y:WC P C n Q Φ H [A,B,D,E,F,G,I,J,K] c):WC P C n Q Φ H S c:=kc _ h y
theorem nk9 (a b e f g i j k l:Nat) {A B D E F G I J K:Nat×Value} (h:gD [a,b,e,f,g,i,j,k,l] S=[A,B,D,E,F,G,I,J,K])(x:WC P C n Q Φ H [A,B,D,E,F,G,I,J,K] y):WL P C n (Exit.then (λa w=>y.wp P Q a w) Q) Φ H S ops []:=nt (kc _ h x)
theorem k10 (a b e f g i j k l m:Nat) {A B D E F G I J K L:Nat×Value} (h:gD [a,b,e,f,g,i,j,k,l,m] S=[A,B,D,E,F,G,I,J,K,L])(y:WC P C n Q Φ H [A,B,D,E,F,G,I,J,K,L] c):WC P C n Q Φ H S c:=kc _ h y
theorem a1j (a b e f g i j k l m:Nat) {A B D E F G I J K L:Nat×Value} (h:gD [a,b,e,f,g,i,j,k,l,m] S=[A,B,D,E,F,G,I,J,K,L])(x:WC P C n Q Φ H [A,B,D,E,F,G,I,J,K,L] y):WL P C n (Exit.then (λa w=>y.wp P Q a w) Q) Φ H S ops []:=nt (kc _ h x)
theorem k11 (a b e f g i j k l m p:Nat) {A B D E F G I J K L M:Nat×Value} (h:gD [a,b,e,f,g,i,j,k,l,m,p] S=[A,B,D,E,F,G,I,J,K,L,M])(y:WC P C n Q Φ H [A,B,D,E,F,G,I,J,K,L,M] c):WC P C n Q Φ H S c:=kc _ h y
theorem a01 (a b e f g i j k l m p:Nat) {A B D E F G I J K L M:Nat×Value} (h:gD [a,b,e,f,g,i,j,k,l,m,p] S=[A,B,D,E,F,G,I,J,K,L,M])(x:WC P C n Q Φ H [A,B,D,E,F,G,I,J,K,L,M] y):WL P C n (Exit.then (λa w=>y.wp P Q a w) Q) Φ H S ops []:=nt (kc _ h x)
theorem gM (a b e f g i j k l m p q:Nat) {A B D E F G I J K L M N:Nat×Value} (h:gD [a,b,e,f,g,i,j,k,l,m,p,q] S=[A,B,D,E,F,G,I,J,K,L,M,N])(y:WC P C n Q Φ H [A,B,D,E,F,G,I,J,K,L,M,N] c):WC P C n Q Φ H S c:=kc _ h y
theorem a02 (a b e f g i j k l m p q:Nat) {A B D E F G I J K L M N:Nat×Value} (h:gD [a,b,e,f,g,i,j,k,l,m,p,q] S=[A,B,D,E,F,G,I,J,K,L,M,N])(x:WC P C n Q Φ H [A,B,D,E,F,G,I,J,K,L,M,N] y):WL P C n (Exit.then (λa w=>y.wp P Q a w) Q) Φ H S ops []:=nt (kc _ h x)
theorem a1k (a b e f g i j k l m p q r:Nat) {A B D E F G I J K L M N O:Nat×Value} (h:gD [a,b,e,f,g,i,j,k,l,m,p,q,r] S=[A,B,D,E,F,G,I,J,K,L,M,N,O])(x:WC P C n Q Φ H [A,B,D,E,F,G,I,J,K,L,M,N,O] y):WL P C n (Exit.then (λa w=>y.wp P Q a w) Q) Φ H S ops []:=nt (kc _ h x)
theorem c0 {f:FuncId} {xs:Array Operand} {ts:Array TypeId} {args:List Value} {Φf Hf:List Fact} {X:Prop} {e1:Value} {e2 e3:List Fact} (l m:List Nat)
  (h:(QI ops S o,o.dst,Nat.blt d n,kf d S,o.op,vq S xs.toList)=(some true,some d,true,true,.call {callee:=.value (.func f),args:=xs,argTypes:=ts},some args)) (jq:cz P f=true) (hc:X)
  (spec:X->QB P f args Φf Hf (λv bo Hr=>v=e1/\bo=e2/\Hr=e3)) (l2:List Nat) (H':List Fact) (U:(QO H l,QO Φ l2,fE (l++m) H.length,QO H m)=(Hf,Φf,true,H'))
  (next:WL P C n Q (e2++Φ) (e3++H') ((d,e1)::S) ops rest):WL P C n Q Φ H S ops (o::rest):=by
 obtain⟨g1,U⟩:=p6 U;obtain⟨g2,U⟩:=p6 U;obtain⟨g3,g4⟩:=p6 U;refine wC l m h jq g1 (spec hc) (bh l2 g2) g3 g4 ?_;rintro _ _ _ ⟨rfl,rfl,rfl⟩;exact next
theorem c1 {A0:Type} {f:FuncId} {xs:Array Operand} {ts:Array TypeId} {args:List Value} {Φf Hf:List Fact} {X:Prop} {e1:A0->Value} {e2 e3:A0->List Fact} (l m:List Nat)
  (h:(QI ops S o,o.dst,Nat.blt d n,kf d S,o.op,vq S xs.toList)=(some true,some d,true,true,.call {callee:=.value (.func f),args:=xs,argTypes:=ts},some args)) (jq:cz P f=true) (hc:X)
  (spec:X->QB P f args Φf Hf (λv bo Hr=>∃a0,v=e1 a0/\bo=e2 a0/\Hr=e3 a0)) (l2:List Nat) (H':List Fact) (U:(QO H l,QO Φ l2,fE (l++m) H.length,QO H m)=(Hf,Φf,true,H'))
  (next:∀a0,WL P C n Q (e2 a0++Φ) (e3 a0++H') ((d,e1 a0)::S) ops rest):WL P C n Q Φ H S ops (o::rest):=by
 obtain⟨g1,U⟩:=p6 U;obtain⟨g2,U⟩:=p6 U;obtain⟨g3,g4⟩:=p6 U;refine wC l m h jq g1 (spec hc) (bh l2 g2) g3 g4 ?_;rintro _ _ _ ⟨a0,rfl,rfl,rfl⟩;exact next a0
theorem c4 {A0 A1 A2 A3:Type} {f:FuncId} {xs:Array Operand} {ts:Array TypeId} {args:List Value} {Φf Hf:List Fact} {X:Prop} {e1:A0->A1->A2->A3->Value} {e2 e3:A0->A1->A2->A3->List Fact} (l m:List Nat)
  (h:(QI ops S o,o.dst,Nat.blt d n,kf d S,o.op,vq S xs.toList)=(some true,some d,true,true,.call {callee:=.value (.func f),args:=xs,argTypes:=ts},some args)) (jq:cz P f=true) (hc:X)
  (spec:X->QB P f args Φf Hf (λv bo Hr=>∃a0 U a2 a3,v=e1 a0 U a2 a3/\bo=e2 a0 U a2 a3/\Hr=e3 a0 U a2 a3)) (l2:List Nat) (H':List Fact) (h2:(QO H l,QO Φ l2,fE (l++m) H.length,QO H m)=(Hf,Φf,true,H'))
  (next:∀a0 U a2 a3,WL P C n Q (e2 a0 U a2 a3++Φ) (e3 a0 U a2 a3++H') ((d,e1 a0 U a2 a3)::S) ops rest):WL P C n Q Φ H S ops (o::rest):=by
 obtain⟨g1,h2⟩:=p6 h2;obtain⟨g2,h2⟩:=p6 h2;obtain⟨g3,g4⟩:=p6 h2;refine wC l m h jq g1 (spec hc) (bh l2 g2) g3 g4 ?_;rintro _ _ _ ⟨a0,U,a2,a3,rfl,rfl,rfl⟩;exact next a0 U a2 a3
end
section
variable {P:Program} {C:Ctx} {n:FD} {Q:Exit->Act->World->Prop} {ops:Array Oper} {aq L:List Nat} {D:List (Nat×Fact)} {Φ H:List Fact} {S S':List (Nat×Value)} {d:Nat}
private theorem p7.{u,v} {α:Type u} {β:Type v} {a U:α} {b b':β} (h:(a,b)=(U,b')):a=U/\b=b':=by cases h;exact⟨rfl,rfl⟩
theorem fX {v v':Value} (h:v=v')(next:WX P C n Q ops aq L D Φ H ((d,v')::S)):WX P C n Q ops aq L D Φ H ((d,v)::S):=by subst h;exact next
theorem cu (cn:gT ops aq=true)(i:Nat) {o U:Oper} {d d2:Nat} {v v2:Value} (h:((ops[i]?,o.dst,lT ops aq L i n d o,kf d S,QI ops S o,zj S o.op),(ops[i+1]?,U.dst,lT ops aq (i::L) (i+1) n d2 U,kf d2 ((d,v)::S),QI ops ((d,v)::S) U,zj ((d,v)::S) U.op))=((some o,some d,true,true,some true,some v),(some U,some d2,true,true,some true,some v2)))
  (next:WX P C n Q ops aq ((i+1)::i::L) D Φ H ((d2,v2)::(d,v)::S)):WX P C n Q ops aq L D Φ H S:=by
 obtain⟨h1,h2⟩:=p7 h;exact xP cn i h1 (xP cn (i+1) h2 next)
theorem ei (cn:gT ops aq=true)(i:Nat) {o U:Oper} {d d2:Nat} (h:((ops[i]?,o.dst,lT ops aq L i n d o,kf d S,QI ops S o),(ops[i+1]?,U.dst,lT ops aq (i::L) (i+1) n d2 U,kf d2 ((d,undef)::S),QI ops ((d,undef)::S) U))=((some o,some d,true,true,some false),(some U,some d2,true,true,some false)))
  (next:WX P C n Q ops aq ((i+1)::i::L) D Φ H ((d2,undef)::(d,undef)::S)):WX P C n Q ops aq L D Φ H S:=by
 obtain⟨h1,h2⟩:=p7 h;exact xO cn i h1 (xO cn (i+1) h2 next)
theorem xF (U:gT ops aq=true)(i:Nat) {o:Oper} {d t k off b q:Nat} {x:Operand} (h:(ops[i]?,o.dst,lT ops aq L i n d o,kf d S,QI ops S o,o.op,de S x)=(some o,some d,true,true,some true,.fieldAddr t x k,some (.pointer (some ⟨b,q,none⟩))))(hk:QR P t k=some off)
  (next:WX P C n Q ops aq (i::L) D Φ H ((d,.pointer (some ⟨b,q+off,none⟩))::S)):WX P C n Q ops aq L D Φ H S:=by
 obtain⟨h1,h⟩:=p7 h;obtain⟨h2,h⟩:=p7 h;obtain⟨h3,h⟩:=p7 h;obtain⟨h4,h⟩:=p7 h;obtain⟨h5,h⟩:=p7 h;obtain⟨h6,h7⟩:=p7 h;exact yJ U i h1 h2 h3 (Q0 h4) h5 h6 h7 hk next
theorem xN (U:gT ops aq=true)(i:Nat) {o:Oper} {d t:Nat} {x:Operand} {p:Option Addr} {k c e:Nat} (h:(ops[i]?,o.dst,lT ops aq L i n d o,kf d S,QI ops S o,o.op,de S x)=(some o,some d,true,true,some true,.call {callee:=.builtin .len,args:=#[x],argTypes:=#[t]},some (.slice p k c)))(ht:fR P t=some e)
  (next:WX P C n Q ops aq (i::L) D Φ H ((d,.int .i64 (k:Int))::S)):WX P C n Q ops aq L D Φ H S:=by
 obtain⟨h1,h⟩:=p7 h;obtain⟨h2,h⟩:=p7 h;obtain⟨h3,h⟩:=p7 h;obtain⟨h4,h⟩:=p7 h;obtain⟨h5,h⟩:=p7 h;obtain⟨h6,h7⟩:=p7 h;exact Vq U i h1 h2 h3 (Q0 h4) h5 h6 h7 ht next
theorem xM (cn:gT ops aq=true)(i:Nat) {o:Oper} {d t sz b U:Nat} {x:Operand} {g:Bool} {all:List Value} {v:Value} (k j:Nat)(cs:List Value)(h:(ops[i]?,o.dst,lT ops aq L i n d o,kf d S,QI ops S o,o.op,QO H [k],de S x,(all.drop j).take sz)=(some o,some d,true,true,some true,.load t x,[.blk b all U],some (.pointer (some ⟨b,j,none⟩)),cs))
  (hs:QP P t=some sz) (ha:eY P t=some g) (hv:(cs.length,ku g cs)=(sz,some v))
  (next:WX P C n Q ops aq (i::L) ((i,.blk b all U)::D) Φ H ((d,v)::S)):WX P C n Q ops aq L D Φ H S:=by
 obtain⟨h1,h⟩:=p7 h;obtain⟨h2,h⟩:=p7 h;obtain⟨h3,h⟩:=p7 h;obtain⟨h4,h⟩:=p7 h;obtain⟨h5,h⟩:=p7 h;obtain⟨h6,h⟩:=p7 h;obtain⟨h7,h⟩:=p7 h;obtain⟨h8,h9⟩:=p7 h;obtain⟨g1,g2⟩:=p7 hv;exact BJ cn i k j h1 h2 h3 (Q0 h4) h5 h6 h7 h8 h9 hs ha g1 g2 next
theorem xD (cn:gT ops aq=true)(i:Nat) {o:Oper} {d t b U:Nat} {x:Operand} {g:Bool} {all:List Value} {c v:Value} (k j:Nat)(h:(ops[i]?,o.dst,lT ops aq L i n d o,kf d S,QI ops S o,o.op,QO H [k],de S x,all[j]?)=(some o,some d,true,true,some true,.load t x,[.blk b all U],some (.pointer (some ⟨b,j,none⟩)),some c))
  (hs:QP P t=some 1) (ha:eY P t=some g) (hv:ku g [c]=some v)
  (next:WX P C n Q ops aq (i::L) ((i,.blk b all U)::D) Φ H ((d,v)::S)):WX P C n Q ops aq L D Φ H S:=by
 obtain⟨h1,h⟩:=p7 h;obtain⟨h2,h⟩:=p7 h;obtain⟨h3,h⟩:=p7 h;obtain⟨h4,h⟩:=p7 h;obtain⟨h5,h⟩:=p7 h;obtain⟨h6,h⟩:=p7 h;obtain⟨h7,h⟩:=p7 h;obtain⟨h8,h9⟩:=p7 h;refine BJ cn i k j h1 h2 h3 (Q0 h4) h5 h6 h7 h8 (cs:=[c]) ?_ hs ha rfl hv next
 obtain⟨hj,hc⟩:=List.getElem?_eq_some_iff.1 h9;rw[List.drop_eq_getElem_cons hj,hc];rfl
theorem xL (U:gT ops aq=true)(i:Nat) {o:Oper} {d t sz b q:Nat} {x:Operand} {g:Bool} {all:List Value} {v:Value} (k j:Nat)(cs:List Value)(h:(ops[i]?,o.dst,lT ops aq L i n d o,kf d S,QI ops S o,o.op,Φ[k]?,de S x,(all.drop j).take sz)=(some o,some d,true,true,some true,.load t x,some (.cells b q all),some (.pointer (some ⟨b,q+j,none⟩)),cs))
  (hs:QP P t=some sz) (ha:eY P t=some g) (hv:(cs.length,ku g cs)=(sz,some v))
  (next:WX P C n Q ops aq (i::L) D Φ H ((d,v)::S)):WX P C n Q ops aq L D Φ H S:=by
 obtain⟨h1,h⟩:=p7 h;obtain⟨h2,h⟩:=p7 h;obtain⟨h3,h⟩:=p7 h;obtain⟨h4,h⟩:=p7 h;obtain⟨h5,h⟩:=p7 h;obtain⟨h6,h⟩:=p7 h;obtain⟨h7,h⟩:=p7 h;obtain⟨h8,h9⟩:=p7 h;obtain⟨g1,g2⟩:=p7 hv;exact OP U i k j h1 h2 h3 (Q0 h4) h5 h6 h7 h8 h9 hs ha g1 g2 next
theorem xI {α:Type} (U:gT ops aq=true)(i:Nat) {o:Oper} {d t e sz:Nat} {x y:Operand} {R:eO α} {p:Option Addr} {cp:Nat} {l:List α} {ik:IntKind} {u:α} (k j:Nat)(h:(ops[i]?,o.dst,lT ops aq L i n d o,kf d S,QI ops S o,o.op,Φ[k]?,de S x,de S y)=(some o,some d,true,true,some true,.indexAddr t x y,some (.sli sz R p cp l),some (.slice p l.length cp),some (.int ik (j:Int))))(hu:l[j]? =some u)(he:fR P t=some e)(hs:QP P e=some sz)
  (next:∀b q cs,cs.length=sz->WX P C n Q ops aq (i::L) D (.cells b q cs::.rep R cs u::Φ) H ((d,.pointer (some ⟨b,q,none⟩))::S)):WX P C n Q ops aq L D Φ H S:=by
 obtain⟨h1,h⟩:=p7 h;obtain⟨h2,h⟩:=p7 h;obtain⟨h3,h⟩:=p7 h;obtain⟨h4,h⟩:=p7 h;obtain⟨h5,h⟩:=p7 h;obtain⟨h6,h⟩:=p7 h;obtain⟨h7,h⟩:=p7 h;obtain⟨h8,h9⟩:=p7 h;exact pn U i k j h1 h2 h3 (Q0 h4) h5 h6 h7 h8 h9 rfl hu he hs next
theorem ct {k:Nat} {Φ' H':List Fact} {S':List (Nat×Value)} (i:Nat)(m:List Nat)(h:(Φ'.drop i,QO H' m)=(Φ,vJ ops k D))(next:WX P C n Q ops aq (k::L) D Φ' H' S'):WE C n (QX P C n Q ops aq L D Φ k) Φ' H' S' .normal:=by
 obtain⟨h1,h2⟩:=p7 h;refine fD ((List.range Φ'.length).drop i) m ?_ h2 next
 rw[<-h1];clear next h
 have:∀(l:List Fact) (a:List Fact),QO (a++l) ((List.range (a++l).length).drop a.length)=l:=by
  intro l;induction l with
  |nil=>intro a;rw[List.drop_eq_nil_of_le ax];rfl
  | cons x l ih=>
    intro a
    have e:(List.range (a++x::l).length).drop a.length=a.length::(List.range ((a++[x])++l).length).drop (a++[x]).length:=by
     rw[List.drop_eq_getElem_cons ax];simp
    rw[e];have:=ih (a++[x]);unfold QO at this⊢;rw[List.filterMap_cons];simp only[List.append_assoc,List.singleton_append]at this;rw[show(a++x::l)[a.length]? =some x by simp];simp only[List.append_assoc,List.singleton_append];rw[this]
 rcases Nat.le_total i Φ'.length with hi|hi
 ·have U:=this (Φ'.drop i) (Φ'.take i);rw[List.take_append_drop,List.length_take,Nat.min_eq_left hi]at U;exact U
 · rw[List.drop_eq_nil_of_le (cv hi),List.drop_eq_nil_of_le hi];rfl
end
end
section
open Go Go.RowKit
set_option maxRecDepth 100000
set_option maxHeartbeats 4000000
abbrev KT (st:bu):Value:=.iface (bu.tag st) (.pointer (some ⟨bu.adr st,0,none⟩))
theorem nT {C:Ctx} {n:FD} {Q:Exit->Act->World->Prop} {Φ Φ' H:List Fact} {S:List (Nat×Value)} {e:Exit} (hs:∀φ∈Φ',φ∈Φ)(h:WE C n Q Φ' H S e):WE C n Q Φ H S e:=λa w U hw=>h a w U (hw.sub hs)
theorem jP {P:Program} {f:FuncId} {args:List Value} {Φ H L:List Fact} {u:Value} {Q:Q8->Prop} {X:Q8->List Fact} (h:QB P f args Φ H (λv U Hr=>∃o,Q o/\v=u/\U=L/\Hr=X o)):QB P f args Φ H (λv U Hr=>∃o,Q o/\v=u/\U=[]/\Hr=X o):=by
 intro F N w h1 h2 h3 h4 h5;refine(h F N w h1 h2 h3 h4 h5).mono ?_;rintro e w' ⟨v,U,Hr,rfl,⟨o,q1,q2,rfl,rfl⟩,hh⟩;exact⟨_,_,_,rfl,⟨o,q1,q2,rfl,rfl⟩,hh.sub λ_ h=>by cases h⟩
def tK (K:bu->Q8->WM Q8)(r:Nat)(y:mi):Nat->Q8->WM Q8
 |0,s=>eG s
 |i+1,s=>Qu (gRow s r) λU=>eU (U.stepsP=y.stepsP/\U.steps=y.steps/\U.stepsC=y.stepsC)<|Qu (y.steps[i]?) λst=>eH (K st s) λs'=>tK K r y i s'
def Fh (K:bu->Q8->WM Q8)(a0:Nat)(x:fo):List Nat->Q8->WM Q8
 |[],s=>eG s
 |r::rs,s=>Qu (gNet s a0) λU=>eU (U.rowsP=x.rowsP/\U.rows=x.rows/\U.rowsC=x.rowsC)<|Qu (gRow s r) λy=>eU (y.steps.length<=9223372036854775807)<|eH (tK K r y y.steps.length s) λs'=>Fh K a0 x rs s'
def Ep (K:bu->Q8->WM Q8)(a0:Nat)(s:Q8):WM Q8:=Qu (gNet s a0) λx=>eU (x.rows.length<=9223372036854775806) (Fh K a0 x x.rows s)
theorem CI (v:Value)(h1:v.cells.toList=[v]):QB Tryz.prog 179 [v] [] [] (λu bo Hr=>∃g,u=.func (.func 265) #[] #[.pointer (some ⟨g,0,none⟩)]/\bo=[]/\Hr=[.blk g [v] 110]):=by
 refine Ql Tryz.func179 rfl rfl rfl rfl λC=>?_;refine Q6 ?_;refine Qb ?_;refine u9 rfl rfl rfl (Q0 rfl) rfl rfl h1 (λg=>?_);refine Qt rfl rfl rfl (Q0 rfl) rfl ?_;refine Q2 ?_;refine Qw ?_;refine Q6 ?_;refine Qb ?_;refine wU rfl rfl rfl (Q0 rfl) rfl rfl ?_;refine Qt (S':=[_,_,_]) rfl rfl rfl rfl rfl ?_;refine Q2 ?_;refine Qw ?_;refine Qk ?_;exact rK (Hr:=[_]) [0] Tryz.results179 (iS rfl) ⟨g,rfl,rfl,rfl⟩ (λ_ _ U=>ask [] rfl U) rfl rfl (.inl rfl)
abbrev Ay (g gb tb:Nat) (U:Value) (cs:List Value) (s:Q8):List Fact:=[.blk g [U] 225,.blk gb cs tb,Q3 gg s]
theorem N4 {l fn D g gb tb gk r:Nat} {tmps:Array Value} {assign body:Code} {ps:Array Tmp} {St:Value} {cs:List Value} {Mp:List Fact} {K:bu->Q8->WM Q8} {y:mi} {s:Q8} {Q:Q8->Prop} (NQ:ps.size=2)(hlen:y.steps.length<=9223372036854775807)
  (rs:∀(i:Nat) (st:bu) (s:Q8) (Q':Q8->Prop),K st s Q'->xg Tryz.prog l fn ((ps.zip #[.int .i64 (i:Int),KT st]).foldl (λtmps (t,a)=>tmps.setIfInBounds t a) tmps) assign body Mp (qh l {state:=.ready,pending:=none,fn:=fn,tmps:=tmps,params:=ps,assign:=assign,body:=body,defers:=D}::Ay g gb tb St cs s) (λv bo Hr=>∃s',Q' s'/\v=.bool true/\bo=[]/\Hr=qh l {state:=.ready,pending:=none,fn:=fn,tmps:=tmps,params:=ps,assign:=assign,body:=body,defers:=D}::Ay g gb tb St cs s'))
  (hm:tK K r y y.steps.length s Q):
  QB Tryz.prog 265 [.func (.yield l) #[] #[],.pointer (some ⟨gk,0,none⟩)] Mp (qh l {state:=.ready,pending:=none,fn:=fn,tmps:=tmps,params:=ps,assign:=assign,body:=body,defers:=D}::(Ay g gb tb St cs s++[.blk gk [.slice y.stepsP y.steps.length y.stepsC] 110]))
   (λ_ bo Hr=>∃rr Hx,rr.state≠.busy/\rr.pending=none/\Hr=qh l rr::Hx/\(∃s',Q s'/\bo=[]/\Hx=Ay g gb tb St cs s'++[.blk gk [.slice y.stepsP y.steps.length y.stepsC] 110])):=by
 refine Ql Tryz.func265 rfl rfl rfl rfl λC=>?_;refine Q6 ?_;refine Qb ?_;refine LY 4 0 rfl rfl rfl (Q0 rfl) rfl rfl rfl (cs:=[_]) rfl HE MW rfl rfl ?_;refine E4 rfl rfl rfl (Q0 rfl) rfl rfl HD ?_;refine Qt rfl rfl rfl (Q0 rfl) rfl ?_;refine Qs (i64_in (by unfold inI;omega)) ?_;refine Qt rfl rfl rfl (Q0 rfl) rfl ?_;refine Q2 ?_;refine Qw ?_;refine Qn ?_
 refine Sf (σ:=Nat×Q8) (λ(i,s)=>i<=9223372036854775807/\tK K r y i s Q) (λ(i,_)=>i) (λ(i,_)=>[(3,.int .i64 ((i:Int)-1)),(1,.pointer (some ⟨gk,0,none⟩)),(0,.func (.yield l) #[] #[])]) (λ_=>Mp)
  (λ(_,s)=>qh l {state:=.ready,pending:=none,fn:=fn,tmps:=tmps,params:=ps,assign:=assign,body:=body,defers:=D}::(Ay g gb tb St cs s++[.blk gk [.slice y.stepsP y.steps.length y.stepsC] 110])) (y.steps.length,s) ⟨hlen,hm⟩ [3,1,0] rfl (λ_ _ bj=>bj) rfl (λs_ hm=>?_)
 obtain⟨i,s⟩:=s_;try dsimp only at hm⊢
 obtain⟨hi,hm⟩:=hm;refine Q6 ?_;refine Q6 ?_;refine Qb ?_;refine Qt rfl rfl rfl (Q0 rfl) rfl ?_;refine Qt rfl rfl rfl (Q0 rfl) rfl ?_;refine Q2 ?_;refine Qw ?_;refine gw rfl (λhb=>?_) (λhb=>?_)
 ·rcases i with _|k;· simp at hb
  refine QV ?_;refine Qw ?_;refine kc [3,1,0] (S':=[_,_,_]) rfl ?_;refine a0r 0 (v':=.int .i64 ((k:Nat):Int)) rfl ax ?_;refine Q6 ?_;refine Qn ?_;refine Q6 ?_;refine u6 ?_;refine Pq (P:=Tryz.prog) (l2:=[_,_]) [_,_,_,_,_,_] rfl rfl ?_;refine Qt rfl rfl rfl (Q0 rfl) rfl ?_;refine Qt rfl rfl rfl (Q0 rfl) rfl ?_;refine LY 4 0 rfl rfl rfl (Q0 rfl) rfl rfl rfl (cs:=[_]) rfl HE MW rfl rfl ?_;refine Qt rfl rfl rfl (Q0 rfl) rfl ?_;replace hm:=Ht hm;obtain⟨U,hy,hm⟩:=hm;replace hy:=oC hy;replace hm:=vx hm;obtain⟨HK,hm⟩:=hm;replace hm:=Ht hm;obtain⟨st,bw,hm⟩:=hm;have Zv:U.steps[k]? =some st:=by rw[HK.2.1];exact bw
  refine I8 3 rfl hy rfl (λ_=>[QE Qz false Qf U.wholeA U.whole,.own 213 1 BV (.slice U.stepsP U.steps.length U.stepsC) U.steps,.blk r [.pointer (some ⟨U.net,0,none⟩),.slice U.stepsP U.steps.length U.stepsC,.map (some U.wholeA)] 112,_,_,_,Q3 gg (del s r),_]) (λ_=>rfl) (λ_=>?_);refine nU 1 (v':=.slice U.stepsP U.steps.length U.stepsC) rfl (by rw[HK.1,HK.2.1,HK.2.2]) ?_;refine FV 1 k rfl rfl rfl (Q0 rfl) rfl rfl rfl rfl rfl (kr Zv) HD MY (λge ege=>?_);refine RS ege Qat 1 k 0 rfl rfl rfl (Q0 rfl) rfl rfl rfl Zv MY DR (v:=λ_=>KT st) (λ_=>rfl) (λ_=>rfl) (λ_ _=>?_);refine Wc (gg:=gg) (a:=r) (o:=PO.row U) (x:=U) [0,1,2,3,4,5,6,7] 3 () rfl rfl rfl rfl rfl (λF w bj=>QL) (RR hy) (H':=[_,_,_,Q3 gg s,_]) rfl (λ_=>?_);refine Q2 ?_;refine Ro ?_;refine wy [0,1,2,3] [4] rfl rfl rfl (Q0 rfl) rfl rfl rfl rfl NQ.symm (rs k st s _ (QQ hm)) (λ_ _ bj=>bj) rfl rfl ?_;rintro _ _ _ ⟨s',Z9,rfl,rfl,rfl⟩;refine Pq (P:=Tryz.prog) (l2:=[]) [_] rfl rfl ?_;refine Qt rfl rfl rfl (Q0 rfl) rfl ?_;refine Q2 ?_;refine ph ?_;refine Qw ?_;refine Cx rfl ?_;refine QV ?_;refine Q9 ?_;refine Qw ?_;refine kc [3,1,0] (S':=[_,_,_]) rfl ?_;refine Qb ?_;refine Qt rfl rfl rfl (Q0 rfl) rfl ?_;refine Qt rfl rfl rfl (Q0 rfl) rfl ?_;refine Qs (i64_in (by unfold inI;omega)) ?_;refine Qt (S':=[_,_,_,_]) rfl rfl rfl rfl rfl ?_;refine Q2 ?_;refine MG (k,s') (Nat.lt_succ_self _) ⟨an,Z9⟩ [3,1,0] rfl (λ_ _ bj=>bj) rfl
 ·rcases i with _|k
  ·refine ie ?_;refine Qc ?_;refine Qc ?_;refine Qx ?_;exact tC (Hr:=[_,_,_,_,_]) [0,1,2,3,4] Tryz.results265 ⟨_,_,ax,rfl,rfl,s,hm,rfl,rfl⟩ (λ_ _ bj=>ask [] rfl bj) rfl rfl (.inr rfl)
  · simp at hb
theorem xB {a0 gb tb cf:Nat} {cs:List Value} {Mp:List Fact} {K:bu->Q8->WM Q8} {s:Q8} {Q:Q8->Prop} (Wi:cz Tryz.prog cf=true)
  (hK:∀st s Q',K st s Q'->QB Tryz.prog cf [KT st,.pointer (some ⟨gb,0,none⟩)] Mp [.blk gb cs tb,Q3 gg s] (λv bo Hr=>∃s',Q' s'/\v=.tuple #[]/\bo=[]/\Hr=[.blk gb cs tb,Q3 gg s']))
  (hm:Ep K a0 s Q):QB Tryz.prog 96 [.pointer (some ⟨a0,0,none⟩),.func (.func cf) #[] #[.pointer (some ⟨gb,0,none⟩)]] Mp [.blk gb cs tb,Q3 gg s] (λv bo Hr=>∃s',Q s'/\v=.tuple #[]/\bo=[]/\Hr=[.blk gb cs tb,Q3 gg s']):=by
 refine B8 Tryz.func96 rfl rfl rfl rfl λC=>?_;refine Q6 ?_;refine Qb ?_;refine u9 rfl rfl rfl (Q0 rfl) rfl rfl rfl (λg=>?_);refine Q2 ?_;refine Qw ?_;refine Q6 ?_;refine Qb ?_;refine Qt rfl rfl rfl (Q0 rfl) rfl ?_;refine Qt rfl rfl rfl (Q0 rfl) rfl ?_;refine Qb4 rfl rfl rfl (Q0 rfl) rfl rfl nD ?_;replace hm:=Ht hm;obtain⟨x,hx,hm⟩:=hm;replace hx:=oB hx;replace hm:=vx hm;obtain⟨Wn,hm⟩:=hm;refine I8 3 rfl hx rfl (λr0=>[QE (QZ (Qy fY)).X true j9 x.factsA x.facts,QE (Cz (ze jE)).X false gE x.alphasA x.alphas,.own 108 1 gE (.slice x.rowsP x.rows.length x.rowsC) x.rows,.blk a0 [.slice r0.1 x.types.length r0.2,.slice x.rowsP x.rows.length x.rowsC,.map (some x.alphasA),.map (some x.factsA),.int .i64 (x.parts)] 85,_,_,_,Q3 gg (del s a0)]) (λ_=>rfl) (λr0=>?_);refine LY 3 1 rfl rfl rfl (Q0 rfl) rfl rfl rfl (cs:=[_]) rfl Bq Fq rfl rfl ?_;refine E4 rfl rfl rfl (Q0 rfl) rfl rfl pW ?_;refine Qt rfl rfl rfl (Q0 rfl) rfl ?_;refine Wc (gg:=gg) (a:=a0) (o:=PO.net x) (x:=x) [0,1,2,3,4,5,6,7] 3 r0 rfl rfl rfl rfl rfl (λF w bj=>(pt (bj _ (ic (k:=0) rfl)) QL)) (RR hx) (H':=[_,_,_,Q3 gg s]) rfl (λ_=>?_);refine Q2 ?_;refine nT (Φ':=Mp) (λ_ h=>List.mem_append_right _ h) ?_;refine Qh [1,0,2,3] rfl (H':=[_,_,_,_]) rfl ?_;refine Qw ?_;refine Qn ?_
 refine Lu (σ:=List Nat×List Nat×List Nat×Q8) (λ(_,pre,rs,s)=>x.rows=pre++rs/\Fh K a0 x rs s Q) (λ(_,_,rs,_)=>rs.length) (λ(Ds,_,_,_)=>⟨28,marks Ds⟩)
  (λ(_,pre,_,_)=>[(13,.int .i64 ((pre.length:Nat):Int)),(12,.int .i64 ((x.rows.length:Nat):Int)),(11,.slice x.rowsP x.rows.length x.rowsC),(3,.pointer (some ⟨g,0,none⟩))]) (λ_=>Mp)
  (λ(Ds,_,_,s)=>[rO Ds,.blk g [.func (.func cf) #[] #[.pointer (some ⟨gb,0,none⟩)]] 225,.blk gb cs tb,Q3 gg s]) ([],[],x.rows,s) ⟨rfl,hm⟩ rfl [13,12,11,3] rfl (λ_ _ bj=>bj) rfl (λs_ hm=>?_)
 obtain⟨Ds,pre,rs,s⟩:=s_;try dsimp only at hm⊢
 obtain⟨fy,hm⟩:=hm;refine Q6 ?_;refine Qb ?_;refine Qt rfl rfl rfl (Q0 rfl) rfl ?_;refine Q2 ?_;refine Qw ?_;refine Q6 ?_;refine gw rfl (λhb=>?_) (λhb=>?_)
 ·rcases rs with _|⟨r,rs⟩
  · rw[fy]at hb;simp at hb
  have hr0:x.rows[pre.length]? =some r:=by rw[fy];simp
  replace hm:=Ht hm;obtain⟨U,lY,hm⟩:=hm;replace lY:=oB lY;replace hm:=vx hm;obtain⟨HK,hm⟩:=hm;have hr1:U.rows[pre.length]? =some r:=by rw[HK.2.1];exact hr0
  refine QV ?_;refine Qw ?_;refine kc [13,12,11,3] (S':=[_,_,_,_]) rfl ?_;refine Q6 ?_;refine Qn ?_;refine Q6 ?_;refine Qb ?_;refine I8 3 rfl lY rfl (λr0=>[QE (QZ (Qy fY)).X true j9 U.factsA U.facts,QE (Cz (ze jE)).X false gE U.alphasA U.alphas,.own 108 1 gE (.slice U.rowsP U.rows.length U.rowsC) U.rows,.blk a0 [.slice r0.1 U.types.length r0.2,.slice U.rowsP U.rows.length U.rowsC,.map (some U.alphasA),.map (some U.factsA),.int .i64 (U.parts)] 85,_,_,_,Q3 gg (del s a0)]) (λ_=>rfl) (λr0=>?_);refine nU 2 (v':=.slice U.rowsP U.rows.length U.rowsC) rfl (by rw[HK.1,HK.2.1,HK.2.2]) ?_;refine FV 2 pre.length rfl rfl rfl (Q0 rfl) rfl rfl rfl rfl rfl (kr hr1) pW zk (λge ege=>?_);refine nU 3 (v':=.slice x.rowsP x.rows.length x.rowsC) rfl (by rw[HK.1,HK.2.1,HK.2.2]) ?_;refine RS ege P7 2 pre.length 0 rfl rfl rfl (Q0 rfl) rfl rfl rfl hr1 zk G2 (v:=λ_=>.pointer (some ⟨r,0,none⟩)) (λ_=>rfl) (λ_=>rfl) (λ_ _=>?_);refine Qt rfl rfl rfl (Q0 rfl) rfl ?_;refine Wc (gg:=gg) (a:=a0) (o:=PO.net U) (x:=U) [0,1,2,3,4,5,6,7] 3 r0 rfl rfl rfl rfl rfl (λF w bj=>(pt (bj _ (ic (k:=0) rfl)) QL)) (RR lY) (H':=[_,_,_,Q3 gg s]) rfl (λ_=>?_);refine Q2 ?_;refine nT (Φ':=Mp) (λ_ h=>List.mem_append_right _ (List.mem_append_right _ h)) ?_;refine Qw ?_;refine kc [5,13,12,11,3] (S':=[_,_,_,_,_]) rfl ?_;refine Q6 ?_;refine Qb ?_;refine Qt rfl rfl rfl (Q0 rfl) rfl ?_;refine Qt rfl rfl rfl (Q0 rfl) rfl ?_;refine Qb4 rfl rfl rfl (Q0 rfl) rfl rfl LV ?_;replace hm:=Ht hm;obtain⟨y,hy,hm⟩:=hm;replace hy:=oC hy;replace hm:=vx hm;obtain⟨hsl,hm⟩:=hm;refine I8 3 rfl hy rfl (λ_=>[QE Qz false Qf y.wholeA y.whole,.own 213 1 BV (.slice y.stepsP y.steps.length y.stepsC) y.steps,.blk r [.pointer (some ⟨y.net,0,none⟩),.slice y.stepsP y.steps.length y.stepsC,.map (some y.wholeA)] 112,_,_,_,Q3 gg (del s r)]) (λ_=>rfl) (λ_=>?_);refine LY 2 1 rfl rfl rfl (Q0 rfl) rfl rfl rfl (cs:=[_]) rfl HE MW rfl rfl ?_;refine Wc (gg:=gg) (a:=r) (o:=PO.row y) (x:=y) [0,1,2,3,4,5,6] 3 () rfl rfl rfl rfl rfl (λF w bj=>QL) (RR hy) (H':=[_,_,_,Q3 gg s]) rfl (λ_=>?_);refine yI [] [0,1,2,3] rfl rfl rfl (Q0 rfl) rfl rfl au rfl (CI _ rfl) (λ_ _ bj=>ask [] rfl bj) rfl (H':=[_,_,_,_]) rfl ?_;rintro _ _ _ ⟨gk,rfl,rfl,rfl⟩;refine Q2 ?_;refine Qw ?_;refine kc [21,13,12,11,3] (S':=[_,_,_,_,_]) rfl ?_;refine Qn ?_;refine BB (Φf:=Mp) (H':=[rO Ds]) [0,4,5,6,2] [1,3] rfl au (λ_ _=>rfl) (λ_ _ bj=>bj) rfl (λ_ _=>rfl) (λfn l D a hf=>N4 (K:=K) rfl hsl (λi st s Q' hk=>?_) (QQ hm)) (λD bo Hx hR=>?_)
  ·refine B3 (Jr hf rfl rfl rfl rfl) λC=>?_;refine Qb2 ?_;refine Pq (P:=Tryz.prog) (l2:=[]) [_] rfl rfl ?_;refine Qt rfl rfl rfl (Q0 rfl) rfl ?_;refine Q2 ?_;refine ph ?_;refine BC 0 rfl rfl rfl ?_;refine wu ?_;refine Qb2 ?_;refine Pq (P:=Tryz.prog) (l2:=[]) [_,_,_] rfl rfl ?_;refine LY 1 0 rfl rfl rfl (Q0 rfl) rfl rfl rfl (cs:=[_]) rfl UY UJ rfl rfl ?_;refine Qt rfl rfl rfl (Q0 rfl) rfl ?_;refine px [2,3] [0,1] rfl rfl rfl (Q0 rfl) rfl rfl rfl Wi rfl rfl (hK st s Q' hk) (λ_ _ bj=>bj) rfl (H':=[_,_]) rfl ?_;rintro _ _ _ ⟨s',Z9,rfl,rfl,rfl⟩;refine Q2 ?_;refine ph ?_;refine Q9 ?_;refine nT (Φ':=[]) (λ_ h=>by cases h) ?_;refine Qh [2,3,0,1] rfl (H':=[_,_,_,_]) rfl ?_;exact pZ 0 rfl rfl ⟨s',Z9,rfl,rfl,rfl⟩
  ·obtain⟨s',Z9,rfl,rfl⟩:=hR;refine FJ (Ds:=Ds) (Es:=[D]) 5 4 rfl rfl rfl rfl ?_;refine Q9 ?_;refine Q9 ?_;refine Qw ?_;refine Qb ?_;refine Qt rfl rfl rfl (Q0 rfl) rfl ?_;refine Qs (i64_in (by unfold inI;have:=(List.getElem?_eq_some_iff.1 hr0).1;omega)) ?_;refine Qt (S':=[_,_,_,_,_]) rfl rfl rfl rfl rfl ?_;refine Q2 ?_;refine Qh [4,0,1,2] rfl (H':=[rO (D::Ds),_,_,_]) rfl ?_;refine a0t 0 (v':=.int .i64 (((pre++[r]).length:Nat):Int)) rfl ax ?_;exact Hd (D::Ds,pre++[r],rs,s') (Nat.lt_succ_self _) ⟨by rw[fy];simp,Z9⟩ rfl [13,12,11,3] rfl (λ_ _ bj=>bj) rfl
 ·rcases rs with _|⟨r,rs⟩
  ·refine ie ?_;refine Qc ?_;refine Qc ?_;refine Qx ?_;refine Qh [0,2,3] rfl (H':=[rO Ds,_,_]) rfl ?_;refine nT (Φ':=[]) (λ_ h=>by cases h) ?_;exact BE (Ds:=Ds) (.inl rfl) rfl rfl (AY Tryz.results96) ⟨s,hm,rfl,rfl,rfl⟩
  · rw[fy]at hb;simp at hb;omega
end
section
open Go Go.RowKit
def ki (m:Option Bool)(p:Prop):Prop:=∃b,m=some b/\(b=true↔p)
theorem ki.id {m:Option Bool} {p:Prop} (h:ki m p):ki (Qg m λv=>some v) p:=by
 obtain⟨b,h1,U⟩:=h;rw[h1];exact⟨b,rfl,U⟩
theorem ki.iff {m:Option Bool} {p q:Prop} (h:ki m p)(e:p↔q):ki m q:=by
 obtain⟨b,h1,U⟩:=h;exact⟨b,h1,U.trans e⟩
end
section
open Go Go.RowKit
def num (x:Int):V:=⟨1,x,⟨#[]⟩⟩
theorem a1l:¬((!true)=true):=λh=>by cases h
theorem Us:¬(false=true):=λh=>by cases h
theorem GV (N:Nat)(x:Int):yL N 1 x (⟨#[]⟩:ByteArray)=some true:=by
 unfold yL;rw[if_pos (show((1:Int)==1)=true from rfl)];simp
theorem Nc {N:Nat} (hN:9223372036854775808<=N) {l:List V} (hl:∀v∈l,∃x,v=num x)(h2:l.length<=2):fk (BN N l) N (0,false)=some (.inl false):=by
 obtain ⟨o,h1,h3⟩:=mQ (f:=BN N l) (λs=>s.1<=l.length/\s.2=false) (λs=>l.length-s.1) (λo=>o=.inl false) (λs hs=>by
  obtain⟨i,b⟩:=s;obtain⟨hi,U⟩:=hs;simp only at hi U;subst U;unfold BN;simp only;by_cases bq:i<l.length
  ·left;have hx:=List.getElem?_eq_getElem bq;obtain⟨x,GI⟩:=hl _ (List.getElem_mem bq);rw[GI]at hx;refine⟨(i+1,false),?_,⟨by simp only;omega,rfl⟩,by simp only;omega⟩
   have hc:P4 N l i false=some (.inl false):=by
    unfold P4;rw[hx,Q1];simp only[num];rw[GV,Q1,if_neg a1l,if_neg Us];rfl
   rw[br bq,hc,ud,QM an]
  ·right;exact⟨_,by rw[bs bq],rfl⟩) N (0,false) ⟨ax,rfl⟩ (by simp only;omega)
 rw[h1,h3]
def vo (r:Int×Bool):Nat×Int×Nat:=if r.2=true then(1,r.1,0)else(0,0,300)
theorem ou {N:Nat} {op x y:Int} (hN:9223372036854775808<=N)(h0:1<=op)(h1:op<=10)(h4:op≠4)(h5:op≠5)(h6:op≠6) {r:Int×Bool} (h:QG N op (num x) (num y)=some r):BR N op [num x,num y]=some (vo r):=by
 have hc:VP N op=some 2:=by
  unfold VP;rw[bs h4,Q1,if_neg (by simp;omega)]
 unfold BR;rw[hc,Q1,if_neg (by simp;omega),if_neg (by simp;omega),Q1,if_neg ax,Nc hN (λv U=>by simp at U;first|(rcases U with rfl|rfl<;>exact⟨_,rfl⟩)|(subst U;exact⟨_,rfl⟩)) ax,ud];simp only[List.getElem?_cons_zero,Q1];rw[QM an,QM an];rw[show[num x,num y][(((2:Nat):Int)-1).toNat]? =some (num y)from rfl,Q1,bs h5,bs h6,if_neg Us,h,Q1];obtain⟨n,b⟩:=r;cases b<;>rfl
def dm (x:Int):Prop:=-9223372036854775808<=x/\x<=9223372036854775807
instance (x:Int):Decidable (dm x):=inferInstanceAs (Decidable (_/\_))
theorem sv {x n:Int} {b:Bool} (h:b=decide (dm x))(hn:dm x->n=x):vo (n,b)=if dm x then(1,x,0)else(0,0,300):=by
 subst h;unfold vo;by_cases U:dm x;· rw[br U,if_pos U,hn U]
 · rw[bs U,if_neg U]
theorem Sz {N:Nat} {x y:Int} (U:9223372036854775808<=N)(hx:dm x)(hy:dm y):BR N 1 [num x,num y]=some (if dm (x+y)then(1,x+y,0)else(0,0,300)):=by
 have h:QG N 1 (num x) (num y)=some (IntKind.wrap .i64 (x+y),(decide (IntKind.wrap .i64 (x+y)<x))==(decide (y<0))):=by
  unfold QG;rfl
 rw[ou U an an an an an h,sv]
 ·rw[IntKind.wrap_i64,Bool.eq_iff_iff];simp only[beq_iff_eq,decide_eq_decide,decide_eq_true_eq];unfold dm at*;omega
 · intro h;exact IntWalk.i64_in _ h
theorem SC {N:Nat} {x y:Int} (U:9223372036854775808<=N)(hx:dm x)(hy:dm y):BR N 2 [num x,num y]=some (if dm (x-y)then(1,x-y,0)else(0,0,300)):=by
 have h:QG N 2 (num x) (num y)=some (IntKind.wrap .i64 (x-y),(decide (IntKind.wrap .i64 (x-y)>x))==(decide (y<0))):=by
  unfold QG;rfl
 rw[ou U an an an an an h,sv]
 ·rw[IntKind.wrap_i64,Bool.eq_iff_iff];simp only[beq_iff_eq,decide_eq_decide,decide_eq_true_eq];unfold dm at*;omega
 · intro h;exact IntWalk.i64_in _ h
theorem MP (N:Nat)(b:Bool):RQ N b=some (if b=true then 1 else 0):=by cases b<;>rfl
theorem Et {x:Int} (U:dm x):(if(decide (x<0))=true then some (IntKind.wrap .u64 (0-(IntKind.wrap .u64 x)))else some (IntKind.wrap .u64 x))=some ((x.natAbs:Nat):Int):=by
 unfold dm at U;rw[IntKind.wrap_u64,IntKind.wrap_u64];by_cases h:x<0;· rw[br h];congr 1;omega
 · rw[bs h];congr 1;omega
theorem GS {x y:Int}:x*y=if(decide (x<0) !=decide (y<0))=true then-((x.natAbs*y.natAbs:Nat):Int)else((x.natAbs*y.natAbs:Nat):Int):=by
 rw[<-Int.natAbs_mul];rcases Int.lt_or_le x 0 with U|U<;>rcases Int.lt_or_le y 0 with hy|hy
 ·rw[if_neg (by simp[U,hy])];have:=Int.mul_pos_of_neg_of_neg U hy;omega
 ·rw[if_pos (by simp[U,hy])];have:=Int.mul_nonpos_of_nonpos_of_nonneg (Int.le_of_lt U) hy;omega
 ·rw[if_pos (by simp[U,hy])];have:=Int.mul_nonpos_of_nonneg_of_nonpos U (Int.le_of_lt hy);omega
 ·rw[if_neg (by simp;omega)];have:=Int.mul_nonneg U hy;omega
theorem tw {N:Nat} {x y:Int} (U:dm x)(hy:dm y):∃n,RM N x y=some (n,decide (dm (x*y)))/\(dm (x*y)->n=x*y):=by
 have hA:x.natAbs<=9223372036854775808:=by unfold dm at U;omega
 have hB:y.natAbs<=9223372036854775808:=by unfold dm at hy;omega
 unfold RM;rw[Et U,Q1,Et hy,Q1,QM an,QM an,GS];simp only[Int.toNat_natCast];by_cases hs:(decide (x<0) !=decide (y<0))=true
 ·rw [if_pos hs,if_pos hs];by_cases hh:x.natAbs*y.natAbs/18446744073709551616=0
  ·rw[if_pos (by simp;omega)];refine⟨_,congrArg some (congrArg (Prod.mk _) ?_),λh=>?_⟩;· simp only[decide_eq_decide];unfold dm;omega
   · unfold dm at h;rw[IntKind.wrap_u64,IntKind.wrap_i64];omega
  ·rw[if_neg (by simp;omega)];refine⟨_,congrArg some (congrArg (Prod.mk _) ?_),λh=>?_⟩;· simp only[Bool.false_eq,decide_eq_false_iff_not];unfold dm;omega
   · unfold dm at h;omega
 ·rw [if_neg hs,if_neg hs];by_cases hh:x.natAbs*y.natAbs/18446744073709551616=0
  ·rw[if_pos (by simp;omega)];refine⟨_,congrArg some (congrArg (Prod.mk _) ?_),λh=>?_⟩;· simp only[decide_eq_decide];unfold dm;omega
   · unfold dm at h;rw[IntKind.wrap_i64];omega
  ·rw[if_neg (by simp;omega)];refine⟨_,congrArg some (congrArg (Prod.mk _) ?_),λh=>?_⟩;· simp only[Bool.false_eq,decide_eq_false_iff_not];unfold dm;omega
   · unfold dm at h;omega
theorem SA {N:Nat} {x y:Int} (hN:9223372036854775808<=N)(hx:dm x)(hy:dm y):BR N 3 [num x,num y]=some (if dm (x*y)then(1,x*y,0)else(0,0,300)):=by
 obtain⟨n,h1,U⟩:=tw (N:=N) hx hy
 have h:QG N 3 (num x) (num y)=some (n,decide (dm (x*y))):=by
  unfold QG;simp only[num,h1,Q1];rfl
 rw[ou hN an an an an an h,sv rfl U]
end
section
open Go Go.RowKit
theorem Y9 (s:ByteArray)(i:Nat):s[i]? =s.data.toList[i]?:=by
 by_cases h:i<s.size
 ·rw[getElem?_pos s i h];have U:i<s.data.toList.length:=by simpa using h
  rw[List.getElem?_eq_getElem U];rfl
 ·rw[getElem?_neg s i h];rw[List.getElem?_eq_none (cv h)]
theorem btl (s:ByteArray):s.toList=s.data.toList:=ByteArray.toList_eq s
def uM (b:UInt8):Prop:=97<=b.toNat/\b.toNat<=122
def DA (b:UInt8):Prop:=uM b\/(48<=b.toNat/\b.toNat<=57)\/b.toNat=95
def N3 (l:List UInt8):Prop:=0<l.length/\l.length<=24/\(∀b,l[0]? =some b->uM b)/\∀b∈l,DA b
theorem F5 (c:UInt8):c∈[97,98,99,100,101,102,103,104,105,106,107,108,109,110,111,112,113,114,115,116,117,118,119,120,121,(122:UInt8)]↔uM c:=by
 unfold uM;simp[<-UInt8.toNat_inj];omega
theorem O8 (c:UInt8):c∈[97,98,99,100,101,102,103,104,105,106,107,108,109,110,111,112,113,114,115,116,117,118,119,120,121,122,48,49,50,51,52,53,54,55,56,57,(95:UInt8)]↔DA c:=by
 unfold DA uM;simp[<-UInt8.toNat_inj];omega
theorem oH:∀(l:List UInt8)(c:UInt8),0<=Lib.indexByte l c↔c∈l
 |[],c=>by simp[Lib.indexByte]
 | b::l,c=>by
   unfold Lib.indexByte;have ih:=oH l c;have hg:=Lib.indexByte_ge l c;by_cases h:b=c;· subst h;simp
   ·rw[bs h];have U:c≠b:=λe=>h e.symm
    simp only[List.mem_cons,U,false_or,<-ih,beq_iff_eq];split<;>omega
theorem CS (p:UInt8->Bool):∀l:List UInt8,l.dropWhile p=[]↔∀b∈l,p b=true
 |[]=>ax
 | a::l=>by
   rw[List.dropWhile_cons];by_cases h:p a=true;· rw[if_pos h,CS p l];simp[h]
   · rw[if_neg h];simp[h]
theorem bsize (s:ByteArray):s.size=s.data.toList.length:=Array.length_toList.symm
theorem Lr (l cs:List UInt8):Lib.trimS l cs=[]↔∀b∈l,b∈cs:=by
 unfold Lib.trimS Lib.trimLeftS Lib.trimRightS;rw[CS];constructor
 ·intro h;cases hd:l.reverse.dropWhile (cs.contains ·)with
  | nil=>
    rw[CS]at hd;intro b U;have:=hd b (List.mem_reverse.2 U);simpa using this
  | cons x t=>
    have h1:=List.head?_dropWhile_not (cs.contains ·) l.reverse;rw[hd]at h1 h;have h2:=h x ax;simp only[List.head?_cons]at h1;rw[h2]at h1;simp at h1
 ·intro h b U
  have h1:b∈l:=by
    have:=List.mem_reverse.1 U;exact List.mem_reverse.1 ((List.dropWhile_sublist _).subset this)
  simpa using h b h1
theorem OJ (x:UInt8):(((x.toNat:Nat):Int)).toNat.toUInt8=x:=by
 rw[Int.toNat_natCast];exact UInt8.ofNat_toNat
theorem wm (N:Nat)(s:ByteArray):ki (Xv N s) (N3 s.data.toList):=by
 have hs:s.size=s.data.toList.length:=bsize s;unfold Xv;refine ki.id ?_;unfold Q80;simp only[btl,hs,Y9];generalize s.data.toList=l;cases l with
 |nil=>exact⟨false,by rw[if_neg ax],by simp[N3]⟩
 | cons c l=>
   rw[if_pos ax];by_cases U:(c::l).length<=24
   ·rw [br U];simp only[List.getElem?_cons_zero,Q1,OJ];by_cases hi:0<=Lib.indexByte [97,98,99,100,101,102,103,104,105,106,107,108,109,110,111,112,113,114,115,116,117,118,119,120,121,122] c
    ·rw[br hi,QM an];refine⟨_,rfl,?_⟩;simp only[beq_iff_eq,Lr,O8];rw[oH,F5]at hi;unfold N3;constructor;· intro h;exact⟨ax,U,λb hb=>by cases hb;exact hi,h⟩
     · intro h;exact h.2.2.2
    ·rw[bs hi];refine⟨false,rfl,?_⟩;rw[oH,F5]at hi;constructor;· intro h;cases h
     · intro h;exact absurd (h.2.2.1 c rfl) hi
   ·rw[bs U]
    exact ⟨false,rfl,by constructor;· intro h;cases h
                        · intro h;exact absurd h.2.1 U⟩
theorem GY {N:Nat} {s:ByteArray} (hN:9223372036854775808<=N)(jd:s.size<=9223372036854775807):ki (Q5G N s) (N3 s.data.toList):=by
 have hs:s.size=s.data.toList.length:=bsize s
 obtain ⟨o, h1,h2⟩:=mQ (f:=Q4T N s) (λi=>i<=s.size/\(∀b∈s.data.toList.take i,DA b)/\(0<i->∀b,s.data.toList[0]? =some b->uM b)) (λi=>s.size-i)
  (fun o=>(o=.inl ()/\(∀b∈s.data.toList,DA b)/\(0<s.size->∀b,s.data.toList[0]? =some b->uM b))\/(o=.inr false/\¬N3 s.data.toList)) (λi hi=>by
   obtain⟨hi,ha,hb⟩:=hi;unfold Q4T;by_cases bq:i<s.size
   ·have Z8:i<s.data.toList.length:=an
    have hx:=List.getElem?_eq_getElem Z8;rw[br bq,Y9,hx,Q1];generalize hc:s.data.toList[i]=c at hx;have A8:=List.mem_of_getElem? hx;rw[show(if(decide (97<=c.toNat))=true then some (decide (c.toNat<=122))else some false)=some (decide (97<=c.toNat/\c.toNat<=122)) by
         by_cases q:97<=c.toNat
         · rw[br q];simp[q]
         · rw[bs q];simp[q],Q1]
    have hC:Q4S N (decide (97<=c.toNat/\c.toNat<=122)) i c=some (decide (¬(97<=c.toNat/\c.toNat<=122)/\(i=0\/¬((48<=c.toNat/\c.toNat<=57)\/c.toNat=95)))):=by
         unfold Q4S;by_cases q:97<=c.toNat/\c.toNat<=122;· rw[if_neg (by simp[q])];simp[q]
         ·rw [if_pos (show(!decide (97<=c.toNat/\c.toNat<=122))=true by rw[decide_eq_false q];rfl)];by_cases q0:i=0;· rw[br q0];simp[q,q0]
          ·rw [bs q0];by_cases q1:48<=c.toNat
           ·rw[br q1];by_cases q2:c.toNat<=57;· rw[br q2];simp[q0,q1,q2]
            ·rw[bs q2];congr 1;rw[Bool.eq_iff_iff];simp only[Bool.not_eq_true',beq_eq_false_iff_ne,ne_eq,decide_eq_true_eq];omega
           ·rw[bs q1];congr 1;rw[Bool.eq_iff_iff];simp only[Bool.not_eq_true',beq_eq_false_iff_ne,ne_eq,decide_eq_true_eq];omega
    rw[hC,Q1];by_cases iM:¬(97<=c.toNat/\c.toNat<=122)/\(i=0\/¬((48<=c.toNat/\c.toNat<=57)\/c.toNat=95))
    ·    right;refine⟨_,by rw[if_pos (by rw[decide_eq_true_eq];exact iM)],.inr ⟨rfl,λhn=>?_⟩⟩;obtain⟨_,_,n1,n2⟩:=hn;rcases iM.2 with h0|h0;· subst h0;exact iM.1 (n1 c hx)
         ·rcases n2 c A8 with q|q|q;· exact iM.1 q
          · exact h0 (.inl q)
          · exact h0 (.inr q)
    ·    left;refine⟨i+1,by rw[if_neg (by rw[decide_eq_true_eq];exact iM),QM an],⟨an,λb U=>?_,λ_ b U=>?_⟩,an⟩
         ·rw[List.take_add_one,hx]at U;rcases List.mem_append.1 U with U|U;· exact ha b U
          ·simp at U;subst U;unfold DA uM;omega
         ·by_cases h0:i=0
          ·subst h0;rw[hx]at U;cases U;unfold uM;omega
          · exact hb an b U
   ·right;have e:i=s.size:=an
    subst e;rw[hs,List.take_length]at ha;exact⟨_,by rw[if_neg ax],.inl ⟨rfl,ha,hb⟩⟩) N 0 ⟨an,ax,an⟩ an
 unfold Q5G;rw[h1];rcases h2 with⟨rfl,h2,h3⟩|⟨rfl,h2⟩
 ·rw [ud];by_cases q:1<=s.size
  ·rw[br q];refine⟨_,rfl,?_⟩;simp only[decide_eq_true_eq];unfold N3;constructor;· intro h;exact⟨an,an,h3 an,h2⟩
   · intro h;omega
  ·rw[bs q];refine⟨false,rfl,?_⟩;constructor;· intro h;cases h
   · intro h;have:=h.1;omega
 · exact ⟨false,rfl,by constructor;· intro h;cases h
                       · intro h;exact absurd h h2⟩
theorem Ou {m m':Option Bool} {p:Prop} (h:ki m p)(h':ki m' p):m=m':=by
 obtain⟨b,h1,U⟩:=h;obtain⟨b',h3,h4⟩:=h';rw[h1,h3];congr 1;rw[Bool.eq_iff_iff,U,h4]
def HA (v:V):Prop:=(v.k=1/\v.s.data.toList=[])\/(v.k=2/\v.n=0/\N3 v.s.data.toList)
theorem nh (N:Nat)(v:V):ki (yL N v.k v.n v.s) (HA v):=by
 unfold yL HA;by_cases h:v.k=1
 ·rw [br h];refine⟨_,rfl,?_⟩;simp only[btl,beq_iff_eq];constructor;· intro q;exact .inl ⟨h,q⟩
  ·rintro(q|q);· exact q.2
   · omega
 ·rw [bs h];by_cases U:v.k=2
  ·rw [br U];by_cases h3:v.n=0
   ·rw [br h3];refine ki.iff (ki.id (wm N v.s)) ?_;constructor;· intro q;exact .inr ⟨U,h3,q⟩
    ·rintro(q|q);· omega
     · exact q.2.2
   ·rw[bs h3];refine⟨false,rfl,?_⟩;constructor;· intro q;cases q
    · rintro(q|q)<;>omega
  ·rw[bs U];refine⟨false,rfl,?_⟩;constructor;· intro q;cases q
   · rintro(q|q)<;>omega
end
section
open Go Go.RowKit
theorem lD {N:Nat} {s:ByteArray} (a b:Int)(U:9223372036854775808<=N)(jd:s.size<=9223372036854775807):yL N a b s=X5 N a b s:=by
 unfold yL X5;rw[Ou (wm N s) (GY U jd)]
theorem RX (N:Nat)(b:Bool):Mu N b=some (if b=true then 1 else 0):=by cases b<;>rfl
theorem Fi {N:Nat} {x y:Int} (U:dm x)(hy:dm y):∃n,Q4Y N x y=some (n,decide (dm (x+y)))/\(dm (x+y)->n=x+y):=by
 unfold dm at U hy
 have hC:Q5k N y x=some (decide (¬dm (x+y))):=by
  unfold Q5k;by_cases h1:y>0
  ·rw [br h1,QM an];by_cases h2:x>9223372036854775807-y
   ·rw[br h2];congr 1;have:¬dm (x+y):=by unfold dm;omega
    simp[this]
   ·rw[bs h2,if_neg (by simp;omega)];congr 1;have:dm (x+y):=by unfold dm;omega
    simp[this]
  ·rw [bs h1];by_cases h2:y<0
   ·rw[br h2,QM an];congr 1;rw[Bool.eq_iff_iff];simp only[decide_eq_true_eq];unfold dm;omega
   ·rw[bs h2];congr 1;have:dm (x+y):=by unfold dm;omega
    simp[this]
 unfold Q4Y;rw[hC,Q1];by_cases h:dm (x+y)
 ·rw[bs h];have h':=h;unfold dm at h';rw[QM h'];exact⟨x+y,by simp[h],λ_=>rfl⟩
 ·rw[br h];exact⟨0,by simp[h],λq=>absurd q h⟩
theorem Kx {a b:Int} (ha:dm a)(hb:dm b)(h0:b≠0)(h1:b≠-1):((IntKind.wrap .i64 (Int.tdiv (IntKind.wrap .i64 (a*b)) b))==a)=decide (dm (a*b)):=by
 unfold dm at ha hb;by_cases h:dm (a*b)
 ·have e1:IntKind.wrap .i64 (a*b)=a*b:=IntWalk.i64_in _ h;have e2:Int.tdiv (a*b) b=a:=Int.mul_tdiv_cancel a h0;rw[e1,e2,IntWalk.i64_in _ ha];simp[h]
 ·have hw:=IntKind.wrap_i64 (a*b);generalize hp:IntKind.wrap .i64 (a*b)=p at*;have U:-9223372036854775808<=p/\p<=9223372036854775807:=by rw[hw];omega
  have Mg:=Int.mul_tdiv_add_tmod p b
  have Za:(Int.tmod p b).natAbs<b.natAbs:=by
   have:=Int.natAbs_tmod p b;rw[this];exact Nat.mod_lt _ an
  have hq:(Int.tdiv p b).natAbs<=p.natAbs:=by rw[Int.natAbs_tdiv];exact Nat.div_le_self _ _
  have hq2:-9223372036854775808<=Int.tdiv p b/\Int.tdiv p b<=9223372036854775807:=by
   by_cases TK:b=1;· subst TK;rw[Int.tdiv_one];exact U
   ·have h2:(Int.tdiv p b).natAbs<=4611686018427387904:=by
     rw[Int.natAbs_tdiv];exact Nat.le_trans (Nat.div_le_div_left (show 2<=b.natAbs by omega) an) an
    omega
  rw[IntWalk.i64_in _ hq2]
  have db:Int.tdiv p b≠a:=λe=>by
   rw[e]at Mg;have e3:b*a=a*b:=Int.mul_comm b a;rw[e3]at Mg;unfold dm at h;omega
  simp[h,db]
theorem KG {N:Nat} {x y:Int} (hx:dm x)(hy:dm y):∃n,Q54 N x y=some (n,decide (dm (x*y)))/\(dm (x*y)->n=x*y):=by
 have lY:=hx;have ZF:=hy;unfold dm at lY ZF;unfold Q54;by_cases h0:x=0
 ·subst h0;rw[if_pos ax,Q1,if_pos rfl];have:dm (0*y):=by rw[Int.zero_mul];unfold dm;omega
  exact⟨0,by rw[decide_eq_true this],λ_=>by rw[Int.zero_mul]⟩
 ·rw [bs h0,Q1];by_cases h1:y=0
  ·subst h1;rw[if_pos ax];have:dm (x*0):=by rw[Int.mul_zero];unfold dm;omega
   exact⟨0,by rw[decide_eq_true this],λ_=>by rw[Int.mul_zero]⟩
  ·rw [bs h1];by_cases h2:x=-1
   ·subst h2;rw[if_pos ax];have e:-1*y=0-y:=an
    rw[e];refine⟨_,congrArg some (congrArg (Prod.mk _) ?_),λq=>IntWalk.i64_in _ q⟩;rw[Bool.eq_iff_iff];simp only[bne_iff_ne,ne_eq,decide_eq_true_eq];unfold dm;omega
   ·rw [bs h2];by_cases U:y=-1
    ·subst U;rw[if_pos ax];have e:x* -1=0-x:=an
     rw[e];refine⟨_,congrArg some (congrArg (Prod.mk _) ?_),λq=>IntWalk.i64_in _ q⟩;rw[Bool.eq_iff_iff];simp only[bne_iff_ne,ne_eq,decide_eq_true_eq];unfold dm;omega
    ·rw[bs U,QM h1,Kx hx hy h1 U];exact⟨_,rfl,λq=>IntWalk.i64_in _ q⟩
theorem Uz {n x:Int} {b:Bool} {N:Nat} (U:b=decide (dm x))(hn:dm x->n=x):(if(!b)=true then some ((0,0,300):Nat×Int×Nat)else Qg (Q44 N n) λ_=>some (1,n,0))=some (if dm x then(1,x,0)else(0,0,300)):=by
 subst U;by_cases h:dm x;· rw[bs h,if_pos h,hn h];rfl
 · rw[br h,if_neg h]
theorem CL {N:Nat} {op:Int} {v w:V}:QG N op v w=QG N op (num v.n) (num w.n):=rfl
theorem Dx {N:Nat} {l:List V} (hN:9223372036854775808<=N)(hl:∀v∈l,v.s.size<=140737488351232):BN N l=Q5F N l:=by
 funext ⟨i,b⟩;unfold BN Q5F;simp only;by_cases U:i<l.length
 ·have hx:=List.getElem?_eq_getElem U
  have hC:P4 N l i b=Q5E N l i b:=by
   unfold P4 Q5E;rw[hx];simp only[Q1];rw[lD _ _ hN (by have:=hl _ (List.getElem_mem U);omega)]
  rw[hC]
 · rw[bs U,bs U]
theorem mW {N:Nat} {l:List V} (hN:9223372036854775808<=N)(hl:l.length<=2):(∃b,fk (BN N l) N (0,false)=some (.inl b))\/fk (BN N l) N (0,false)=some (.inr (0,0,2)):=by
 obtain ⟨o,h1,U⟩:=mQ (f:=BN N l) (λs=>s.1<=l.length) (λs=>l.length-s.1) (λo=>(∃b,o=.inl b)\/o=.inr (0,0,2)) (λs hs=>by
  obtain⟨i,b⟩:=s;simp only at hs;unfold BN;simp only;by_cases bq:i<l.length
  ·have hx:=List.getElem?_eq_getElem bq;obtain⟨r,hr,_⟩:=nh N l[i]
   have hC:P4 N l i b=if r=true then some (.inl (if b=true then true else(l[i].k==2)))else some (.inr (.inr (.inr (0,0,2)))):=by
     unfold P4;rw[hx,Q1,hr,Q1];cases r<;>cases b<;>rfl
   rw[br bq,hC];cases r with
   | true=>
     left;exact⟨(i+1,if b=true then true else(l[i].k==2)),by rw[if_pos rfl,ud,QM an],by simp only;omega,by simp only;omega⟩
   | false=>
     right;exact⟨.inr (0,0,2),by rw[if_neg Us];rfl,.inr rfl⟩
  ·right;exact⟨.inl b,by rw[bs bq],.inl ⟨b,rfl⟩⟩) N (0,false) ax (by simp only;omega)
 rcases U with⟨b,rfl⟩|rfl;· exact .inl ⟨b,h1⟩
 · exact .inr h1
theorem EA (N:Nat)(op:Int):VP N op=some (if op=4\/op=11 then 1 else 2)/\Q5D N op=some (if op=4\/op=11 then 1 else 2):=by
 unfold VP Q5D;by_cases h:op=4;· subst h;exact⟨rfl,rfl⟩
 ·rw[bs h,Q1];by_cases h2:op=11;· subst h2;exact⟨rfl,rfl⟩
  · rw[bs h2,if_neg an];exact⟨rfl,rfl⟩
theorem CJ {op:Int} {k j:Nat}:(if(decide (op<1))=true then some true else(if(decide (op>11))=true then some true else some (k !=j)))=some (decide (op<1\/op>11\/k≠j)):=by
 by_cases h1:op<1;· rw[br h1];simp[h1]
 ·rw[bs h1];by_cases h2:op>11;· rw[br h2];simp[h2]
  ·rw[bs h2];congr 1;rw[Bool.eq_iff_iff];simp only[bne_iff_ne,ne_eq,decide_eq_true_eq];omega
theorem Nb {N:Nat} {op:Int} {l:List V} (hN:9223372036854775808<=N)(hl:∀v∈l,dm v.n/\v.s.size<=140737488351232):∃r,BR N op l=some r/\Q6Y N op l=some r:=by
 obtain⟨c1,c2⟩:=EA N op;unfold BR Q6Y;rw[c1,c2,Q1,Q1,CJ,Q1,Q1];by_cases iM:op<1\/op>11\/l.length≠(if op=4\/op=11 then 1 else 2)
 ·have hd:=decide_eq_true iM;simp only[hd,if_true];exact⟨_,rfl,rfl⟩
 ·have hd:=decide_eq_false iM;simp only[hd,Bool.false_eq_true,if_false];rw[<-Dx hN (λv hv=>(hl v hv).2)]
  have hlen:l.length<=2:=by
   have:l.length=(if op=4\/op=11 then 1 else 2):=an
   rw[this];split<;>omega
  rcases mW (N:=N) hN hlen with⟨names,Dp⟩|Dp
  ·rw [Dp,ud,ud];by_cases h1:op=4\/op=11
   ·rw [if_pos h1]at iM;have iX:l.length=1:=an
    clear iM hd;match l,iX with
    | [v],_=>
      obtain⟨hv,_⟩:=hl v ax;simp only[if_pos h1,List.getElem?_cons_zero,Q1,List.length_singleton];rw[QM an,QM an,QM an,QM an];simp only[show(((1:Nat):Int)-1).toNat=0 from rfl,List.getElem?_cons_zero,Q1];rcases h1 with rfl|rfl
      ·simp only[show((4:Int)==1)=false from rfl,show((4:Int)==2)=false from rfl,show((4:Int)==3)=false from rfl,show((4:Int)==5)=false from rfl,show((4:Int)==6)=false from rfl,show((4:Int)==7)=false from rfl,show((4:Int)==8)=false from rfl,show((4:Int)==9)=false from rfl,show((4:Int)==10)=false from rfl,show((4:Int)==11)=false from rfl,Bool.false_eq_true,if_false,if_true,Q1];cases names with
       |true=>exact⟨_,rfl,rfl⟩
       | false=>
         have e:QG N 4 v v=some (IntKind.wrap .i64 (0-v.n),v.n !=-9223372036854775808):=by unfold QG;rfl
         have U:Mt N 4 v.n v.n=some (IntKind.wrap .i64 (0-v.n),v.n !=-9223372036854775808):=by unfold Mt;rfl
         simp only[Bool.false_eq_true,if_false,e,U,Q1];cases hq:v.n !=-9223372036854775808<;>exact⟨_,rfl,rfl⟩
      ·simp only[show((11:Int)==1)=false from rfl,show((11:Int)==2)=false from rfl,show((11:Int)==3)=false from rfl,show((11:Int)==5)=false from rfl,show((11:Int)==6)=false from rfl,show((11:Int)==7)=false from rfl,show((11:Int)==8)=false from rfl,show((11:Int)==9)=false from rfl,show((11:Int)==10)=false from rfl,show((11:Int)==11)=true from rfl,Bool.false_eq_true,if_false,if_true,Q1];cases names with
       |true=>exact⟨_,rfl,rfl⟩
       | false=>
         have e:QG N 11 v v=some ((if(v.n==0)=true then 1 else 0),true):=by
          unfold QG Q7y BP;simp only[MP,Q1];rfl
         simp only[Bool.false_eq_true,if_false,e,RX,Q1];exact⟨_,rfl,rfl⟩
   ·rw [if_neg h1]at iM;have iX:l.length=2:=an
    have jc:1<=op/\op<=11:=an
    clear iM hd;match l,iX with
    | [v,w],_=>
      obtain⟨hv,_⟩:=hl v ax;obtain⟨hw,_⟩:=hl w ax;simp only[if_neg h1,List.getElem?_cons_zero,Q1,List.length_cons,List.length_nil];rw[QM an,QM an,QM an,QM an];simp only[show(((2:Nat):Int)-1).toNat=1 from rfl,show(((0+1+1:Nat):Int)-1).toNat=1 from rfl,List.getElem?_cons_succ,List.getElem?_cons_zero,Q1];have h9:op=1\/op=2\/op=3\/op=5\/op=6\/op=7\/op=8\/op=9\/op=10:=an
      rcases h9 with rfl|rfl|rfl|rfl|rfl|rfl|rfl|rfl|rfl
      ·simp only[show((1:Int)==1)=true from rfl,show((1:Int)==2)=false from rfl,show((1:Int)==3)=false from rfl,show((1:Int)==5)=false from rfl,show((1:Int)==6)=false from rfl,show((1:Int)==7)=false from rfl,show((1:Int)==8)=false from rfl,show((1:Int)==9)=false from rfl,show((1:Int)==10)=false from rfl,show((1:Int)==11)=false from rfl,Bool.false_eq_true,if_false,if_true,Q1];cases names with
       |true=>exact⟨_,rfl,rfl⟩
       | false=>
         simp only[Bool.false_eq_true,if_false];obtain⟨n,e1,U⟩:=Fi (N:=N) hv hw;have e3:Mt N 1 v.n w.n=some (n,decide (dm (v.n+w.n))):=by unfold Mt;rw[if_pos ax,e1];rfl
         rw[e3];simp only[Q1];rw[Uz rfl U];refine⟨_,?_,rfl⟩;have h:QG N 1 (num v.n) (num w.n)=some (IntKind.wrap .i64 (v.n+w.n),(decide (IntKind.wrap .i64 (v.n+w.n)<v.n))==(decide (w.n<0))):=by unfold QG;rfl
         have h2:=(ou hN an an an an an h).symm.trans (Sz hN hv hw);rw[CL,h,Q1,<-Option.some.inj h2];unfold vo;simp only;cases(decide (IntKind.wrap .i64 (v.n+w.n)<v.n))==(decide (w.n<0))<;>rfl
      ·simp only[show((2:Int)==1)=false from rfl,show((2:Int)==2)=true from rfl,show((2:Int)==3)=false from rfl,show((2:Int)==5)=false from rfl,show((2:Int)==6)=false from rfl,show((2:Int)==7)=false from rfl,show((2:Int)==8)=false from rfl,show((2:Int)==9)=false from rfl,show((2:Int)==10)=false from rfl,show((2:Int)==11)=false from rfl,Bool.false_eq_true,if_false,if_true,Q1];cases names with
       |true=>exact⟨_,rfl,rfl⟩
       | false=>
         simp only[Bool.false_eq_true,if_false]
         have hR:∃n,Mt N 2 v.n w.n=some (n,decide (dm (v.n-w.n)))/\(dm (v.n-w.n)->n=v.n-w.n):=by
          unfold Mt;rw[if_neg ax,if_pos ax];by_cases hm:w.n=-9223372036854775808
          ·rw[br hm];refine⟨_,congrArg some (congrArg (Prod.mk _) ?_),λq=>IntWalk.i64_in _ q⟩;rw[Bool.eq_iff_iff];simp only[decide_eq_true_eq];unfold dm at*;omega
          ·rw[bs hm];have PQ:dm (0-w.n):=by unfold dm at*;omega
           rw[IntWalk.i64_in _ PQ];obtain⟨n,e1,U⟩:=Fi (N:=N) hv PQ;rw[e1,show v.n+(0-w.n)=v.n-w.n by omega];rw[show v.n+(0-w.n)=v.n-w.n by omega]at U;exact⟨n,rfl,U⟩
         obtain⟨n,e3,U⟩:=hR;rw[e3];simp only[Q1];rw[Uz rfl U];refine⟨_,?_,rfl⟩;have h:QG N 2 (num v.n) (num w.n)=some (IntKind.wrap .i64 (v.n-w.n),(decide (IntKind.wrap .i64 (v.n-w.n)>v.n))==(decide (w.n<0))):=by unfold QG;rfl
         have h2:=(ou hN an an an an an h).symm.trans (SC hN hv hw);rw[CL,h,Q1,<-Option.some.inj h2];unfold vo;simp only;cases(decide (IntKind.wrap .i64 (v.n-w.n)>v.n))==(decide (w.n<0))<;>rfl
      ·simp only[show((3:Int)==1)=false from rfl,show((3:Int)==2)=false from rfl,show((3:Int)==3)=true from rfl,show((3:Int)==5)=false from rfl,show((3:Int)==6)=false from rfl,show((3:Int)==7)=false from rfl,show((3:Int)==8)=false from rfl,show((3:Int)==9)=false from rfl,show((3:Int)==10)=false from rfl,show((3:Int)==11)=false from rfl,Bool.false_eq_true,if_false,if_true,Q1];cases names with
       |true=>exact⟨_,rfl,rfl⟩
       | false=>
         simp only[Bool.false_eq_true,if_false];obtain⟨n,e1,U⟩:=KG (N:=N) hv hw;have e3:Mt N 3 v.n w.n=some (n,decide (dm (v.n*w.n))):=by unfold Mt;rw[if_neg ax,if_neg ax,if_pos ax,e1];rfl
         rw[e3];simp only[Q1];rw[Uz rfl U];refine⟨_,?_,rfl⟩;obtain⟨m,q1,q2⟩:=tw (N:=N) hv hw
         have h:QG N 3 (num v.n) (num w.n)=some (m,decide (dm (v.n*w.n))):=by
          unfold QG;simp only[num,q1,Q1];rfl
         have h2:=(ou hN an an an an an h).symm.trans (SA hN hv hw);rw[CL,h,Q1,<-Option.some.inj h2];unfold vo;simp only;cases decide (dm (v.n*w.n))<;>rfl
      ·simp only[show((5:Int)==1)=false from rfl,show((5:Int)==2)=false from rfl,show((5:Int)==3)=false from rfl,show((5:Int)==5)=true from rfl,show((5:Int)==6)=false from rfl,show((5:Int)==7)=false from rfl,show((5:Int)==8)=false from rfl,show((5:Int)==9)=false from rfl,show((5:Int)==10)=false from rfl,show((5:Int)==11)=false from rfl,Bool.false_eq_true,if_false,if_true,Q1];rw[MP,RX];refine⟨_,rfl,?_⟩;simp[Q1]
      ·simp only[show((6:Int)==1)=false from rfl,show((6:Int)==2)=false from rfl,show((6:Int)==3)=false from rfl,show((6:Int)==5)=false from rfl,show((6:Int)==6)=true from rfl,show((6:Int)==7)=false from rfl,show((6:Int)==8)=false from rfl,show((6:Int)==9)=false from rfl,show((6:Int)==10)=false from rfl,show((6:Int)==11)=false from rfl,Bool.false_eq_true,if_false,if_true,Q1];rw[MP,RX];refine⟨_,rfl,?_⟩;simp[Q1]
      ·simp only[show((7:Int)==1)=false from rfl,show((7:Int)==2)=false from rfl,show((7:Int)==3)=false from rfl,show((7:Int)==5)=false from rfl,show((7:Int)==6)=false from rfl,show((7:Int)==7)=true from rfl,show((7:Int)==8)=false from rfl,show((7:Int)==9)=false from rfl,show((7:Int)==10)=false from rfl,show((7:Int)==11)=false from rfl,Bool.false_eq_true,if_false,if_true,Q1];cases names with
       |true=>exact⟨_,rfl,rfl⟩
       | false=>
         have h:QG N 7 v w=some ((if(decide (v.n<w.n))=true then 1 else 0),true):=by
          unfold QG Q7u BP;simp only[MP,Q1];rfl
         simp only[Bool.false_eq_true,if_false];rw[h,RX];exact⟨_,rfl,rfl⟩
      ·simp only[show((8:Int)==1)=false from rfl,show((8:Int)==2)=false from rfl,show((8:Int)==3)=false from rfl,show((8:Int)==5)=false from rfl,show((8:Int)==6)=false from rfl,show((8:Int)==7)=false from rfl,show((8:Int)==8)=true from rfl,show((8:Int)==9)=false from rfl,show((8:Int)==10)=false from rfl,show((8:Int)==11)=false from rfl,Bool.false_eq_true,if_false,if_true,Q1];cases names with
       |true=>exact⟨_,rfl,rfl⟩
       | false=>
         have h:QG N 8 v w=some ((if(decide (v.n<=w.n))=true then 1 else 0),true):=by
          unfold QG Q7v BP;simp only[MP,Q1];rfl
         simp only[Bool.false_eq_true,if_false];rw[h,RX];exact⟨_,rfl,rfl⟩
      ·simp only[show((9:Int)==1)=false from rfl,show((9:Int)==2)=false from rfl,show((9:Int)==3)=false from rfl,show((9:Int)==5)=false from rfl,show((9:Int)==6)=false from rfl,show((9:Int)==7)=false from rfl,show((9:Int)==8)=false from rfl,show((9:Int)==9)=true from rfl,show((9:Int)==10)=false from rfl,show((9:Int)==11)=false from rfl,Bool.false_eq_true,if_false,if_true,Q1];cases names with
       |true=>exact⟨_,rfl,rfl⟩
       | false=>
         have h:QG N 9 v w=some ((if(v.n !=0&&w.n !=0)=true then 1 else 0),true):=by
          unfold QG Q7w BP;simp only[MP,Q1];cases hq:v.n !=0<;>rfl
         simp only[Bool.false_eq_true,if_false,RX];rw[h];refine⟨_,rfl,?_⟩;cases hq:v.n !=0<;>rfl
      ·simp only[show((10:Int)==1)=false from rfl,show((10:Int)==2)=false from rfl,show((10:Int)==3)=false from rfl,show((10:Int)==5)=false from rfl,show((10:Int)==6)=false from rfl,show((10:Int)==7)=false from rfl,show((10:Int)==8)=false from rfl,show((10:Int)==9)=false from rfl,show((10:Int)==10)=true from rfl,show((10:Int)==11)=false from rfl,Bool.false_eq_true,if_false,if_true,Q1];cases names with
       |true=>exact⟨_,rfl,rfl⟩
       | false=>
         have h:QG N 10 v w=some ((if(v.n !=0||w.n !=0)=true then 1 else 0),true):=by
          unfold QG Q7x BP;simp only[MP,Q1];cases hq:v.n !=0<;>rfl
         simp only[Bool.false_eq_true,if_false,RX];rw[h];refine⟨_,rfl,?_⟩;cases hq:v.n !=0<;>rfl
  · rw[Dp];exact⟨_,rfl,rfl⟩
end
section
open Go Go.RowKit
theorem rA (x:Int):dm (IntKind.wrap .i64 x):=by
 have e:IntKind.wrap .i64 x=if(9223372036854775808:Int)<=x%18446744073709551616 then x%18446744073709551616-18446744073709551616 else x%18446744073709551616:=by
  by_cases h:(9223372036854775808:Int)<=x%18446744073709551616<;>simp[IntKind.wrap,IntKind.bits,IntKind.signed,h]
 rw[e];unfold dm;split<;>omega
theorem XW {N:Nat} {b:Bool} {v:Int} (h:BP N b=some v):dm v:=by
 unfold BP at h;rw[MP,Q1]at h;cases h;unfold dm;split<;>omega
theorem Om {N:Nat} {a b n:Int} {c:Bool} (h:RM N a b=some (n,c)):dm n:=by
 unfold RM at h;obtain⟨x,_,h⟩:=Qv h;obtain⟨y,_,h⟩:=Qv h;obtain⟨_,h⟩:=mD h;obtain⟨_,h⟩:=mD h;rcases iP h with⟨_,h⟩|⟨_,h⟩<;>rcases iP h with⟨_,h⟩|⟨_,h⟩<;>(cases h;exact rA _)
theorem Yb {N:Nat} {op:Int} {v w:V} {n:Int} {c:Bool} (h:QG N op v w=some (n,c)):dm n:=by
 unfold QG at h;obtain⟨x,_,h⟩:=Qv h;rcases x with _|_|_|_|_|_|_|_|_|_;· obtain⟨_,_,h⟩:=Qv h;cases h;exact rA _
 · obtain⟨_,_,h⟩:=Qv h;cases h;exact rA _
 · obtain⟨⟨a,b⟩,h1,h⟩:=Qv h;cases h;exact Om h1
 · obtain⟨_,_,h⟩:=Qv h;cases h;exact rA _
 · obtain⟨a,h1,h⟩:=Qv h;cases h;obtain⟨b,U,h3⟩:=Qv h1;cases h3;exact XW U
 · obtain⟨a,h1,h⟩:=Qv h;cases h;obtain⟨b,U,h3⟩:=Qv h1;cases h3;exact XW U
 ·obtain⟨a,h1,h⟩:=Qv h;cases h;rcases iP h1 with⟨_,h1⟩|⟨_,h1⟩<;>(obtain⟨b,U,h3⟩:=Qv h1;cases h3;exact XW U)
 ·obtain⟨a,h1,h⟩:=Qv h;cases h;rcases iP h1 with⟨_,h1⟩|⟨_,h1⟩<;>(obtain⟨b,U,h3⟩:=Qv h1;cases h3;exact XW U)
 · obtain⟨a,h1,h⟩:=Qv h;cases h;obtain⟨b,U,h3⟩:=Qv h1;cases h3;exact XW U
 · cases h
theorem wo {N:Nat} {b:Bool} {v:Int} (h:RQ N b=some v):dm v:=by
 rw[MP]at h;cases h;unfold dm;split<;>omega
theorem SB {N:Nat} {op:Int} {l:List V} {k:Nat} {n:Int} {e:Nat} (hN:9223372036854775808<=N)(h:BR N op l=some (k,n,e)):(k=1/\e=0/\dm n)\/(k=0/\n=0/\e≠0):=by
 unfold BR at h;obtain⟨c1,_⟩:=EA N op;rw[c1,Q1,CJ,Q1]at h;rcases iP h with⟨_,h⟩|⟨hb,h⟩
 · cases h;exact .inr ⟨rfl,rfl,bf⟩
 ·have hb:=of_decide_eq_false hb
  have hlen:l.length<=2:=by
   have:l.length=(if op=4\/op=11 then 1 else 2):=an
   rw[this];split<;>omega
  rcases mW (N:=N) hN hlen with⟨b,U⟩|U
  ·rw [U,ud]at h;obtain⟨x,_,h⟩:=Qv h;obtain⟨_,h⟩:=mD h;obtain⟨_,h⟩:=mD h;obtain⟨y,_,h⟩:=Qv h;rcases iP h with⟨_,h⟩|⟨_,h⟩
   ·obtain⟨t,h1,h⟩:=Qv h;cases h;exact .inl ⟨rfl,rfl,wo h1⟩
   ·rcases iP h with⟨_,h⟩|⟨_,h⟩
    ·obtain⟨t,h1,h⟩:=Qv h;cases h;exact .inl ⟨rfl,rfl,wo h1⟩
    ·rcases iP h with⟨_,h⟩|⟨_,h⟩
     · cases h;exact .inr ⟨rfl,rfl,bf⟩
     ·obtain⟨⟨a,c⟩,h1,h⟩:=Qv h;rcases iP h with⟨_,h⟩|⟨_,h⟩
      · cases h;exact .inr ⟨rfl,rfl,bf⟩
      ·obtain⟨_,_,h⟩:=Qv h;cases h;exact .inl ⟨rfl,rfl,Yb h1⟩
  ·rw[U,MC]at h;cases h;exact .inr ⟨rfl,rfl,bf⟩
abbrev Ij:=Int×Int×ByteArray×Nat
def mq (f:Q4->Option Ij):List Q4->List V->Option (List V⊕Nat)
 |[],acc=>some (.inl acc)
 |x::l,acc=>Qg (f x) λ(a,b,c,e)=>if(e !=0)=true then some (.inr e)else mq f l (acc++[⟨a,b,c⟩])
def Vk {α β:Type} (g:List V->β)(k:Nat->α):Option (List V⊕Nat)->Option (β⊕α)
 |none=>none
 |some (.inl a)=>some (.inl (g a))
 |some (.inr e)=>some (.inr (k e))
theorem B4 {O:Type} {F:(Nat×List V)->Option ((Nat×List V)⊕(List V⊕O))} {f:Q4->Option Ij} {l:List Q4} {k:Nat->O}
   (fe:∀i acc x,l[i]? =some x->acc.length=i->F (i,acc)=Qg (f x) λ(a,b,c,e)=>if(e !=0)=true then some (.inr (.inr (k e)))else some (.inl (i+1,acc++[⟨a,b,c⟩])))
   (Ab:∀i acc,l.length<=i->F (i,acc)=some (.inr (.inl acc))):
   ∀(m i n:Nat) (acc:List V),l.length-i=m->i<=l.length->acc.length=i->m<n->fk F n (i,acc)=Vk id k (mq f (l.drop i) acc)
 | 0,i,n+1,acc,hm,hi,U,hn=>by
   have hle:l.length<=i:=an
   rw[uf (Ab i acc hle),List.drop_of_length_le hle];rfl
 | m + 1,i,n+1,acc,hm,hi,U,hn=>by
   have bq:i<l.length:=an
   have hx:=List.getElem?_eq_getElem bq;have hd:l.drop i=l[i]::l.drop (i+1):=List.drop_eq_getElem_cons bq;rw[hd];show ji (F (i,acc)) (fk F n)=_;rw[fe i acc _ hx U];unfold mq;cases hf:f l[i]with
   |none=>rfl
   | some r=>
     obtain⟨a,b,c,e⟩:=r;simp only[Q1];cases he:e !=0 with
     |true=>simp only[if_true];rfl
     | false=>
       simp only[Bool.false_eq_true,if_false,ud];exact B4 fe Ab m (i+1) n _ an an (by simp[U]) an
theorem w7 {O:Type} {F:(Nat×List V)->Option ((Nat×List V)⊕(List V⊕O))} {f:Q4->Option Ij} {l:List Q4} {k:Nat->O} {n:Nat}
  (fe:∀i acc x,l[i]? =some x->acc.length=i->F (i,acc)=Qg (f x) λ(a,b,c,e)=>if(e !=0)=true then some (.inr (.inr (k e)))else some (.inl (i+1,acc++[⟨a,b,c⟩])))
  (U:∀i acc,l.length<=i->F (i,acc)=some (.inr (.inl acc))) (hn:l.length<n):fk F n (0,[])=Vk id k (mq f l []):=by
 have:=B4 fe U l.length 0 n [] an an rfl an;simpa using this
def at_ (rc:Int->Int->Int->ByteArray->Int->Int->List Q4->List V->Option Ij)(vars:List V)(x:Q4):Option Ij:=rc x.kind x.value.k x.value.n x.value.s x.var x.op x.kids vars
theorem Un {N:Nat} {l:List Q4} {vars:List V} {rc:Int->Int->Int->ByteArray->Int->Int->List Q4->List V->Option Ij} (hN:9223372036854775808<=N)(hl:l.length<=1000000):fk (VK N l rc vars) N (0,[])=Vk id (λe=>([],e)) (mq (at_ rc vars) l []):=by
 refine w7 (λi acc x U ha=>?_) (λi acc hi=>?_) an
 ·have bq:=(List.getElem?_eq_some_iff.1 U).1;unfold VK;simp only;rw[br bq,U,Q1];unfold at_;congr 1;funext ⟨a,b,c,e⟩;simp only;rw[QM (by simp only[List.length_cons,List.length_nil];omega),QM an]
 ·unfold VK;simp only;rw[bs hi]
theorem ZS {N:Nat} {l:List Q4} {vars:List V} {rc:Int->Int->Int->ByteArray->Int->Int->List Q4->List V->Option Ij} (hN:9223372036854775808<=N)(hl:l.length<=1000000):fk (Q3N N l rc vars) N (0,[])=Vk id (λe=>(.inr (0,0,(⟨#[]⟩:ByteArray),e):(Int×Int×ByteArray)⊕Ij)) (mq (at_ rc vars) l []):=by
 refine w7 (λi acc x U ha=>?_) (λi acc hi=>?_) an
 ·have bq:=(List.getElem?_eq_some_iff.1 U).1;unfold Q3N;simp only;rw[br bq,U,Q1];unfold at_;congr 1;funext ⟨a,b,c,e⟩;simp only;rw[QM (by simp only[List.length_cons,List.length_nil];omega),QM an]
 ·unfold Q3N;simp only;rw[bs hi]
end
section
open Go Go.RowKit
mutual
def nodes:Q4->Nat
 |⟨_,_,_,_,l⟩=>1+Hz l
def Hz:List Q4->Nat
 |[]=>0
 |e::l=>nodes e+Hz l
end
theorem MM (e:Q4):nodes e=1+Hz e.kids:=by cases e;simp[nodes]
theorem RV {x:Q4}:∀{l:List Q4},x∈l->nodes x<=Hz l
 | y::l,h=>by
   simp only[Hz];rcases List.mem_cons.1 h with rfl|h;· omega
   · have:=RV h;omega
theorem VW:∀(l:List Q4),l.length<=Hz l
 |[]=>ax
 | x::l=>by
   have:=VW l;simp only[List.length_cons,Hz,MM];omega
theorem Fb {x:Q4} (h:cw x):x.kids.length<=1759218604390/\∀y∈x.kids,cw y:=by
 cases h with
 |mk _ _ _ _ _ U g4=>exact⟨U,g4⟩
theorem Kp {x:Q4} (h:cw x):GQ x.value:=by
 cases h with
 |mk _ _ h1 _ _ _ _=>exact h1
end
section
open Go Go.RowKit
def pO (v:V):Prop:=dm v.n/\v.s.size<=140737488351232
def AX (r:Ij):Prop:=dm r.2.1/\r.2.2.1.size<=140737488351232/\(r.2.2.2=0->HA ⟨r.1,r.2.1,r.2.2.1⟩)
theorem Vr:dm 0:=by unfold dm;omega
theorem Ra:(⟨#[]⟩:ByteArray).size<=140737488351232:=bf
theorem XL {n:Nat} (h:n≠0):AX (0,0,(⟨#[]⟩:ByteArray),n):=⟨Vr,Ra,λq=>absurd q h⟩
theorem Fl (N:Nat)(v:V):∃q:Bool,(q=true↔HA v)/\yL N v.k v.n v.s=some q/\VT N v.k v.n v.s=some (if q=true then(v.k,v.n,v.s,0)else(0,0,(⟨#[]⟩:ByteArray),2)):=by
 obtain⟨q,h1,U⟩:=nh N v;refine⟨q,U,h1,?_⟩;unfold VT;rw[h1,Q1];cases q<;>rfl
theorem tA {v:V} {q:Bool} (U:pO v)(h:q=true↔HA v):AX (if q=true then(v.k,v.n,v.s,0)else(0,0,(⟨#[]⟩:ByteArray),2)):=by
 cases q with
 |true=>exact⟨U.1,U.2,λ_=>h.1 rfl⟩
 |false=>exact XL bf
theorem vg {f g:Q4->Option Ij}:∀(l:List Q4)(acc:List V),(∀x∈l,∃r,f x=some r/\g x=some r/\AX r)->(∀v∈acc,pO v)->
   ∃o,mq f l acc=some o/\mq g l acc=some o/\(∀a,o=.inl a->∀v∈a,pO v)/\(∀e,o=.inr e->e≠0)
 |[],acc,_,ha=>⟨.inl acc,rfl,rfl,λa h=>(by cases h;exact ha),λe h=>(by cases h)⟩
 | x ::l,acc,h,ha=>by
   obtain⟨⟨a,b,c,e⟩,h1,h2,h3⟩:=h x ax;unfold mq;rw[h1,h2];simp only[Q1];by_cases he:e=0
   ·subst he;simp only[bne_self_eq_false,Bool.false_eq_true,if_false]
    exact vg l _ (λy hy=>h y (by simp[hy])) (λv U=>by
     rcases List.mem_append.1 U with U|U;· exact ha v U
     ·simp only[List.mem_cons,List.not_mem_nil,or_false]at U;subst U;exact⟨h3.1,h3.2.1⟩)
   ·rw[br he,br he];exact⟨.inr e,rfl,rfl,λa h=>(by cases h),λe' h=>(by cases h;exact he)⟩
theorem yl (N:Nat):X5 N 0 0 (⟨#[]⟩:ByteArray)=some false:=rfl
theorem both:∀(m N:Nat) (e:Q4) (vars:List V),cw e->nodes e<=m->m<=1000->9223372036854775808+m<=N->(∀v∈vars,pO v)->vars.length<=1000000->
   ∃r,at_ (wT N) vars e=some r/\at_ (Q4K N) vars e=some r/\AX r:=by
 intro m;induction m with
 | zero=>
   intro N e vars _ hn;rw[MM]at hn;omega
 | succ m ih=>
   intro N e vars cn hn hm hN hv K2;obtain⟨N,rfl⟩:∃k,N=k+1:=⟨N-1,an⟩
   obtain⟨k,v,x,o,kids⟩:=e;have U:9223372036854775808<=N:=an
   rw[MM]at hn;simp only at hn;show∃r,P2 N (wT N) k v.k v.n v.s x o kids vars=some r/\Q5l N (Q4K N) k v.k v.n v.s x o kids vars=some r/\AX r;have Zc:pO v:=⟨NX (Kp cn).2.1,(Kp cn).2.2⟩
   unfold P2 Q5l Q78;by_cases k1:k=1
   ·subst k1;simp only[show((1:Int)==1)=true from rfl,if_true];unfold Q8d;obtain⟨q,q1,q2,q3⟩:=Fl N v;rw[q3];refine⟨_,rfl,?_,tA Zc q1⟩;rw[ud];simp only;rw[<-lD v.k v.n U (by have:=Zc.2;omega),q2,Q1];cases q<;>rfl
   ·have b1:(k==1)=false:=by simpa using k1
    simp only[b1,Bool.false_eq_true,if_false];by_cases k2:k=2
    ·subst k2;simp only[show((2:Int)==2)=true from rfl,if_true];unfold Q8e;by_cases hr:0<=x/\x<(vars.length:Int)
     ·have bq:x.toNat<vars.length:=an
      have hx:=List.getElem?_eq_getElem bq;obtain⟨q,q1,q2,q3⟩:=Fl N vars[x.toNat];have hvx:=hv _ (List.getElem_mem bq);refine⟨_,?_,?_,tA hvx q1⟩
      · rw[bs hr.1,Q1,bs hr.2,QM hr.1,hx,Q1,q3];rfl
      · rw[br hr.1,Q1,br hr.2,QM hr.1,hx,Q1,ud];simp only;rw[<-lD _ _ U (by have:=hvx.2;omega),q2,Q1];cases q<;>rfl
     ·refine⟨_,?_,?_,XL (n:=2) bf⟩
      · by_cases h0:x<0;· rw[br h0];rfl
        · rw[bs h0,Q1,if_pos (by simp;omega)];rfl
      · by_cases h0:x>=0
        ·rw[br h0,Q1,if_neg (by simp;omega),ud];simp only;rw[yl];rfl
        ·rw[bs h0,Q1,if_neg ax,ud];simp only;rw[yl];rfl
    ·have b2:(k==2)=false:=by simpa using k2
     simp only[b2,Bool.false_eq_true,if_false];by_cases k3:k=3
     ·subst k3;simp only[show((3:Int)==3)=true from rfl,if_true];unfold Xk Xu;have jL:kids.length<=1000000:=by have:=VW kids;omega
      rw[Un U jL,ZS U jL];obtain⟨h4,g4⟩:=Fb cn;simp only at h4 g4;obtain⟨w,w1,w2,w3,w4⟩:=vg (f:=at_ (wT N) vars) (g:=at_ (Q4K N) vars) kids [] (λy hy=>ih N y vars (g4 y hy) (by have:=RV hy;omega) an an hv K2) ax;rw[w1,w2];cases w with
      | inr e=>
        have he:=w4 e rfl;refine⟨_,?_,rfl,XL he⟩;simp only[Vk,MC,Q1];rw[br he];rfl
      | inl a=>
        have ha:=w3 a rfl;obtain⟨⟨rk,rn,re⟩,d1,d2⟩:=Nb (N:=N) (op:=o) (l:=a) U ha;have lk:=SB U d1;refine⟨(((rk:Nat):Int),rn,(⟨#[]⟩:ByteArray),re),?_,?_,?_⟩
        ·simp only[Vk,id,ud,Q1];rw[if_neg ax,d1];rfl
        ·simp only[Vk,id,ud];rw[d2];rfl
        ·rcases lk with⟨r1,r2,r3⟩|⟨r1,r2,r3⟩
         ·subst r1;subst r2;exact⟨r3,Ra,λ_=>.inl ⟨rfl,rfl⟩⟩
         ·subst r1;subst r2;exact XL r3
     ·have b3:(k==3)=false:=by simpa using k3
      simp only[b3,Bool.false_eq_true,if_false];refine⟨_,rfl,?_,XL (n:=2) bf⟩;rw[ud];simp only;rw[yl];rfl
end
section
open Go Go.RowKit Go.Maps Go.Sort
def QY {α:Type} (m:MS Int α):List Int:=m.keys.mergeSort leI
def RY {α:Type} (m:MS Int α):Bool:=m.keys.all (λx=>(Lit.int .i64 x).wf)&&decide (m.keys.length<=8796093022207)
abbrev M5:Value->Option (DataW Unit×List MemPlace):=λ_=>some (.lit (.bool true),[])
section
variable {P:Program} {α:Type} {kt:TypeId} {K:uq P kt Int} {ag:Bool} {R:eO α} {b:Nat} {m:MS Int α}
theorem GM {N F:eh} {w:World} (hk:P.underlying kt=some (.int .i64))(hK:∀x,K.enc x=.int .i64 x)(h:gB K ag R N F b m w)(hf:RY m=true):
  ∃D0:DataW Unit,w.ownsMap P kt M5 b m.keys.length D0/\(intKeys D0).Perm m.keys/\Maps.size D0=m.keys.length:=by
 obtain⟨_,E,h2,h3,h4,h5,h6,h7,h8,h9⟩:=h;simp only[RY,Bool.and_eq_true,List.all_eq_true,decide_eq_true_eq]at hf;obtain⟨Cc,A4⟩:=hf;have Jz:E.toList.map (·.key)=m.keys.map K.enc:=by rw[h3,MS.keys,List.map_map];rfl
 have hlen:E.toList.length=m.keys.length:=by simpa using congrArg List.length Jz
 have qm:∀e∈E.toList,∃x:Int,e.key=.int .i64 x/\(Lit.int .i64 x).wf=true:=λe he=>by
  have:e.key∈m.keys.map K.enc:=by rw[<-Jz];exact List.mem_map.2 ⟨e,he,rfl⟩
  obtain⟨x,U,ZE⟩:=List.mem_map.1 this;exact⟨x,by rw[<-ZE,hK],Cc x U⟩
 have GD:∀e∈E.toList,∃x:Int,e.key=.int .i64 x/\Go.WideElems.rd P kt M5 e=some (.int .i64 x,.lit (.bool true)):=λe he=>by
  obtain⟨x,U,hl⟩:=qm e he;refine⟨x,U,?_⟩;unfold Go.WideElems.rd;rw[U];simp[keyOf,mapKey,hk,hl,M5]
 have bw:Go.MapKept.Stamped E m.clock:=by
  refine(Go.MapKept.stamped_iff E m.clock).2 ⟨?_,?_,?_⟩
  ·intro x U;have:x.born∈m.es.map (·.2.2):=by rw[<-h7];exact List.mem_map.2 ⟨x,U,rfl⟩
   obtain⟨y,hy,e⟩:=List.mem_map.1 this;rw[<-e];exact h9 y hy
  · rw[h7];exact h8
  ·have:(E.toList.map (·.key)).Nodup:=by
    rw[Jz];exact List.pairwise_map.2 (List.Pairwise.imp (λdb e=>db (by rw[hK,hK]at e;simpa using e)) h5)
   exact List.pairwise_map.1 this
 have JL:Go.WideElems.Fit P kt M5 E m.clock:=⟨by simp at hlen;rw[hlen];unfold maxLen;omega,bw,λe he=>by obtain⟨x,_,h⟩:=GD e he;exact⟨_,h⟩⟩
 refine⟨_,⟨E,m.clock,h2,JL,by simp at hlen;rw[hlen];exact Nat.le_refl _,rfl⟩,?_,?_⟩
 ·show ((List.foldr DataW.insert [] (E.toList.map (Go.WideElems.rg P kt M5))).map λp=>Go.intOf p.1).Perm _;refine((Go.WideShapes.sorted_perm _).map _).trans ?_;rw[List.map_map]
  have:E.toList.map ((λp:Lit×DataW Unit=>Go.intOf p.1)∘Go.WideElems.rg P kt M5)=m.keys:=by
   have e1:E.toList.map ((λp:Lit×DataW Unit=>Go.intOf p.1)∘Go.WideElems.rg P kt M5)=(E.toList.map (·.key)).map (λv=>match v with| .int _ x=>x|_=>0):=by
    rw[List.map_map];refine List.map_congr_left λe he=>?_
    obtain⟨x,U,h⟩:=GD e he;simp[Go.WideElems.rg_of h,U,Go.intOf]
   rw[e1,Jz,List.map_map]
   conv=>rhs;rw[<-List.map_id m.keys]
   refine List.map_congr_left λx _=>?_;simp[hK]
  rw[this]
 ·show(List.foldr DataW.insert [] (E.toList.map (Go.WideElems.rg P kt M5))).length=_;rw[(Go.WideShapes.sorted_perm _).length_eq,List.length_map,hlen]
theorem DL {f it:FuncId} {t:TypeId} {b:Nat} (h:∀W,CallsIn Fence.wide 5 P f #[.map (some b)] W λe w'=>e=.returned (.func (.func it) #[] #[.pointer (some ⟨W.heap.size,0,none⟩)])/\w'=W.alloc (.cells #[.map (some b)] t)):
  QB P f [.map (some b)] [] [] (λv bo Hr=>∃g,v=.func (.func it) #[] #[.pointer (some ⟨g,0,none⟩)]/\bo=[]/\Hr=[.blk g [.map (some b)] t]):=by
 intro F N w hF ec hH U sQ;refine(callsIn_wide.1 (h w)).mono ?_;rintro e w' ⟨rfl,rfl⟩;refine⟨_,_,_,rfl,⟨w.heap.size,rfl,rfl,rfl⟩,?_⟩;have h0:Qj ⟨w,λk=>∃i,i<([]:List Fact).length/\N i k,F⟩ [] [] w:=⟨F,N,hF,λ_ h=>h,λ_ h=>.inl h,ec,hH,λi k hi hk=>⟨(U i k hi hk).1,.inr ⟨i,hi,hk⟩,(U i k hi hk).2⟩,sQ,Mod.refl _ _⟩
 exact h0.alloc #[.map (some b)] t
theorem sd {R:List Value->Int->Prop}:∀(l:List Int),(∀x,R [.int .i64 x] x)->fZ 1 R (l.map encZ) l
 |[],_=>rfl
 |x::l,h=>⟨[.int .i64 x],_,rfl,rfl,h _,sd l h⟩
theorem yp {f it:FuncId} {t:TypeId} {g:Nat} {Rs:eO Int} (hk:P.underlying kt=some (.int .i64))(hK:∀x,K.enc x=.int .i64 x)(hRs:∀F w x,Rs.p F w [.int .i64 x] x)(hf:RY m=true)
  (h:∀(nn:Nat) (D0:DataW Unit) (W:World),g<W.heap.size->W.cell? ⟨g,0,none⟩=some (.map (some b))->W.ownsMap P kt M5 b nn D0->Maps.size D0<=maxLen->Maps.size D0*8<=140737488355328->
   CallsIn Fence.wide 5 P f #[.func (.func it) #[] #[.pointer (some ⟨g,0,none⟩)]] W λe w'=>∃(v:Value) (U:List Int),e=.returned v/\U.Perm (intKeys D0)/\
    w'.ownsRow W.heap.size kt 1 v U.length ((U.mergeSort (λx y=>decide (x<=y))).map encZ)/\(v=.slice none 0 0↔U=[])/\Below W.heap.size W w'):
  QB P f [.func (.func it) #[] #[.pointer (some ⟨g,0,none⟩)]] [] [.blk g [.map (some b)] t,QE K ag R b m] (λv bo Hr=>∃p c,v=.slice p (QY m).length c/\bo=[]/\Hr=[.own kt 1 Rs v (QY m),.blk g [.map (some b)] t,QE K ag R b m]):=by
 intro F N w hF ec hH bq sQ;have hb:=hH 0 _ rfl;have hm:gB K ag R (N 1) F b m w:=hH 1 _ rfl;obtain⟨D0,q1,q2,q3⟩:=GM hk hK hm hf;have A4:m.keys.length<=8796093022207:=by simp only[RY,Bool.and_eq_true,decide_eq_true_eq]at hf;exact hf.2
 have hgl:=(Array.getElem?_eq_some_iff.1 hb.2).1
 have iW:w.cell? ⟨g,0,none⟩=some (.map (some b)):=by
  have:=cell_of_row w g 0 _ _ _ hb.2;simpa using this
 refine(callsIn_wide.1 (h _ D0 w hgl iW q1 (by rw[q3];unfold maxLen;omega) (by rw[q3];omega))).mono ?_;rintro e w' ⟨v,U,rfl,r1,r2,r3,r4⟩
 have hl:U.mergeSort leI=QY m:=by
  unfold QY;exact mergeSort_of_perm_i (r1.trans q2)
 have hlen:U.length=(QY m).length:=by rw[<-hl];simp
 have h0:fP ⟨w,λk=>∃i,i<[Fact.blk g [.map (some b)] t,QE K ag R b m].length/\N i k,F⟩ [] [.blk g [.map (some b)] t,QE K ag R b m] F N w:=⟨hF,λ_ h=>h,λ_ h=>.inl h,ec,hH,λi k hi hk=>⟨(bq i k hi hk).1,.inr ⟨i,hi,hk⟩,(bq i k hi hk).2⟩,sQ,Mod.refl _ _⟩
 have eX:lW w.heap.size kt 1 (Rs.p F w') (QY m) v w':=by
  refine⟨_,hlen▸r2,?_⟩;rw[<-hl];exact sd _ λx=>hRs _ _ _
 obtain⟨p,n,c,rfl⟩:=eX.shape;have hn:n=(QY m).length:=eX.len;subst hn;refine⟨_,_,_,rfl,⟨p,c,rfl,rfl,rfl⟩,F,_,(h0.grow r4).push (.own kt 1 Rs (.slice p (QY m).length c) (QY m)) (λk=>(Value.slice p (QY m).length c).ownBlock=some k) ⟨λk hk=>hk,eX.mono (Nat.zero_le _)⟩ ?_ ?_⟩
 ·intro k hk;obtain⟨a1,a2⟩:=eX.lt k hk;exact⟨a2,.inl a1,λhf=>by have:=hF k hf;omega⟩
 ·intro i k hi hk hn;obtain⟨a1,a2⟩:=eX.lt k hk;have:=(bq i k hi hn).1;omega
theorem pR {κ:Type} {kt:TypeId} {K:uq P kt κ} {m:MS κ α} {f:FuncId} {b:Nat} (h:∀(es:Array MapEntry)(clock:Nat)(w:World),w.heap[b]? =some (.map es clock)->Calls P f #[.map (some b)] w λe w'=>e=.returned (.map (some w.heap.size))/\w'=w.alloc (.map es clock)):
  QB P f [.map (some b)] [] [QE K ag R b m] (λv bo Hr=>∃g,v=.map (some g)/\bo=[]/\Hr=[QE K ag R g m,QE K ag R b m]):=by
 intro F N w hF ec hH bq sQ;have hm:gB K ag R (N 0) F b m w:=hH 0 _ rfl;obtain⟨hb,E,h2,Zp⟩:=hm;refine(h E m.clock w h2).mono ?_;rintro e w' ⟨rfl,rfl⟩;refine⟨_,_,_,rfl,⟨w.heap.size,rfl,rfl,rfl⟩,?_⟩;have U:Below w.heap.size w (w.alloc (.map E m.clock)):=(Below.refl _ _).alloc (Nat.le_refl _) _;have h0:fP ⟨w,λk=>∃i,i<[QE K ag R b m].length/\N i k,F⟩ [] [QE K ag R b m] F N w:=⟨hF,λ_ h=>h,λ_ h=>.inl h,ec,hH,λi k hi hk=>⟨(bq i k hi hk).1,.inr ⟨i,hi,hk⟩,(bq i k hi hk).2⟩,sQ,Mod.refl _ _⟩
 have hFa:fB F w (w.alloc (.map E m.clock)):=λk hk=>U.block k (hF k hk);obtain⟨r1,r2,r3⟩:=Zp;refine⟨F,_,(h0.grow U).push (QE K ag R w.heap.size m) (λk=>k=w.heap.size) ⟨rfl,E,heap_alloc_new w _,r1,λi e x hi hx=>?_,r3⟩ ?_ ?_⟩
 ·obtain⟨cs,q1,q2⟩:=r2 i e x hi hx;exact⟨cs,q1,R.good (λ_ h=>h) hFa q2⟩
 ·rintro k rfl;exact⟨ax,.inl (Nat.le_refl _),λhf=>Nat.lt_irrefl _ (hF _ hf)⟩
 ·rintro i k hi rfl hn;exact Nat.lt_irrefl _ (bq i _ hi hn).1
end
end
end Go.Proofs.YtocfkfhdcnjklaaGreatDoor
