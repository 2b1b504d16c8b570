import Derived.Test.YtocfkfhdcnjklaaGreatDoorSort
import Derived.Lib.Strings
import Derived.Lib.SlTrimSet
import Derived.Lib.SlKeysI
import Derived.Sort.KeysCollected
import Derived.CallsIn
open Bool renaming false_eq_true->a',eq_iff_iff->d',not_eq_true'->F',and_eq_true->J',false_eq->N'
open List renaming getElem?_eq_getElem->c',getElem?_cons_zero->f',getElem?_eq_some_iff->g',drop_eq_getElem_cons->j',drop_eq_nil_of_le->k',mem_append_right->l',getElem_mem->n',length_cons->o',mem_reverse->q',map_map->t',mem_map->u',length_nil->x',singleton_append->y',map_congr_left->A',mem_cons->B',range->C',append_assoc->D',take_add_one->G',pairwise_map->I',mem_append->L',foldr->W'
open Nat renaming blt->i',lt_succ_self->p',le_refl->K',lt_irrefl->O',zero_le->V'
open Int renaming tdiv->r',toNat_natCast->E',natAbs_tdiv->M',lt_or_le->P',le_of_lt->R',zero_mul->T',mul_zero->U'
open Prod renaming mk->z'
namespace Go.Proofs.YtocfkfhdcnjklaaGreatDoor
section
open Go Go.RowKit
abbrev R0 (a:Value) (b c:List Fact):Value->List Fact->List Fact->Prop:=λv p q=>v=a/\p=b/\q=c
variable {α:Type}{p:Prop}{b:α}{m:Option α}
theorem zs {a:α} (h:some a=some b):b=a:=(Option.some.inj h).symm
theorem kn {β:Type} {k:α->Option β} {b:β} (h:Qf m k=some b)(next:∀x,m=some x->k x=some b->p):p:=by
 obtain⟨a,h1,U⟩:=Qz h;exact next a h1 U
theorem kg {c:Prop} [Decidable c] (h:gd c m=some b)(next:c->m=some b->p):p:=(oe h).elim next
theorem ks {σ O:Type} {X:Option (σ⊕O)} {Y:σ->Option O} {b:O} (h:jw X Y=some b)(next:∀x,X=some x->xR Y x b->p):p:=by
 obtain⟨a,h1,U⟩:=mH h;exact next a h1 U
section
variable {P:Program} {C:Ctx} {n:FD} {Q:Exit->Act->World->Prop} {Φ Φ':List Fact} {H H':List Fact} {S S':List (Nat×Value)} {ops:Array Oper} {rest:List Oper} {o:Oper} {d:Nat} {c x y:Code}
variable {A B E F G I J K M N:Nat×Value}{v:Value}{t m d2 sz b id:Nat}{σ α β τ O A0:Type}{e:Exit}{m1 m2 r:α}{o2:Oper}{fn:Func}{R:Value->List Fact->List Fact->Prop}{bo Hr Φf Hf:List Fact}{f:FuncId}{xs:Array Operand}{ts:Array TypeId}{args all:List Value}{X:Prop}{g:Bool}
theorem Qn {v':Value} (h:v=v')(next:WL P C n Q Φ H ((d,v')::S) ops rest):WL P C n Q Φ H ((d,v)::S) ops rest:=by subst h;exact next
theorem QO {o:Operand} {t:Bool} (hm:(if t=true then m1 else m2)=r)(U:da S o=some (.bool t))(ht:m1=r->WC P C n Q Φ H S x)(hf:m2=r->WC P C n Q Φ H S y):WC P C n Q Φ H S (.cond o x y):=
 iS U (λh=>ht (a1l hm h)) (λh=>hf (a1k hm h))
theorem a1X {t:Bool} (hm:(if t=true then m1 else m2)=r)(ht:t=true->m1=r->WL P C n Q Φ H ((d,.bool true)::S) ops rest)(U:t=false->m2=r->WL P C n Q Φ H ((d,.bool false)::S) ops rest):WL P C n Q Φ H ((d,.bool t)::S) ops rest:=by
 cases t;· exact U rfl (a1k hm rfl)
 · exact ht rfl (a1l hm rfl)
theorem fo {t:Bool} (hm:(if t=true then m1 else m2)=r)(ht:m1=r->WL P C n Q Φ H ((d,.bool true)::S) ops rest)(U:m2=r->WL P C n Q Φ H ((d,.bool false)::S) ops rest):WL P C n Q Φ H ((d,.bool t)::S) ops rest:=a1X hm (λ_=>ht) (λ_=>U)
private theorem p4.{u,v} {α:Type u} {β:Type v} {a U:α} {b b':β} (h:(a,b)=(U,b')):a=U/\b=b':=by cases h;exact⟨rfl,rfl⟩
theorem ay {v2:Value} (h:((QM ops S o,o.dst,i' d n,lP d S,B6 S o.op),(QM ops ((d,v)::S) o2,o2.dst,i' d2 n,lP d2 ((d,v)::S),B6 ((d,v)::S) o2.op))=((some true,some d,true,true,some v),(some true,some d2,true,true,some v2)))
  (next:WL P C n Q Φ H ((d2,v2)::(d,v)::S) ops rest):WL P C n Q Φ H S ops (o::o2::rest):=by
 obtain⟨h1,U⟩:=p4 h;exact wP h1 (wP U next)
theorem ew (h:((QM ops S o,o.dst,i' d n,lP d S),(QM ops ((d,undef)::S) o2,o2.dst,i' d2 n,lP d2 ((d,undef)::S)))=((some false,some d,true,true),(some false,some d2,true,true)))
  (next:WL P C n Q Φ H ((d2,undef)::(d,undef)::S) ops rest):WL P C n Q Φ H S ops (o::o2::rest):=by
 obtain⟨h1,U⟩:=p4 h;exact wO h1 (wO U next)
theorem eh {U o4:Oper} {d3 d4:Nat} (h:(((QM ops S o,o.dst,i' d n,lP d S),(QM ops ((d,undef)::S) o2,o2.dst,i' d2 n,lP d2 ((d,undef)::S))),((QM ops ((d2,undef)::(d,undef)::S) U,U.dst,i' d3 n,lP d3 ((d2,undef)::(d,undef)::S)),(QM ops ((d3,undef)::(d2,undef)::(d,undef)::S) o4,o4.dst,i' d4 n,lP d4 ((d3,undef)::(d2,undef)::(d,undef)::S))))=(((some false,some d,true,true),(some false,some d2,true,true)),((some false,some d3,true,true),(some false,some d4,true,true))))
  (next:WL P C n Q Φ H ((d4,undef)::(d3,undef)::(d2,undef)::(d,undef)::S) ops rest):WL P C n Q Φ H S ops (o::o2::U::o4::rest):=by
 obtain⟨h1,h2⟩:=p4 h;exact ew h1 (ew h2 next)
theorem wM {tb:Nat} {x:Operand} (k j:Nat)(cs:List Value)(h:(QM ops S o,o.dst,i' d n,lP d S,o.op,H[k]?,da S x,(all.drop j).take sz)=(some true,some d,true,true,.load t x,some (.blk b all tb),some (.pointer (some ⟨b,j,none⟩)),cs))
  (hs:QT P t=some sz) (ha:gx P t=some g) (hv:(cs.length,lY g cs)=(sz,some v)) (next:WL P C n Q Φ H ((d,v)::S) ops rest):WL P C n Q Φ H S ops (o::rest):=by
 obtain⟨h1,h⟩:=p4 h;obtain⟨U,h⟩:=p4 h;obtain⟨h3,h⟩:=p4 h;obtain⟨h4,h⟩:=p4 h;obtain⟨h5,h⟩:=p4 h;obtain⟨h6,h⟩:=p4 h;obtain⟨h7,h8⟩:=p4 h;obtain⟨g1,g2⟩:=p4 hv;exact O2 k j h1 U h3 (Q0 h4) h5 h6 h7 h8 hs ha g1 g2 next
def JP {σ β:Type} (b:β)(K:σ->β×List (Nat×Value)×List Fact×List Fact)(C:Ctx)(n:FD):Act->World->Prop:=λa w=>∃s,pQ (λs=>b=(K s).1) (λs=>(K s).2.1) (λs=>(K s).2.2.1) (λs=>(K s).2.2.2) C n s a w
theorem cut (b:β)(K:σ->β×List (Nat×Value)×List Fact×List Fact)(U:WC P C n (Exit.then (JP b K C n) Q) Φ H S x)(hy:∀s,b=(K s).1->WC P C n Q (K s).2.2.1 (K s).2.2.2 (K s).2.1 y):WC P C n (Exit.then (λa w=>y.wp P Q a w) Q) Φ H S x:=
 Au _ _ _ _ U hy
theorem jn {b:β} {K:σ->β×List (Nat×Value)×List Fact×List Fact} (s:σ)(h:b=(K s).1)(l l2:List Nat)(U:(j0 l S,QQ Φ l2,H)=(K s).2):WE C n (Exit.then (JP b K C n) Q) Φ H S .normal:=by
 have h3:j0 l S=(K s).2.1:=congrArg (·.1) U;have h4:QQ Φ l2=(K s).2.2.1:=congrArg (·.2.1) U;have h5:H=(K s).2.2.2:=congrArg (·.2.2) U;exact lL s h l h3 (bh l2 h4) h5
theorem jM {b:β} {K:σ->β×List (Nat×Value)×List Fact×List Fact} (s:σ)(hm:some (K s).1=some b)(l l2:List Nat)(U:(j0 l S,QQ Φ l2,H)=(K s).2):WE C n (Exit.then (JP b K C n) Q) Φ H S .normal:=jn s (zs hm) l l2 U
def LP {σ τ O:Type} (f:τ->Option (τ⊕O))(b:O)(K:σ->τ×List (Nat×Value)×List Fact×List Fact)(m:Nat)(C:Ctx)(n:FD):Act->World->Prop:=λa w=>∃s:Nat×σ,s.1<m+1/\pQ (λs:Nat×σ=>fz f s.1 (K s.2).1=some b) (λs=>(K s.2).2.1) (λs=>(K s.2).2.2.1) (λs=>(K s.2).2.2.2) C n s a w
theorem pM (f:τ->Option (τ⊕O)) {N:Nat} {b:O} (K:σ->τ×List (Nat×Value)×List Fact×List Fact)(U:σ)(hm:fz f N (K U).1=some b)(l l2:List Nat)(h2:(j0 l S,QQ Φ l2,H)=(K U).2)
  (round:∀s m v,f (K s).1=some v->xR (fz f m) v b->WC P C n (Exit.then (LP f b K m C n) Q) (K s).2.2.1 (K s).2.2.2 (K s).2.1 c):WC P C n Q Φ H S (.loop c):=by
 have h3:j0 l S=(K U).2.1:=congrArg (·.1) h2;have h4:QQ Φ l2=(K U).2.2.1:=congrArg (·.2.1) h2;have h5:H=(K U).2.2.2:=congrArg (·.2.2) h2;refine Ul (σ:=Nat×σ) (λs=>fz f s.1 (K s.2).1=some b) (λs=>s.1) (λs=>(K s.2).2.1) (λs=>(K s.2).2.2.1) (λs=>(K s.2).2.2.2) (N,U) hm l h3 (bh l2 h4) h5 ?_;rintro⟨k,s⟩ hs;obtain⟨m,v,rfl,h6,h7⟩:=IA hs;exact round s m v h6 h7
theorem pN {f:τ->Option (τ⊕O)} {b:O} {K:σ->τ×List (Nat×Value)×List Fact×List Fact} (s:σ)(h:fz f m (K s).1=some b)(l l2:List Nat)(U:(j0 l S,QQ Φ l2,H)=(K s).2):WE C n (Exit.then (LP f b K m C n) Q) Φ H S .normal:=by
 have h3:j0 l S=(K s).2.1:=congrArg (·.1) U;have h4:QQ Φ l2=(K s).2.2.1:=congrArg (·.2.1) U;have h5:H=(K s).2.2.2:=congrArg (·.2.2) U;exact OO (μ:=λs:Nat×σ=>s.1) (m,s) (p' _) h l h3 (bh l2 h4) h5
def Cd:Exit->Bool
 | .ret=>true
 | .normal=>true
 |_=>false
theorem uC (h:Cd e=true):e=.ret\/e=.normal:=by cases e<;>simp_all [Cd]
private theorem p6.{u,v} {α:Type u} {β:Type v} {a U:α} {b b':β} (h:(a,b)=(U,b')):a=U/\b=b':=by cases h;exact⟨rfl,rfl⟩
theorem ct (l l2:List Nat)(mR:fn.results=#[.tmp t])(h1:look S t=some v)(U:R v bo Hr)(h:(QQ Φ l2,ig l H.length,QQ H l,Cd e)=(bo,true,Hr,true)):WE C ⟨m,[]⟩ (bodyPost P fn (tD C R)) Φ H S e:=by
 obtain⟨g1,h⟩:=p6 h;obtain⟨g2,h⟩:=p6 h;obtain⟨g3,g4⟩:=p6 h;exact tA l mR (kd h1) U (bh l2 g1) g2 g3 (uC g4)
theorem CD {u:Value} {U:Nat} (l l2:List Nat)(mR:fn.results=#[.tmp t,.tmp U])(h1:(look S t,look S U)=(some v,some u))(hR:R (.tuple #[v,u]) bo Hr)(h:(QQ Φ l2,ig l H.length,QQ H l,Cd e)=(bo,true,Hr,true)):WE C ⟨m,[]⟩ (bodyPost P fn (tD C R)) Φ H S e:=by
 obtain⟨g1,h⟩:=p6 h;obtain⟨g2,h⟩:=p6 h;obtain⟨g3,g4⟩:=p6 h;obtain⟨g5,g6⟩:=p6 h1;exact vO l mR (kd g5) (kd g6) hR (bh l2 g1) g2 g3 (uC g4)
theorem jb (l l2:List Nat)(mR:fn.results=#[])(U:R (.tuple #[]) bo Hr)(h:(QQ Φ l2,ig l H.length,QQ H l,Cd e)=(bo,true,Hr,true)):WE C ⟨m,[]⟩ (bodyPost P fn (tD C R)) Φ H S e:=by
 obtain⟨g1,h⟩:=p6 h;obtain⟨g2,h⟩:=p6 h;obtain⟨g3,g4⟩:=p6 h;exact uW l mR U (bh l2 g1) g2 g3 (uC g4)
theorem wI {e:Nat} {x i:Operand} {R:fq α} {p:Option Addr} {cp:Nat} {l:List α} {ik:IntKind} {u:α} (k j:Nat)(h:(QM ops S o,o.dst,i' d n,lP d S,o.op,Φ[k]?,da S x,da S i)=(some true,some d,true,true,.indexAddr t x i,some (.sli sz R p cp l),some (.slice p l.length cp),some (.int ik (j:Int))))(hu:l[j]? =some u)(he:iA P t=some e)(hs:QT P e=some sz)
  (next:∀b q cs,cs.length=sz->WL P C n Q (.cells b q cs::.rep R cs u::Φ) H ((d,.pointer (some ⟨b,q,none⟩))::S) ops rest):WL P C n Q Φ H S ops (o::rest):=by
 obtain⟨h1,h⟩:=p6 h;obtain⟨U,h⟩:=p6 h;obtain⟨h3,h⟩:=p6 h;obtain⟨h4,h⟩:=p6 h;obtain⟨h5,h⟩:=p6 h;obtain⟨h6,h⟩:=p6 h;obtain⟨h7,h8⟩:=p6 h;exact qP k j h1 U h3 (Q0 h4) h5 h6 h7 h8 rfl hu he hs next
theorem jZ {q:Nat} {x:Operand} (k j:Nat)(cs:List Value)(h:(QM ops S o,o.dst,i' d n,lP d S,o.op,Φ[k]?,da S x,(all.drop j).take sz)=(some true,some d,true,true,.load t x,some (.cells b q all),some (.pointer (some ⟨b,q+j,none⟩)),cs))
  (hs:QT P t=some sz) (ha:gx P t=some g) (hv:(cs.length,lY g cs)=(sz,some v)) (next:WL P C n Q Φ H ((d,v)::S) ops rest):WL P C n Q Φ H S ops (o::rest):=by
 obtain⟨h1,h⟩:=p6 h;obtain⟨U,h⟩:=p6 h;obtain⟨h3,h⟩:=p6 h;obtain⟨h4,h⟩:=p6 h;obtain⟨h5,h⟩:=p6 h;obtain⟨h6,h⟩:=p6 h;obtain⟨h7,h8⟩:=p6 h;obtain⟨g1,g2⟩:=p6 hv;exact RW k j h1 U h3 (Q0 h4) h5 h6 h7 h8 hs ha g1 g2 next
theorem jP (a b:Nat):Value.bool (decide ((a:Int)<(b:Int)))=.bool (decide (a<b)):=a1s
theorem Nle (a b:Nat):Value.bool (decide ((a:Int)<=(b:Int)))=.bool (decide (a<=b)):=a1r
theorem Oy (a b:Nat):Value.bool (decide ((a:Int)>(b:Int)))=.bool (decide (b<a)):=a1q
theorem Nge (a b:Nat):Value.bool (decide ((a:Int)>=(b:Int)))=.bool (decide (b<=a)):=a1p
theorem rK (a b:Nat):Value.bool ((a:Int)==(b:Int))=.bool (a==b):=a1o
theorem S4 (a b:Nat):Value.bool ((a:Int) !=(b:Int))=.bool (a !=b):=a1t
theorem sq {l:List Oper} (h:WL P C n (Exit.then (λa w=>y.wp P Q a w) Q) Φ H S l.toArray l):WC P C n Q Φ H S (.seq (.region id l.toArray false) y):=Q6 (Qb h)
theorem nt (h:WC P C n Q Φ H S y):WL P C n (Exit.then (λa w=>y.wp P Q a w) Q) Φ H S ops []:=Q2 (Qw h)
theorem kt (h:WC P C n Q Φ H S y):WC P C n (Exit.then (λa w=>y.wp P Q a w) Q) Φ H S .skip:=QV (Qw h)
theorem nr (h:WE C n Q Φ H S .ret):WL P C n (Exit.then (λa w=>Code.ret.wp P Q a w) Q) Φ H S ops []:=Q2 (Qw (Qm h))
theorem rb {K:Act->World->Prop} (h:WE C n Q Φ H S .ret):WE C n (Exit.then K (Exit.inBlock id Q)) Φ H S .ret:=Q5 (Qr h)
theorem k0 (h:j0 [] S=[])(y:WC P C n Q Φ H [] c):WC P C n Q Φ H S c:=lM _ h y
theorem nk0 (h:j0 [] S=[])(x:WC P C n Q Φ H [] y):WL P C n (Exit.then (λa w=>y.wp P Q a w) Q) Φ H S ops []:=nt (lM _ h x)
theorem k1 (a:Nat) (h:j0 [a] S=[A])(y:WC P C n Q Φ H [A] c):WC P C n Q Φ H S c:=lM _ h y
theorem dz (a:Nat) (h:j0 [a] S=[A])(x:WC P C n Q Φ H [A] y):WL P C n (Exit.then (λa w=>y.wp P Q a w) Q) Φ H S ops []:=nt (lM _ h x)
theorem k2 (a b:Nat) (h:j0 [a,b] S=[A,B])(y:WC P C n Q Φ H [A,B] c):WC P C n Q Φ H S c:=lM _ h y
theorem dp (a b:Nat) (h:j0 [a,b] S=[A,B])(x:WC P C n Q Φ H [A,B] y):WL P C n (Exit.then (λa w=>y.wp P Q a w) Q) Φ H S ops []:=nt (lM _ h x)
theorem k3 (a b e:Nat) {D:Nat×Value} (h:j0 [a,b,e] S=[A,B,D])(y:WC P C n Q Φ H [A,B,D] c):WC P C n Q Φ H S c:=lM _ h y
theorem gR (a b e:Nat) {D:Nat×Value} (h:j0 [a,b,e] S=[A,B,D])(x:WC P C n Q Φ H [A,B,D] y):WL P C n (Exit.then (λa w=>y.wp P Q a w) Q) Φ H S ops []:=nt (lM _ h x)
theorem k4 (a b e f:Nat) {D:Nat×Value} (h:j0 [a,b,e,f] S=[A,B,D,E])(y:WC P C n Q Φ H [A,B,D,E] c):WC P C n Q Φ H S c:=lM _ h y
theorem ib (a b e f:Nat) {D:Nat×Value} (h:j0 [a,b,e,f] S=[A,B,D,E])(x:WC P C n Q Φ H [A,B,D,E] y):WL P C n (Exit.then (λa w=>y.wp P Q a w) Q) Φ H S ops []:=nt (lM _ h x)
theorem k5 (a b e f g:Nat) {D:Nat×Value} (h:j0 [a,b,e,f,g] S=[A,B,D,E,F])(y:WC P C n Q Φ H [A,B,D,E,F] c):WC P C n Q Φ H S c:=lM _ h y
theorem mu (a b e f g:Nat) {D:Nat×Value} (h:j0 [a,b,e,f,g] S=[A,B,D,E,F])(x:WC P C n Q Φ H [A,B,D,E,F] y):WL P C n (Exit.then (λa w=>y.wp P Q a w) Q) Φ H S ops []:=nt (lM _ h x)
theorem k6 (a b e f g i:Nat) {D:Nat×Value} (h:j0 [a,b,e,f,g,i] S=[A,B,D,E,F,G])(y:WC P C n Q Φ H [A,B,D,E,F,G] c):WC P C n Q Φ H S c:=lM _ h y
theorem lT (a b e f g i:Nat) {D:Nat×Value} (h:j0 [a,b,e,f,g,i] S=[A,B,D,E,F,G])(x:WC P C n Q Φ H [A,B,D,E,F,G] y):WL P C n (Exit.then (λa w=>y.wp P Q a w) Q) Φ H S ops []:=nt (lM _ h x)
theorem k7 (a b e f g i j:Nat) {D:Nat×Value} (h:j0 [a,b,e,f,g,i,j] S=[A,B,D,E,F,G,I])(y:WC P C n Q Φ H [A,B,D,E,F,G,I] c):WC P C n Q Φ H S c:=lM _ h y
theorem JF (a b e f g i j:Nat) {D:Nat×Value} (h:j0 [a,b,e,f,g,i,j] S=[A,B,D,E,F,G,I])(x:WC P C n Q Φ H [A,B,D,E,F,G,I] y):WL P C n (Exit.then (λa w=>y.wp P Q a w) Q) Φ H S ops []:=nt (lM _ h x)
theorem k8 (a b e f g i j k:Nat) {D:Nat×Value} (h:j0 [a,b,e,f,g,i,j,k] S=[A,B,D,E,F,G,I,J])(y:WC P C n Q Φ H [A,B,D,E,F,G,I,J] c):WC P C n Q Φ H S c:=lM _ h y
theorem Tj (a b e f g i j k:Nat) {D:Nat×Value} (h:j0 [a,b,e,f,g,i,j,k] S=[A,B,D,E,F,G,I,J])(x:WC P C n Q Φ H [A,B,D,E,F,G,I,J] y):WL P C n (Exit.then (λa w=>y.wp P Q a w) Q) Φ H S ops []:=nt (lM _ h x)
theorem k9 (a b e f g i j k l:Nat) {D:Nat×Value} (h:j0 [a,b,e,f,g,i,j,k,l] S=[A,B,D,E,F,G,I,J,K])(y:WC P C n Q Φ H [A,B,D,E,F,G,I,J,K] c):WC P C n Q Φ H S c:=lM _ h y
theorem Rp (a b e f g i j k l:Nat) {D:Nat×Value} (h:j0 [a,b,e,f,g,i,j,k,l] S=[A,B,D,E,F,G,I,J,K])(x:WC P C n Q Φ H [A,B,D,E,F,G,I,J,K] y):WL P C n (Exit.then (λa w=>y.wp P Q a w) Q) Φ H S ops []:=nt (lM _ h x)
theorem k10 (a b e f g i j k l m:Nat) {D L:Nat×Value} (h:j0 [a,b,e,f,g,i,j,k,l,m] S=[A,B,D,E,F,G,I,J,K,L])(y:WC P C n Q Φ H [A,B,D,E,F,G,I,J,K,L] c):WC P C n Q Φ H S c:=lM _ h y
theorem a2Z (a b e f g i j k l m:Nat) {D L:Nat×Value} (h:j0 [a,b,e,f,g,i,j,k,l,m] S=[A,B,D,E,F,G,I,J,K,L])(x:WC P C n Q Φ H [A,B,D,E,F,G,I,J,K,L] y):WL P C n (Exit.then (λa w=>y.wp P Q a w) Q) Φ H S ops []:=nt (lM _ h x)
theorem k11 (a b e f g i j k l m p:Nat) {D L:Nat×Value} (h:j0 [a,b,e,f,g,i,j,k,l,m,p] S=[A,B,D,E,F,G,I,J,K,L,M])(y:WC P C n Q Φ H [A,B,D,E,F,G,I,J,K,L,M] c):WC P C n Q Φ H S c:=lM _ h y
theorem a1w (a b e f g i j k l m p:Nat) {D L:Nat×Value} (h:j0 [a,b,e,f,g,i,j,k,l,m,p] S=[A,B,D,E,F,G,I,J,K,L,M])(x:WC P C n Q Φ H [A,B,D,E,F,G,I,J,K,L,M] y):WL P C n (Exit.then (λa w=>y.wp P Q a w) Q) Φ H S ops []:=nt (lM _ h x)
theorem j8 (a b e f g i j k l m p q:Nat) {D L:Nat×Value} (h:j0 [a,b,e,f,g,i,j,k,l,m,p,q] S=[A,B,D,E,F,G,I,J,K,L,M,N])(y:WC P C n Q Φ H [A,B,D,E,F,G,I,J,K,L,M,N] c):WC P C n Q Φ H S c:=lM _ h y
theorem a1x (a b e f g i j k l m p q:Nat) {D L:Nat×Value} (h:j0 [a,b,e,f,g,i,j,k,l,m,p,q] S=[A,B,D,E,F,G,I,J,K,L,M,N])(x:WC P C n Q Φ H [A,B,D,E,F,G,I,J,K,L,M,N] y):WL P C n (Exit.then (λa w=>y.wp P Q a w) Q) Φ H S ops []:=nt (lM _ h x)
theorem a30 (a b e f g i j k l m p q r:Nat) {D L O:Nat×Value} (h:j0 [a,b,e,f,g,i,j,k,l,m,p,q,r] S=[A,B,D,E,F,G,I,J,K,L,M,N,O])(x:WC P C n Q Φ H [A,B,D,E,F,G,I,J,K,L,M,N,O] y):WL P C n (Exit.then (λa w=>y.wp P Q a w) Q) Φ H S ops []:=nt (lM _ h x)
theorem c0 {e1:Value} {e2 e3:List Fact} (l m:List Nat)
  (h:(QM ops S o,o.dst,i' d n,lP d S,o.op,xm S xs.toList)=(some true,some d,true,true,.call {callee:=.value (.func f),args:=xs,argTypes:=ts},some args)) (kS:cy P f=true) (hc:X)
  (spec:X->QD P f args Φf Hf (λv bo Hr=>v=e1/\bo=e2/\Hr=e3)) (l2:List Nat) (H':List Fact) (U:(QQ H l,QQ Φ l2,ig (l++m) H.length,QQ H m)=(Hf,Φf,true,H'))
  (next:WL P C n Q (e2++Φ) (e3++H') ((d,e1)::S) ops rest):WL P C n Q Φ H S ops (o::rest):=by
 obtain⟨g1,U⟩:=p6 U;obtain⟨g2,U⟩:=p6 U;obtain⟨g3,g4⟩:=p6 U;refine wC l m h kS g1 (spec hc) (bh l2 g2) g3 g4 ?_;rintro _ _ _ ⟨rfl,rfl,rfl⟩;exact next
theorem c1 {e1:A0->Value} {e2 e3:A0->List Fact} (l m:List Nat)
  (h:(QM ops S o,o.dst,i' d n,lP d S,o.op,xm S xs.toList)=(some true,some d,true,true,.call {callee:=.value (.func f),args:=xs,argTypes:=ts},some args)) (kS:cy P f=true) (hc:X)
  (spec:X->QD P f args Φf Hf (λv bo Hr=>∃a0,v=e1 a0/\bo=e2 a0/\Hr=e3 a0)) (l2:List Nat) (H':List Fact) (U:(QQ H l,QQ Φ l2,ig (l++m) H.length,QQ H m)=(Hf,Φf,true,H'))
  (next:∀a0,WL P C n Q (e2 a0++Φ) (e3 a0++H') ((d,e1 a0)::S) ops rest):WL P C n Q Φ H S ops (o::rest):=by
 obtain⟨g1,U⟩:=p6 U;obtain⟨g2,U⟩:=p6 U;obtain⟨g3,g4⟩:=p6 U;refine wC l m h kS g1 (spec hc) (bh l2 g2) g3 g4 ?_;rintro _ _ _ ⟨a0,rfl,rfl,rfl⟩;exact next a0
theorem c4 {A1 A2 A3:Type} {e1:A0->A1->A2->A3->Value} {e2 e3:A0->A1->A2->A3->List Fact} (l m:List Nat)
  (h:(QM ops S o,o.dst,i' d n,lP d S,o.op,xm S xs.toList)=(some true,some d,true,true,.call {callee:=.value (.func f),args:=xs,argTypes:=ts},some args)) (kS:cy P f=true) (hc:X)
  (spec:X->QD P f args Φf Hf (λv bo Hr=>∃a0 U a2 a3,v=e1 a0 U a2 a3/\bo=e2 a0 U a2 a3/\Hr=e3 a0 U a2 a3)) (l2:List Nat) (H':List Fact) (h2:(QQ H l,QQ Φ l2,ig (l++m) H.length,QQ H m)=(Hf,Φf,true,H'))
  (next:∀a0 U a2 a3,WL P C n Q (e2 a0 U a2 a3++Φ) (e3 a0 U a2 a3++H') ((d,e1 a0 U a2 a3)::S) ops rest):WL P C n Q Φ H S ops (o::rest):=by
 obtain⟨g1,h2⟩:=p6 h2;obtain⟨g2,h2⟩:=p6 h2;obtain⟨g3,g4⟩:=p6 h2;refine wC l m h kS g1 (spec hc) (bh l2 g2) g3 g4 ?_;rintro _ _ _ ⟨a0,U,a2,a3,rfl,rfl,rfl⟩;exact next a0 U a2 a3
end
section
variable {P:Program} {C:Ctx} {n:FD} {Q:Exit->Act->World->Prop} {ops:Array Oper} {au L:List Nat} {D:List (Nat×Fact)} {Φ H:List Fact} {S S':List (Nat×Value)} {d:Nat}
variable {t b k sz d2 q e tb:Nat}{v:Value}{g:Bool}{all:List Value}{o2:Oper}{p:Option Addr}
private theorem p7.{u,v} {α:Type u} {β:Type v} {a U:α} {b b':β} (h:(a,b)=(U,b')):a=U/\b=b':=by cases h;exact⟨rfl,rfl⟩
theorem iB {v':Value} (h:v=v')(next:WX P C n Q ops au L D Φ H ((d,v')::S)):WX P C n Q ops au L D Φ H ((d,v)::S):=by subst h;exact next
theorem cw (U:jd ops au=true)(i:Nat) {o:Oper} {d:Nat} {v2:Value} (h:((ops[i]?,o.dst,nE ops au L i n d o,lP d S,QM ops S o,B6 S o.op),(ops[i+1]?,o2.dst,nE ops au (i::L) (i+1) n d2 o2,lP d2 ((d,v)::S),QM ops ((d,v)::S) o2,B6 ((d,v)::S) o2.op))=((some o,some d,true,true,some true,some v),(some o2,some d2,true,true,some true,some v2)))
  (next:WX P C n Q ops au ((i+1)::i::L) D Φ H ((d2,v2)::(d,v)::S)):WX P C n Q ops au L D Φ H S:=by
 obtain⟨h1,h2⟩:=p7 h;exact xP U i h1 (xP U (i+1) h2 next)
theorem eu (U:jd ops au=true)(i:Nat) {o:Oper} {d:Nat} (h:((ops[i]?,o.dst,nE ops au L i n d o,lP d S,QM ops S o),(ops[i+1]?,o2.dst,nE ops au (i::L) (i+1) n d2 o2,lP d2 ((d,undef)::S),QM ops ((d,undef)::S) o2))=((some o,some d,true,true,some false),(some o2,some d2,true,true,some false)))
  (next:WX P C n Q ops au ((i+1)::i::L) D Φ H ((d2,undef)::(d,undef)::S)):WX P C n Q ops au L D Φ H S:=by
 obtain⟨h1,h2⟩:=p7 h;exact xO U i h1 (xO U (i+1) h2 next)
theorem xF (U:jd ops au=true)(i:Nat) {o:Oper} {d off:Nat} {x:Operand} (h:(ops[i]?,o.dst,nE ops au L i n d o,lP d S,QM ops S o,o.op,da S x)=(some o,some d,true,true,some true,.fieldAddr t x k,some (.pointer (some ⟨b,q,none⟩))))(hk:QW P t k=some off)
  (next:WX P C n Q ops au (i::L) D Φ H ((d,.pointer (some ⟨b,q+off,none⟩))::S)):WX P C n Q ops au L D Φ H S:=by
 obtain⟨h1,h⟩:=p7 h;obtain⟨h2,h⟩:=p7 h;obtain⟨h3,h⟩:=p7 h;obtain⟨h4,h⟩:=p7 h;obtain⟨h5,h⟩:=p7 h;obtain⟨h6,h7⟩:=p7 h;exact Az U i h1 h2 h3 (Q0 h4) h5 h6 h7 hk next
theorem xN (U:jd ops au=true)(i:Nat) {o:Oper} {d:Nat} {x:Operand} {c:Nat} (h:(ops[i]?,o.dst,nE ops au L i n d o,lP d S,QM ops S o,o.op,da S x)=(some o,some d,true,true,some true,.call {callee:=.builtin .len,args:=#[x],argTypes:=#[t]},some (.slice p k c)))(ht:iA P t=some e)
  (next:WX P C n Q ops au (i::L) D Φ H ((d,.int .i64 (k:Int))::S)):WX P C n Q ops au L D Φ H S:=by
 obtain⟨h1,h⟩:=p7 h;obtain⟨h2,h⟩:=p7 h;obtain⟨h3,h⟩:=p7 h;obtain⟨h4,h⟩:=p7 h;obtain⟨h5,h⟩:=p7 h;obtain⟨h6,h7⟩:=p7 h;exact XE U i h1 h2 h3 (Q0 h4) h5 h6 h7 ht next
theorem xM (U:jd ops au=true)(i:Nat) {o:Oper} {d:Nat} {x:Operand} (k j:Nat)(cs:List Value)(h:(ops[i]?,o.dst,nE ops au L i n d o,lP d S,QM ops S o,o.op,QQ H [k],da S x,(all.drop j).take sz)=(some o,some d,true,true,some true,.load t x,[.blk b all tb],some (.pointer (some ⟨b,j,none⟩)),cs))
  (hs:QT P t=some sz) (ha:gx P t=some g) (hv:(cs.length,lY g cs)=(sz,some v))
  (next:WX P C n Q ops au (i::L) ((i,.blk b all tb)::D) Φ H ((d,v)::S)):WX P C n Q ops au L D Φ H S:=by
 obtain⟨h1,h⟩:=p7 h;obtain⟨h2,h⟩:=p7 h;obtain⟨h3,h⟩:=p7 h;obtain⟨h4,h⟩:=p7 h;obtain⟨h5,h⟩:=p7 h;obtain⟨h6,h⟩:=p7 h;obtain⟨h7,h⟩:=p7 h;obtain⟨h8,h9⟩:=p7 h;obtain⟨g1,g2⟩:=p7 hv;exact Dt U i k j h1 h2 h3 (Q0 h4) h5 h6 h7 h8 h9 hs ha g1 g2 next
theorem xD (U:jd ops au=true)(i:Nat) {o:Oper} {d:Nat} {x:Operand} {c:Value} (k j:Nat)(h:(ops[i]?,o.dst,nE ops au L i n d o,lP d S,QM ops S o,o.op,QQ H [k],da S x,all[j]?)=(some o,some d,true,true,some true,.load t x,[.blk b all tb],some (.pointer (some ⟨b,j,none⟩)),some c))
  (hs:QT P t=some 1) (ha:gx P t=some g) (hv:lY g [c]=some v)
  (next:WX P C n Q ops au (i::L) ((i,.blk b all tb)::D) Φ H ((d,v)::S)):WX P C n Q ops au L D Φ H S:=by
 obtain⟨h1,h⟩:=p7 h;obtain⟨h2,h⟩:=p7 h;obtain⟨h3,h⟩:=p7 h;obtain⟨h4,h⟩:=p7 h;obtain⟨h5,h⟩:=p7 h;obtain⟨h6,h⟩:=p7 h;obtain⟨h7,h⟩:=p7 h;obtain⟨h8,h9⟩:=p7 h;refine Dt U i k j h1 h2 h3 (Q0 h4) h5 h6 h7 h8 (cs:=[c]) ?_ hs ha rfl hv next
 obtain⟨hj,hc⟩:=g'.1 h9;rw[j' hj,hc];rfl
theorem xL (U:jd ops au=true)(i:Nat) {o:Oper} {d:Nat} {x:Operand} (k j:Nat)(cs:List Value)(h:(ops[i]?,o.dst,nE ops au L i n d o,lP d S,QM ops S o,o.op,Φ[k]?,da S x,(all.drop j).take sz)=(some o,some d,true,true,some true,.load t x,some (.cells b q all),some (.pointer (some ⟨b,q+j,none⟩)),cs))
  (hs:QT P t=some sz) (ha:gx P t=some g) (hv:(cs.length,lY g cs)=(sz,some v))
  (next:WX P C n Q ops au (i::L) D Φ H ((d,v)::S)):WX P C n Q ops au L D Φ H S:=by
 obtain⟨h1,h⟩:=p7 h;obtain⟨h2,h⟩:=p7 h;obtain⟨h3,h⟩:=p7 h;obtain⟨h4,h⟩:=p7 h;obtain⟨h5,h⟩:=p7 h;obtain⟨h6,h⟩:=p7 h;obtain⟨h7,h⟩:=p7 h;obtain⟨h8,h9⟩:=p7 h;obtain⟨g1,g2⟩:=p7 hv;exact RY U i k j h1 h2 h3 (Q0 h4) h5 h6 h7 h8 h9 hs ha g1 g2 next
theorem xI {α:Type} (U:jd ops au=true)(i:Nat) {o:Oper} {d:Nat} {x y:Operand} {R:fq α} {cp:Nat} {l:List α} {ik:IntKind} {u:α} (k j:Nat)(h:(ops[i]?,o.dst,nE ops au L i n d o,lP d S,QM ops S o,o.op,Φ[k]?,da S x,da S y)=(some o,some d,true,true,some true,.indexAddr t x y,some (.sli sz R p cp l),some (.slice p l.length cp),some (.int ik (j:Int))))(hu:l[j]? =some u)(he:iA P t=some e)(hs:QT P e=some sz)
  (next:∀b q cs,cs.length=sz->WX P C n Q ops au (i::L) D (.cells b q cs::.rep R cs u::Φ) H ((d,.pointer (some ⟨b,q,none⟩))::S)):WX P C n Q ops au L D Φ H S:=by
 obtain⟨h1,h⟩:=p7 h;obtain⟨h2,h⟩:=p7 h;obtain⟨h3,h⟩:=p7 h;obtain⟨h4,h⟩:=p7 h;obtain⟨h5,h⟩:=p7 h;obtain⟨h6,h⟩:=p7 h;obtain⟨h7,h⟩:=p7 h;obtain⟨h8,h9⟩:=p7 h;exact qQ U i k j h1 h2 h3 (Q0 h4) h5 h6 h7 h8 h9 rfl hu he hs next
theorem cv {Φ' H':List Fact} {S':List (Nat×Value)} (i:Nat)(m:List Nat)(h:(Φ'.drop i,QQ H' m)=(Φ,xU ops k D))(next:WX P C n Q ops au (k::L) D Φ' H' S'):WE C n (QX P C n Q ops au L D Φ k) Φ' H' S' .normal:=by
 obtain⟨h1,h2⟩:=p7 h;refine ie ((C' Φ'.length).drop i) m ?_ h2 next
 rw[<-h1];clear next h
 have:∀(l:List Fact) (a:List Fact),QQ (a++l) ((C' (a++l).length).drop a.length)=l:=by
  intro l;induction l with
  |nil=>intro a;rw[k' ax];rfl
  | cons x l ih=>
    intro a
    have e:(C' (a++x::l).length).drop a.length=a.length::(C' ((a++[x])++l).length).drop (a++[x]).length:=by
     rw[j' ax];simp
    rw[e];have:=ih (a++[x]);unfold QQ at this⊢;rw[List.filterMap_cons];simp only[D',y']at this;rw[show(a++x::l)[a.length]? =some x by simp];simp only[D',y'];rw[this]
 rcases Nat.le_total i Φ'.length with hi|hi
 ·have U:=this (Φ'.drop i) (Φ'.take i);rw[List.take_append_drop,List.length_take,Nat.min_eq_left hi]at U;exact U
 · rw[k' (cx hi),k' hi];rfl
end
end
section
open Go Go.RowKit
set_option maxRecDepth 100000
set_option maxHeartbeats 4000000
abbrev MT (st:bz):Value:=.iface (bz.tag st) (.pointer (some ⟨bz.adr st,0,none⟩))
theorem pF {C:Ctx} {n:FD} {Q:Exit->Act->World->Prop} {Φ Φ' H:List Fact} {S:List (Nat×Value)} {e:Exit} (hs:∀φ∈Φ',φ∈Φ)(h:WE C n Q Φ' H S e):WE C n Q Φ H S e:=λa w U hw=>h a w U (hw.sub hs)
theorem lC {P:Program} {f:FuncId} {args:List Value} {Φ H L:List Fact} {u:Value} {Q:Qc->Prop} {X:Qc->List Fact} (h:QD P f args Φ H (λv U Hr=>∃o,Q o/\v=u/\U=L/\Hr=X o)):QD P f args Φ H (λv U Hr=>∃o,Q o/\v=u/\U=[]/\Hr=X o):=by
 intro F N w h1 h2 h3 h4 h5;refine(h F N w h1 h2 h3 h4 h5).mono ?_;rintro e w' ⟨v,U,Hr,rfl,⟨o,q1,q2,rfl,rfl⟩,hh⟩;exact⟨_,_,_,rfl,⟨o,q1,q2,rfl,rfl⟩,hh.sub λ_ h=>by cases h⟩
def vh (K:bz->Qc->WM Qc)(r:Nat)(y:nQ):Nat->Qc->WM Qc
 |0,s=>fp s
 |i+1,s=>Qu (gRow s r) λU=>gv (U.stepsP=y.stepsP/\U.steps=y.steps/\U.stepsC=y.stepsC)<|Qu (y.steps[i]?) λst=>fu (K st s) λs'=>vh K r y i s'
def H9 (K:bz->Qc->WM Qc)(a0:Nat)(x:gT):List Nat->Qc->WM Qc
 |[],s=>fp s
 |r::rs,s=>Qu (gNet s a0) λU=>gv (U.rowsP=x.rowsP/\U.rows=x.rows/\U.rowsC=x.rowsC)<|Qu (gRow s r) λy=>gv (y.steps.length<=9223372036854775807)<|fu (vh K r y y.steps.length s) λs'=>H9 K a0 x rs s'
def Gk (K:bz->Qc->WM Qc)(a0:Nat)(s:Qc):WM Qc:=Qu (gNet s a0) λx=>gv (x.rows.length<=9223372036854775806) (H9 K a0 x x.rows s)
theorem Er (v:Value)(h1:v.cells.toList=[v]):QD Tryz.prog 179 [v] [] [] (λu bo Hr=>∃g,u=.func (.func 265) #[] #[.pointer (some ⟨g,0,none⟩)]/\bo=[]/\Hr=[.blk g [v] 110]):=by
 refine Qp Tryz.func179 rfl rfl rfl rfl λC=>?_;refine Q6 ?_;refine Qb ?_;refine vG rfl rfl rfl (Q0 rfl) rfl rfl h1 (λg=>?_);refine Qq rfl rfl rfl (Q0 rfl) rfl ?_;refine Q2 ?_;refine Qw ?_;refine Q6 ?_;refine Qb ?_;refine yW rfl rfl rfl (Q0 rfl) rfl rfl ?_;refine Qq (S':=[_,_,_]) rfl rfl rfl rfl rfl ?_;refine Q2 ?_;refine Qw ?_;refine Qm ?_;exact tA (Hr:=[_]) [0] Tryz.results179 (kd rfl) ⟨g,rfl,rfl,rfl⟩ (λ_ _ U=>ask [] rfl U) rfl rfl (.inl rfl)
abbrev Ck (g gb tb:Nat) (U:Value) (cs:List Value) (s:Qc):List Fact:=[.blk g [U] 225,.blk gb cs tb,Q3 gg s]
variable {gb tb:Nat}{cs:List Value}{Ou:List Fact}{K:bz->Qc->WM Qc}{s:Qc}{Q:Qc->Prop}
theorem Pd {l fn D g gk r:Nat} {tmps:Array Value} {assign body:Code} {ps:Array Tmp} {UD:Value} {y:nQ} (R1:ps.size=2)(hlen:y.steps.length<=9223372036854775807)
  (rs:∀(i:Nat) (st:bz) (s:Qc) (Q':Qc->Prop),K st s Q'->zg Tryz.prog l fn ((ps.zip #[.int .i64 (i:Int),MT st]).foldl (λtmps (t,a)=>tmps.setIfInBounds t a) tmps) assign body Ou (rR l {state:=.ready,pending:=none,fn:=fn,tmps:=tmps,params:=ps,assign:=assign,body:=body,defers:=D}::Ck g gb tb UD cs s) (λv bo Hr=>∃s',Q' s'/\v=.bool true/\bo=[]/\Hr=rR l {state:=.ready,pending:=none,fn:=fn,tmps:=tmps,params:=ps,assign:=assign,body:=body,defers:=D}::Ck g gb tb UD cs s'))
  (hm:vh K r y y.steps.length s Q):
  QD Tryz.prog 265 [.func (.yield l) #[] #[],.pointer (some ⟨gk,0,none⟩)] Ou (rR l {state:=.ready,pending:=none,fn:=fn,tmps:=tmps,params:=ps,assign:=assign,body:=body,defers:=D}::(Ck g gb tb UD cs s++[.blk gk [.slice y.stepsP y.steps.length y.stepsC] 110]))
   (λ_ bo Hr=>∃rr Hx,rr.state≠.busy/\rr.pending=none/\Hr=rR l rr::Hx/\(∃s',Q s'/\bo=[]/\Hx=Ck g gb tb UD cs s'++[.blk gk [.slice y.stepsP y.steps.length y.stepsC] 110])):=by
 refine Qp Tryz.func265 rfl rfl rfl rfl λC=>?_;refine Q6 ?_;refine Qb ?_;refine O2 4 0 rfl rfl rfl (Q0 rfl) rfl rfl rfl (cs:=[_]) rfl Jt Pa rfl rfl ?_;refine G3 rfl rfl rfl (Q0 rfl) rfl rfl Js ?_;refine Qq rfl rfl rfl (Q0 rfl) rfl ?_;refine Qn (i64_in (by unfold Wu;omega)) ?_;refine Qq rfl rfl rfl (Q0 rfl) rfl ?_;refine Q2 ?_;refine Qw ?_;refine Qi ?_
 refine Ul (σ:=Nat×Qc) (λ(i,s)=>i<=9223372036854775807/\vh K r y i s Q) (λ(i,_)=>i) (λ(i,_)=>[(3,.int .i64 ((i:Int)-1)),(1,.pointer (some ⟨gk,0,none⟩)),(0,.func (.yield l) #[] #[])]) (λ_=>Ou)
  (λ(_,s)=>rR l {state:=.ready,pending:=none,fn:=fn,tmps:=tmps,params:=ps,assign:=assign,body:=body,defers:=D}::(Ck g gb tb UD cs s++[.blk gk [.slice y.stepsP y.steps.length y.stepsC] 110])) (y.steps.length,s) ⟨hlen,hm⟩ [3,1,0] rfl (λ_ _ bj=>bj) rfl (λs_ hm=>?_)
 obtain⟨i,s⟩:=s_;try dsimp only at hm⊢
 obtain⟨hi,hm⟩:=hm;refine Q6 ?_;refine Q6 ?_;refine Qb ?_;refine Qq rfl rfl rfl (Q0 rfl) rfl ?_;refine Qq rfl rfl rfl (Q0 rfl) rfl ?_;refine Q2 ?_;refine Qw ?_;refine iS rfl (λhb=>?_) (λhb=>?_)
 ·rcases i with _|k;· simp at hb
  refine QV ?_;refine Qw ?_;refine lM [3,1,0] (S':=[_,_,_]) rfl ?_;refine a1U 0 (v':=.int .i64 ((k:Nat):Int)) rfl ax ?_;refine Q6 ?_;refine Qi ?_;refine Q6 ?_;refine vE ?_;refine Sw (P:=Tryz.prog) (l2:=[_,_]) [_,_,_,_,_,_] rfl rfl ?_;refine Qq rfl rfl rfl (Q0 rfl) rfl ?_;refine Qq rfl rfl rfl (Q0 rfl) rfl ?_;refine O2 4 0 rfl rfl rfl (Q0 rfl) rfl rfl rfl (cs:=[_]) rfl Jt Pa rfl rfl ?_;refine Qq rfl rfl rfl (Q0 rfl) rfl ?_;replace hm:=Jk hm;obtain⟨U,hy,hm⟩:=hm;replace hy:=qc hy;replace hm:=xx hm;obtain⟨Jz,hm⟩:=hm;replace hm:=Jk hm;obtain⟨st,ca,hm⟩:=hm;have a1a:U.steps[k]? =some st:=by rw[Jz.2.1];exact ca
  refine JZ 3 rfl hy rfl (λ_=>[QH QB false Qg U.wholeA U.whole,.own 213 1 DF (.slice U.stepsP U.steps.length U.stepsC) U.steps,.blk r [.pointer (some ⟨U.net,0,none⟩),.slice U.stepsP U.steps.length U.stepsC,.map (some U.wholeA)] 112,_,_,_,Q3 gg (del s r),_]) (λ_=>rfl) (λ_=>?_);refine pG 1 (v':=.slice U.stepsP U.steps.length U.stepsC) rfl (by rw[Jz.1,Jz.2.1,Jz.2.2]) ?_;refine Gd 1 k rfl rfl rfl (Q0 rfl) rfl rfl rfl rfl rfl (lN a1a) Js P6 (λge ege=>?_);refine U0 ege Qbj 1 k 0 rfl rfl rfl (Q0 rfl) rfl rfl rfl a1a P6 FQ (v:=λ_=>MT st) (λ_=>rfl) (λ_=>rfl) (λ_ _=>?_);refine Yt (gg:=gg) (a:=r) (o:=PO.row U) (x:=U) [0,1,2,3,4,5,6,7] 3 () rfl rfl rfl rfl rfl (λF w bj=>QF) (TZ hy) (H':=[_,_,_,Q3 gg s,_]) rfl (λ_=>?_);refine Q2 ?_;refine Tw ?_;refine yI [0,1,2,3] [4] rfl rfl rfl (Q0 rfl) rfl rfl rfl rfl R1.symm (rs k st s _ (QU hm)) (λ_ _ bj=>bj) rfl rfl ?_;rintro _ _ _ ⟨s',hm',rfl,rfl,rfl⟩;refine Sw (P:=Tryz.prog) (l2:=[]) [_] rfl rfl ?_;refine Qq rfl rfl rfl (Q0 rfl) rfl ?_;refine Q2 ?_;refine qN ?_;refine Qw ?_;refine Ed rfl ?_;refine QV ?_;refine Q7 ?_;refine Qw ?_;refine lM [3,1,0] (S':=[_,_,_]) rfl ?_;refine Qb ?_;refine Qq rfl rfl rfl (Q0 rfl) rfl ?_;refine Qq rfl rfl rfl (Q0 rfl) rfl ?_;refine Qn (i64_in (by unfold Wu;omega)) ?_;refine Qq (S':=[_,_,_,_]) rfl rfl rfl rfl rfl ?_;refine Q2 ?_;refine OO (k,s') (p' _) ⟨an,hm'⟩ [3,1,0] rfl (λ_ _ bj=>bj) rfl
 ·rcases i with _|k
  ·refine iT ?_;refine Q8 ?_;refine Q8 ?_;refine Qt ?_;exact uW (Hr:=[_,_,_,_,_]) [0,1,2,3,4] Tryz.results265 ⟨_,_,ax,rfl,rfl,s,hm,rfl,rfl⟩ (λ_ _ bj=>ask [] rfl bj) rfl rfl (.inr rfl)
  · simp at hb
theorem zy {a0 cf:Nat} (Yy:cy Tryz.prog cf=true)
  (hK:∀st s Q',K st s Q'->QD Tryz.prog cf [MT st,.pointer (some ⟨gb,0,none⟩)] Ou [.blk gb cs tb,Q3 gg s] (λv bo Hr=>∃s',Q' s'/\v=.tuple #[]/\bo=[]/\Hr=[.blk gb cs tb,Q3 gg s']))
  (hm:Gk K a0 s Q):QD Tryz.prog 96 [.pointer (some ⟨a0,0,none⟩),.func (.func cf) #[] #[.pointer (some ⟨gb,0,none⟩)]] Ou [.blk gb cs tb,Q3 gg s] (λv bo Hr=>∃s',Q s'/\v=.tuple #[]/\bo=[]/\Hr=[.blk gb cs tb,Q3 gg s']):=by
 refine CO Tryz.func96 rfl rfl rfl rfl λC=>?_;refine Q6 ?_;refine Qb ?_;refine vG rfl rfl rfl (Q0 rfl) rfl rfl rfl (λg=>?_);refine Q2 ?_;refine Qw ?_;refine Q6 ?_;refine Qb ?_;refine Qq rfl rfl rfl (Q0 rfl) rfl ?_;refine Qq rfl rfl rfl (Q0 rfl) rfl ?_;refine QbX rfl rfl rfl (Q0 rfl) rfl rfl pg ?_;replace hm:=Jk hm;obtain⟨x,hx,hm⟩:=hm;replace hx:=qb hx;replace hm:=xx hm;obtain⟨YF,hm⟩:=hm;refine JZ 3 rfl hx rfl (λr0=>[QH (gM (QA iL)).X true QL x.factsA x.facts,QH (Ef (B4 kH)).X false j2 x.alphasA x.alphas,.own 108 1 j2 (.slice x.rowsP x.rows.length x.rowsC) x.rows,.blk a0 [.slice r0.1 x.types.length r0.2,.slice x.rowsP x.rows.length x.rowsC,.map (some x.alphasA),.map (some x.factsA),.int .i64 (x.parts)] 85,_,_,_,Q3 gg (del s a0)]) (λ_=>rfl) (λr0=>?_);refine O2 3 1 rfl rfl rfl (Q0 rfl) rfl rfl rfl (cs:=[_]) rfl D9 Hh rfl rfl ?_;refine G3 rfl rfl rfl (Q0 rfl) rfl rfl rD ?_;refine Qq rfl rfl rfl (Q0 rfl) rfl ?_;refine Yt (gg:=gg) (a:=a0) (o:=PO.net x) (x:=x) [0,1,2,3,4,5,6,7] 3 r0 rfl rfl rfl rfl rfl (λF w bj=>(jm (bj _ (iZ (k:=0) rfl)) QF)) (TZ hx) (H':=[_,_,_,Q3 gg s]) rfl (λ_=>?_);refine Q2 ?_;refine pF (Φ':=Ou) (λ_ h=>l' _ h) ?_;refine Qh [1,0,2,3] rfl (H':=[_,_,_,_]) rfl ?_;refine Qw ?_;refine Qi ?_
 refine Nz (σ:=List Nat×List Nat×List Nat×Qc) (λ(_,pre,rs,s)=>x.rows=pre++rs/\H9 K a0 x rs s Q) (λ(_,_,rs,_)=>rs.length) (λ(Ds,_,_,_)=>⟨28,marks Ds⟩)
  (λ(_,pre,_,_)=>[(13,.int .i64 ((pre.length:Nat):Int)),(12,.int .i64 ((x.rows.length:Nat):Int)),(11,.slice x.rowsP x.rows.length x.rowsC),(3,.pointer (some ⟨g,0,none⟩))]) (λ_=>Ou)
  (λ(Ds,_,_,s)=>[tC Ds,.blk g [.func (.func cf) #[] #[.pointer (some ⟨gb,0,none⟩)]] 225,.blk gb cs tb,Q3 gg s]) ([],[],x.rows,s) ⟨rfl,hm⟩ rfl [13,12,11,3] rfl (λ_ _ bj=>bj) rfl (λs_ hm=>?_)
 obtain⟨Ds,pre,rs,s⟩:=s_;try dsimp only at hm⊢
 obtain⟨gZ,hm⟩:=hm;refine Q6 ?_;refine Qb ?_;refine Qq rfl rfl rfl (Q0 rfl) rfl ?_;refine Q2 ?_;refine Qw ?_;refine Q6 ?_;refine iS rfl (λhb=>?_) (λhb=>?_)
 ·rcases rs with _|⟨r,rs⟩
  · rw[gZ]at hb;simp at hb
  have hr0:x.rows[pre.length]? =some r:=by rw[gZ];simp
  replace hm:=Jk hm;obtain⟨U,nJ,hm⟩:=hm;replace nJ:=qb nJ;replace hm:=xx hm;obtain⟨Jz,hm⟩:=hm;have hr1:U.rows[pre.length]? =some r:=by rw[Jz.2.1];exact hr0
  refine QV ?_;refine Qw ?_;refine lM [13,12,11,3] (S':=[_,_,_,_]) rfl ?_;refine Q6 ?_;refine Qi ?_;refine Q6 ?_;refine Qb ?_;refine JZ 3 rfl nJ rfl (λr0=>[QH (gM (QA iL)).X true QL U.factsA U.facts,QH (Ef (B4 kH)).X false j2 U.alphasA U.alphas,.own 108 1 j2 (.slice U.rowsP U.rows.length U.rowsC) U.rows,.blk a0 [.slice r0.1 U.types.length r0.2,.slice U.rowsP U.rows.length U.rowsC,.map (some U.alphasA),.map (some U.factsA),.int .i64 (U.parts)] 85,_,_,_,Q3 gg (del s a0)]) (λ_=>rfl) (λr0=>?_);refine pG 2 (v':=.slice U.rowsP U.rows.length U.rowsC) rfl (by rw[Jz.1,Jz.2.1,Jz.2.2]) ?_;refine Gd 2 pre.length rfl rfl rfl (Q0 rfl) rfl rfl rfl rfl rfl (lN hr1) rD B7 (λge ege=>?_);refine pG 3 (v':=.slice x.rowsP x.rows.length x.rowsC) rfl (by rw[Jz.1,Jz.2.1,Jz.2.2]) ?_;refine U0 ege Sn 2 pre.length 0 rfl rfl rfl (Q0 rfl) rfl rfl rfl hr1 B7 HR (v:=λ_=>.pointer (some ⟨r,0,none⟩)) (λ_=>rfl) (λ_=>rfl) (λ_ _=>?_);refine Qq rfl rfl rfl (Q0 rfl) rfl ?_;refine Yt (gg:=gg) (a:=a0) (o:=PO.net U) (x:=U) [0,1,2,3,4,5,6,7] 3 r0 rfl rfl rfl rfl rfl (λF w bj=>(jm (bj _ (iZ (k:=0) rfl)) QF)) (TZ nJ) (H':=[_,_,_,Q3 gg s]) rfl (λ_=>?_);refine Q2 ?_;refine pF (Φ':=Ou) (λ_ h=>l' _ (l' _ h)) ?_;refine Qw ?_;refine lM [5,13,12,11,3] (S':=[_,_,_,_,_]) rfl ?_;refine Q6 ?_;refine Qb ?_;refine Qq rfl rfl rfl (Q0 rfl) rfl ?_;refine Qq rfl rfl rfl (Q0 rfl) rfl ?_;refine QbX rfl rfl rfl (Q0 rfl) rfl rfl O0 ?_;replace hm:=Jk hm;obtain⟨y,hy,hm⟩:=hm;replace hy:=qc hy;replace hm:=xx hm;obtain⟨hsl,hm⟩:=hm;refine JZ 3 rfl hy rfl (λ_=>[QH QB false Qg y.wholeA y.whole,.own 213 1 DF (.slice y.stepsP y.steps.length y.stepsC) y.steps,.blk r [.pointer (some ⟨y.net,0,none⟩),.slice y.stepsP y.steps.length y.stepsC,.map (some y.wholeA)] 112,_,_,_,Q3 gg (del s r)]) (λ_=>rfl) (λ_=>?_);refine O2 2 1 rfl rfl rfl (Q0 rfl) rfl rfl rfl (cs:=[_]) rfl Jt Pa rfl rfl ?_;refine Yt (gg:=gg) (a:=r) (o:=PO.row y) (x:=y) [0,1,2,3,4,5,6] 3 () rfl rfl rfl rfl rfl (λF w bj=>QF) (TZ hy) (H':=[_,_,_,Q3 gg s]) rfl (λ_=>?_);refine Ax [] [0,1,2,3] rfl rfl rfl (Q0 rfl) rfl rfl aq rfl (Er _ rfl) (λ_ _ bj=>ask [] rfl bj) rfl (H':=[_,_,_,_]) rfl ?_;rintro _ _ _ ⟨gk,rfl,rfl,rfl⟩;refine Q2 ?_;refine Qw ?_;refine lM [21,13,12,11,3] (S':=[_,_,_,_,_]) rfl ?_;refine Qi ?_;refine Di (Φf:=Ou) (H':=[tC Ds]) [0,4,5,6,2] [1,3] rfl aq (λ_ _=>rfl) (λ_ _ bj=>bj) rfl (λ_ _=>rfl) (λfn l D a hf=>Pd (K:=K) rfl hsl (λi st s Q' hk=>?_) (QU hm)) (λD bo Hx hR=>?_)
  ·refine CI (Lg hf rfl rfl rfl rfl) λC=>?_;refine QbV ?_;refine Sw (P:=Tryz.prog) (l2:=[]) [_] rfl rfl ?_;refine Qq rfl rfl rfl (Q0 rfl) rfl ?_;refine Q2 ?_;refine qN ?_;refine Dj 0 rfl rfl rfl ?_;refine yE ?_;refine QbV ?_;refine Sw (P:=Tryz.prog) (l2:=[]) [_,_,_] rfl rfl ?_;refine O2 1 0 rfl rfl rfl (Q0 rfl) rfl rfl rfl (cs:=[_]) rfl Xl X7 rfl rfl ?_;refine Qq rfl rfl rfl (Q0 rfl) rfl ?_;refine qU [2,3] [0,1] rfl rfl rfl (Q0 rfl) rfl rfl rfl Yy rfl rfl (hK st s Q' hk) (λ_ _ bj=>bj) rfl (H':=[_,_]) rfl ?_;rintro _ _ _ ⟨s',hm',rfl,rfl,rfl⟩;refine Q2 ?_;refine qN ?_;refine Q7 ?_;refine pF (Φ':=[]) (λ_ h=>by cases h) ?_;refine Qh [2,3,0,1] rfl (H':=[_,_,_,_]) rfl ?_;exact rG 0 rfl rfl ⟨s',hm',rfl,rfl,rfl⟩
  ·obtain⟨s',hm',rfl,rfl⟩:=hR;refine Hv (Ds:=Ds) (Es:=[D]) 5 4 rfl rfl rfl rfl ?_;refine Q7 ?_;refine Q7 ?_;refine Qw ?_;refine Qb ?_;refine Qq rfl rfl rfl (Q0 rfl) rfl ?_;refine Qn (i64_in (by unfold Wu;have:=(g'.1 hr0).1;omega)) ?_;refine Qq (S':=[_,_,_,_,_]) rfl rfl rfl rfl rfl ?_;refine Q2 ?_;refine Qh [4,0,1,2] rfl (H':=[tC (D::Ds),_,_,_]) rfl ?_;refine a1W 0 (v':=.int .i64 (((pre++[r]).length:Nat):Int)) rfl ax ?_;exact J5 (D::Ds,pre++[r],rs,s') (p' _) ⟨by rw[gZ];simp,hm'⟩ rfl [13,12,11,3] rfl (λ_ _ bj=>bj) rfl
 ·rcases rs with _|⟨r,rs⟩
  ·refine iT ?_;refine Q8 ?_;refine Q8 ?_;refine Qt ?_;refine Qh [0,2,3] rfl (H':=[tC Ds,_,_]) rfl ?_;refine pF (Φ':=[]) (λ_ h=>by cases h) ?_;exact Dl (Ds:=Ds) (.inl rfl) rfl rfl (CG Tryz.results96) ⟨s,hm,rfl,rfl,rfl⟩
  · rw[gZ]at hb;simp at hb;omega
end
section
open Go Go.RowKit
def lQ (m:Option Bool)(p:Prop):Prop:=∃b,m=some b/\(b=true↔p)
theorem lQ.id {m:Option Bool} {p:Prop} (h:lQ m p):lQ (Qf m λv=>some v) p:=by
 obtain⟨b,h1,U⟩:=h;rw[h1];exact⟨b,rfl,U⟩
theorem lQ.iff {m:Option Bool} {p q:Prop} (h:lQ m p)(e:p↔q):lQ m q:=by
 obtain⟨b,h1,U⟩:=h;exact⟨b,h1,U.trans e⟩
end
section
open Go Go.RowKit
variable {x y:Int}{N:Nat}
def num (x:Int):V:=⟨1,x,⟨#[]⟩⟩
theorem a34:¬((!true)=true):=λh=>by cases h
theorem WJ:¬(false=true):=λh=>by cases h
theorem IL (N:Nat)(x:Int):AB N 1 x (⟨#[]⟩:ByteArray)=some true:=by
 unfold AB;rw[if_pos (show((1:Int)==1)=true from rfl)];simp
theorem Po (hN:9223372036854775808<=N) {l:List V} (hl:∀v∈l,∃x,v=num x)(h2:l.length<=2):fz (Dy N l) N (0,false)=some (.inl false):=by
 obtain ⟨o,h1,h3⟩:=Ec (f:=Dy N l) (λs=>s.1<=l.length/\s.2=false) (λs=>l.length-s.1) (λo=>o=.inl false) (λs hs=>by
  obtain⟨i,b⟩:=s;obtain⟨hi,U⟩:=hs;simp only at hi U;subst U;unfold Dy;simp only;by_cases bp:i<l.length
  ·left;have hx:=c' bp;obtain⟨x,DX⟩:=hl _ (n' bp);rw[DX]at hx;refine⟨(i+1,false),?_,⟨by simp only;omega,rfl⟩,by simp only;omega⟩
   have hc:Sh N l i false=some (.inl false):=by
    unfold Sh;rw[hx,Q1];simp only[num];rw[IL,Q1,if_neg a34,if_neg WJ];rfl
   rw[bq bp,hc,lX,QC an]
  ·right;exact⟨_,by rw[br bp],rfl⟩) N (0,false) ⟨ax,rfl⟩ (by simp only;omega)
 rw[h1,h3]
def xk (r:Int×Bool):Nat×Int×Nat:=if r.2=true then(1,r.1,0)else(0,0,300)
theorem pW {op:Int} (hN:9223372036854775808<=N)(h0:1<=op)(h1:op<=10)(h4:op≠4)(h5:op≠5)(h6:op≠6) {r:Int×Bool} (h:QJ N op (num x) (num y)=some r):DB N op [num x,num y]=some (xk r):=by
 have hc:Y9 N op=some 2:=by
  unfold Y9;rw[br h4,Q1,if_neg (by simp;omega)]
 unfold DB;rw[hc,Q1,if_neg (by simp;omega),if_neg (by simp;omega),Q1,if_neg ax,Po hN (λv U=>by simp at U;first|(rcases U with rfl|rfl<;>exact⟨_,rfl⟩)|(subst U;exact⟨_,rfl⟩)) ax,lX];simp only[f',Q1];rw[QC an,QC an];rw[show[num x,num y][(((2:Nat):Int)-1).toNat]? =some (num y)from rfl,Q1,br h5,br h6,if_neg WJ,h,Q1];obtain⟨n,b⟩:=r;cases b<;>rfl
def dv (x:Int):Prop:=-9223372036854775808<=x/\x<=9223372036854775807
instance (x:Int):Decidable (dv x):=inferInstanceAs (Decidable (_/\_))
theorem u0 {n:Int} {b:Bool} (h:b=decide (dv x))(hn:dv x->n=x):xk (n,b)=if dv x then(1,x,0)else(0,0,300):=by
 subst h;unfold xk;by_cases U:dv x;· rw[bq U,if_pos U,hn U]
 · rw[br U,if_neg U]
theorem UI (U:9223372036854775808<=N)(hx:dv x)(hy:dv y):DB N 1 [num x,num y]=some (if dv (x+y)then(1,x+y,0)else(0,0,300)):=by
 have h:QJ N 1 (num x) (num y)=some (IntKind.wrap .i64 (x+y),(decide (IntKind.wrap .i64 (x+y)<x))==(decide (y<0))):=by
  unfold QJ;rfl
 rw[pW U an an an an an h,u0]
 ·rw[IntKind.wrap_i64,d'];simp only[beq_iff_eq,decide_eq_decide,decide_eq_true_eq];unfold dv at*;omega
 · intro h;exact IntWalk.i64_in _ h
theorem UL (U:9223372036854775808<=N)(hx:dv x)(hy:dv y):DB N 2 [num x,num y]=some (if dv (x-y)then(1,x-y,0)else(0,0,300)):=by
 have h:QJ N 2 (num x) (num y)=some (IntKind.wrap .i64 (x-y),(decide (IntKind.wrap .i64 (x-y)>x))==(decide (y<0))):=by
  unfold QJ;rfl
 rw[pW U an an an an an h,u0]
 ·rw[IntKind.wrap_i64,d'];simp only[beq_iff_eq,decide_eq_decide,decide_eq_true_eq];unfold dv at*;omega
 · intro h;exact IntWalk.i64_in _ h
theorem OX (N:Nat)(b:Bool):TY N b=some (if b=true then 1 else 0):=by cases b<;>rfl
theorem Gm (U:dv x):(if(decide (x<0))=true then some (IntKind.wrap .u64 (0-(IntKind.wrap .u64 x)))else some (IntKind.wrap .u64 x))=some ((x.natAbs:Nat):Int):=by
 unfold dv at U;rw[IntKind.wrap_u64,IntKind.wrap_u64];by_cases h:x<0;· rw[bq h];congr 1;omega
 · rw[br h];congr 1;omega
theorem IJ:x*y=if(decide (x<0) !=decide (y<0))=true then-((x.natAbs*y.natAbs:Nat):Int)else((x.natAbs*y.natAbs:Nat):Int):=by
 rw[<-Int.natAbs_mul];rcases P' x 0 with U|U<;>rcases P' y 0 with hy|hy
 ·rw[if_neg (by simp[U,hy])];have:=Int.mul_pos_of_neg_of_neg U hy;omega
 ·rw[if_pos (by simp[U,hy])];have:=Int.mul_nonpos_of_nonpos_of_nonneg (R' U) hy;omega
 ·rw[if_pos (by simp[U,hy])];have:=Int.mul_nonpos_of_nonneg_of_nonpos U (R' hy);omega
 ·rw[if_neg (by simp;omega)];have:=Int.mul_nonneg U hy;omega
theorem uR (U:dv x)(hy:dv y):∃n,TV N x y=some (n,decide (dv (x*y)))/\(dv (x*y)->n=x*y):=by
 have hA:x.natAbs<=9223372036854775808:=by unfold dv at U;omega
 have hB:y.natAbs<=9223372036854775808:=by unfold dv at hy;omega
 unfold TV;rw[Gm U,Q1,Gm hy,Q1,QC an,QC an,IJ];simp only[E'];by_cases hs:(decide (x<0) !=decide (y<0))=true
 ·rw [if_pos hs,if_pos hs];by_cases hh:x.natAbs*y.natAbs/18446744073709551616=0
  ·rw[if_pos (by simp;omega)];refine⟨_,congrArg some (congrArg (z' _) ?_),λh=>?_⟩;· simp only[decide_eq_decide];unfold dv;omega
   · unfold dv at h;rw[IntKind.wrap_u64,IntKind.wrap_i64];omega
  ·rw[if_neg (by simp;omega)];refine⟨_,congrArg some (congrArg (z' _) ?_),λh=>?_⟩;· simp only[N',decide_eq_false_iff_not];unfold dv;omega
   · unfold dv at h;omega
 ·rw [if_neg hs,if_neg hs];by_cases hh:x.natAbs*y.natAbs/18446744073709551616=0
  ·rw[if_pos (by simp;omega)];refine⟨_,congrArg some (congrArg (z' _) ?_),λh=>?_⟩;· simp only[decide_eq_decide];unfold dv;omega
   · unfold dv at h;rw[IntKind.wrap_i64];omega
  ·rw[if_neg (by simp;omega)];refine⟨_,congrArg some (congrArg (z' _) ?_),λh=>?_⟩;· simp only[N',decide_eq_false_iff_not];unfold dv;omega
   · unfold dv at h;omega
theorem UJ (hN:9223372036854775808<=N)(hx:dv x)(hy:dv y):DB N 3 [num x,num y]=some (if dv (x*y)then(1,x*y,0)else(0,0,300)):=by
 obtain⟨n,h1,U⟩:=uR (N:=N) hx hy
 have h:QJ N 3 (num x) (num y)=some (n,decide (dv (x*y))):=by
  unfold QJ;simp only[num,h1,Q1];rfl
 rw[pW hN an an an an an h,u0 rfl U]
end
section
open Go Go.RowKit
theorem a03 (s:ByteArray)(i:Nat):s[i]? =s.data.toList[i]?:=by
 by_cases h:i<s.size
 ·rw[getElem?_pos s i h];have U:i<s.data.toList.length:=by simpa using h
  rw[c' U];rfl
 ·rw[getElem?_neg s i h];rw[List.getElem?_eq_none (cx h)]
theorem btl (s:ByteArray):s.toList=s.data.toList:=ByteArray.toList_eq s
def wG (b:UInt8):Prop:=97<=b.toNat/\b.toNat<=122
def Fm (b:UInt8):Prop:=wG b\/(48<=b.toNat/\b.toNat<=57)\/b.toNat=95
def P9 (l:List UInt8):Prop:=0<l.length/\l.length<=24/\(∀b,l[0]? =some b->wG b)/\∀b∈l,Fm b
theorem GX (c:UInt8):c∈[97,98,99,100,101,102,103,104,105,106,107,108,109,110,111,112,113,114,115,116,117,118,119,120,121,(122:UInt8)]↔wG c:=by
 unfold wG;simp[<-UInt8.toNat_inj];omega
theorem Ri (c:UInt8):c∈[97,98,99,100,101,102,103,104,105,106,107,108,109,110,111,112,113,114,115,116,117,118,119,120,121,122,48,49,50,51,52,53,54,55,56,57,(95:UInt8)]↔Fm c:=by
 unfold Fm wG;simp[<-UInt8.toNat_inj];omega
theorem qh:∀(l:List UInt8)(c:UInt8),0<=Lib.indexByte l c↔c∈l
 |[],c=>by simp[Lib.indexByte]
 | b::l,c=>by
   unfold Lib.indexByte;have ih:=qh l c;have hg:=Lib.indexByte_ge l c;by_cases h:b=c;· subst h;simp
   ·rw[br h];have U:c≠b:=λe=>h e.symm
    simp only[B',U,false_or,<-ih,beq_iff_eq];split<;>omega
theorem EE (p:UInt8->Bool):∀l:List UInt8,l.dropWhile p=[]↔∀b∈l,p b=true
 |[]=>ax
 | a::l=>by
   rw[List.dropWhile_cons];by_cases h:p a=true;· rw[if_pos h,EE p l];simp[h]
   · rw[if_neg h];simp[h]
theorem bsize (s:ByteArray):s.size=s.data.toList.length:=Array.length_toList.symm
theorem Nw (l cs:List UInt8):Lib.trimS l cs=[]↔∀b∈l,b∈cs:=by
 unfold Lib.trimS Lib.trimLeftS Lib.trimRightS;rw[EE];constructor
 ·intro h;cases hd:l.reverse.dropWhile (cs.contains ·)with
  | nil=>
    rw[EE]at hd;intro b U;have:=hd b (q'.2 U);simpa using this
  | cons x t=>
    have h1:=List.head?_dropWhile_not (cs.contains ·) l.reverse;rw[hd]at h1 h;have h2:=h x ax;simp only[List.head?_cons]at h1;rw[h2]at h1;simp at h1
 ·intro h b U
  have h1:b∈l:=by
    have:=q'.1 U;exact q'.1 ((List.dropWhile_sublist _).subset this)
  simpa using h b h1
theorem RT (x:UInt8):(((x.toNat:Nat):Int)).toNat.toUInt8=x:=by
 rw[E'];exact UInt8.ofNat_toNat
theorem yB (N:Nat)(s:ByteArray):lQ (ZR N s) (P9 s.data.toList):=by
 have hs:s.size=s.data.toList.length:=bsize s;unfold ZR;refine lQ.id ?_;unfold Q8F;simp only[btl,hs,a03];generalize s.data.toList=l;cases l with
 |nil=>exact⟨false,by rw[if_neg ax],by simp[P9]⟩
 | cons c l=>
   rw[if_pos ax];by_cases U:(c::l).length<=24
   ·rw [bq U];simp only[f',Q1,RT];by_cases hi:0<=Lib.indexByte [97,98,99,100,101,102,103,104,105,106,107,108,109,110,111,112,113,114,115,116,117,118,119,120,121,122] c
    ·rw[bq hi,QC an];refine⟨_,rfl,?_⟩;simp only[beq_iff_eq,Nw,Ri];rw[qh,GX]at hi;unfold P9;constructor;· intro h;exact⟨ax,U,λb hb=>by cases hb;exact hi,h⟩
     · intro h;exact h.2.2.2
    ·rw[br hi];refine⟨false,rfl,?_⟩;rw[qh,GX]at hi;constructor;· intro h;cases h
     · intro h;exact absurd (h.2.2.1 c rfl) hi
   ·rw[br U]
    exact ⟨false,rfl,by constructor;· intro h;cases h
                        · intro h;exact absurd h.2.1 U⟩
theorem IP {N:Nat} {s:ByteArray} (hN:9223372036854775808<=N)(j9:s.size<=9223372036854775807):lQ (Q6i N s) (P9 s.data.toList):=by
 have hs:s.size=s.data.toList.length:=bsize s
 obtain ⟨o, h1,h2⟩:=Ec (f:=Q5q N s) (λi=>i<=s.size/\(∀b∈s.data.toList.take i,Fm b)/\(0<i->∀b,s.data.toList[0]? =some b->wG b)) (λi=>s.size-i)
  (fun o=>(o=.inl ()/\(∀b∈s.data.toList,Fm b)/\(0<s.size->∀b,s.data.toList[0]? =some b->wG b))\/(o=.inr false/\¬P9 s.data.toList)) (λi hi=>by
   obtain⟨hi,ha,hb⟩:=hi;unfold Q5q;by_cases bp:i<s.size
   ·have a0V:i<s.data.toList.length:=an
    have hx:=c' a0V;rw[bq bp,a03,hx,Q1];generalize hc:s.data.toList[i]=c at hx;have wx:=List.mem_of_getElem? hx;rw[show(if(decide (97<=c.toNat))=true then some (decide (c.toNat<=122))else some false)=some (decide (97<=c.toNat/\c.toNat<=122)) by
         by_cases q:97<=c.toNat
         · rw[bq q];simp[q]
         · rw[br q];simp[q],Q1]
    have hC:Q5p N (decide (97<=c.toNat/\c.toNat<=122)) i c=some (decide (¬(97<=c.toNat/\c.toNat<=122)/\(i=0\/¬((48<=c.toNat/\c.toNat<=57)\/c.toNat=95)))):=by
         unfold Q5p;by_cases q:97<=c.toNat/\c.toNat<=122;· rw[if_neg (by simp[q])];simp[q]
         ·rw [if_pos (show(!decide (97<=c.toNat/\c.toNat<=122))=true by rw[decide_eq_false q];rfl)];by_cases q0:i=0;· rw[bq q0];simp[q,q0]
          ·rw [br q0];by_cases q1:48<=c.toNat
           ·rw[bq q1];by_cases q2:c.toNat<=57;· rw[bq q2];simp[q0,q1,q2]
            ·rw[br q2];congr 1;rw[d'];simp only[F',beq_eq_false_iff_ne,ne_eq,decide_eq_true_eq];omega
           ·rw[br q1];congr 1;rw[d'];simp only[F',beq_eq_false_iff_ne,ne_eq,decide_eq_true_eq];omega
    rw[hC,Q1];by_cases jX:¬(97<=c.toNat/\c.toNat<=122)/\(i=0\/¬((48<=c.toNat/\c.toNat<=57)\/c.toNat=95))
    ·    right;refine⟨_,by rw[if_pos (by rw[decide_eq_true_eq];exact jX)],.inr ⟨rfl,λhn=>?_⟩⟩;obtain⟨_,_,n1,n2⟩:=hn;rcases jX.2 with h0|h0;· subst h0;exact jX.1 (n1 c hx)
         ·rcases n2 c wx with q|q|q;· exact jX.1 q
          · exact h0 (.inl q)
          · exact h0 (.inr q)
    ·    left;refine⟨i+1,by rw[if_neg (by rw[decide_eq_true_eq];exact jX),QC an],⟨an,λb U=>?_,λ_ b U=>?_⟩,an⟩
         ·rw[G',hx]at U;rcases L'.1 U with U|U;· exact ha b U
          ·simp at U;subst U;unfold Fm wG;omega
         ·by_cases h0:i=0
          ·subst h0;rw[hx]at U;cases U;unfold wG;omega
          · exact hb an b U
   ·right;have e:i=s.size:=an
    subst e;rw[hs,List.take_length]at ha;exact⟨_,by rw[if_neg ax],.inl ⟨rfl,ha,hb⟩⟩) N 0 ⟨an,ax,an⟩ an
 unfold Q6i;rw[h1];rcases h2 with⟨rfl,h2,h3⟩|⟨rfl,h2⟩
 ·rw [lX];by_cases q:1<=s.size
  ·rw[bq q];refine⟨_,rfl,?_⟩;simp only[decide_eq_true_eq];unfold P9;constructor;· intro h;exact⟨an,an,h3 an,h2⟩
   · intro h;omega
  ·rw[br q];refine⟨false,rfl,?_⟩;constructor;· intro h;cases h
   · intro h;have:=h.1;omega
 · exact ⟨false,rfl,by constructor;· intro h;cases h
                       · intro h;exact absurd h h2⟩
theorem RD {m m':Option Bool} {p:Prop} (h:lQ m p)(h':lQ m' p):m=m':=by
 obtain⟨b,h1,U⟩:=h;obtain⟨b',h3,h4⟩:=h';rw[h1,h3];congr 1;rw[d',U,h4]
def Jp (v:V):Prop:=(v.k=1/\v.s.data.toList=[])\/(v.k=2/\v.n=0/\P9 v.s.data.toList)
theorem oR (N:Nat)(v:V):lQ (AB N v.k v.n v.s) (Jp v):=by
 unfold AB Jp;by_cases h:v.k=1
 ·rw [bq h];refine⟨_,rfl,?_⟩;simp only[btl,beq_iff_eq];constructor;· intro q;exact .inl ⟨h,q⟩
  ·rintro(q|q);· exact q.2
   · omega
 ·rw [br h];by_cases U:v.k=2
  ·rw [bq U];by_cases h3:v.n=0
   ·rw [bq h3];refine lQ.iff (lQ.id (yB N v.s)) ?_;constructor;· intro q;exact .inr ⟨U,h3,q⟩
    ·rintro(q|q);· omega
     · exact q.2.2
   ·rw[br h3];refine⟨false,rfl,?_⟩;constructor;· intro q;cases q
    · rintro(q|q)<;>omega
  ·rw[br U];refine⟨false,rfl,?_⟩;constructor;· intro q;cases q
   · rintro(q|q)<;>omega
end
section
open Go Go.RowKit
variable {N:Nat}{x op y:Int}{l:List V}
theorem ni {s:ByteArray} (a b:Int)(U:9223372036854775808<=N)(j9:s.size<=9223372036854775807):AB N a b s=Zg N a b s:=by
 unfold AB Zg;rw[RD (yB N s) (IP U j9)]
theorem U5 (N:Nat)(b:Bool):OB N b=some (if b=true then 1 else 0):=by cases b<;>rfl
theorem Ha (U:dv x)(hy:dv y):∃n,Q5v N x y=some (n,decide (dv (x+y)))/\(dv (x+y)->n=x+y):=by
 unfold dv at U hy
 have hC:Q5R N y x=some (decide (¬dv (x+y))):=by
  unfold Q5R;by_cases h1:y>0
  ·rw [bq h1,QC an];by_cases h2:x>9223372036854775807-y
   ·rw[bq h2];congr 1;have:¬dv (x+y):=by unfold dv;omega
    simp[this]
   ·rw[br h2,if_neg (by simp;omega)];congr 1;have:dv (x+y):=by unfold dv;omega
    simp[this]
  ·rw [br h1];by_cases h2:y<0
   ·rw[bq h2,QC an];congr 1;rw[d'];simp only[decide_eq_true_eq];unfold dv;omega
   ·rw[br h2];congr 1;have:dv (x+y):=by unfold dv;omega
    simp[this]
 unfold Q5v;rw[hC,Q1];by_cases h:dv (x+y)
 ·rw[br h];have h':=h;unfold dv at h';rw[QC h'];exact⟨x+y,by simp[h],λ_=>rfl⟩
 ·rw[bq h];exact⟨0,by simp[h],λq=>absurd q h⟩
theorem Mv {a b:Int} (ha:dv a)(hb:dv b)(h0:b≠0)(h1:b≠-1):((IntKind.wrap .i64 (r' (IntKind.wrap .i64 (a*b)) b))==a)=decide (dv (a*b)):=by
 unfold dv at ha hb;by_cases h:dv (a*b)
 ·have e1:IntKind.wrap .i64 (a*b)=a*b:=IntWalk.i64_in _ h;have e2:r' (a*b) b=a:=Int.mul_tdiv_cancel a h0;rw[e1,e2,IntWalk.i64_in _ ha];simp[h]
 ·have hw:=IntKind.wrap_i64 (a*b);generalize hp:IntKind.wrap .i64 (a*b)=p at*;have U:-9223372036854775808<=p/\p<=9223372036854775807:=by rw[hw];omega
  have BL:=Int.mul_tdiv_add_tmod p b
  have PX:(Int.tmod p b).natAbs<b.natAbs:=by
   have:=Int.natAbs_tmod p b;rw[this];exact Nat.mod_lt _ an
  have hq:(r' p b).natAbs<=p.natAbs:=by rw[M'];exact Nat.div_le_self _ _
  have hq2:-9223372036854775808<=r' p b/\r' p b<=9223372036854775807:=by
   by_cases VY:b=1;· subst VY;rw[Int.tdiv_one];exact U
   ·have h2:(r' p b).natAbs<=4611686018427387904:=by
     rw[M'];exact Nat.le_trans (Nat.div_le_div_left (show 2<=b.natAbs by omega) an) an
    omega
  rw[IntWalk.i64_in _ hq2]
  have de:r' p b≠a:=λe=>by
   rw[e]at BL;have e3:b*a=a*b:=Int.mul_comm b a;rw[e3]at BL;unfold dv at h;omega
  simp[h,de]
theorem MF (hx:dv x)(hy:dv y):∃n,Q5A N x y=some (n,decide (dv (x*y)))/\(dv (x*y)->n=x*y):=by
 have nJ:=hx;have hy':=hy;unfold dv at nJ hy';unfold Q5A;by_cases h0:x=0
 ·subst h0;rw[if_pos ax,Q1,if_pos rfl];have:dv (0*y):=by rw[T'];unfold dv;omega
  exact⟨0,by rw[decide_eq_true this],λ_=>by rw[T']⟩
 ·rw [br h0,Q1];by_cases h1:y=0
  ·subst h1;rw[if_pos ax];have:dv (x*0):=by rw[U'];unfold dv;omega
   exact⟨0,by rw[decide_eq_true this],λ_=>by rw[U']⟩
  ·rw [br h1];by_cases h2:x=-1
   ·subst h2;rw[if_pos ax];have e:-1*y=0-y:=an
    rw[e];refine⟨_,congrArg some (congrArg (z' _) ?_),λq=>IntWalk.i64_in _ q⟩;rw[d'];simp only[bne_iff_ne,ne_eq,decide_eq_true_eq];unfold dv;omega
   ·rw [br h2];by_cases U:y=-1
    ·subst U;rw[if_pos ax];have e:x* -1=0-x:=an
     rw[e];refine⟨_,congrArg some (congrArg (z' _) ?_),λq=>IntWalk.i64_in _ q⟩;rw[d'];simp only[bne_iff_ne,ne_eq,decide_eq_true_eq];unfold dv;omega
    ·rw[br U,QC h1,Mv hx hy h1 U];exact⟨_,rfl,λq=>IntWalk.i64_in _ q⟩
theorem WV {n:Int} {b:Bool} (U:b=decide (dv x))(hn:dv x->n=x):(if(!b)=true then some ((0,0,300):Nat×Int×Nat)else Qf (Q4u N n) λ_=>some (1,n,0))=some (if dv x then(1,x,0)else(0,0,300)):=by
 subst U;by_cases h:dv x;· rw[br h,if_pos h,hn h];rfl
 · rw[bq h,if_neg h]
theorem Ev {v w:V}:QJ N op v w=QJ N op (num v.n) (num w.n):=rfl
theorem Fk (hN:9223372036854775808<=N)(hl:∀v∈l,v.s.size<=140737488351232):Dy N l=Q6h N l:=by
 funext ⟨i,b⟩;unfold Dy Q6h;simp only;by_cases U:i<l.length
 ·have hx:=c' U
  have hC:Sh N l i b=Q6g N l i b:=by
   unfold Sh Q6g;rw[hx];simp only[Q1];rw[ni _ _ hN (by have:=hl _ (n' U);omega)]
  rw[hC]
 · rw[br U,br U]
theorem oD (hN:9223372036854775808<=N)(hl:l.length<=2):(∃b,fz (Dy N l) N (0,false)=some (.inl b))\/fz (Dy N l) N (0,false)=some (.inr (0,0,2)):=by
 obtain ⟨o,h1,U⟩:=Ec (f:=Dy N l) (λs=>s.1<=l.length) (λs=>l.length-s.1) (λo=>(∃b,o=.inl b)\/o=.inr (0,0,2)) (λs hs=>by
  obtain⟨i,b⟩:=s;simp only at hs;unfold Dy;simp only;by_cases bp:i<l.length
  ·have hx:=c' bp;obtain⟨r,hr,_⟩:=oR N l[i]
   have hC:Sh N l i b=if r=true then some (.inl (if b=true then true else(l[i].k==2)))else some (.inr (.inr (.inr (0,0,2)))):=by
     unfold Sh;rw[hx,Q1,hr,Q1];cases r<;>cases b<;>rfl
   rw[bq bp,hC];cases r with
   | true=>
     left;exact⟨(i+1,if b=true then true else(l[i].k==2)),by rw[if_pos rfl,lX,QC an],by simp only;omega,by simp only;omega⟩
   | false=>
     right;exact⟨.inr (0,0,2),by rw[if_neg WJ];rfl,.inr rfl⟩
  ·right;exact⟨.inl b,by rw[br bp],.inl ⟨b,rfl⟩⟩) N (0,false) ax (by simp only;omega)
 rcases U with⟨b,rfl⟩|rfl;· exact .inl ⟨b,h1⟩
 · exact .inr h1
theorem Gt (N:Nat)(op:Int):Y9 N op=some (if op=4\/op=11 then 1 else 2)/\Q6f N op=some (if op=4\/op=11 then 1 else 2):=by
 unfold Y9 Q6f;by_cases h:op=4;· subst h;exact⟨rfl,rfl⟩
 ·rw[br h,Q1];by_cases h2:op=11;· subst h2;exact⟨rfl,rfl⟩
  · rw[br h2,if_neg an];exact⟨rfl,rfl⟩
theorem Et {k j:Nat}:(if(decide (op<1))=true then some true else(if(decide (op>11))=true then some true else some (k !=j)))=some (decide (op<1\/op>11\/k≠j)):=by
 by_cases h1:op<1;· rw[bq h1];simp[h1]
 ·rw[br h1];by_cases h2:op>11;· rw[bq h2];simp[h2]
  ·rw[br h2];congr 1;rw[d'];simp only[bne_iff_ne,ne_eq,decide_eq_true_eq];omega
theorem Pn (hN:9223372036854775808<=N)(hl:∀v∈l,dv v.n/\v.s.size<=140737488351232):∃r,DB N op l=some r/\Q7E N op l=some r:=by
 obtain⟨c1,c2⟩:=Gt N op;unfold DB Q7E;rw[c1,c2,Q1,Q1,Et,Q1,Q1];by_cases jX:op<1\/op>11\/l.length≠(if op=4\/op=11 then 1 else 2)
 ·have hd:=decide_eq_true jX;simp only[hd,if_true];exact⟨_,rfl,rfl⟩
 ·have hd:=decide_eq_false jX;simp only[hd,a',if_false];rw[<-Fk hN (λv hv=>(hl v hv).2)]
  have hlen:l.length<=2:=by
   have:l.length=(if op=4\/op=11 then 1 else 2):=an
   rw[this];split<;>omega
  rcases oD (N:=N) hN hlen with⟨names,Fa⟩|Fa
  ·rw [Fa,lX,lX];by_cases h1:op=4\/op=11
   ·rw [if_pos h1]at jX;have kr:l.length=1:=an
    clear jX hd;match l,kr with
    | [v],_=>
      obtain⟨hv,_⟩:=hl v ax;simp only[if_pos h1,f',Q1,List.length_singleton];rw[QC an,QC an,QC an,QC an];simp only[show(((1:Nat):Int)-1).toNat=0 from rfl,f',Q1];rcases h1 with rfl|rfl
      ·simp only[show((4:Int)==1)=false from rfl,show((4:Int)==2)=false from rfl,show((4:Int)==3)=false from rfl,show((4:Int)==5)=false from rfl,show((4:Int)==6)=false from rfl,show((4:Int)==7)=false from rfl,show((4:Int)==8)=false from rfl,show((4:Int)==9)=false from rfl,show((4:Int)==10)=false from rfl,show((4:Int)==11)=false from rfl,a',if_false,if_true,Q1];cases names with
       |true=>exact⟨_,rfl,rfl⟩
       | false=>
         have e:QJ N 4 v v=some (IntKind.wrap .i64 (0-v.n),v.n !=-9223372036854775808):=by unfold QJ;rfl
         have U:OC N 4 v.n v.n=some (IntKind.wrap .i64 (0-v.n),v.n !=-9223372036854775808):=by unfold OC;rfl
         simp only[a',if_false,e,U,Q1];cases hq:v.n !=-9223372036854775808<;>exact⟨_,rfl,rfl⟩
      ·simp only[show((11:Int)==1)=false from rfl,show((11:Int)==2)=false from rfl,show((11:Int)==3)=false from rfl,show((11:Int)==5)=false from rfl,show((11:Int)==6)=false from rfl,show((11:Int)==7)=false from rfl,show((11:Int)==8)=false from rfl,show((11:Int)==9)=false from rfl,show((11:Int)==10)=false from rfl,show((11:Int)==11)=true from rfl,a',if_false,if_true,Q1];cases names with
       |true=>exact⟨_,rfl,rfl⟩
       | false=>
         have e:QJ N 11 v v=some ((if(v.n==0)=true then 1 else 0),true):=by
          unfold QJ Q8c Dz;simp only[OX,Q1];rfl
         simp only[a',if_false,e,U5,Q1];exact⟨_,rfl,rfl⟩
   ·rw [if_neg h1]at jX;have kr:l.length=2:=an
    have ku:1<=op/\op<=11:=an
    clear jX hd;match l,kr with
    | [v,w],_=>
      obtain⟨hv,_⟩:=hl v ax;obtain⟨hw,_⟩:=hl w ax;simp only[if_neg h1,f',Q1,o',x'];rw[QC an,QC an,QC an,QC an];simp only[show(((2:Nat):Int)-1).toNat=1 from rfl,show(((0+1+1:Nat):Int)-1).toNat=1 from rfl,List.getElem?_cons_succ,f',Q1];have h9:op=1\/op=2\/op=3\/op=5\/op=6\/op=7\/op=8\/op=9\/op=10:=an
      rcases h9 with rfl|rfl|rfl|rfl|rfl|rfl|rfl|rfl|rfl
      ·simp only[show((1:Int)==1)=true from rfl,show((1:Int)==2)=false from rfl,show((1:Int)==3)=false from rfl,show((1:Int)==5)=false from rfl,show((1:Int)==6)=false from rfl,show((1:Int)==7)=false from rfl,show((1:Int)==8)=false from rfl,show((1:Int)==9)=false from rfl,show((1:Int)==10)=false from rfl,show((1:Int)==11)=false from rfl,a',if_false,if_true,Q1];cases names with
       |true=>exact⟨_,rfl,rfl⟩
       | false=>
         simp only[a',if_false];obtain⟨n,e1,U⟩:=Ha (N:=N) hv hw;have e3:OC N 1 v.n w.n=some (n,decide (dv (v.n+w.n))):=by unfold OC;rw[if_pos ax,e1];rfl
         rw[e3];simp only[Q1];rw[WV rfl U];refine⟨_,?_,rfl⟩;have h:QJ N 1 (num v.n) (num w.n)=some (IntKind.wrap .i64 (v.n+w.n),(decide (IntKind.wrap .i64 (v.n+w.n)<v.n))==(decide (w.n<0))):=by unfold QJ;rfl
         have h2:=(pW hN an an an an an h).symm.trans (UI hN hv hw);rw[Ev,h,Q1,<-Option.some.inj h2];unfold xk;simp only;cases(decide (IntKind.wrap .i64 (v.n+w.n)<v.n))==(decide (w.n<0))<;>rfl
      ·simp only[show((2:Int)==1)=false from rfl,show((2:Int)==2)=true from rfl,show((2:Int)==3)=false from rfl,show((2:Int)==5)=false from rfl,show((2:Int)==6)=false from rfl,show((2:Int)==7)=false from rfl,show((2:Int)==8)=false from rfl,show((2:Int)==9)=false from rfl,show((2:Int)==10)=false from rfl,show((2:Int)==11)=false from rfl,a',if_false,if_true,Q1];cases names with
       |true=>exact⟨_,rfl,rfl⟩
       | false=>
         simp only[a',if_false]
         have hR:∃n,OC N 2 v.n w.n=some (n,decide (dv (v.n-w.n)))/\(dv (v.n-w.n)->n=v.n-w.n):=by
          unfold OC;rw[if_neg ax,if_pos ax];by_cases hm:w.n=-9223372036854775808
          ·rw[bq hm];refine⟨_,congrArg some (congrArg (z' _) ?_),λq=>IntWalk.i64_in _ q⟩;rw[d'];simp only[decide_eq_true_eq];unfold dv at*;omega
          ·rw[br hm];have T2:dv (0-w.n):=by unfold dv at*;omega
           rw[IntWalk.i64_in _ T2];obtain⟨n,e1,U⟩:=Ha (N:=N) hv T2;rw[e1,show v.n+(0-w.n)=v.n-w.n by omega];rw[show v.n+(0-w.n)=v.n-w.n by omega]at U;exact⟨n,rfl,U⟩
         obtain⟨n,e3,U⟩:=hR;rw[e3];simp only[Q1];rw[WV rfl U];refine⟨_,?_,rfl⟩;have h:QJ N 2 (num v.n) (num w.n)=some (IntKind.wrap .i64 (v.n-w.n),(decide (IntKind.wrap .i64 (v.n-w.n)>v.n))==(decide (w.n<0))):=by unfold QJ;rfl
         have h2:=(pW hN an an an an an h).symm.trans (UL hN hv hw);rw[Ev,h,Q1,<-Option.some.inj h2];unfold xk;simp only;cases(decide (IntKind.wrap .i64 (v.n-w.n)>v.n))==(decide (w.n<0))<;>rfl
      ·simp only[show((3:Int)==1)=false from rfl,show((3:Int)==2)=false from rfl,show((3:Int)==3)=true from rfl,show((3:Int)==5)=false from rfl,show((3:Int)==6)=false from rfl,show((3:Int)==7)=false from rfl,show((3:Int)==8)=false from rfl,show((3:Int)==9)=false from rfl,show((3:Int)==10)=false from rfl,show((3:Int)==11)=false from rfl,a',if_false,if_true,Q1];cases names with
       |true=>exact⟨_,rfl,rfl⟩
       | false=>
         simp only[a',if_false];obtain⟨n,e1,U⟩:=MF (N:=N) hv hw;have e3:OC N 3 v.n w.n=some (n,decide (dv (v.n*w.n))):=by unfold OC;rw[if_neg ax,if_neg ax,if_pos ax,e1];rfl
         rw[e3];simp only[Q1];rw[WV rfl U];refine⟨_,?_,rfl⟩;obtain⟨m,q1,q2⟩:=uR (N:=N) hv hw
         have h:QJ N 3 (num v.n) (num w.n)=some (m,decide (dv (v.n*w.n))):=by
          unfold QJ;simp only[num,q1,Q1];rfl
         have h2:=(pW hN an an an an an h).symm.trans (UJ hN hv hw);rw[Ev,h,Q1,<-Option.some.inj h2];unfold xk;simp only;cases decide (dv (v.n*w.n))<;>rfl
      ·simp only[show((5:Int)==1)=false from rfl,show((5:Int)==2)=false from rfl,show((5:Int)==3)=false from rfl,show((5:Int)==5)=true from rfl,show((5:Int)==6)=false from rfl,show((5:Int)==7)=false from rfl,show((5:Int)==8)=false from rfl,show((5:Int)==9)=false from rfl,show((5:Int)==10)=false from rfl,show((5:Int)==11)=false from rfl,a',if_false,if_true,Q1];rw[OX,U5];refine⟨_,rfl,?_⟩;simp[Q1]
      ·simp only[show((6:Int)==1)=false from rfl,show((6:Int)==2)=false from rfl,show((6:Int)==3)=false from rfl,show((6:Int)==5)=false from rfl,show((6:Int)==6)=true from rfl,show((6:Int)==7)=false from rfl,show((6:Int)==8)=false from rfl,show((6:Int)==9)=false from rfl,show((6:Int)==10)=false from rfl,show((6:Int)==11)=false from rfl,a',if_false,if_true,Q1];rw[OX,U5];refine⟨_,rfl,?_⟩;simp[Q1]
      ·simp only[show((7:Int)==1)=false from rfl,show((7:Int)==2)=false from rfl,show((7:Int)==3)=false from rfl,show((7:Int)==5)=false from rfl,show((7:Int)==6)=false from rfl,show((7:Int)==7)=true from rfl,show((7:Int)==8)=false from rfl,show((7:Int)==9)=false from rfl,show((7:Int)==10)=false from rfl,show((7:Int)==11)=false from rfl,a',if_false,if_true,Q1];cases names with
       |true=>exact⟨_,rfl,rfl⟩
       | false=>
         have h:QJ N 7 v w=some ((if(decide (v.n<w.n))=true then 1 else 0),true):=by
          unfold QJ Q88 Dz;simp only[OX,Q1];rfl
         simp only[a',if_false];rw[h,U5];exact⟨_,rfl,rfl⟩
      ·simp only[show((8:Int)==1)=false from rfl,show((8:Int)==2)=false from rfl,show((8:Int)==3)=false from rfl,show((8:Int)==5)=false from rfl,show((8:Int)==6)=false from rfl,show((8:Int)==7)=false from rfl,show((8:Int)==8)=true from rfl,show((8:Int)==9)=false from rfl,show((8:Int)==10)=false from rfl,show((8:Int)==11)=false from rfl,a',if_false,if_true,Q1];cases names with
       |true=>exact⟨_,rfl,rfl⟩
       | false=>
         have h:QJ N 8 v w=some ((if(decide (v.n<=w.n))=true then 1 else 0),true):=by
          unfold QJ Q89 Dz;simp only[OX,Q1];rfl
         simp only[a',if_false];rw[h,U5];exact⟨_,rfl,rfl⟩
      ·simp only[show((9:Int)==1)=false from rfl,show((9:Int)==2)=false from rfl,show((9:Int)==3)=false from rfl,show((9:Int)==5)=false from rfl,show((9:Int)==6)=false from rfl,show((9:Int)==7)=false from rfl,show((9:Int)==8)=false from rfl,show((9:Int)==9)=true from rfl,show((9:Int)==10)=false from rfl,show((9:Int)==11)=false from rfl,a',if_false,if_true,Q1];cases names with
       |true=>exact⟨_,rfl,rfl⟩
       | false=>
         have h:QJ N 9 v w=some ((if(v.n !=0&&w.n !=0)=true then 1 else 0),true):=by
          unfold QJ Q8a Dz;simp only[OX,Q1];cases hq:v.n !=0<;>rfl
         simp only[a',if_false,U5];rw[h];refine⟨_,rfl,?_⟩;cases hq:v.n !=0<;>rfl
      ·simp only[show((10:Int)==1)=false from rfl,show((10:Int)==2)=false from rfl,show((10:Int)==3)=false from rfl,show((10:Int)==5)=false from rfl,show((10:Int)==6)=false from rfl,show((10:Int)==7)=false from rfl,show((10:Int)==8)=false from rfl,show((10:Int)==9)=false from rfl,show((10:Int)==10)=true from rfl,show((10:Int)==11)=false from rfl,a',if_false,if_true,Q1];cases names with
       |true=>exact⟨_,rfl,rfl⟩
       | false=>
         have h:QJ N 10 v w=some ((if(v.n !=0||w.n !=0)=true then 1 else 0),true):=by
          unfold QJ Q8b Dz;simp only[OX,Q1];cases hq:v.n !=0<;>rfl
         simp only[a',if_false,U5];rw[h];refine⟨_,rfl,?_⟩;cases hq:v.n !=0<;>rfl
  · rw[Fa];exact⟨_,rfl,rfl⟩
end
section
open Go Go.RowKit
variable {N:Nat}{n v op:Int}{b c:Bool}
theorem tl (x:Int):dv (IntKind.wrap .i64 x):=by
 have e:IntKind.wrap .i64 x=if(9223372036854775808:Int)<=x%18446744073709551616 then x%18446744073709551616-18446744073709551616 else x%18446744073709551616:=by
  by_cases h:(9223372036854775808:Int)<=x%18446744073709551616<;>simp[IntKind.wrap,IntKind.bits,IntKind.signed,h]
 rw[e];unfold dv;split<;>omega
theorem Qcz (h:Dz N b=some v):dv v:=by
 unfold Dz at h;rw[OX,Q1]at h;cases h;unfold dv;split<;>omega
theorem Rz {a b:Int} (h:TV N a b=some (n,c)):dv n:=by
 unfold TV at h;obtain⟨x,_,h⟩:=Qz h;obtain⟨y,_,h⟩:=Qz h;obtain⟨_,h⟩:=oe h;obtain⟨_,h⟩:=oe h;rcases ke h with⟨_,h⟩|⟨_,h⟩<;>rcases ke h with⟨_,h⟩|⟨_,h⟩<;>(cases h;exact tl _)
theorem a05 {v w:V} (h:QJ N op v w=some (n,c)):dv n:=by
 unfold QJ at h;obtain⟨x,_,h⟩:=Qz h;rcases x with _|_|_|_|_|_|_|_|_|_;· obtain⟨_,_,h⟩:=Qz h;cases h;exact tl _
 · obtain⟨_,_,h⟩:=Qz h;cases h;exact tl _
 · obtain⟨⟨a,b⟩,h1,h⟩:=Qz h;cases h;exact Rz h1
 · obtain⟨_,_,h⟩:=Qz h;cases h;exact tl _
 · obtain⟨a,h1,h⟩:=Qz h;cases h;obtain⟨b,U,h3⟩:=Qz h1;cases h3;exact Qcz U
 · obtain⟨a,h1,h⟩:=Qz h;cases h;obtain⟨b,U,h3⟩:=Qz h1;cases h3;exact Qcz U
 ·obtain⟨a,h1,h⟩:=Qz h;cases h;rcases ke h1 with⟨_,h1⟩|⟨_,h1⟩<;>(obtain⟨b,U,h3⟩:=Qz h1;cases h3;exact Qcz U)
 ·obtain⟨a,h1,h⟩:=Qz h;cases h;rcases ke h1 with⟨_,h1⟩|⟨_,h1⟩<;>(obtain⟨b,U,h3⟩:=Qz h1;cases h3;exact Qcz U)
 · obtain⟨a,h1,h⟩:=Qz h;cases h;obtain⟨b,U,h3⟩:=Qz h1;cases h3;exact Qcz U
 · cases h
theorem yC (h:TY N b=some v):dv v:=by
 rw[OX]at h;cases h;unfold dv;split<;>omega
theorem UK {l:List V} {k:Nat} {e:Nat} (hN:9223372036854775808<=N)(h:DB N op l=some (k,n,e)):(k=1/\e=0/\dv n)\/(k=0/\n=0/\e≠0):=by
 unfold DB at h;obtain⟨c1,_⟩:=Gt N op;rw[c1,Q1,Et,Q1]at h;rcases ke h with⟨_,h⟩|⟨hb,h⟩
 · cases h;exact .inr ⟨rfl,rfl,bf⟩
 ·have hb:=of_decide_eq_false hb
  have hlen:l.length<=2:=by
   have:l.length=(if op=4\/op=11 then 1 else 2):=an
   rw[this];split<;>omega
  rcases oD (N:=N) hN hlen with⟨b,U⟩|U
  ·rw [U,lX]at h;obtain⟨x,_,h⟩:=Qz h;obtain⟨_,h⟩:=oe h;obtain⟨_,h⟩:=oe h;obtain⟨y,_,h⟩:=Qz h;rcases ke h with⟨_,h⟩|⟨_,h⟩
   ·obtain⟨t,h1,h⟩:=Qz h;cases h;exact .inl ⟨rfl,rfl,yC h1⟩
   ·rcases ke h with⟨_,h⟩|⟨_,h⟩
    ·obtain⟨t,h1,h⟩:=Qz h;cases h;exact .inl ⟨rfl,rfl,yC h1⟩
    ·rcases ke h with⟨_,h⟩|⟨_,h⟩
     · cases h;exact .inr ⟨rfl,rfl,bf⟩
     ·obtain⟨⟨a,c⟩,h1,h⟩:=Qz h;rcases ke h with⟨_,h⟩|⟨_,h⟩
      · cases h;exact .inr ⟨rfl,rfl,bf⟩
      ·obtain⟨_,_,h⟩:=Qz h;cases h;exact .inl ⟨rfl,rfl,a05 h1⟩
  ·rw[U,Jh]at h;cases h;exact .inr ⟨rfl,rfl,bf⟩
abbrev Kb:=Int×Int×ByteArray×Nat
variable {l:List Q4}{N:Nat}{vars:List V}{rc:Int->Int->Int->ByteArray->Int->Int->List Q4->List V->Option Kb}
def nU (f:Q4->Option Kb):List Q4->List V->Option (List V⊕Nat)
 |[],acc=>some (.inl acc)
 |x::l,acc=>Qf (f x) λ(a,b,c,e)=>if(e !=0)=true then some (.inr e)else nU f l (acc++[⟨a,b,c⟩])
def XA {α β:Type} (g:List V->β)(k:Nat->α):Option (List V⊕Nat)->Option (β⊕α)
 |none=>none
 |some (.inl a)=>some (.inl (g a))
 |some (.inr e)=>some (.inr (k e))
theorem CJ {O:Type} {F:(Nat×List V)->Option ((Nat×List V)⊕(List V⊕O))} {f:Q4->Option Kb} {l:List Q4} {k:Nat->O}
   (gJ:∀i acc x,l[i]? =some x->acc.length=i->F (i,acc)=Qf (f x) λ(a,b,c,e)=>if(e !=0)=true then some (.inr (.inr (k e)))else some (.inl (i+1,acc++[⟨a,b,c⟩])))
   (BW:∀i acc,l.length<=i->F (i,acc)=some (.inr (.inl acc))):
   ∀(m i n:Nat) (acc:List V),l.length-i=m->i<=l.length->acc.length=i->m<n->fz F n (i,acc)=XA id k (nU f (l.drop i) acc)
 | 0,i,n+1,acc,hm,hi,U,hn=>by
   have hle:l.length<=i:=an
   rw[vM (BW i acc hle),List.drop_of_length_le hle];rfl
 | m + 1,i,n+1,acc,hm,hi,U,hn=>by
   have bp:i<l.length:=an
   have hx:=c' bp;have hd:l.drop i=l[i]::l.drop (i+1):=j' bp;rw[hd];show jw (F (i,acc)) (fz F n)=_;rw[gJ i acc _ hx U];unfold nU;cases hf:f l[i]with
   |none=>rfl
   | some r=>
     obtain⟨a,b,c,e⟩:=r;simp only[Q1];cases he:e !=0 with
     |true=>simp only[if_true];rfl
     | false=>
       simp only[a',if_false,lX];exact CJ gJ BW m (i+1) n _ an an (by simp[U]) an
theorem ym {O:Type} {F:(Nat×List V)->Option ((Nat×List V)⊕(List V⊕O))} {f:Q4->Option Kb} {k:Nat->O} {n:Nat}
  (gJ:∀i acc x,l[i]? =some x->acc.length=i->F (i,acc)=Qf (f x) λ(a,b,c,e)=>if(e !=0)=true then some (.inr (.inr (k e)))else some (.inl (i+1,acc++[⟨a,b,c⟩])))
  (U:∀i acc,l.length<=i->F (i,acc)=some (.inr (.inl acc))) (hn:l.length<n):fz F n (0,[])=XA id k (nU f l []):=by
 have:=CJ gJ U l.length 0 n [] an an rfl an;simpa using this
def at_ (rc:Int->Int->Int->ByteArray->Int->Int->List Q4->List V->Option Kb)(vars:List V)(x:Q4):Option Kb:=rc x.kind x.value.k x.value.n x.value.s x.var x.op x.kids vars
theorem WA (hN:9223372036854775808<=N)(hl:l.length<=1000000):fz (Y1 N l rc vars) N (0,[])=XA id (λe=>([],e)) (nU (at_ rc vars) l []):=by
 refine ym (λi acc x U ha=>?_) (λi acc hi=>?_) an
 ·have bp:=(g'.1 U).1;unfold Y1;simp only;rw[bq bp,U,Q1];unfold at_;congr 1;funext ⟨a,b,c,e⟩;simp only;rw[QC (by simp only[o',x'];omega),QC an]
 ·unfold Y1;simp only;rw[br hi]
theorem a1n (hN:9223372036854775808<=N)(hl:l.length<=1000000):fz (Q4b N l rc vars) N (0,[])=XA id (λe=>(.inr (0,0,(⟨#[]⟩:ByteArray),e):(Int×Int×ByteArray)⊕Kb)) (nU (at_ rc vars) l []):=by
 refine ym (λi acc x U ha=>?_) (λi acc hi=>?_) an
 ·have bp:=(g'.1 U).1;unfold Q4b;simp only;rw[bq bp,U,Q1];unfold at_;congr 1;funext ⟨a,b,c,e⟩;simp only;rw[QC (by simp only[o',x'];omega),QC an]
 ·unfold Q4b;simp only;rw[br hi]
end
section
open Go Go.RowKit
theorem xH {ε:Type} {f:Nat->Option (Nat⊕(Unit⊕ε))} (n:Nat)(step:∀i,i<n->f i=some (.inl (i+1)))(stop:f n=some (.inr (.inl ()))) {N:Nat} (hN:n<N):fz f N 0=some (.inl ()):=by
 obtain ⟨o,h1,U⟩:=Ec (f:=f) (λi=>i<=n) (λi=>n-i) (λo=>o=.inl ()) (λi hi=>by
  by_cases h:i<n;· exact .inl ⟨_,step i h,an,an⟩
  ·obtain rfl:i=n:=an
   exact .inr ⟨_,stop,rfl⟩) N 0 (V' _) an
 rw[h1,U]
end
section
open Go Go.RowKit
mutual
def nodes:Q4->Nat
 |⟨_,_,_,_,l⟩=>1+pK l
def pK:List Q4->Nat
 |[]=>0
 |e::l=>nodes e+pK l
end
theorem NZ (e:Q4):nodes e=1+pK e.kids:=by cases e;simp[nodes]
theorem uJ:∀(a b:List Q4),pK (a++b)=pK a+pK b
 |[],b=>by simp[pK]
 |x::a,b=>by simp only[List.cons_append,pK];rw[uJ a b];omega
theorem U3 {x:Q4}:∀{l:List Q4},x∈l->nodes x<=pK l
 | y::l,h=>by
   simp only[pK];rcases B'.1 h with rfl|h;· omega
   · have:=U3 h;omega
theorem Ye:∀(l:List Q4),l.length<=pK l
 |[]=>ax
 | x::l=>by
   have:=Ye l;simp only[o',pK,NZ];omega
theorem Cr {l:List Q4} {i:Nat} {x:Q4} (h:l[i]? =some x):pK (l.take (i+1))=pK (l.take i)+1+pK x.kids:=by
 rw[G',h,uJ];simp[pK,NZ];omega
theorem zW {x:Q4} (h:cj x):x.kids.length<=1759218604390/\∀y∈x.kids,cj y:=by
 cases h with
 |mk _ _ _ _ _ U g4=>exact⟨U,g4⟩
theorem Mm {x:Q4} (h:cj x):wJ x.value:=by
 cases h with
 |mk _ _ h1 _ _ _ _=>exact h1
theorem u7:∀(m N:Nat)(l:List Q4)(most:Int),(∀y∈l,cj y)->l.length<=1759218604390->9223372036854775808+m<N→-1<=most->most+1<=m->most<=1000000->
   ∃v,JS N l most=some v/\0<=v/\v<=most+1/\(v<=most->v=pK l):=by
 intro m;induction m with
 | zero=>
   intro N l most cr hl hN h1 h2 h3;obtain⟨N,rfl⟩:∃k,N=k+1:=⟨N-1,an⟩
   have hm:most=-1:=an
   subst hm;show∃v,TI N (JS N) l (-1)=some v/\_;unfold TI;obtain⟨k,hk⟩:∃k,N=k+1:=⟨N-1,an⟩
   have hs:S7 N l (-1) (JS N) (0,0)=some (.inr 0):=by
    unfold S7;by_cases h:0<l.length;· simp only[h,decide_true,if_true];rfl
    · simp only[h,decide_false,a',if_false];rfl
   have hi:fz (S7 N l (-1) (JS N)) N (0,0)=some 0:=by
    have:=vM (n:=N-1) hs;rwa [show N-1+1=N by omega]at this
   rw[hi,Q1,QC an];exact⟨_,rfl,bf,bf,λh=>by exact absurd h bf⟩
 | succ m ih=>
   intro N l most cr hl hN h1 h2 h3;obtain⟨N,rfl⟩:∃k,N=k+1:=⟨N-1,an⟩
   show∃v,TI N (JS N) l most=some v/\_;unfold TI
   obtain ⟨o,e1,e2,e3,e4⟩:=Ec (f:=S7 N l most (JS N)) (λs=>s.1<=l.length/\0<=s.2/\s.2<=most+1/\(s.2<=most->s.2=pK (l.take s.1))) (λs=>l.length-s.1)
    (fun o=>0<=o/\o<=most+1/\(o<=most->o=pK l)) (λs hs=>by
     obtain⟨i,c⟩:=s;obtain⟨g1,g2,g3,g4⟩:=hs;simp only at g1 g2 g3 g4;unfold S7;simp only;by_cases bp:i<l.length
     ·have hx:=c' bp;rw[bq bp,Q1];by_cases U:c<=most
      · rw[bq U,QC an,hx,Q1,QC an,QC an];have wx:=n' bp;obtain⟨k1,k2⟩:=zW (cr _ wx);obtain⟨v,v1,v2,v3,v4⟩:=ih N l[i].kids (most-c-1) k2 k1 an an an an;rw[v1,Q1,QC an,QC an];left;refine⟨_,rfl,⟨by simp only;omega,by simp only;omega,by simp only;omega,λhle=>?_⟩,by simp only;omega⟩;simp only at hle⊢;rw[Cr hx];have a1:=g4 U;have a2:=v4 an;omega
      · rw[br U];right;exact⟨c,rfl,g2,g3,λh=>absurd h U⟩
     ·rw[br bp,Q1,if_neg ax];right;refine⟨c,rfl,g2,g3,λh=>?_⟩;have:=g4 h;rwa [List.take_of_length_le an]at this) N (0,0) ⟨ax,ax,by simp only;omega,λ_=>by simp[pK]⟩ (by simp only;omega)
   rw[e1,Q1,QC an];refine⟨_,rfl,?_,?_,?_⟩<;>unfold Rk;· split<;>omega
   · split<;>omega
   ·intro h;split at h;· omega
    ·rename_i h5;rw[if_neg h5];exact e4 h
end
section
open Go Go.RowKit
def qp (v:V):Prop:=dv v.n/\v.s.size<=140737488351232
def CF (r:Kb):Prop:=dv r.2.1/\r.2.2.1.size<=140737488351232/\(r.2.2.2=0->Jp ⟨r.1,r.2.1,r.2.2.1⟩)
theorem XF:dv 0:=by unfold dv;omega
theorem To:(⟨#[]⟩:ByteArray).size<=140737488351232:=bf
theorem QaX {n:Nat} (h:n≠0):CF (0,0,(⟨#[]⟩:ByteArray),n):=⟨XF,To,λq=>absurd q h⟩
theorem He (N:Nat)(v:V):∃q:Bool,(q=true↔Jp v)/\AB N v.k v.n v.s=some q/\Yb N v.k v.n v.s=some (if q=true then(v.k,v.n,v.s,0)else(0,0,(⟨#[]⟩:ByteArray),2)):=by
 obtain⟨q,h1,U⟩:=oR N v;refine⟨q,U,h1,?_⟩;unfold Yb;rw[h1,Q1];cases q<;>rfl
theorem uU {v:V} {q:Bool} (U:qp v)(h:q=true↔Jp v):CF (if q=true then(v.k,v.n,v.s,0)else(0,0,(⟨#[]⟩:ByteArray),2)):=by
 cases q with
 |true=>exact⟨U.1,U.2,λ_=>h.1 rfl⟩
 |false=>exact QaX bf
theorem xd {f g:Q4->Option Kb}:∀(l:List Q4)(acc:List V),(∀x∈l,∃r,f x=some r/\g x=some r/\CF r)->(∀v∈acc,qp v)->
   ∃o,nU f l acc=some o/\nU g l acc=some o/\(∀a,o=.inl a->∀v∈a,qp v)/\(∀e,o=.inr e->e≠0)
 |[],acc,_,ha=>⟨.inl acc,rfl,rfl,λa h=>(by cases h;exact ha),λe h=>(by cases h)⟩
 | x ::l,acc,h,ha=>by
   obtain⟨⟨a,b,c,e⟩,h1,h2,h3⟩:=h x ax;unfold nU;rw[h1,h2];simp only[Q1];by_cases he:e=0
   ·subst he;simp only[bne_self_eq_false,a',if_false]
    exact xd l _ (λy hy=>h y (by simp[hy])) (λv U=>by
     rcases L'.1 U with U|U;· exact ha v U
     ·simp only[B',List.not_mem_nil,or_false]at U;subst U;exact⟨h3.1,h3.2.1⟩)
   ·rw[bq he,bq he];exact⟨.inr e,rfl,rfl,λa h=>(by cases h),λe' h=>(by cases h;exact he)⟩
theorem A8 (N:Nat):Zg N 0 0 (⟨#[]⟩:ByteArray)=some false:=rfl
theorem both:∀(m N:Nat) (e:Q4) (vars:List V),cj e->nodes e<=m->m<=1000->9223372036854775808+m<=N->(∀v∈vars,qp v)->vars.length<=1000000->
   ∃r,at_ (yV N) vars e=some r/\at_ (Q5h N) vars e=some r/\CF r:=by
 intro m;induction m with
 | zero=>
   intro N e vars _ hn;rw[NZ]at hn;omega
 | succ m ih=>
   intro N e vars cr hn hm hN hv LU;obtain⟨N,rfl⟩:∃k,N=k+1:=⟨N-1,an⟩
   obtain⟨k,v,x,o,kids⟩:=e;have U:9223372036854775808<=N:=an
   rw[NZ]at hn;simp only at hn;show∃r,Sf N (yV N) k v.k v.n v.s x o kids vars=some r/\Q5S N (Q5h N) k v.k v.n v.s x o kids vars=some r/\CF r;have a0W:qp v:=⟨GQ (Mm cr).2.1,(Mm cr).2.2⟩
   unfold Sf Q5S Q7Q;by_cases k1:k=1
   ·subst k1;simp only[show((1:Int)==1)=true from rfl,if_true];unfold Q8U;obtain⟨q,q1,q2,q3⟩:=He N v;rw[q3];refine⟨_,rfl,?_,uU a0W q1⟩;rw[lX];simp only;rw[<-ni v.k v.n U (by have:=a0W.2;omega),q2,Q1];cases q<;>rfl
   ·have b1:(k==1)=false:=by simpa using k1
    simp only[b1,a',if_false];by_cases k2:k=2
    ·subst k2;simp only[show((2:Int)==2)=true from rfl,if_true];unfold Q8V;by_cases hr:0<=x/\x<(vars.length:Int)
     ·have bp:x.toNat<vars.length:=an
      have hx:=c' bp;obtain⟨q,q1,q2,q3⟩:=He N vars[x.toNat];have hvx:=hv _ (n' bp);refine⟨_,?_,?_,uU hvx q1⟩
      · rw[br hr.1,Q1,br hr.2,QC hr.1,hx,Q1,q3];rfl
      · rw[bq hr.1,Q1,bq hr.2,QC hr.1,hx,Q1,lX];simp only;rw[<-ni _ _ U (by have:=hvx.2;omega),q2,Q1];cases q<;>rfl
     ·refine⟨_,?_,?_,QaX (n:=2) bf⟩
      · by_cases h0:x<0;· rw[bq h0];rfl
        · rw[br h0,Q1,if_pos (by simp;omega)];rfl
      · by_cases h0:x>=0
        ·rw[bq h0,Q1,if_neg (by simp;omega),lX];simp only;rw[A8];rfl
        ·rw[br h0,Q1,if_neg ax,lX];simp only;rw[A8];rfl
    ·have b2:(k==2)=false:=by simpa using k2
     simp only[b2,a',if_false];by_cases k3:k=3
     ·subst k3;simp only[show((3:Int)==3)=true from rfl,if_true];unfold ZE ZQ;have ly:kids.length<=1000000:=by have:=Ye kids;omega
      rw[WA U ly,a1n U ly];obtain⟨h4,g4⟩:=zW cr;simp only at h4 g4;obtain⟨w,w1,w2,w3,w4⟩:=xd (f:=at_ (yV N) vars) (g:=at_ (Q5h N) vars) kids [] (λy hy=>ih N y vars (g4 y hy) (by have:=U3 hy;omega) an an hv LU) ax;rw[w1,w2];cases w with
      | inr e=>
        have he:=w4 e rfl;refine⟨_,?_,rfl,QaX he⟩;simp only[XA,Jh,Q1];rw[bq he];rfl
      | inl a=>
        have ha:=w3 a rfl;obtain⟨⟨rk,rn,re⟩,d1,d2⟩:=Pn (N:=N) (op:=o) (l:=a) U ha;have mR:=UK U d1;refine⟨(((rk:Nat):Int),rn,(⟨#[]⟩:ByteArray),re),?_,?_,?_⟩
        ·simp only[XA,id,lX,Q1];rw[if_neg ax,d1];rfl
        ·simp only[XA,id,lX];rw[d2];rfl
        ·rcases mR with⟨r1,r2,r3⟩|⟨r1,r2,r3⟩
         ·subst r1;subst r2;exact⟨r3,To,λ_=>.inl ⟨rfl,rfl⟩⟩
         ·subst r1;subst r2;exact QaX r3
     ·have b3:(k==3)=false:=by simpa using k3
      simp only[b3,a',if_false];refine⟨_,rfl,?_,QaX (n:=2) bf⟩;rw[lX];simp only;rw[A8];rfl
end
section
open Go Go.RowKit Go.Maps Go.Sort
def kc {α:Type} (m:MS Int α):List Int:=m.keys.mergeSort leI
def U7 {α:Type} (m:MS Int α):Bool:=m.keys.all (λx=>(Lit.int .i64 x).wf)&&decide (m.keys.length<=8796093022207)
abbrev O9:Value->Option (DataW Unit×List MemPlace):=λ_=>some (.lit (.bool true),[])
section
variable {P:Program} {α:Type} {kt:TypeId} {K:vX P kt Int} {ag:Bool} {R:fq α} {b:Nat} {m:MS Int α}
variable {f it:FuncId}{t:TypeId}
theorem IB {N F:ep} {w:World} (hk:P.underlying kt=some (.int .i64))(hK:∀x,K.enc x=.int .i64 x)(h:iX K ag R N F b m w)(hf:U7 m=true):
  ∃D0:DataW Unit,w.ownsMap P kt O9 b m.keys.length D0/\(intKeys D0).Perm m.keys/\Maps.size D0=m.keys.length:=by
 obtain⟨_,E,h2,h3,h4,h5,h6,h7,h8,h9⟩:=h;simp only[U7,J',List.all_eq_true,decide_eq_true_eq]at hf;obtain⟨DS,BO⟩:=hf;have Ii:E.toList.map (·.key)=m.keys.map K.enc:=by rw[h3,MS.keys,t'];rfl
 have hlen:E.toList.length=m.keys.length:=by simpa using congrArg List.length Ii
 have kT:∀e∈E.toList,∃x:Int,e.key=.int .i64 x/\(Lit.int .i64 x).wf=true:=λe he=>by
  have:e.key∈m.keys.map K.enc:=by rw[<-Ii];exact u'.2 ⟨e,he,rfl⟩
  obtain⟨x,U,hxe⟩:=u'.1 this;exact⟨x,by rw[<-hxe,hK],DS x U⟩
 have Iv:∀e∈E.toList,∃x:Int,e.key=.int .i64 x/\Go.WideElems.rd P kt O9 e=some (.int .i64 x,.lit (.bool true)):=λe he=>by
  obtain⟨x,U,hl⟩:=kT e he;refine⟨x,U,?_⟩;unfold Go.WideElems.rd;rw[U];simp[keyOf,mapKey,hk,hl,O9]
 have ca:Go.MapKept.Stamped E m.clock:=by
  refine(Go.MapKept.stamped_iff E m.clock).2 ⟨?_,?_,?_⟩
  ·intro x U;have:x.born∈m.es.map (·.2.2):=by rw[<-h7];exact u'.2 ⟨x,U,rfl⟩
   obtain⟨y,hy,e⟩:=u'.1 this;rw[<-e];exact h9 y hy
  · rw[h7];exact h8
  ·have:(E.toList.map (·.key)).Nodup:=by
    rw[Ii];exact I'.2 (List.Pairwise.imp (λde e=>de (by rw[hK,hK]at e;simpa using e)) h5)
   exact I'.1 this
 have Lz:Go.WideElems.Fit P kt O9 E m.clock:=⟨by simp at hlen;rw[hlen];unfold maxLen;omega,ca,λe he=>by obtain⟨x,_,h⟩:=Iv e he;exact⟨_,h⟩⟩
 refine⟨_,⟨E,m.clock,h2,Lz,by simp at hlen;rw[hlen];exact K' _,rfl⟩,?_,?_⟩
 ·show ((W' DataW.insert [] (E.toList.map (Go.WideElems.rg P kt O9))).map λp=>Go.intOf p.1).Perm _;refine((Go.WideShapes.sorted_perm _).map _).trans ?_;rw[t']
  have:E.toList.map ((λp:Lit×DataW Unit=>Go.intOf p.1)∘Go.WideElems.rg P kt O9)=m.keys:=by
   have e1:E.toList.map ((λp:Lit×DataW Unit=>Go.intOf p.1)∘Go.WideElems.rg P kt O9)=(E.toList.map (·.key)).map (λv=>match v with| .int _ x=>x|_=>0):=by
    rw[t'];refine A' λe he=>?_
    obtain⟨x,U,h⟩:=Iv e he;simp[Go.WideElems.rg_of h,U,Go.intOf]
   rw[e1,Ii,t']
   conv=>rhs;rw[<-List.map_id m.keys]
   refine A' λx _=>?_;simp[hK]
  rw[this]
 ·show(W' DataW.insert [] (E.toList.map (Go.WideElems.rg P kt O9))).length=_;rw[(Go.WideShapes.sorted_perm _).length_eq,List.length_map,hlen]
theorem FK {b:Nat} (h:∀W,CallsIn Fence.wide 5 P f #[.map (some b)] W λe w'=>e=.returned (.func (.func it) #[] #[.pointer (some ⟨W.heap.size,0,none⟩)])/\w'=W.alloc (.cells #[.map (some b)] t)):
  QD P f [.map (some b)] [] [] (λv bo Hr=>∃g,v=.func (.func it) #[] #[.pointer (some ⟨g,0,none⟩)]/\bo=[]/\Hr=[.blk g [.map (some b)] t]):=by
 intro F N w hF eo hH U uo;refine(callsIn_wide.1 (h w)).mono ?_;rintro e w' ⟨rfl,rfl⟩;refine⟨_,_,_,rfl,⟨w.heap.size,rfl,rfl,rfl⟩,?_⟩;have h0:Ql ⟨w,λk=>∃i,i<([]:List Fact).length/\N i k,F⟩ [] [] w:=⟨F,N,hF,λ_ h=>h,λ_ h=>.inl h,eo,hH,λi k hi hk=>⟨(U i k hi hk).1,.inr ⟨i,hi,hk⟩,(U i k hi hk).2⟩,uo,Mod.refl _ _⟩
 exact h0.alloc #[.map (some b)] t
theorem tR {R:List Value->Int->Prop}:∀(l:List Int),(∀x,R [.int .i64 x] x)->hY 1 R (l.map encZ) l
 |[],_=>rfl
 |x::l,h=>⟨[.int .i64 x],_,rfl,rfl,h _,tR l h⟩
theorem Ac {g:Nat} {Rs:fq Int} (hk:P.underlying kt=some (.int .i64))(hK:∀x,K.enc x=.int .i64 x)(hRs:∀F w x,Rs.p F w [.int .i64 x] x)(hf:U7 m=true)
  (h:∀(nn:Nat) (D0:DataW Unit) (W:World),g<W.heap.size->W.cell? ⟨g,0,none⟩=some (.map (some b))->W.ownsMap P kt O9 b nn D0->Maps.size D0<=maxLen->Maps.size D0*8<=140737488355328->
   CallsIn Fence.wide 5 P f #[.func (.func it) #[] #[.pointer (some ⟨g,0,none⟩)]] W λe w'=>∃(v:Value) (U:List Int),e=.returned v/\U.Perm (intKeys D0)/\
    w'.ownsRow W.heap.size kt 1 v U.length ((U.mergeSort (λx y=>decide (x<=y))).map encZ)/\(v=.slice none 0 0↔U=[])/\Below W.heap.size W w'):
  QD P f [.func (.func it) #[] #[.pointer (some ⟨g,0,none⟩)]] [] [.blk g [.map (some b)] t,QH K ag R b m] (λv bo Hr=>∃p c,v=.slice p (kc m).length c/\bo=[]/\Hr=[.own kt 1 Rs v (kc m),.blk g [.map (some b)] t,QH K ag R b m]):=by
 intro F N w hF eo hH bp uo;have hb:=hH 0 _ rfl;have hm:iX K ag R (N 1) F b m w:=hH 1 _ rfl;obtain⟨D0,q1,q2,q3⟩:=IB hk hK hm hf;have BO:m.keys.length<=8796093022207:=by simp only[U7,J',decide_eq_true_eq]at hf;exact hf.2
 have hgl:=(Array.getElem?_eq_some_iff.1 hb.2).1
 have kq:w.cell? ⟨g,0,none⟩=some (.map (some b)):=by
  have:=cell_of_row w g 0 _ _ _ hb.2;simpa using this
 refine(callsIn_wide.1 (h _ D0 w hgl kq q1 (by rw[q3];unfold maxLen;omega) (by rw[q3];omega))).mono ?_;rintro e w' ⟨v,U,rfl,r1,r2,r3,r4⟩
 have hl:U.mergeSort leI=kc m:=by
  unfold kc;exact mergeSort_of_perm_i (r1.trans q2)
 have hlen:U.length=(kc m).length:=by rw[<-hl];simp
 have h0:iD ⟨w,λk=>∃i,i<[Fact.blk g [.map (some b)] t,QH K ag R b m].length/\N i k,F⟩ [] [.blk g [.map (some b)] t,QH K ag R b m] F N w:=⟨hF,λ_ h=>h,λ_ h=>.inl h,eo,hH,λi k hi hk=>⟨(bp i k hi hk).1,.inr ⟨i,hi,hk⟩,(bp i k hi hk).2⟩,uo,Mod.refl _ _⟩
 have gm:nI w.heap.size kt 1 (Rs.p F w') (kc m) v w':=by
  refine⟨_,hlen▸r2,?_⟩;rw[<-hl];exact tR _ λx=>hRs _ _ _
 obtain⟨p,n,c,rfl⟩:=gm.shape;have hn:n=(kc m).length:=gm.len;subst hn;refine⟨_,_,_,rfl,⟨p,c,rfl,rfl,rfl⟩,F,_,(h0.grow r4).push (.own kt 1 Rs (.slice p (kc m).length c) (kc m)) (λk=>(Value.slice p (kc m).length c).ownBlock=some k) ⟨λk hk=>hk,gm.mono (V' _)⟩ ?_ ?_⟩
 ·intro k hk;obtain⟨a1,a2⟩:=gm.lt k hk;exact⟨a2,.inl a1,λhf=>by have:=hF k hf;omega⟩
 ·intro i k hi hk hn;obtain⟨a1,a2⟩:=gm.lt k hk;have:=(bp i k hi hn).1;omega
theorem rA {κ:Type} {kt:TypeId} {K:vX P kt κ} {m:MS κ α} {b:Nat} (h:∀(es:Array MapEntry)(clock:Nat)(w:World),w.heap[b]? =some (.map es clock)->Calls P f #[.map (some b)] w λe w'=>e=.returned (.map (some w.heap.size))/\w'=w.alloc (.map es clock)):
  QD P f [.map (some b)] [] [QH K ag R b m] (λv bo Hr=>∃g,v=.map (some g)/\bo=[]/\Hr=[QH K ag R g m,QH K ag R b m]):=by
 intro F N w hF eo hH bp uo;have hm:iX K ag R (N 0) F b m w:=hH 0 _ rfl;obtain⟨hb,E,h2,a15⟩:=hm;refine(h E m.clock w h2).mono ?_;rintro e w' ⟨rfl,rfl⟩;refine⟨_,_,_,rfl,⟨w.heap.size,rfl,rfl,rfl⟩,?_⟩;have U:Below w.heap.size w (w.alloc (.map E m.clock)):=(Below.refl _ _).alloc (K' _) _;have h0:iD ⟨w,λk=>∃i,i<[QH K ag R b m].length/\N i k,F⟩ [] [QH K ag R b m] F N w:=⟨hF,λ_ h=>h,λ_ h=>.inl h,eo,hH,λi k hi hk=>⟨(bp i k hi hk).1,.inr ⟨i,hi,hk⟩,(bp i k hi hk).2⟩,uo,Mod.refl _ _⟩
 have hFa:ia F w (w.alloc (.map E m.clock)):=λk hk=>U.block k (hF k hk);obtain⟨r1,r2,r3⟩:=a15;refine⟨F,_,(h0.grow U).push (QH K ag R w.heap.size m) (λk=>k=w.heap.size) ⟨rfl,E,heap_alloc_new w _,r1,λi e x hi hx=>?_,r3⟩ ?_ ?_⟩
 ·obtain⟨cs,q1,q2⟩:=r2 i e x hi hx;exact⟨cs,q1,R.good (λ_ h=>h) hFa q2⟩
 ·rintro k rfl;exact⟨ax,.inl (K' _),λhf=>O' _ (hF _ hf)⟩
 ·rintro i k hi rfl hn;exact O' _ (bp i _ hi hn).1
end
end
section
open Go Go.RowKit
noncomputable section
def Sd (_:Nat)(h:Nat)(s1:Qc):WM Bool:=
 Qu (gRow s1 h) λs=>
 Qu (gNet s1 s.net) λz=>
 fp (decide (z.parts>4096))
def OG (_:Nat)(a0:Nat)(U:Nat)(l2:List Bool)(l3:List V)(a4:Int)(s5:Qc):WM (Nat×Qc):=
 ma λ(a5:Nat)=>
 rW s5 (λh=>PO.part ⟨l2,l3,(some U),a4,(MS.nil:MS Nat Bool),a5,none⟩) λh s1=>
 Qu (gPart s1 U) λz=>
 gv (∀y,y=h\/y∈z.kids.keys->s1 y≠none)<|
 jc (cu s1 U (PO.part ({z with kids:=MS.put z.kids h true}))) λs2=>
 Qu (gRow s2 a0) λa2=>
 Qu (gNet s2 a2.net) λs=>
 gv (-9223372036854775808<=s.parts+1/\s.parts+1<=9223372036854775807)<|
 jc (cu s2 a2.net (PO.net ({s with parts:=s.parts+1}))) λs3=>
 fp (h,s3)
def Zy (_:Nat)(z:Nat)(U:Nat)(h:Qc):WM Qc:=
 Qu (jD h z) λs=>
 gv (∀y,y=U\/y∈s.parts.keys->h y≠none)<|
 jc (cu h z (PO.join ({s with parts:=MS.del s.parts U}))) λs1=>
 fp s1
def Zh (_:Nat)(z:Nat)(U:Nat)(h:Qc):WM Qc:=
 Qu (jE h z) λs=>
 gv (∀y,y=U\/y∈s.parts.keys->h y≠none)<|
 jc (cu h z (PO.nt ({s with parts:=MS.del s.parts U}))) λs1=>
 fp s1
def Zj (_:Nat)(z:Nat)(U:Nat)(h:Qc):WM Qc:=
 Qu (rf h z) λs=>
 gv (∀y,y=U\/y∈s.parts.keys->h y≠none)<|
 jc (cu h z (PO.test ({s with parts:=MS.del s.parts U}))) λs1=>
 fp s1
def Zu (N:Nat)(rc:Nat->Nat->Qc->WM Qc)(a0:Nat)(U:Nat)(s2:Qc):WM Qc:=
 fu (rc a0 U s2) λs2=>
 Qu (gRow s2 a0) λaC=>
 Qu (gNet s2 aC.net) λa6=>
 gv (-9223372036854775808<=a6.parts-1/\a6.parts-1<=9223372036854775807)<|
 jc (cu s2 aC.net (PO.net ({a6 with parts:=a6.parts-1}))) λs3=>
 Qu (gPart s3 U) λaG=>
 Qu (aG.up) λaD=>
 Qu (gPart s3 aD) λa8=>
 gv (∀y,y=U\/y∈a8.kids.keys->s3 y≠none)<|
 jc (cu s3 aD (PO.part ({a8 with kids:=MS.del a8.kids U}))) λs4=>
 Qu (gRow s4 a0) λz=>
 gv (∀y,y=U\/y∈z.whole.keys->s4 y≠none)<|
 jc (cu s4 a0 (PO.row ({z with whole:=MS.del z.whole U}))) λs5=>
 kC (λ(aE:(Nat×Qc)->WM Qc) ((s,h))=>
  gP ((decide (s<z.steps.length))) (
   lO (λa2=>(
    gv (s+1<=9223372036854775807)<|
    aE (s+1,a2)
  )) λa3=>
  Qu (gRow h a0) λa7=>
  gv (a7.stepsP=z.stepsP/\a7.steps.length=z.steps.length/\a7.stepsC=z.stepsC)<|
  Qu (a7.steps[s]?) λa9=>
  mx a9 (λa4=>
  fu (Zy N a4 U h) λs9=>
  a3 s9
  ) (λa4=>
  fu (Zh N a4 U h) λaI=>
  a3 aI
  ) (λa4=>
  fu (Zj N a4 U h) λaJ=>
  a3 aJ
  )
  ) (
   fp h
  )
 ) N (0,s5)
def Q6S (N:Nat)(rc:Nat->Nat->Qc->WM Qc)(a0:Nat)(U:Nat)(s2:Qc):WM Qc:=
 Qu (gPart s2 U) λx9=>
 fu (M3 x9.kids) λz=>
 kC (λ(a2:(Nat×Qc)->WM Qc) ((h,s))=>
  gP ((decide (h<z.length))) (
   Qu (z[h]?) λa4=>
   fu (Zu N rc a0 a4 s) λs2=>
   gv (h+1<=9223372036854775807)<|
   a2 (h+1,s2)
  ) (
   fp s
  )
 ) N (0,s2)
def NQ:Nat->Nat->Nat->Qc->WM Qc
 |0=>λ_=>λ_=>λ_=>Kw
 |N+1=>Q6S N (NQ N)
def Qc1 (N:Nat)(a0:Nat)(U:Nat)(s2:Qc):WM Qc:=
 fu (NQ N a0 U s2) λs2=>
 Qu (gRow s2 a0) λaC=>
 Qu (gNet s2 aC.net) λa6=>
 gv (-9223372036854775808<=a6.parts-1/\a6.parts-1<=9223372036854775807)<|
 jc (cu s2 aC.net (PO.net ({a6 with parts:=a6.parts-1}))) λs3=>
 Qu (gPart s3 U) λaG=>
 Qu (aG.up) λaD=>
 Qu (gPart s3 aD) λa8=>
 gv (∀y,y=U\/y∈a8.kids.keys->s3 y≠none)<|
 jc (cu s3 aD (PO.part ({a8 with kids:=MS.del a8.kids U}))) λs4=>
 Qu (gRow s4 a0) λz=>
 gv (∀y,y=U\/y∈z.whole.keys->s4 y≠none)<|
 jc (cu s4 a0 (PO.row ({z with whole:=MS.del z.whole U}))) λs5=>
 kC (λ(aE:(Nat×Qc)->WM Qc) ((s,h))=>
  gP ((decide (s<z.steps.length))) (
   lO (λa2=>(
    gv (s+1<=9223372036854775807)<|
    aE (s+1,a2)
  )) λa3=>
  Qu (gRow h a0) λa7=>
  gv (a7.stepsP=z.stepsP/\a7.steps.length=z.steps.length/\a7.stepsC=z.stepsC)<|
  Qu (a7.steps[s]?) λa9=>
  mx a9 (λa4=>
  fu (Zy N a4 U h) λs9=>
  a3 s9
  ) (λa4=>
  fu (Zh N a4 U h) λaI=>
  a3 aI
  ) (λa4=>
  fu (Zj N a4 U h) λaJ=>
  a3 aJ
  )
  ) (
   fp h
  )
 ) N (0,s5)
def XU (N:Nat)(a0:Nat)(s1:Qc):WM (List Qo):=
 lO (λz=>(
  fp z
)) λa3=>
Qu (vQ s1 a0) λU=>
gv (U7 U.facts=true)<|
kC (λ(a4:(Nat×(List Qo))->WM (List Qo)) ((s,h))=>
 gP ((decide (s<((kc U.facts).length)))) (
  lO (λa1=>(
   gv (s+1<=9223372036854775807)<|
   a4 (s+1,a1)
 )) λa2=>
 Qu ((kc U.facts)[s]?) λa7=>
 zY (MS.look U.facts a7) (
 gv (h.length+([(⟨0,0,[]⟩:Qo)]).length<=3518437208883)<|
 a2 (h++([(⟨0,0,[]⟩:Qo)]))
 ) (λa5=>
 gv (h.length+[a5].length<=3518437208883)<|
 a2 (h++[a5])
 )
 ) (
  a3 h
 )
) N (0,[])
def Zt (N:Nat)(rc:Nat->Int->Nat->Qc->WM Qc)(a0:Nat)(a1:Nat)(a2:Int)(a3:Int)(l4:List V)(U:Qc):WM Qc:=
 Qu (jD U a0) λh=>
 fu (Sd N h.row U) λa9=>
 gP (a9) (
  fp U
 ) (
  Qu (gPart U a1) λa7=>
  Qu (NR N h.cond.kind h.cond.type h.cond.args h.cond.test.kind h.cond.test.value.k h.cond.test.value.n h.cond.test.value.s h.cond.test.var h.cond.test.op h.cond.test.kids a2 a3 l4 a7.has a7.vals) λ(z,a4,a5)=>
  gP (a5) (
   gv (-9223372036854775808<=h.k+1/\h.k+1<=9223372036854775807)<|
   fu (OG N h.row a1 z a4 a2 (del U a0)) λ(aA,s1)=>
   fu (rc h.row (h.k+1) aA s1) λs2=>
   jc (cu s2 a0 (PO.join h)) λs3=>
   kl s2 a0<|
   fp s3
  ) (
   fp U
  )
 )
def Q5f (N:Nat)(rc:Nat->Int->Nat->Qc->WM Qc)(a0:Nat)(U:Nat)(s2:Qc):WM Qc:=
 Qu (jD s2 a0) λz=>
 gv (∀y,y=U\/y∈z.parts.keys->s2 y≠none)<|
 jc (cu s2 a0 (PO.join ({z with parts:=MS.put z.parts U true}))) λs2=>
 fu (XU N z.alpha s2) λa4=>
 kC (λ(a5:(Nat×Qc)->WM Qc) ((h,s))=>
  gP ((decide (h<a4.length))) (
   Qu (a4[h]?) λa2=>
   fu (Zt N rc a0 U a2.id a2.ty a2.args s) λs4=>
   gv (h+1<=9223372036854775807)<|
   a5 (h+1,s4)
  ) (
   fp s
  )
 ) N (0,s2)
def TP (N:Nat)(rc:Nat->Int->Nat->Qc->WM Qc)(a0:Nat)(U:Nat)(s:Qc):WM Qc:=
 lO (λz=>(
  gP (z) (
   Qu (jE s a0) λh=>
   Qu (gPart s U) λa4=>
   gv (-9223372036854775808<=h.k+1/\h.k+1<=9223372036854775807)<|
   fu (OG N h.row U a4.has a4.vals 0 (del s a0)) λ(a6,s1)=>
   fu (rc h.row (h.k+1) a6 s1) λs=>
   jc (cu s a0 (PO.nt h)) λs3=>
   kl s a0<|
   fp s3
  ) (
   fp s
  )
)) λa2=>
Qu (gPart s U) λx7=>
Qu (x7.blocks) λa7=>
gP ((a7.2.es.length==0)) (
 Qu (jE s a0) λa8=>
 fu (Sd N a8.row s) λa9=>
 a2 (!a9)
) (
 a2 false
)
def Q5u (N:Nat)(rc:Nat->Int->Nat->Qc->WM Qc)(a0:Nat)(U:Nat)(s2:Qc):WM Qc:=
 Qu (jE s2 a0) λaC=>
 gv (∀y,y=U\/y∈aC.parts.keys->s2 y≠none)<|
 jc (cu s2 a0 (PO.nt ({aC with parts:=MS.put aC.parts U true}))) λs1=>
 Qu (gPart s1 U) λaD=>
 ma λ(aL:Nat)=>
 jc (cu s1 U (PO.part ({aD with blocks:=some (aL,(MS.nil:MS Int Bool))}))) λs4=>
 lO (λa6=>(
  fu (TP N rc a0 U a6) λs5=>
  fp s5
)) λaH=>
Qu (jE s4 a0) λaI=>
Qu (vQ s4 aI.alpha) λaJ=>
kC (λ(aA:(Nat×(MS Int _)×(List Int)×Qc)->WM Qc) ((a7,a8,a2,h))=>
 Qu (vQ h aI.alpha) λa3=>
 gv (a3.facts=a8/\a3.factsA=a7)<|
 kZ a3.facts a2 (
 aH h
 ) λa9=>(
 Qu (MS.look a3.facts a9) λaE=>
 Qu (jE h a0) λz=>
 Qu (gPart h U) λa4=>
 Qu (NR N z.cond.kind z.cond.type z.cond.args z.cond.test.kind z.cond.test.value.k z.cond.test.value.n z.cond.test.value.s z.cond.test.var z.cond.test.op z.cond.test.kids aE.id aE.ty aE.args a4.has a4.vals) λ(_,_,aF)=>
 gP (aF) (
  Qu (a4.blocks) λa5=>
  jc (cu h U (PO.part ({a4 with blocks:=some (a5.1,MS.put a5.2 a9 true)}))) λs6=>
  aA (a3.factsA,a3.facts,a2++[a9],s6)
 ) (
  aA (a3.factsA,a3.facts,a2++[a9],h)
 )
 )
) N (aJ.factsA,aJ.facts,([]:List Int),s4)
def Q5g (N:Nat)(rc:Nat->Int->Nat->Qc->WM Qc)(a0:Nat)(U:Nat)(s2:Qc):WM Qc:=
 Qu (rf s2 a0) λh=>
 Qu (gPart s2 U) λaB=>
 Qu (yV N h.cond.test.kind h.cond.test.value.k h.cond.test.value.n h.cond.test.value.s h.cond.test.var h.cond.test.op h.cond.test.kids aB.vals) λ(a6,a7,_,a8)=>
 lO (λa4=>(
  gP (a4) (
   Qu (rf s2 a0) λa2=>
   Qu (gPart s2 U) λa5=>
   gv (-9223372036854775808<=a2.k+1/\a2.k+1<=9223372036854775807)<|
   fu (OG N a2.row U a5.has a5.vals 0 (del s2 a0)) λ(aD,s1)=>
   fu (rc a2.row (a2.k+1) aD s1) λs2=>
   jc (cu s2 a0 (PO.test a2)) λs3=>
   kl s2 a0<|
   fp s3
  ) (
   fp s2
  )
)) λz=>
gP ((a8==0)) (
 gP ((a6==1)) (
  gP ((a7 !=0)) (
   fu (Sd N h.row s2) λaE=>
   z (!aE)
  ) (
   z false
  )
 ) (
  z false
 )
) (
 z false
)
def Q7y (N:Nat)(rc:Nat->Int->Nat->Qc->WM Qc)(a0:Nat)(U:Int)(a2:Nat)(z:Qc):WM Qc:=
 Qu (gRow z a0) λh=>
 gP ((U==(h.steps.length:Int))) (
  gv (∀y,y=a2\/y∈h.whole.keys->z y≠none)<|
  jc (cu z a0 (PO.row ({h with whole:=MS.put h.whole a2 true}))) λs1=>
  fp s1
 ) (
  gv (0<=U)<|
  Qu (h.steps[U.toNat]?) λa5=>
  mx a5 (λs=>
  fu (Q5f N rc s a2 z) λs2=>
  fp s2
  ) (λs=>
  fu (Q5u N rc s a2 z) λz=>
  fp z
  ) (λs=>
  fu (Q5g N rc s a2 z) λs4=>
  fp s4
  )
 )
def Ja:Nat->Nat->Int->Nat->Qc->WM Qc
 |0=>λ_=>λ_=>λ_=>λ_=>Kw
 |N+1=>Q7y N (Ja N)
def Sc (_:Nat)(h:Nat)(s1:Qc):WM Bool:=
 Qu (gNet s1 h) λs=>
 fp (!Option.isNone s.rowsP)
def ZL (N:Nat)(h:Nat)(s1:Qc):WM Nat:=
 fu (Sc N h s1) λs=>
 gP ((!s)) (
  fp 0
 ) (
  Qu (gNet s1 h) λz=>
  fp z.facts.es.length
 )
def TN (_:Nat)(rc:(Option Nat)->Qc->WM (List Int))(a0:Option Nat)(s1:Qc):WM (List Int):=
 Qu (a0) λa5=>
 Qu (gPart s1 a5) λx7=>
 gP (x7.up.isNone) (
  fp []
 ) (
  Qu (a0) λa3=>
  Qu (gPart s1 a3) λa4=>
  fu (rc a4.up s1) λz=>
  lO (λh=>(
   fp h
 )) λs=>
 Qu (a0) λa6=>
 Qu (gPart s1 a6) λa7=>
 gP ((decide (a7.id>0))) (
  Qu (a0) λa8=>
  Qu (gPart s1 a8) λU=>
  gv (z.length+[U.id].length<=17592186044416)<|
  s (z++[U.id])
 ) (
  s z
 )
 )
def TQ:Nat->(Option Nat)->Qc->WM (List Int)
 |0=>λ_=>λ_=>Kw
 |N+1=>TN N (TQ N)
def ZH (N:Nat)(a0:Nat)(s1:Qc):WM (List Int):=
 Qu (gPart s1 a0) λU=>
 gP (U.up.isNone) (
  fp []
 ) (
  fu (TQ N U.up s1) λz=>
  lO (λh=>(
   fp h
 )) λs=>
 gP ((decide (U.id>0))) (
  gv (z.length+[U.id].length<=17592186044416)<|
  s (z++[U.id])
 ) (
  s z
 )
 )
def ZB (N:Nat)(a0:Nat)(s1:Qc):WM (List Qy):=
 fu (Sc N a0 s1) λv9=>
 gP ((!v9)) (
  fp []
 ) (
  lO (λa2=>(
   fp a2
 )) λa5=>
 Qu (gNet s1 a0) λa6=>
 kC (λ(a7:(Nat×(List Qy))->WM (List Qy)) ((h,s))=>
  gP ((decide (h<a6.rows.length))) (
   Qu (a6.rows[h]?) λaD=>
   lO (λa3=>(
    Qu (rz (λx_ y_=>Sa N x_.rule x_.ids y_.rule y_.ids) a3) λa8=>
    gv (s.length+a8.length<=4398046511104)<|
    gv (h+1<=9223372036854775807)<|
    a7 (h+1,s++a8)
  )) λa9=>
  Qu (gRow s1 aD) λaA=>
  kC (λ(aB:((List Nat)×(List Qy))->WM (List Qy)) ((U,z))=>
   kZ aA.whole U (
   a9 z
   ) λa4=>(
   Qu (MS.look aA.whole a4) λ_=>
   fu (ZH N a4 s1) λaC=>
   gv (z.length+([(⟨((h:Int)),aC⟩:Qy)]).length<=4398046511104)<|
   aB (U++[a4],(z++[(⟨((h:Int)),aC⟩:Qy)]))
   )
  ) N (([]:List Nat),[])
  ) (
   a5 s
  )
 ) N (0,[])
 )
def Q6Q (N:Nat)(a0:Nat)(a1:Int)(s2:Qc):WM Qc:=
 Qu (jD s2 a0) λa9=>
 kC (λ(aA:(Nat×(MS Nat Bool)×(List Nat)×Qc)->WM Qc) ((a5,a6,a2,s))=>
  Qu (jD s a0) λa3=>
  gv (a3.parts=a6/\a3.partsA=a5)<|
  kZ a3.parts a2 (
  fp s
  ) λU=>(
  Qu (MS.look a3.parts U) λ_=>
  Qu (gPart s U) λaG=>
  fu (M3 aG.kids) λaB=>
  kC (λ(aC:(Nat×Qc)->WM Qc) ((z,h))=>
   gP ((decide (z<aB.length))) (
    lO (λa4=>(
     gv (z+1<=9223372036854775807)<|
     aC (z+1,a4)
   )) λa7=>
   Qu (aB[z]?) λaD=>
   Qu (gPart h aD) λaH=>
   gP ((aH.id==a1)) (
    Qu (jD h a0) λaI=>
    fu (Qc1 N aI.row aD h) λs2=>
    a7 s2
   ) (
    a7 h
   )
   ) (
    aA (a3.partsA,a3.parts,a2++[U],h)
   )
  ) N (0,s)
  )
 ) N (a9.partsA,a9.parts,([]:List Nat),s2)
def Q86 (_:Nat)(_:Nat)(_:Int)(_:Qc):WM Unit:=
 fp ()
def Q6y (_:Nat)(_:Nat)(_:Int)(_:Qc):WM Unit:=
 fp ()
def XX (N:Nat)(a0:bz)(z:Int)(h:Qc):WM Qc:=
 mx a0 (λs=>
 fu (Q6Q N s z h) λs1=>
 fp s1
 ) (λs=>
 fu (Q86 N s z h) λ_=>
 fp h
 ) (λs=>
 fu (Q6y N s z h) λ_=>
 fp h
 )
def Q85 (_:Nat)(_:Nat)(_:Int)(_:Qc):WM Unit:=
 fp ()
def Qc0 (N:Nat)(a0:Nat)(U:Nat)(s:Qc):WM Qc:=
 lO (λz=>(
  gP (z) (
   Qu (jE s a0) λh=>
   Qu (gPart s U) λa4=>
   gv (-9223372036854775808<=h.k+1/\h.k+1<=9223372036854775807)<|
   fu (OG N h.row U a4.has a4.vals 0 (del s a0)) λ(a6,s1)=>
   fu (Ja N h.row (h.k+1) a6 s1) λs=>
   jc (cu s a0 (PO.nt h)) λs3=>
   kl s a0<|
   fp s3
  ) (
   fp s
  )
)) λa2=>
Qu (gPart s U) λx7=>
Qu (x7.blocks) λa7=>
gP ((a7.2.es.length==0)) (
 Qu (jE s a0) λa8=>
 fu (Sd N a8.row s) λa9=>
 a2 (!a9)
) (
 a2 false
)
def Q7x (N:Nat)(a0:Nat)(U:Int)(s2:Qc):WM Qc:=
 Qu (jE s2 a0) λx9=>
 kC (λ(a3:((List Nat)×Qc)->WM Qc) ((s,h))=>
  kZ x9.parts s (
  fp h
  ) λj8=>(
  Qu (MS.look x9.parts j8) λ_=>
  lO (λa2=>(
   gP (a2) (
    Qu (gPart h j8) λa5=>
    Qu (a5.blocks) λz=>
    jc (cu h j8 (PO.part ({a5 with blocks:=some (z.1,MS.del z.2 U)}))) λs1=>
    fu (Qc0 N a0 j8 s1) λs2=>
    a3 (s++[j8],s2)
   ) (
    a3 (s++[j8],h)
   )
 )) λa4=>
 Qu (gPart h j8) λa8=>
 Qu (a8.blocks) λa6=>
 zY (MS.look a6.2 U) (
 a4 false
 ) (λa9=>
 a4 a9
 )
  )
 ) N (([]:List Nat),s2)
def Q6x (_:Nat)(_:Nat)(_:Int)(_:Qc):WM Unit:=
 fp ()
def XY (N:Nat)(a0:bz)(z:Int)(h:Qc):WM Qc:=
 mx a0 (λs=>
 fu (Q85 N s z h) λ_=>
 fp h
 ) (λs=>
 fu (Q7x N s z h) λs1=>
 fp s1
 ) (λs=>
 fu (Q6x N s z h) λ_=>
 fp h
 )
def Y3 (N:Nat)(a0:Nat)(U:Int)(s2:Qc):WM Qc:=
 Qu (gNet s2 a0) λs=>
 jc (cu s2 a0 (PO.net ({s with facts:=MS.del s.facts U}))) λs3=>
 lO (λa2=>(
  fu (Gk (λnu nq=>XX N nu U nq) a0 a2) λs5=>
  fu (Gk (λnu nq=>XY N nu U nq) a0 s5) λs6=>
  fp s6
)) λa9=>
jc (cu s3 a0 (PO.net ({({s with facts:=MS.del s.facts U}:gT)with rows:=({s with facts:=MS.del s.facts U}:gT).rows}))) λs7=>
kC (λ(aA:(Nat×(MS ByteArray Nat)×(List ByteArray)×Qc)->WM Qc) ((a4,a5,z,h))=>
 Qu (gNet h a0) λa3=>
 gv (a3.alphas=a5/\a3.alphasA=a4)<|
 kZ a3.alphas z (
 a9 h
 ) λaB=>(
 Qu (MS.look a3.alphas aB) λaC=>
 Qu (vQ h aC) λa7=>
 jc (cu h aC (PO.alpha ({a7 with facts:=MS.del a7.facts U}))) λs8=>
 aA (a3.alphasA,a3.alphas,z++[aB],s8)
 )
) N ((({s with facts:=MS.del s.facts U}:gT).alphasA),(({s with facts:=MS.del s.facts U}:gT).alphas),([]:List ByteArray),s7)
def OD (N:Nat)(a0:Nat)(_:Int)(a2:Int)(l3:List V)(s4:Qc):WM Bool:=
 Qu (vQ s4 a0) λa3=>
 gP ((a2 !=a3.kind)) (
  fp false
 ) (
  lO (λ_=>(
   fp true
 )) λa4=>
 kC (λ(a5:Nat->WM Bool) (h:Nat)=>
  gP ((decide (h<a3.args.length))) (
   Qu (a3.args[h]?) λU=>
   lO (λs=>(
    gP (s) (
     fp false
    ) (
     gv (h+1<=9223372036854775807)<|
     a5 (h+1)
    )
  )) λz=>
  gP ((U.k==4)) (
   Qu (l3[h]?) λa7=>
   z (!decide (U.v=a7))
  ) (
   z false
  )
  ) (
   a4 ()
  )
 ) N 0
 )
def Q7D (_:Nat)(_:Nat)(_:Int)(_:Int)(_:List V)(_:Qc):WM Unit:=
 fp ()
def Q6R (N:Nat)(a0:Nat)(a1:Int)(a2:Int)(l3:List V)(s4:Qc):WM Qc:=
 Qu (jE s4 a0) λaA=>
 fu (OD N aA.alpha a1 a2 l3 s4) λaF=>
 gP ((!aF)) (
  fp s4
 ) (
  kC (λ(a9:(Nat×(MS Nat Bool)×(List Nat)×Qc)->WM Qc) ((a7,a8,a3,z))=>
   Qu (jE z a0) λh=>
   gv (h.parts=a8/\h.partsA=a7)<|
   kZ h.parts a3 (
   fp z
   ) λU=>(
   Qu (MS.look h.parts U) λ_=>
   Qu (gPart z U) λa4=>
   Qu (NR N h.cond.kind h.cond.type h.cond.args h.cond.test.kind h.cond.test.value.k h.cond.test.value.n h.cond.test.value.s h.cond.test.var h.cond.test.op h.cond.test.kids a1 a2 l3 a4.has a4.vals) λ(_,_,aB)=>
   gP (aB) (
    Qu (a4.blocks) λa5=>
    jc (cu z U (PO.part ({a4 with blocks:=some (a5.1,MS.put a5.2 a1 true)}))) λs1=>
    Qu (jE s1 a0) λaI=>
    fu (NQ N aI.row U s1) λs2=>
    a9 (h.partsA,h.parts,a3++[U],s2)
   ) (
    a9 (h.partsA,h.parts,a3++[U],z)
   )
   )
  ) N (aA.partsA,aA.parts,([]:List Nat),s4)
 )
def Q6e (_:Nat)(_:Nat)(_:Int)(_:Int)(_:List V)(_:Qc):WM Unit:=
 fp ()
def XV (N:Nat)(a0:bz)(z:Int)(a2:Int)(l3:List V)(h:Qc):WM Qc:=
 mx a0 (λs=>
 fu (Q7D N s z a2 l3 h) λ_=>
 fp h
 ) (λs=>
 fu (Q6R N s z a2 l3 h) λs1=>
 fp s1
 ) (λs=>
 fu (Q6e N s z a2 l3 h) λ_=>
 fp h
 )
def QbZ (N:Nat)(a0:Nat)(a1:Nat)(a2:Int)(a3:Int)(l4:List V)(U:Qc):WM Qc:=
 Qu (jD U a0) λh=>
 fu (Sd N h.row U) λa9=>
 gP (a9) (
  fp U
 ) (
  Qu (gPart U a1) λa7=>
  Qu (NR N h.cond.kind h.cond.type h.cond.args h.cond.test.kind h.cond.test.value.k h.cond.test.value.n h.cond.test.value.s h.cond.test.var h.cond.test.op h.cond.test.kids a2 a3 l4 a7.has a7.vals) λ(z,a4,a5)=>
  gP (a5) (
   gv (-9223372036854775808<=h.k+1/\h.k+1<=9223372036854775807)<|
   fu (OG N h.row a1 z a4 a2 (del U a0)) λ(aA,s1)=>
   fu (Ja N h.row (h.k+1) aA s1) λs2=>
   jc (cu s2 a0 (PO.join h)) λs3=>
   kl s2 a0<|
   fp s3
  ) (
   fp U
  )
 )
def Q6P (N:Nat)(a0:Nat)(a1:Int)(a2:Int)(l3:List V)(U:Qc):WM Qc:=
 Qu (jD U a0) λz=>
 fu (OD N z.alpha a1 a2 l3 U) λa6=>
 gP ((!a6)) (
  fp U
 ) (
  kC (λ(a4:((List Nat)×Qc)->WM Qc) ((h,s))=>
   kZ z.parts h (
   fp s
   ) λa3=>(
   Qu (MS.look z.parts a3) λ_=>
   fu (QbZ N a0 a3 a1 a2 l3 s) λs1=>
   a4 (h++[a3],s1)
   )
  ) N (([]:List Nat),U)
 )
def Q84 (_:Nat)(_:Nat)(_:Int)(_:Int)(_:List V)(_:Qc):WM Unit:=
 fp ()
def Q6w (_:Nat)(_:Nat)(_:Int)(_:Int)(_:List V)(_:Qc):WM Unit:=
 fp ()
def XW (N:Nat)(a0:bz)(z:Int)(a2:Int)(l3:List V)(h:Qc):WM Qc:=
 mx a0 (λs=>
 fu (Q6P N s z a2 l3 h) λs1=>
 fp s1
 ) (λs=>
 fu (Q84 N s z a2 l3 h) λ_=>
 fp h
 ) (λs=>
 fu (Q6w N s z a2 l3 h) λ_=>
 fp h
 )
def TU (N:Nat)(a0:Nat)(U:Int)(a2:Int)(l3:List V)(s4:Qc):WM Qc:=
 Qu (gNet s4 a0) λz=>
 jc (cu s4 a0 (PO.net ({z with facts:=MS.put z.facts U (⟨U,a2,l3⟩:Qo)}))) λs3=>
 lO (λa5=>(
  fu (Gk (λnu nq=>XV N nu U a2 l3 nq) a0 a5) λs5=>
  fu (Gk (λnu nq=>XW N nu U a2 l3 nq) a0 s5) λs6=>
  fp s6
)) λaE=>
jc (cu s3 a0 (PO.net ({({z with facts:=MS.put z.facts U (⟨U,a2,l3⟩:Qo)}:gT)with rows:=({z with facts:=MS.put z.facts U (⟨U,a2,l3⟩:Qo)}:gT).rows}))) λs7=>
kC (λ(a9:(Nat×(MS ByteArray Nat)×(List ByteArray)×Qc)->WM Qc) ((a6,a7,s,h))=>
 Qu (gNet h a0) λa3=>
 gv (a3.alphas=a7/\a3.alphasA=a6)<|
 kZ a3.alphas s (
 aE h
 ) λaB=>(
 Qu (MS.look a3.alphas aB) λaC=>
 fu (OD N aC U a2 l3 h) λaF=>
 gP (aF) (
  Qu (vQ h aC) λaA=>
  jc (cu h aC (PO.alpha ({aA with facts:=MS.put aA.facts U (⟨U,a2,l3⟩:Qo)}))) λs8=>
  a9 (a3.alphasA,a3.alphas,s++[aB],s8)
 ) (
  a9 (a3.alphasA,a3.alphas,s++[aB],h)
 )
 )
) N ((({z with facts:=MS.put z.facts U (⟨U,a2,l3⟩:Qo)}:gT).alphasA),(({z with facts:=MS.put z.facts U (⟨U,a2,l3⟩:Qo)}:gT).alphas),([]:List ByteArray),s7)
def ZG (N:Nat)(a0:Nat)(a1:Int)(s2:Qc):WM (Nat×Qc):=
 fu (Sc N a0 s2) λv8=>
 gP ((!v8)) (
  fp (1,s2)
 ) (
  lO (λ(s,z,h,a3)=>(
   gP ((!a3)) (
    fp (6,s2)
   ) (
    fu (Y3 N a0 a1 s2) λU=>
    Qu (gNet U a0) λa8=>
    gP ((decide (a8.parts>4096))) (
     fu (TU N a0 s z h U) λs8=>
     fp (204,s8)
    ) (
     fp (0,U)
    )
   )
 )) λa2=>
 Qu (gNet s2 a0) λa9=>
 zY (MS.look a9.facts a1) (
 a2 (0,0,[],false)
 ) (λa4=>
 a2 (a4.id,a4.ty,a4.args,true)
 )
 )
def ZK (N:Nat)(a0:Nat)(a1:Int)(a2:Int)(l3:List V)(U:Qc):WM (Nat×Qc):=
 fu (Sc N a0 U) λv8=>
 gP ((!v8)) (
  fp (1,U)
 ) (
  lO (λs=>(
   gP (s) (
    fp (2,U)
   ) (
    lO (λa5=>(
     gP (a5) (
      fp (7,U)
     ) (
      gv (l3.length<=4398046511104)<|
      fu (TU N a0 a1 a2 l3 U) λs6=>
      Qu (gNet s6 a0) λaB=>
      gP ((decide (aB.parts>4096))) (
       fu (Y3 N a0 a1 s6) λs8=>
       fp (204,s8)
      ) (
       fp (0,s6)
      )
     )
   )) λz=>
   Qu (gNet U a0) λa9=>
   zY (MS.look a9.facts a1) (
   z false
   ) (λ_=>
   z true
   )
   )
 )) λh=>
 Qu (gNet U a0) λa3=>
 gP ((decide (a1<1))) (
  h true
 ) (
  gP ((decide (a1>1099511627776))) (
   h true
  ) (
   gP ((decide (a2<0))) (
    h true
   ) (
    gP ((decide (a2>=(a3.types.length:Int)))) (
     h true
    ) (
     gv (0<=a2)<|
     Qu (a3.types[a2.toNat]?) λaC=>
     gP (((l3.length:Int) !=aC.fields)) (
      h true
     ) (
      Qu (XI N l3) λaD=>
      h aD
     )
    )
   )
  )
 )
 )
def Sb (N:Nat)(a0:Nat)(_:Int)(a2:Int)(l3:List gS)(_:Int)(_:Int)(_:Int)(_:ByteArray)(_:Int)(_:Int)(_:List Q4)(aZ:Qc):WM ((Option Nat)×Qc):=
 ma λ(b1:Nat)=>
 rW aZ (λaJ=>PO.alpha ⟨a2,[],none,0,(MS.nil:MS Int Qo),b1⟩) λaJ s1=>
 lO (λh=>(
  Qu (vQ h aJ) λaK=>
  gv (-9223372036854775808<=aK.kind/\aK.kind<=9223372036854775807)<|
  lO (λaH=>(
   lO (λz=>(
    Qu (gNet z a0) λb2=>
    zY (MS.look b2.alphas aH) (
    fp (none,z)
    ) (λb3=>
    fp (some b3,z)
    )
  )) λaO=>
  lO (λaN=>(
   gP (aN) (
    Qu (gNet h a0) λaT=>
    jc (cu h a0 (PO.net ({aT with alphas:=MS.put aT.alphas aH aJ}))) λs3=>
    aO s3
   ) (
    aO h
   )
 )) λaP=>
 Qu (gNet h a0) λb4=>
 zY (MS.look b4.alphas aH) (
 aP true
 ) (λ_=>
 aP false
 )
 )) λaU=>
 kC (λ(aV:(Nat×ByteArray)->WM ((Option Nat)×Qc)) ((aF,aL))=>
  gP ((decide (aF<aK.args.length))) (
   Qu (aK.args[aF]?) λaR=>
   Qu (ZT N aR.v.k aR.v.n aR.v.s) λaS=>
   gv ((⟨#[44]⟩:ByteArray).size+aS.size<=9223372036854775807)<|
   gv (aL.size+((⟨#[44]⟩:ByteArray)++aS).size<=9223372036854775807)<|
   gv (aF+1<=9223372036854775807)<|
   aV (aF+1,(aL++((⟨#[44]⟩:ByteArray)++aS)))
  ) (
   aU aL
  )
 ) N (0,wb aK.kind)
)) λaW=>
kC (λ(aX:(Nat×Qc)->WM ((Option Nat)×Qc)) ((aG,a3))=>
 gP ((decide (aG<l3.length))) (
  Qu (l3[aG]?) λU=>
  lO (λ(aA,aB,aC,aD,aE)=>(
   Qu (vQ a3 aJ) λaM=>
   gv (aM.args.length+([(⟨aA,aB,(⟨aC,aD,aE⟩:V)⟩:gS)]).length<=2932031007402)<|
   gv (aG+1<=9223372036854775807)<|
   ma λ(b5:Option Addr)=>
   ma λ(b6:Nat)=>
   jc (cu a3 aJ (PO.alpha ({aM with args:=aM.args++([(⟨aA,aB,(⟨aC,aD,aE⟩:V)⟩:gS)]),argsP:=b5,argsC:=b6}))) λs4=>
   aX (aG+1,s4)
 )) λaQ=>
 gP ((U.k !=4)) (
  aQ (1,0,0,0,(⟨#[]⟩:ByteArray))
 ) (
  aQ (U.k,U.var,U.v.k,U.v.n,U.v.s)
 )
 ) (
  aW a3
 )
) N (0,s1)
def Yd (N:Nat)(l0:List Qa)(l1:List Q9)(s2:Qc):WM ((Option Nat)×Qc):=
 Qu (Si N l0 l1) λb8=>
 gP ((!b8)) (
  fp (none,s2)
 ) (
  gv (l0.length<=5864062014805)<|
  ma λ(b9:Nat)=>
  ma λ(bA:Nat)=>
  ma λ(bB:Nat)=>
  rW s2 (λa5=>PO.net ⟨l0,[],(some (⟨b9,0,none⟩:Addr)),0,(MS.nil:MS ByteArray Nat),bA,(MS.nil:MS Int Qo),bB,0⟩) λa5 s2=>
  lO (λa9=>(
   fp (some a5,a9)
 )) λaQ=>
 kC (λ(aR:(Nat×Qc)->WM ((Option Nat)×Qc)) ((a3,a4))=>
  gP ((decide (a3<l1.length))) (
   Qu (l1[a3]?) λaL=>
   ma λ(bC:Nat)=>
   rW a4 (λa0=>PO.row ⟨a5,[],none,0,(MS.nil:MS Nat Bool),bC⟩) λa0 bD=>
   lO (λa2=>(
    Qu (gNet a2 a5) λaB=>
    gv (aB.rows.length+[a0].length<=17592186044416)<|
    Qu (Sg N aL.vars) λ(aE,aF)=>
    ma λ(aG:Option Addr)=>
    ma λ(aS:Nat)=>
    Uw (aG.isSome=true)<|
    jc (cu a2 a5 (PO.net ({aB with rows:=aB.rows++[a0],rowsP:=aG,rowsC:=aS}))) λaT=>
    ma λ(aU:Nat)=>
    rW aT (λaH=>PO.part ⟨aE,aF,none,0,(MS.nil:MS Nat Bool),aU,none⟩) λaH aV=>
    fu (Ja N a0 0 aH aV) λaW=>
    gv (a3+1<=9223372036854775807)<|
    aR (a3+1,aW)
  )) λaX=>
  kC (λ(aY:(Nat×Qc)->WM ((Option Nat)×Qc)) ((U,z))=>
   gP ((decide (U<aL.conds.length))) (
    lO (λaA=>(
     gv (U+1<=9223372036854775807)<|
     aY (U+1,aA)
   )) λaC=>
   Qu (aL.conds[U]?) λh=>
   Qu (Y8 N h.kind h.type h.args h.test.kind h.test.value.k h.test.value.n h.test.value.s h.test.var h.test.op h.test.kids) λaM=>
   gP ((h.kind==1)) (
    Qu (gRow z a0) λa6=>
    fu (Sb N a5 h.kind h.type h.args h.test.kind h.test.value.k h.test.value.n h.test.value.s h.test.var h.test.op h.test.kids (del z a0)) λ(bF,aZ)=>
    Qu (bF) λbG=>
    ma λ(aD:Nat)=>
    rW aZ (λaN=>PO.join ⟨bG,a0,(U:Int),(⟨h.kind,h.type,h.args,(⟨h.test.kind,h.test.value,h.test.var,h.test.op,aM⟩:Q4)⟩:Qv),(MS.nil:MS Nat Bool),aD⟩) λaN aI=>
    gv (a6.steps.length+([(.join aN:bz)]).length<=8796093022208)<|
    ma λ(bH:Option Addr)=>
    ma λ(bI:Nat)=>
    jc (cu aI a0 (PO.row ({a6 with steps:=a6.steps++([(.join aN:bz)]),stepsP:=bH,stepsC:=bI}))) λb1=>
    kl aI a0<|
    aC b1
   ) (
    gP ((h.kind==2)) (
     Qu (gRow z a0) λa7=>
     fu (Sb N a5 h.kind h.type h.args h.test.kind h.test.value.k h.test.value.n h.test.value.s h.test.var h.test.op h.test.kids (del z a0)) λ(bK,b2)=>
     Qu (bK) λbL=>
     ma λ(aD:Nat)=>
     rW b2 (λaO=>PO.nt ⟨bL,a0,(U:Int),(⟨h.kind,h.type,h.args,(⟨h.test.kind,h.test.value,h.test.var,h.test.op,aM⟩:Q4)⟩:Qv),(MS.nil:MS Nat Bool),aD⟩) λaO aJ=>
     gv (a7.steps.length+([(.nt aO:bz)]).length<=8796093022208)<|
     ma λ(bM:Option Addr)=>
     ma λ(bN:Nat)=>
     jc (cu aJ a0 (PO.row ({a7 with steps:=a7.steps++([(.nt aO:bz)]),stepsP:=bM,stepsC:=bN}))) λb3=>
     kl aJ a0<|
     aC b3
    ) (
     Qu (gRow z a0) λa8=>
     ma λ(aD:Nat)=>
     rW (del z a0) (λaP=>PO.test ⟨a0,(U:Int),(⟨h.kind,h.type,h.args,(⟨h.test.kind,h.test.value,h.test.var,h.test.op,aM⟩:Q4)⟩:Qv),(MS.nil:MS Nat Bool),aD⟩) λaP aK=>
     gv (a8.steps.length+([(.test aP:bz)]).length<=8796093022208)<|
     ma λ(bO:Option Addr)=>
     ma λ(bP:Nat)=>
     jc (cu aK a0 (PO.row ({a8 with steps:=a8.steps++([(.test aP:bz)]),stepsP:=bO,stepsC:=bP}))) λb4=>
     kl aK a0<|
     aC b4
    )
   )
   ) (
    aX z
   )
  ) N (0,bD)
  ) (
   aQ a4
  )
 ) N (0,s2)
 )
end
end
end Go.Proofs.YtocfkfhdcnjklaaGreatDoor
