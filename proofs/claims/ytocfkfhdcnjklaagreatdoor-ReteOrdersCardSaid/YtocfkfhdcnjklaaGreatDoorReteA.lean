import Derived.Test.YtocfkfhdcnjklaaGreatDoorSq
open List renaming getElem?_eq_some_iff->c',mem_singleton->f',length_cons->g',mem_append->j',getElem?_eq_getElem->m',length_append->t',mem_append_left->u',mem_of_getElem?->A',nodup_append->C',length_nil->D',take_of_length_le->E',mem_cons->G',append_assoc->H',append_cancel_left_eq->J',cons_append->K',nil_append->L',nodup_cons->M',take_add_one->N',eq_nil_of_length_eq_zero->P',length_pos_iff->Q',nodup_nil->S',take_sublist->T',getElem?_map->U',map_cons->V',length_erase_of_mem->W',length_pos_of_mem->Z',mem_map->a!,all_eq_true->b!,map_append->c!
open Option renaming bind_some->v',isSome_iff_exists->X'
open Nat renaming le_trans->F',zero_le->I',le_refl->O'
open Bool renaming and_eq_true->Y'
namespace Go.Proofs.YtocfkfhdcnjklaaGreatDoor
section
open Go Go.RowKit
section
variable {A R S:Type} {Q:R->Prop}
variable {k:A->WM R}{x y:WM R}{o:Option A}{b:Bool}{a:A}{c:Prop}{O:Type}{s:Nat->Option O}
theorem Qk (h:o=some a)(hk:k a Q):Qu o k Q:=⟨a,h,hk⟩
theorem iE {k:WM R} (h:c)(hk:k Q):gv c k Q:=⟨h,hk⟩
theorem nG {x:A} (hk:k x Q):jc x k Q:=λ_ e=>e▸hk
theorem w8 (hk:∀a,k a Q):ma k Q:=hk
theorem Uy {k:WM R} (h:c->k Q):Uw c k Q:=h
theorem QZ {m:WM A} (h:m (λa=>k a Q)):fu m k Q:=h
theorem kU (h:b=true)(U:x Q):gP b x y Q:=⟨λ_=>U,λe=>by rw[h]at e;cases e⟩
theorem Ba (h:b=false)(hy:y Q):gP b x y Q:=⟨λe=>(by rw[h]at e;cases e),λ_=>hy⟩
theorem jA (U:b=true->x Q)(hy:b=false->y Q):gP b x y Q:=⟨U,hy⟩
theorem zZ (U:o=none->x Q)(hk:∀a,o=some a->k a Q):zY o x k Q:=⟨U,hk⟩
theorem FE (h:o=some a)(hk:k a Q):zY o x k Q:=⟨λe=>(by rw[h]at e;cases e),λb e=>by rw[h]at e;cases e;exact hk⟩
theorem kY {o:Nat->O} {k:Nat->(Nat->Option O)->WM R} (h:∀a,s a=none->k a (cu s a (o a)) Q):rW s o k Q:=λa U _ e=>e▸h a U
theorem lx {a:Nat} {k:WM R} (h:s a=none->k Q):kl s a k Q:=h
theorem Sz {κ α:Type} [DecidableEq κ] {m:MS κ α} {done:List κ} {k:κ->WM R} (U:(∀y∈m.keys,y∈done)->x Q)(hk:∀y,y∈m.keys->y∉done->k y Q):kZ m done x k Q:=⟨U,hk⟩
end
theorem lD {R:Type} {Q:R->Prop} {a:Nat} {f g h:Nat->WM R} (hk:f a Q):mx (.join a) f g h Q:=⟨λb e=>(by cases e;exact hk),λb e=>(by cases e),λb e=>(by cases e)⟩
theorem lE {R:Type} {Q:R->Prop} {a:Nat} {f g h:Nat->WM R} (hk:g a Q):mx (.nt a) f g h Q:=⟨λb e=>(by cases e),λb e=>(by cases e;exact hk),λb e=>(by cases e)⟩
theorem lF {R:Type} {Q:R->Prop} {a:Nat} {f g h:Nat->WM R} (hk:h a Q):mx (.test a) f g h Q:=⟨λb e=>(by cases e),λb e=>(by cases e),λb e=>(by cases e;exact hk)⟩
section maps
variable {κ α:Type} [DecidableEq κ]
theorem xK {x:κ} {v:α×Nat} {y:κ}:∀{l:List (κ×α×Nat)},y∈(kX x v l).map (·.1)↔y=x\/y∈l.map (·.1)
 |[]=>by simp[kX]
 | z ::l=>by
   unfold kX;split
   ·rename_i h;simp only[V',G'];rw[h];constructor
    ·rintro(h1|h1);· exact .inl h1
     · exact .inr (.inr h1)
    ·rintro(h1|h1|h1);· exact .inl h1
     · exact .inl h1
     · exact .inr h1
   ·simp only[V',G',xK (l:=l)];constructor
    ·rintro(h1|h1|h1);· exact .inr (.inl h1)
     · exact .inl h1
     · exact .inr (.inr h1)
    ·rintro(h1|h1|h1);· exact .inr (.inl h1)
     · exact .inl h1
     · exact .inr (.inr h1)
theorem MS.keys_put {m:MS κ α} {x y:κ} {a:α}:y∈(m.put x a).keys↔y=x\/y∈m.keys:=by
 unfold MS.put MS.keys;cases h:iK x m.es with
 |some v=>exact xK
 |none=>simp only[c!,V',List.map_nil,j',f',or_comm]
theorem MS.keys_del {m:MS κ α} {x y:κ}:y∈(m.del x).keys↔y≠x/\y∈m.keys:=by
 unfold MS.del MS.keys;simp only[a!,List.mem_filter,Bool.not_eq_true',decide_eq_false_iff_not];constructor;· rintro⟨z,⟨h1,U⟩,rfl⟩;exact⟨U,z,h1,rfl⟩
 · rintro⟨U,z,h1,rfl⟩;exact⟨z,⟨h1,U⟩,rfl⟩
theorem MS.keys_nil {κ α:Type} {y:κ}:¬y∈(MS.nil:MS κ α).keys:=by simp[MS.nil,MS.keys]
theorem MS.del_none {m:MS κ α} {x:κ} (h:x∉m.keys):m.del x=m:=by
 unfold MS.del;have:m.es.filter (λy=>!decide (y.1=x))=m.es:=filter_none h;rw[this]
theorem uH {x y:κ} {v:α×Nat}:∀{l:List (κ×α×Nat)},iK y (kX x v l)=if y=x then some v else iK y l
 | []=>by
   simp only[kX,iK];by_cases h:y=x;· subst h;simp
   · rw[if_neg h,if_neg (λe=>h e.symm)]
 | z::l=>by
   unfold kX;by_cases h:z.1=x
   ·rw[if_pos h];simp only[iK];by_cases U:y=x;· subst U;simp
    · rw[if_neg U,if_neg (λe=>U e.symm),if_neg (λe=>U (by rw[<-h,e]))]
   ·rw[if_neg h];simp only[iK,uH (l:=l)];by_cases U:z.1=y;· rw[if_pos U,if_pos U,if_neg (λe=>h (by rw[U,e]))]
    · rw[if_neg U,if_neg U]
theorem xX {x y:κ} {v:α×Nat}:∀{l:List (κ×α×Nat)},iK x l=none->iK y (l++[(x,v)])=if y=x then some v else iK y l
 | [],_=>by
   simp only[L',iK];by_cases h:y=x;· subst h;simp
   · rw[if_neg h,if_neg (λe=>h e.symm)]
 | z::l,h=>by
   unfold iK at h;split at h;· cases h
   ·rename_i hz;simp only[K',iK,xX (y:=y) h];by_cases U:z.1=y;· rw[if_pos U,if_pos U,if_neg (λe=>hz (by rw[U,e]))]
    · rw[if_neg U,if_neg U]
theorem MS.look_put {m:MS κ α} {x y:κ} {a:α}:(m.put x a).look y=if y=x then some a else m.look y:=by
 unfold MS.put MS.look;cases h:iK x m.es with
 | some v=>
   simp only[uH];by_cases h2:y=x<;>simp[h2]
 | none=>
   simp only[xX h];by_cases h2:y=x<;>simp[h2]
theorem Qbn {x y:κ}:∀{l:List (κ×α×Nat)},iK y (l.filter λz=> !decide (z.1=x))=if y=x then none else iK y l
 |[]=>by simp[iK]
 | z::l=>by
   by_cases h:z.1=x
   ·rw[List.filter_cons_of_neg (by simp[h]),Qbn (l:=l)];by_cases U:y=x;· rw[if_pos U,if_pos U]
    ·rw[if_neg U,if_neg U];simp only[iK];rw[if_neg (λe=>U (by rw[<-e,h]))]
   ·rw[List.filter_cons_of_pos (by simp[h])];simp only[iK,Qbn (l:=l)];by_cases U:z.1=y;· rw[if_pos U,if_pos U,if_neg (λe=>h (by rw[U,e]))]
    · rw[if_neg U,if_neg U]
theorem MS.look_del {m:MS κ α} {x y:κ}:(m.del x).look y=if y=x then none else m.look y:=by
 unfold MS.del MS.look;simp only[Qbn];by_cases h2:y=x<;>simp[h2]
theorem MS.look_iff {m:MS κ α} {x:κ}:x∈m.keys↔∃a,m.look x=some a:=by
 unfold MS.keys MS.look
 have key:∀l:List (κ×α×Nat),x∈l.map (·.1)↔∃v,iK x l=some v:=by
  intro l;induction l with
  |nil=>simp[iK]
  | cons z l U=>
    simp only[V',G',iK];by_cases h:z.1=x;· simp[h]
    ·rw [if_neg h,<-U];constructor
     ·rintro(h1|h1);· exact absurd h1.symm h
      · exact h1
     · exact .inr
 rw[key];constructor;· rintro⟨v,h⟩;exact⟨v.1,by simp[h]⟩
 ·rintro⟨a,h⟩;cases hv:iK x m.es with
  |none=>simp[hv]at h
  |some v=>exact⟨v,rfl⟩
theorem MS.keys_put_eq {m:MS κ α} {x:κ} {a:α}:(m.put x a).keys=if x∈m.keys then m.keys else m.keys++[x]:=by
 unfold MS.put
 have hm:x∈m.keys↔∃v,iK x m.es=some v:=by
   rw[MS.look_iff];unfold MS.look;constructor
   ·rintro⟨a,h⟩;cases U:iK x m.es with
    |none=>simp[U]at h
    |some v=>exact⟨v,rfl⟩
   · rintro⟨v,h⟩;exact⟨v.1,by simp[h]⟩
 cases h:iK x m.es with
 | some v=>
   rw[if_pos (hm.2 ⟨v,h⟩)];unfold MS.keys
   have key:∀l:List (κ×α×Nat),(∃v,iK x l=some v)->(kX x (a,v.2) l).map (·.1)=l.map (·.1):=by
    intro l;induction l with
    |nil=>rintro⟨v,h⟩;cases h
    | cons z l ih=>
      rintro⟨w,h⟩;unfold iK at h;unfold kX;split;· rename_i hz;simp[hz]
      ·rename_i hz;rw[if_neg hz]at h;simp[ih ⟨w,h⟩]
   exact key _ ⟨v,h⟩
 | none=>
   rw[if_neg (λhh=>by obtain⟨v,U⟩:=hm.1 hh;rw[h]at U;cases U)];simp[MS.keys]
theorem MS.nodup_put {m:MS κ α} {x:κ} {a:α} (h:m.keys.Nodup):(m.put x a).keys.Nodup:=by
 rw[MS.keys_put_eq];split;· exact h
 ·rename_i hx;exact C'.2 ⟨h,ax,λy hy z U e=>hx (by simp at U;rw[<-U,<-e];exact hy)⟩
theorem MS.nodup_del {m:MS κ α} {x:κ} (h:m.keys.Nodup):(m.del x).keys.Nodup:=by
 unfold MS.del MS.keys at*;exact List.Nodup.sublist (List.Sublist.map _ List.filter_sublist) h
theorem Je:∀{ks l:List κ},ks.Nodup->(∀z∈ks,z∈l)->ks.length<=l.length
 |[],l,_,_=>I' _
 | k::ks,l,h,hs=>by
   have h1:=M'.1 h;have hk:k∈l:=hs k ax;have:=Je (l:=l.erase k) h1.2 λz U=>(List.mem_erase_of_ne (λe=>h1.1 (by rw[<-e];exact U))).2 (hs z (by simp[U]));rw[W' hk]at this;have:=Z' hk;simp only[g'];omega
end maps
end
section
open Go Go.RowKit
structure gO where
 mt:Qv->List Bool->List V->Qo->Option (List Bool×List V)
 ev:Qv->List V->Bool
structure gh where
 st:bz
 al:Nat
 c:Qv
structure gp where
 b:Nat
 steps:List gh
 sP:Option Addr
 sC:Nat
 root:Nat
 hs:List Bool
 vs:List V
structure JI where
 b:Nat
 kind:Int
 args:List gS
structure ic where
 g:Nat
 types:List Qa
 rows:List gp
 rP:Option Addr
 rC:Nat
 alphas:MS ByteArray Nat
 alphasA:Nat
 als:List JI
abbrev cg:=Int->Option Qo
abbrev fg:=List Bool×List V
abbrev Loc:=Nat->Option (Nat×List Int)
def iI (S:gO)(T:cg)(sc:gh)(e:fg)(i:Int):Option fg:=match sc.st with
 | .join _=>(T i).bind λf=>S.mt sc.c e.1 e.2 f
 | .nt _=>if i=0 then some e else none
 | .test _=>if i=0/\S.ev sc.c e.2=true then some e else none
def ij (S:gO)(T:cg):List gh->fg->List Int->Option fg
 |_,e,[]=>some e
 |[],_,_::_=>none
 |sc::l,e,i::π=>(iI S T sc e i).bind λU=>ij S T l U π
theorem QaS {S:gO} {T:cg} {i:Int}:∀{π:List Int} {l:List gh} {e:fg},ij S T l e (π++[i])=(ij S T l e π).bind λU=>(l[π.length]?).bind λsc=>iI S T sc U i
 |[],[],e=>by simp[ij]
 | [],sc::l,e=>by
   simp only[L',ij,D',List.getElem?_cons_zero,v'];cases iI S T sc e i<;>rfl
 |j::π,[],e=>by simp[ij]
 | j::π,sc::l,e=>by
   simp only[K',ij,g',List.getElem?_cons_succ];cases h:iI S T sc e j with
   |none=>rfl
   |some U=>simp only[v'];exact QaS
theorem nZ {S:gO} {T:cg}:∀{π:List Int} {l:List gh} {e U:fg},ij S T l e π=some U->π.length<=l.length
 |[],l,e,U,_=>I' _
 |j::π,[],e,U,h=>by simp[ij]at h
 | j::π,sc::l,e,U,h=>by
   simp only[ij]at h;cases h1:iI S T sc e j with
   |none=>rw[h1]at h;cases h
   |some e1=>rw[h1]at h;have:=nZ h;simp;exact this
def lq (S:gO)(sc:gh)(e:fg)(T:cg)(i:Int):Prop:=∃f,T i=some f/\(S.mt sc.c e.1 e.2 f).isSome=true
def hasB (A:JI)(f:Qo):Bool:=decide (f.ty=A.kind)&&(List.range A.args.length).all λj=>match A.args[j]? with
 |some a=>if a.k=4 then decide (f.args[j]? =some a.v)else true
 |none=>true
def jl (loc:Loc)(n:Nat):Prop:=∃L:List Nat,L.Nodup/\(∀p,p∈L↔∃r π,loc p=some (r,π)/\π≠[])/\L.length=n
section
variable (S:gO) (C:ic) (T:cg) (Ta:Nat->cg) (B:Nat->List Int->cg×cg) (Zo:Nat->Prop) (cq:Option Nat) (loc:Loc) (s:Qc)
def LK (r k:Nat)(m:MS Nat Bool):Prop:=∀y,y∈m.keys↔(∃π,loc y=some (r,π)/\π.length=k)/\some y≠cq
def Z0 (o:Option PO):Prop:=∃x,o=some (.net x)/\x.types=C.types/\x.rows=C.rows.map (·.b)/\x.rowsP=C.rP/\x.rowsC=C.rC/\x.alphas=C.alphas/\x.alphasA=C.alphasA/\(x.facts.keys.Nodup/\∀i,x.facts.look i=Ta C.g i)/\∃n:Nat,x.parts=(n:Int)/\jl loc n
def a01 (r:Nat)(R:gp)(o:Option PO):Prop:=∃y,o=some (.row y)/\y.net=C.g/\y.steps=R.steps.map (·.st)/\y.stepsP=R.sP/\y.stepsC=R.sC/\LK cq loc r R.steps.length y.whole
def ju (r:Nat)(R:gp)(k:Nat)(sc:gh)(o:Option PO):Prop:=match sc.st with
 | .join _=>∃x,o=some (.join x)/\x.alpha=sc.al/\x.row=R.b/\x.k=(k:Int)/\x.cond=sc.c/\LK cq loc r k x.parts
 | .nt _=>∃x,o=some (.nt x)/\x.alpha=sc.al/\x.row=R.b/\x.k=(k:Int)/\x.cond=sc.c/\LK cq loc r k x.parts
 | .test _=>∃x,o=some (.test x)/\x.row=R.b/\x.k=(k:Int)/\x.cond=sc.c/\∀y,y∉x.parts.keys
def JJ (Tb:cg)(A:JI)(o:Option PO):Prop:=∃x,o=some (.alpha x)/\x.kind=A.kind/\x.args=A.args/\x.facts.keys.Nodup/\∀i,x.facts.look i=(Tb i).filter (hasB A)
structure S5 (R:gp) (r p:Nat) (π:List Int) (x:jy):Prop where
 env:ij S T R.steps (R.hs,R.vs) π=some (x.has,x.vals)
 top:π=[]->x.up=none/\x.id=0/\p=R.root
 up:∀ρ i,π=ρ++[i]->x.id=i/\∃q,x.up=some q/\loc q=some (r,ρ)
 kids:∀y,y∈x.kids.keys↔∃i,loc y=some (r,π++[i])
 blocks:some p≠cq->∀sc a,R.steps[π.length]? =some sc->sc.st=.nt a->∃bb m,x.blocks=some (bb,m)/\(∀i,i∈m.keys↔lq S sc (x.has,x.vals) (B r π).1 i)/\∀i v,m.look i=some v->v=true
 free:∀sc a,R.steps[π.length]? =some sc->sc.st=.nt a->(∃y i,loc y=some (r,π++[i]))->∀i,¬lq S sc (x.has,x.vals) (B r π).2 i
 kn:x.kids.keys.Nodup
def TH (p r:Nat)(π:List Int)(o:Option PO):Prop:=∃R x,C.rows[r]? =some R/\o=some (.part x)/\S5 S T B cq loc R r p π x
structure Inv:Prop where
 net:Z0 C Ta loc (s C.g)
 row:∀r R,C.rows[r]? =some R->a01 C cq loc r R (s R.b)
 step:∀r R k sc,C.rows[r]? =some R->R.steps[k]? =some sc->¬Zo sc.st.adr->ju cq loc r R k sc (s sc.st.adr)
 al:∀A∈C.als,JJ (Ta A.b) A (s A.b)
 part:∀p r π,loc p=some (r,π)->TH S C T B cq loc p r π (s p)
 inj:∀p q l,loc p=some l->loc q=some l->p=q
 root:∀r R,C.rows[r]? =some R->loc R.root=some (r,[])
 le:∀n,jl loc n->n<=4097
end
structure pS (C:ic):Prop where
 rows:∀(r r':Nat) (R R':gp),C.rows[r]? =some R->C.rows[r']? =some R'->R.b=R'.b->r=r'
 steps:∀(r r':Nat) (R R':gp) (k k':Nat) (sc di:gh),C.rows[r]? =some R->C.rows[r']? =some R'->R.steps[k]? =some sc->R'.steps[k']? =some di->sc.st.adr=di.st.adr->r=r'/\k=k'
 kind:∀(r:Nat) (R:gp) (k:Nat) (sc:gh),C.rows[r]? =some R->R.steps[k]? =some sc->(match sc.st with| .join _=>sc.c.kind=1| .nt _=>sc.c.kind=2| .test _=>sc.c.kind=3)
theorem jl.unique {loc:Loc} {n m:Nat} (h:jl loc n)(h':jl loc m):n=m:=by
 obtain⟨L,a1,a2,rfl⟩:=h;obtain⟨M,b1,b2,rfl⟩:=h';exact Nat.le_antisymm (JV a1 λz U=>(b2 z).2 ((a2 z).1 U)) (JV b1 λz U=>(a2 z).2 ((b2 z).1 U))
def jf (loc:Loc)(p:Nat)(l:Nat×List Int):Loc:=λb=>if b=p then some l else loc b
theorem jl.add {loc:Loc} {n p r:Nat} {π:List Int} (h:jl loc n)(hp:loc p=none)(kK:π≠[]):jl (jf loc p (r,π)) (n+1):=by
 obtain⟨L,U,a2,rfl⟩:=h;refine⟨p::L,M'.2 ⟨λhm=>?_,U⟩,λq=>?_,rfl⟩
 ·obtain⟨r',gL,h1,_⟩:=(a2 p).1 hm;rw[hp]at h1;cases h1
 ·simp only[G',a2,jf];by_cases hq:q=p;· subst hq;simp;exact⟨r,π,⟨rfl,rfl⟩,kK⟩
  · simp[hq]
section
variable {S:gO} {C:ic} {T:cg} {Ta:Nat->cg} {B:Nat->List Int->cg×cg} {Zo:Nat->Prop} {cq:Option Nat} {loc:Loc} {s:Qc}
theorem Inv.gNet (h:Inv S C T Ta B Zo cq loc s):∃x,Go.Proofs.YtocfkfhdcnjklaaGreatDoor.gNet s C.g=some x/\s C.g=some (.net x)/\x.types=C.types/\x.rows=C.rows.map (·.b)/\x.rowsP=C.rP/\x.rowsC=C.rC/\x.alphas=C.alphas/\x.alphasA=C.alphasA/\(x.facts.keys.Nodup/\∀i,x.facts.look i=Ta C.g i)/\∃n:Nat,x.parts=(n:Int)/\jl loc n:=by
 obtain⟨x,h1,U⟩:=h.net;exact⟨x,by simp[Go.Proofs.YtocfkfhdcnjklaaGreatDoor.gNet,h1],h1,U⟩
theorem Inv.gRow (h:Inv S C T Ta B Zo cq loc s) {r:Nat} {R:gp} (hr:C.rows[r]? =some R):∃y,Go.Proofs.YtocfkfhdcnjklaaGreatDoor.gRow s R.b=some y/\s R.b=some (.row y)/\y.net=C.g/\y.steps=R.steps.map (·.st)/\y.stepsP=R.sP/\y.stepsC=R.sC/\LK cq loc r R.steps.length y.whole:=by
 obtain⟨x,h1,U⟩:=h.row r R hr;exact⟨x,by simp[Go.Proofs.YtocfkfhdcnjklaaGreatDoor.gRow,h1],h1,U⟩
theorem Inv.gPart (h:Inv S C T Ta B Zo cq loc s) {p r:Nat} {π:List Int} (hp:loc p=some (r,π)):∃R x,C.rows[r]? =some R/\Go.Proofs.YtocfkfhdcnjklaaGreatDoor.gPart s p=some x/\s p=some (.part x)/\S5 S T B cq loc R r p π x:=by
 obtain⟨R,x,h1,U,h3⟩:=h.part p r π hp;exact⟨R,x,h1,by simp[Go.Proofs.YtocfkfhdcnjklaaGreatDoor.gPart,U],U,h3⟩
theorem ER {N r:Nat} {R:gp} {Q:Bool->Prop} (h:Inv S C T Ta B Zo cq loc s)(hr:C.rows[r]? =some R)(hQ:∀n,jl loc n->Q (decide (4096<n))):Sd N R.b s Q:=by
 obtain⟨y,h1,_,U,_⟩:=h.gRow hr;obtain⟨x,g1,_,_,_,_,_,_,_,_,n,g2,g3⟩:=h.gNet;refine Qk h1 ?_;rw[U];refine Qk g1 ?_;have:=hQ n g3;show Q (decide (x.parts>4096));rw[g2]
 have e:decide ((n:Int)>4096)=decide (4096<n):=by
  by_cases hh:4096<n;· rw[decide_eq_true hh,decide_eq_true an]
  · rw[decide_eq_false hh,decide_eq_false an]
 rw[e];exact this
theorem QG {s:Qc} {a b:Nat} {o:PO} (h:b≠a):cu s a o b=s b:=if_neg h
theorem LK.fresh {r k p:Nat} {l:Nat×List Int} {m:MS Nat Bool} (hp:loc p=none)(h:LK none loc r k m):LK (some p) (jf loc p l) r k m:=λy=>by
 rw[h y];unfold jf;by_cases hy:y=p;· subst hy;simp[hp]
 · simp[hy]
theorem Inv.none_loc (h:Inv S C T Ta B Zo cq loc s) {p:Nat} (hp:s p=none):loc p=none:=by
 cases hl:loc p with
 |none=>rfl
 | some l=>
   obtain⟨R,x,_,U,_⟩:=h.part p l.1 l.2 hl;rw[hp]at U;cases U
theorem Yn {ρ U:List Int} {i i':Int} (h:ρ++[i]=U++[i']):ρ=U/\i=i':=by
 have:=List.append_inj' h rfl;exact⟨this.1,by simpa using this.2⟩
theorem Inv.kid (h:Inv S C T Ta B Zo none loc s) {p q r:Nat} {ρ:List Int} {i:Int} {R:gp} {x:jy} {xn:gT} {hs:List Bool} {vs:List V} {ka:Nat} (hr:C.rows[r]? =some R)(hp:s p=none)(hq:loc q=some (r,ρ))(hx:s q=some (.part x))(hn:s C.g=some (.net xn))
  (he:ij S T R.steps (R.hs,R.vs) (ρ++[i])=some (hs,vs)) (il:∀y,loc y≠some (r,ρ++[i])) (iq:∀sc a,R.steps[ρ.length]? =some sc->sc.st=.nt a->∀j,¬lq S sc (x.has,x.vals) (B r ρ).2 j) (hle:∀n,jl loc n->n<=4096):
  Inv S C T Ta B Zo (some p) (jf loc p (r,ρ++[i])) (cu (cu (cu s p (.part ⟨hs,vs,some q,i,MS.nil,ka,none⟩)) q (.part {x with kids:=x.kids.put p true})) C.g (.net {xn with parts:=xn.parts+1})):=by
 have Fa:=h.none_loc hp;have hqp:q≠p:=λe=>by rw[e,hp]at hx;cases hx
 have hqg:q≠C.g:=λe=>by rw[e,hn]at hx;cases hx
 have hpg:p≠C.g:=λe=>by rw[e,hn]at hp;cases hp
 have old:∀b,b≠p->b≠q->b≠C.g->(cu (cu (cu s p (.part ⟨hs,vs,some q,i,MS.nil,ka,none⟩)) q (.part {x with kids:=x.kids.put p true})) C.g (.net {xn with parts:=xn.parts+1})) b=s b:=λb h1 h2 h3=>by
  rw[QG h3,QG h2,QG h1]
 have Xz:∀y l,loc y=some l->jf loc p (r,ρ++[i]) y=some l:=λy l hl=>by
  unfold jf;rw[if_neg (λe=>by rw[e,Fa]at hl;cases hl)];exact hl
 have Tk:∀y j,jf loc p (r,ρ++[i]) y≠some (r,ρ++[i]++[j]):=λy j hy=>by
  unfold jf at hy;split at hy
  ·simp only[Option.some.injEq,Prod.mk.injEq,true_and]at hy;have:=congrArg List.length hy;simp at this
  ·obtain⟨R',x',_,_,h4⟩:=h.part _ _ _ hy;obtain⟨_,q2,_,h5⟩:=h4.up _ _ rfl;exact il _ h5
 refine⟨?_,?_,?_,?_,?_,?_,?_,?_⟩
 ·obtain⟨x0,a1,a2,a3,a4,a5,a6,a7,a8,n,a9,js⟩:=h.net;rw[hn]at a1;cases a1;exact⟨_,kf _ _ _,a2,a3,a4,a5,a6,a7,a8,n+1,by simp[a9],js.add Fa ax⟩
 ·intro r' R' cz;obtain⟨y,U,b2,b3,b4,b5,b6⟩:=h.row r' R' cz;rw[old _ (λe=>by rw[e,hp]at U;cases U) (λe=>by rw[e,hx]at U;cases U) (λe=>by rw[e,hn]at U;cases U)];exact⟨y,U,b2,b3,b4,b5,b6.fresh Fa⟩
 ·intro r' R' k sc cz hk hz;have h0:=h.step r' R' k sc cz hk hz
  have hb:∀o,s sc.st.adr=some o->(∀z,o≠.part z)->(∀z,o≠.net z)->(cu (cu (cu s p (.part ⟨hs,vs,some q,i,MS.nil,ka,none⟩)) q (.part {x with kids:=x.kids.put p true})) C.g (.net {xn with parts:=xn.parts+1})) sc.st.adr=some o:=λo ho c1 c2=>by
   rw[old _ (λe=>by rw[e,hp]at ho;cases ho) (λe=>by rw[e,hx]at ho;cases ho;exact c1 _ rfl) (λe=>by rw[e,hn]at ho;cases ho;exact c2 _ rfl)];exact ho
  unfold ju at h0⊢;split at h0
  ·obtain⟨z,U,b2,b3,b4,b5,b6⟩:=h0;exact⟨z,hb _ U (λ_ e=>by cases e) (λ_ e=>by cases e),b2,b3,b4,b5,b6.fresh Fa⟩
  ·obtain⟨z,U,b2,b3,b4,b5,b6⟩:=h0;exact⟨z,hb _ U (λ_ e=>by cases e) (λ_ e=>by cases e),b2,b3,b4,b5,b6.fresh Fa⟩
  ·obtain⟨z,U,b3,b4,b5,b6⟩:=h0;exact⟨z,hb _ U (λ_ e=>by cases e) (λ_ e=>by cases e),b3,b4,b5,b6⟩
 ·intro A hA;obtain⟨z,U,b2⟩:=h.al A hA;refine⟨z,?_,b2⟩;rw[old _ (λe=>by rw[e,hp]at U;cases U) (λe=>by rw[e,hx]at U;cases U) (λe=>by rw[e,hn]at U;cases U)];exact U
 ·intro p' r' gL hl;by_cases h1:p'=p
  ·subst h1;have:(r,ρ++[i])=(r',gL):=by simpa[jf]using hl
   cases this;refine⟨R,⟨hs,vs,some q,i,MS.nil,ka,none⟩,hr,(by rw[QG hpg,QG (Ne.symm hqp),kf]),⟨he,λe=>by simp at e,λck i' e=>?_,λy=>?_,λe=>absurd rfl e,λsc a _ _ hk=>?_,S'⟩⟩
   ·obtain⟨rfl,rfl⟩:=Yn e;exact⟨rfl,q,rfl,Xz _ _ hq⟩
   · exact⟨λhy=>absurd hy MS.keys_nil,λ⟨j,hj⟩=>absurd hj (Tk y j)⟩
   · obtain⟨y,j,hj⟩:=hk;exact absurd hj (Tk y j)
  ·have sR:loc p'=some (r',gL):=by unfold jf at hl;rwa [if_neg h1]at hl
   obtain⟨R',x',c1,c2,c3⟩:=h.part p' r' gL sR;have a0Y:p'≠C.g:=λe=>by rw[e,hn]at c2;cases c2
   have hup:∀ck j,gL=ck++[j]->x'.id=j/\∃q2,x'.up=some q2/\jf loc p (r,ρ++[i]) q2=some (r',ck):=λck j e=>by
    obtain⟨d1,q2,d2,d3⟩:=c3.up ck j e;exact⟨d1,q2,d2,Xz _ _ d3⟩
   by_cases h2:p'=q
   ·subst h2;rw[hq]at sR;cases sR;rw[hr]at c1;cases c1;rw[hx]at c2;cases c2;refine⟨R,{x with kids:=x.kids.put p true},hr,(by rw[QG a0Y,kf]),⟨c3.env,c3.top,hup,λy=>?_,λ_=>c3.blocks ax,λsc a e1 e2 _=>iq sc a e1 e2,MS.nodup_put c3.kn⟩⟩;show y∈(x.kids.put p true).keys↔_;rw[MS.keys_put,c3.kids];unfold jf;by_cases hy:y=p;· subst hy;simp
    · simp[hy]
   ·refine ⟨R',x',c1,(by rw[old _ h1 h2 a0Y];exact c2),⟨c3.env,c3.top,hup,λy=>?_,λ_=>c3.blocks ax,λsc a e1 e2 hk=>c3.free sc a e1 e2 ?_,c3.kn⟩⟩
    ·rw[c3.kids];unfold jf;by_cases hy:y=p
     ·subst hy;simp only[Fa,if_true,reduceCtorEq,exists_false,Option.some.injEq,Prod.mk.injEq,false_iff,not_exists];rintro j ⟨rfl,e⟩;obtain⟨rfl,_⟩:=Yn e;exact h2 (h.inj _ _ _ sR hq)
     · simp[hy]
    ·obtain⟨y,j,hj⟩:=hk;refine⟨y,j,?_⟩;unfold jf at hj;split at hj
     ·simp only[Option.some.injEq,Prod.mk.injEq]at hj;obtain⟨rfl,e⟩:=hj;obtain⟨rfl,_⟩:=Yn e;exact absurd (h.inj _ _ _ sR hq) h2
     · exact hj
 ·intro a b l ha hb;unfold jf at ha hb;by_cases h1:a=p<;>by_cases h2:b=p;· rw[h1,h2]
  ·rw[if_pos h1]at ha;rw[if_neg h2]at hb;cases ha;exact absurd hb (il _)
  ·rw[if_neg h1]at ha;rw[if_pos h2]at hb;cases hb;exact absurd ha (il _)
  ·rw[if_neg h1]at ha;rw[if_neg h2]at hb;exact h.inj _ _ _ ha hb
 ·intro r' R' cz;exact Xz _ _ (h.root r' R' cz)
 ·intro n' Jy;obtain⟨_,_,_,_,_,_,_,_,_,n,_,js⟩:=h.net;have:=Jy.unique (js.add Fa ax);have:=hle n js;omega
end
end
section
open Go Go.RowKit
section
variable {s:Qc} {a b:Nat} {o:PO}
theorem sL (h:b≠a):gPart (cu s a o) b=gPart s b:=by simp[gPart,cu,h]
theorem zB (h:b≠a):gRow (cu s a o) b=gRow s b:=by simp[gRow,cu,h]
theorem Lh (h:b≠a):gNet (cu s a o) b=gNet s b:=by simp[gNet,cu,h]
theorem od (h:b≠a):vQ (cu s a o) b=vQ s b:=by simp[vQ,cu,h]
theorem ET (h:b≠a):jE (cu s a o) b=jE s b:=by simp[jE,cu,h]
theorem Li {x:jy} (h:s a=some (.part x)):gPart s a=some x:=by simp[gPart,h]
theorem sM {x:nQ} (h:s a=some (.row x)):gRow s a=some x:=by simp[gRow,h]
theorem Px {x:gT} (h:s a=some (.net x)):gNet s a=some x:=by simp[gNet,h]
theorem Yi {x:O7} (h:s a=some (.alpha x)):vQ s a=some x:=by simp[vQ,h]
theorem U8 {x:x8} (h:s a=some (.join x)):jD s a=some x:=by simp[jD,h]
theorem O3 {x:x8} (h:s a=some (.nt x)):jE s a=some x:=by simp[jE,h]
theorem uk {x:mf} (h:s a=some (.test x)):rf s a=some x:=by simp[rf,h]
theorem ti {U:PO}:cu (cu s a o) a U=cu s a U:=by funext c;unfold cu;split<;>rfl
theorem xj (h:b≠a):del s a b=s b:=if_neg h
end
section
variable {S:gO} {C:ic} {T:cg} {Ta:Nat->cg} {B:Nat->List Int->cg×cg} {Zo:Nat->Prop} {cq:Option Nat} {loc:Loc} {s:Qc}
variable {N q r:Nat}{ρ:List Int}{i:Int}{R:gp}{e:fg}{hs:List Bool}{vs:List V}{Q:Nat×Qc->Prop}
theorem M5 {p0:Nat} (h:Inv S C T Ta B Zo none loc s)(hr:C.rows[r]? =some R)(hq:loc q=some (r,ρ))(h0:ij S T R.steps (R.hs,R.vs) ρ=some e)
  (he:ij S T R.steps (R.hs,R.vs) (ρ++[i])=some (hs,vs)) (il:∀y,loc y≠some (r,ρ++[i])) (iq:∀sc a,R.steps[ρ.length]? =some sc->sc.st=.nt a->∀j,¬lq S sc e (B r ρ).2 j) (PL:∀n,jl loc n->n<=4096)
  (hQ:∀p s',loc p=none->Inv S C T Ta B Zo (some p) (jf loc p (r,ρ++[i])) s'->Q (p,s')):OG N R.b q hs vs i s Q:=by
 obtain⟨R',x,r1,r2,U,r4⟩:=h.gPart hq;rw[hr]at r1;cases r1;have hxe:e=(x.has,x.vals):=by have:=h0.symm.trans r4.env;exact Option.some.inj this
 obtain⟨y,y1,y2,y3,_⟩:=h.gRow hr;obtain⟨xn,g1,g2,_,_,_,_,_,_,_,n,g3,g4⟩:=h.gNet;have hn:=PL n g4;refine w8 λka=>kY λp hp=>?_;have hqp:q≠p:=λe=>by rw[e,hp]at U;cases U
 have hqg:q≠C.g:=λe=>by rw[e,g2]at U;cases U
 have hpg:p≠C.g:=λe=>by rw[e,g2]at hp;cases hp
 have hRp:R.b≠p:=λe=>by rw[e,hp]at y2;cases y2
 have hRq:R.b≠q:=λe=>by rw[e,U]at y2;cases y2
 refine Qk (a:=x) (by rw[sL hqp];exact r2) ?_;refine iE (λz hz=>?_) ?_
 ·rcases hz with rfl|hz;· rw[kf];simp
  ·obtain⟨j,hj⟩:=(r4.kids z).1 hz;obtain⟨_,xz,_,c2,_⟩:=h.part _ _ _ hj;rw[QG (λe=>by rw[e,hp]at c2;cases c2),c2];simp
 refine nG ?_;refine Qk (a:=y) (by rw[zB hRq,zB hRp];exact y1) ?_;rw[y3];refine Qk (a:=xn) (by rw[Lh (Ne.symm hqg),Lh (Ne.symm hpg)];exact g1) ?_;refine iE an ?_;refine nG ?_;exact hQ p _ (h.none_loc hp) (h.kid hr hp hq U g2 he il (λsc a e1 e2=>by rw[<-hxe];exact iq sc a e1 e2) PL)
theorem Wy (h:Inv S C T Ta B Zo none loc s)(hr:C.rows[r]? =some R)(hq:loc q=some (r,ρ))(h0:ij S T R.steps (R.hs,R.vs) ρ=some e)
 (he:ij S T R.steps (R.hs,R.vs) (ρ++[i])=some (hs,vs)) (il:∀y,loc y≠some (r,ρ++[i])) (iq:∀sc a,R.steps[ρ.length]? =some sc->sc.st=.nt a->∀j,¬lq S sc e (B r ρ).2 j) (U:∀n,jl loc n->n<=4096)
 (hQ:∀p s',loc p=none->Inv S C T Ta B Zo (some p) (jf loc p (r,ρ++[i])) s'->Q (p,s')):OG N R.b q hs vs i s Q:=M5 (N:=N) (p0:=0) h hr hq h0 he il iq U hQ
theorem Inv.del (hW:pS C)(h:Inv S C T Ta B Zo cq loc s) {r k:Nat} {R:gp} {sc:gh} (hr:C.rows[r]? =some R)(hk:R.steps[k]? =some sc)(hz:¬Zo sc.st.adr):Inv S C T Ta B (λb=>Zo b\/b=sc.st.adr) cq loc (del s sc.st.adr):=by
 have h0:=h.step r R k sc hr hk hz
 have hs:∀b o,s b=some o->(∀z,o≠.join z)->(∀z,o≠.nt z)->(∀z,o≠.test z)->Go.Proofs.YtocfkfhdcnjklaaGreatDoor.del s sc.st.adr b=some o:=λb o hb c1 c2 c3=>by
  rw[xj];· exact hb
  ·intro e;subst e;unfold ju at h0;split at h0;· obtain⟨x,U,_⟩:=h0;rw[hb]at U;cases U;exact c1 _ rfl
   · obtain⟨x,U,_⟩:=h0;rw[hb]at U;cases U;exact c2 _ rfl
   · obtain⟨x,U,_⟩:=h0;rw[hb]at U;cases U;exact c3 _ rfl
 refine⟨?_,?_,?_,?_,?_,h.inj,h.root,h.le⟩
 ·obtain⟨x,a1,a2⟩:=h.net;exact⟨x,hs _ _ a1 (λ_ e=>by cases e) (λ_ e=>by cases e) (λ_ e=>by cases e),a2⟩
 ·intro r' R' cz;obtain⟨x,a1,a2⟩:=h.row r' R' cz;exact⟨x,hs _ _ a1 (λ_ e=>by cases e) (λ_ e=>by cases e) (λ_ e=>by cases e),a2⟩
 ·intro r' R' k' di cz ec zL;rw[xj (λe=>zL (.inr e))];exact h.step r' R' k' di cz ec λe=>zL (.inl e)
 ·intro A hA;obtain⟨x,a1,a2⟩:=h.al A hA;exact⟨x,hs _ _ a1 (λ_ e=>by cases e) (λ_ e=>by cases e) (λ_ e=>by cases e),a2⟩
 ·intro p r' π hl;obtain⟨R',x,a1,a2,a3⟩:=h.part p r' π hl;exact⟨R',x,a1,hs _ _ a2 (λ_ e=>by cases e) (λ_ e=>by cases e) (λ_ e=>by cases e),a3⟩
theorem Inv.back (hW:pS C) {r k:Nat} {R:gp} {sc:gh} {o:PO} (h:Inv S C T Ta B (λb=>Zo b\/b=sc.st.adr) cq loc s)(hr:C.rows[r]? =some R)(hk:R.steps[k]? =some sc)(hs:s sc.st.adr=none)(ho:ju cq loc r R k sc (some o)):Inv S C T Ta B Zo cq loc (cu s sc.st.adr o):=by
 have ne:∀b o',s b=some o'->cu s sc.st.adr o b=some o':=λb o' hb=>by
  rw[QG (λe=>by rw[e,hs]at hb;cases hb)];exact hb
 refine⟨?_,?_,?_,?_,?_,h.inj,h.root,h.le⟩;· obtain⟨x,U,a2⟩:=h.net;exact⟨x,ne _ _ U,a2⟩
 ·intro r' R' cz;obtain⟨x,U,a2⟩:=h.row r' R' cz;exact⟨x,ne _ _ U,a2⟩
 ·intro r' R' k' di cz ec zL;by_cases e:di.st.adr=sc.st.adr
  ·obtain⟨rfl,rfl⟩:=hW.steps _ _ _ _ _ _ _ _ cz hr ec hk e;rw[hr]at cz;cases cz;rw[hk]at ec;cases ec;rw[kf];exact ho
  ·rw[QG e];exact h.step r' R' k' di cz ec λe'=>by rcases e' with e'|e';exact zL e';exact e e'
 ·intro A hA;obtain⟨x,U,a2⟩:=h.al A hA;exact⟨x,ne _ _ U,a2⟩
 ·intro p r' π hl;obtain⟨R',x,U,a2,a3⟩:=h.part p r' π hl;exact⟨R',x,U,ne _ _ a2,a3⟩
structure jC (T:cg) (D:List Int):Prop where
 mem:∀i f,T i=some f->i∈D/\f.id=i/\1<=i/\i<=1099511627776
 len:D.length<=8000000000000
theorem MB {N:Nat} {A:JI} {Ta:cg} {D:List Int} {Q:List Qo->Prop} (hA:JJ Ta A (s A.b))(hT:jC Ta D)(hN:D.length<N)(hD:D.length<=3518437208882)
  (hQ:∀l:List Qo,(l.map (·.id)).Nodup->(∀f,f∈l↔Ta f.id=some f/\hasB A f=true)->l.length<=D.length->Q l):XU N A.b s Q:=by
 obtain⟨x,h1,h2,h3,h4,h5⟩:=hA
 have hk:∀i,i∈x.facts.keys↔∃f,Ta i=some f/\hasB A f=true:=λi=>by
  rw[MS.look_iff];constructor;· rintro⟨f,U⟩;rw[h5]at U;exact⟨f,by simpa using U⟩
  · rintro⟨f,DS,BO⟩;exact⟨f,by rw[h5];simp[DS,BO]⟩
 have hlen:x.facts.keys.length<=D.length:=Je h4 λi hi=>by
  obtain⟨f,U,_⟩:=(hk i).1 hi;exact(hT.mem i f U).1
 have rj:(kc x.facts).Perm x.facts.keys:=List.mergeSort_perm _ _
 have Lz:U7 x.facts=true:=by
  unfold U7;simp only[Y',b!,decide_eq_true_eq];refine⟨λi hi=>?_,by have:=hT.len;omega⟩;obtain⟨f,U,_⟩:=(hk i).1 hi;obtain⟨_,_,b1,b2⟩:=hT.mem i f U;have e1:IntKind.min .i64=-9223372036854775808:=bf
  have e2:IntKind.max .i64=9223372036854775807:=bf
  simp only[Lit.wf,Y',decide_eq_true_eq,e1,e2];omega
 refine Qk (Yi h1) ?_;refine iE Lz ?_;refine yX (λ(u,l)=>u<=(kc x.facts).length/\l.map (·.id)=(kc x.facts).take u/\∀f∈l,Ta f.id=some f/\hasB A f=true) (λ(u,_)=>(kc x.facts).length-u) ?_ N (0,[]) ⟨I' _,rfl,λ_ h=>by cases h⟩ (by rw[rj.length_eq];simp;omega);rintro⟨u,l⟩ ag ⟨hu,hl,U⟩ gH;dsimp only at hu hl U gH⊢;refine jA (λhb=>?_) (λhb=>?_)
 ·have bp:u<(kc x.facts).length:=of_decide_eq_true hb;obtain⟨i,hi⟩:∃i,(kc x.facts)[u]? =some i:=⟨_,m' bp⟩
  have him:i∈x.facts.keys:=rj.mem_iff.1 (A' hi);obtain⟨f,DS,BO⟩:=(hk i).1 him;have YA:=(hT.mem i f DS).2.1;refine Qk hi ?_;refine FE (a:=f) (by rw[h5];simp[DS,BO]) ?_;have hll:l.length=u:=by have:=congrArg List.length hl;simpa[Nat.min_eq_left hu]using this
  have hsl:(kc x.facts).length<=D.length:=by rw[rj.length_eq];exact hlen
  refine iE (by simp only[g',D'];omega) ?_;refine iE an ?_;refine gH (u+1,l++[f]) ⟨an,?_,λg hg=>?_⟩ an
  ·rw[c!,hl,N',hi];simp[YA]
  ·rcases j'.1 hg with hg|hg;· exact U g hg
   · rw[f'.1 hg,YA];exact⟨DS,BO⟩
 ·have ri:¬u<(kc x.facts).length:=of_decide_eq_false hb;have zG:l.map (·.id)=kc x.facts:=by rw[hl,E' an]
  refine hQ l ?_ (λf=>⟨U f,λ⟨f1,f2⟩=>?_⟩) ?_;· rw[zG];exact rj.nodup_iff.2 h4
  ·have:f.id∈l.map (·.id):=by rw[zG];exact rj.mem_iff.2 ((hk _).2 ⟨f,f1,f2⟩)
   obtain⟨g,hg,hgi⟩:=a!.1 this;have:=(U g hg).1;rw[hgi,f1]at this;cases this;exact hg
  ·have:=congrArg List.length zG;rw[List.length_map]at this;rw[this,rj.length_eq];exact hlen
end
end
section
open Go Go.RowKit Classical
noncomputable section
def kz (S:gO)(T:cg)(sc:gh)(e:fg)(i:Int):Option fg:=match sc.st with
 | .join _=>(T i).bind λf=>S.mt sc.c e.1 e.2 f
 | .nt _=>if i=0/\∀j,¬lq S sc e T j then some e else none
 | .test _=>if i=0/\S.ev sc.c e.2=true then some e else none
def im (S:gO)(T:cg):List gh->fg->List Int->Option fg
 |_,e,[]=>some e
 |[],_,_::_=>none
 |sc::l,e,i::π=>(kz S T sc e i).bind λU=>im S T l U π
end
abbrev B0:Nat:=9223372036855775808
structure yT (S:gO) (I:fg->Prop) (C:ic) (T:cg) (sc:gh):Prop where
 mt:(∀a,sc.st≠.test a)->∀N,B0<=N->∀f,T f.id=some f->∀e,I e->
  ∃a b,NR N sc.c.kind sc.c.type sc.c.args sc.c.test.kind sc.c.test.value.k sc.c.test.value.n sc.c.test.value.s sc.c.test.var sc.c.test.op sc.c.test.kids f.id f.ty f.args e.1 e.2=some (a,b,(S.mt sc.c e.1 e.2 f).isSome)/\∀p,S.mt sc.c e.1 e.2 f=some p->p=(a,b)/\I p
 ev:∀a,sc.st=.test a->∀N,B0<=N->∀e,I e->
  ∃k n s z,yV N sc.c.test.kind sc.c.test.value.k sc.c.test.value.n sc.c.test.value.s sc.c.test.var sc.c.test.op sc.c.test.kids e.2=some (k,n,s,z)/\S.ev sc.c e.2=(z==0&&(k==1&&n !=0))
 al:(∀a,sc.st≠.test a)->∃A∈C.als,A.b=sc.al/\∀(f:Qo) (e p:fg),S.mt sc.c e.1 e.2 f=some p->hasB A f=true
def rN (loc:Loc):Prop:=∀n,jl loc n->n<=4096
def lZ (loc U:Loc):Prop:=∀y l,loc y=some l->U y=some l
def DK (loc U:Loc)(r:Nat)(π:List Int):Prop:=lZ loc U/\∀y l,U y=some l->loc y=none->∃τ,τ≠[]/\l=(r,π++τ)
def jU (S:gO)(T:cg)(loc:Loc)(r:Nat)(π:List Int)(l:List gh)(e:fg):Prop:=∀U,im S T l e U≠none->∃y,loc y=some (r,π++U)
theorem jl.mono {loc U:Loc} {n n':Nat} (h:jl loc n)(h':jl U n')(he:lZ loc U):n<=n':=by
 obtain⟨L,a1,a2,rfl⟩:=h;obtain⟨M,b1,b2,rfl⟩:=h';refine JV a1 λz hz=>?_;obtain⟨r,π,h1,h2⟩:=(a2 z).1 hz;exact(b2 z).2 ⟨r,π,he _ _ h1,h2⟩
theorem lZ.refl (loc:Loc):lZ loc loc:=λ_ _ h=>h
theorem lZ.trans {a b c:Loc} (h:lZ a b)(h':lZ b c):lZ a c:=λy l hy=>h' y l (h y l hy)
theorem DK.refl (loc:Loc)(r:Nat)(π:List Int):DK loc loc r π:=⟨lZ.refl _,λy l h h'=>by rw[h]at h';cases h'⟩
theorem jU.mono {S:gO} {T:cg} {loc U:Loc} {r:Nat} {π:List Int} {l:List gh} {e:fg} (h:jU S T loc r π l e)(he:lZ loc U):jU S T U r π l e:=λτ iG=>by
 obtain⟨y,hy⟩:=h τ iG;exact⟨y,he _ _ hy⟩
section
variable {S:gO} {I:fg->Prop} {C:ic} {T:cg} {Ta:Nat->cg} {B:Nat->List Int->cg×cg} {Zo:Nat->Prop} {cq:Option Nat} {loc:Loc} {s:Qc} {D:List Int}
variable {p:Nat}{l:Nat×List Int}
theorem Inv.cnt (h:Inv S C T Ta B Zo cq loc s):∃n,jl loc n:=by
 obtain⟨x,_,_,_,_,_,_,_,_,n,_,U⟩:=h.net;exact⟨n,U⟩
theorem ZV (h:∃n,jl loc n) {U:Loc} (he:lZ loc U)(h':rN U)(hc:∃n,jl U n):rN loc:=λn hn=>by
 obtain⟨m,hm⟩:=hc;exact F' (hn.mono hm he) (h' m hm)
theorem LK.grown {bg:Loc} {r r' k:Nat} {π:List Int} {m:MS Nat Bool} (h:LK none loc r' k m)(hg:DK loc bg r π)(hk:r'=r->k<=π.length):LK none bg r' k m:=λy=>by
 rw[h y];constructor;· rintro⟨⟨ρ,h1,U⟩,h3⟩;exact⟨⟨ρ,hg.1 _ _ h1,U⟩,h3⟩
 ·rintro⟨⟨ρ,h1,U⟩,h3⟩;refine⟨⟨ρ,?_,U⟩,h3⟩;cases hl:loc y with
  |some l=>have:=hg.1 _ _ hl;rw[h1]at this;exact this.symm
  | none=>
    obtain⟨τ,q1,q2⟩:=hg.2 _ _ h1 hl;simp only[Prod.mk.injEq]at q2;obtain⟨rfl,rfl⟩:=q2;have:=hk rfl;have:=Q'.2 q1;simp only[t']at U;omega
def XH (S:gO)(C:ic)(T:cg)(B:Nat->List Int->cg×cg)(I:fg->Prop)(rc:Nat->Int->Nat->Qc->WM Qc)(r:Nat)(R:gp)(k:Nat):Prop:=
 ∀ (Zo:Nat->Prop) (loc:Loc) (s:Qc) (p:Nat) (π:List Int) (e:fg) (Q:Qc->Prop),Inv S C T (λ_=>T) B Zo (some p) loc s->loc p=some (r,π)->π.length=k->ij S T R.steps (R.hs,R.vs) π=some e->I e->
   (∀y i,loc y≠some (r,π++[i]))->(∀k' sc,k<=k'->R.steps[k']? =some sc->¬Zo sc.st.adr)->
   (∀U s',Inv S C T (λ_=>T) B Zo none U s'->DK loc U r π->(rN U->jU S T U r π (R.steps.drop k) e)->Q s')->rc R.b (k:Int) p s Q
theorem mY:jf loc p l p=some l:=if_pos rfl
theorem qm (hp:loc p=none):lZ loc (jf loc p l):=λy U h=>by
 unfold jf;rw[if_neg (λe=>by rw[e,hp]at h;cases h)];exact h
theorem Tm {N r k a:Nat} {R:gp} {sc:gh} {π:List Int} {e:fg} {f:Qo} {rc:Nat->Int->Nat->Qc->WM Qc} {Q:Qc->Prop} (hW:pS C)(hlen:R.steps.length<9223372036854775807)(hN:B0<=N)(hr:C.rows[r]? =some R)(hk:R.steps[k]? =some sc)(ca:sc.st=.join a)(cr:yT S I C T sc)(Ij:XH S C T B I rc r R (k+1))
  (h:Inv S C T (λ_=>T) B Zo none loc s) (hp:loc p=some (r,π)) (kK:π.length=k) (he:ij S T R.steps (R.hs,R.vs) π=some e) (hI:I e) (hf:T f.id=some f) (il:∀y,loc y≠some (r,π++[f.id])) (hZ:∀k' sc,k<=k'->R.steps[k']? =some sc->¬Zo sc.st.adr)
  (hQ:∀bg s',Inv S C T (λ_=>T) B Zo none bg s'->lZ loc bg->(∀y l,bg y=some l->loc y=none->∃τ,l=(r,π++[f.id]++τ))->(rN bg->∀U,S.mt sc.c e.1 e.2 f=some U->jU S T bg r (π++[f.id]) (R.steps.drop (k+1)) U)->Q s'):
  Zt N rc a p f.id f.ty f.args s Q:=by
 have hz:=hZ k sc (O' _) hk;have gy:sc.st.adr=a:=by rw[ca];rfl
 have h0:=h.step r R k sc hr hk hz;unfold ju at h0;rw[ca]at h0;obtain⟨x,b1,b2,b3,b4,b5,b6⟩:=h0;have rU:s a=some (.join x):=b1;refine Qk (U8 rU) ?_;refine QZ ?_;rw[b3];refine ER h hr λn hn=>?_;refine jA (λhb=>?_) (λhb=>?_)
 ·refine hQ loc s h (lZ.refl _) (λy l h1 h2=>by rw[h1]at h2;cases h2) λiF=>?_;have:=iF n hn;have:=of_decide_eq_true hb;omega
 ·have hnn:=of_decide_eq_false hb;obtain⟨R',z,c1,c2,c3,c4⟩:=h.gPart hp;rw[hr]at c1;cases c1;have AO:e=(z.has,z.vals):=Option.some.inj (he.symm.trans c4.env);refine Qk c2 ?_;obtain⟨ha,hv,d1,d2⟩:=cr.mt (λa' U=>by rw[ca]at U;cases U) N hN f hf e hI;rw[AO]at d1;rw[b5];refine Qk d1 ?_;refine jA (λur=>?_) (λur=>?_)
  ·obtain ⟨U,hme⟩:∃U,S.mt sc.c e.1 e.2 f=some U:=by rw[AO];exact X'.1 ur
   obtain⟨GI,a2o⟩:=d2 U hme;have ly:k<R.steps.length:=(c'.1 hk).1
   have T8:ij S T R.steps (R.hs,R.vs) (π++[f.id])=some (ha,hv):=by
    rw[QaS,he];simp only[v',kK,hk,iI,ca,hf,hme,GI]
   refine iE (by rw[b4];omega) ?_;refine QZ ?_;rw[b4];have oi:=h.del hW hr hk hz;rw[gy]at oi;refine Wy oi hr hp he T8 il (λdi a' q1 q2=>by rw[kK,hk]at q1;cases q1;rw[ca]at q2;cases q2) (λm hm=>by have:=hm.unique hn;omega) λp' s1 df kJ=>?_;refine QZ ?_;have BK:(k:Int)+1=((k+1:Nat):Int):=an
   rw[BK];refine Ij _ _ s1 p' (π++[f.id]) (ha,hv) _ kJ mY (by simp[kK]) T8 (by rw[<-GI];exact a2o) (λy i hy=>?_) (λk' di ec GM=>?_) λff s2 kF oq vT=>?_
   ·unfold jf at hy;split at hy
    ·simp only[Option.some.injEq,Prod.mk.injEq,true_and]at hy;have:=congrArg List.length hy;simp at this
    ·obtain⟨R',z',_,_,h4⟩:=h.part _ _ _ hy;obtain⟨_,q2,_,h5⟩:=h4.up _ _ rfl;exact il _ h5
   ·rintro(hh|hh);· exact hZ k' di an GM hh
    ·have:=(hW.steps r r R R k' k di sc hr hr GM hk (by rw[hh,gy])).2;omega
   ·refine nG (lx λFe=>?_)
    have ri:DK loc ff r π:=⟨(qm df).trans oq.1,λy l h1 h2=>by
     cases hy:jf loc p' (r,π++[f.id]) y with
     | none=>
       obtain⟨τ,_,rfl⟩:=oq.2 y l h1 hy;exact⟨f.id::τ,ax,ax⟩
     | some l'=>
       have h3:=oq.1 y l' hy;rw[h1]at h3;cases h3;unfold jf at hy;split at hy;· cases hy;exact⟨[f.id],ax,rfl⟩
       · rw[h2]at hy;cases hy⟩
    have hb:Inv S C T (λ_=>T) B Zo none ff (cu s2 sc.st.adr (.join x)):=by
     refine Inv.back hW (by rw[gy];exact kF) hr hk (by rw[gy];exact Fe) ?_;unfold ju;rw[ca];exact⟨x,rfl,b2,b3,b4,b5,b6.grown ri (λ_=>an)⟩
    rw[gy]at hb;refine hQ ff _ hb ri.1 (λy l h1 h2=>?_) λiF e2 jx=>?_
    ·cases hy:jf loc p' (r,π++[f.id]) y with
     | none=>
       obtain⟨τ,_,rfl⟩:=oq.2 y l h1 hy;exact⟨τ,rfl⟩
     | some l'=>
       have h3:=oq.1 y l' hy;rw[h1]at h3;cases h3;unfold jf at hy;split at hy;· cases hy;exact⟨[],ax⟩
       · rw[h2]at hy;cases hy
    ·rw[hme]at jx;cases jx;rw[GI];exact vT iF
  ·refine hQ loc s h (lZ.refl _) (λy l h1 h2=>by rw[h1]at h2;cases h2) λ_ e2 jx=>?_;rw[AO]at jx;rw[jx]at ur;cases ur
end
end
section
open Go Go.RowKit Classical
section
variable {S:gO} {I:fg->Prop} {C:ic} {T:cg} {Ta:Nat->cg} {B:Nat->List Int->cg×cg} {Zo:Nat->Prop} {cq:Option Nat} {loc:Loc} {s:Qc} {D:List Int}
variable {k r p N a:Nat}{π:List Int}
theorem LK.reg {r k p:Nat} {π:List Int} {m:MS Nat Bool} (h:LK (some p) loc r k m)(hp:loc p=some (r,π))(hk:π.length=k):LK none loc r k (m.put p true):=λy=>by
 rw[MS.keys_put,h y];by_cases hy:y=p;· subst hy;simp only[true_or,true_iff];exact⟨⟨π,hp,hk⟩,ax⟩
 · simp[hy]
theorem LK.reg' {r U k p:Nat} {π:List Int} {m:MS Nat Bool} (h:LK (some p) loc U k m)(hp:loc p=some (r,π))(hk:U=r->π.length≠k):LK none loc U k m:=λy=>by
 rw[h y];by_cases hy:y=p
 ·subst hy;simp only[ne_eq,not_true_eq_false,and_false,false_iff,not_and,reduceCtorEq,not_false_eq_true,not_true_eq_false];rintro⟨ρ,h1,h2⟩;rw[hp]at h1;cases h1;exact hk rfl h2
 · simp[hy]
theorem Inv.reg (hW:pS C) {p r:Nat} {π:List Int} {R:gp} {sc:gh} {o:PO} (h:Inv S C T Ta B Zo (some p) loc s)(hr:C.rows[r]? =some R)(hp:loc p=some (r,π))(hk:R.steps[π.length]? =some sc)(hz:¬Zo sc.st.adr)(ho:ju none loc r R π.length sc (some o))
  (hb:∀a x,sc.st=.nt a->s p=some (.part x)->∃bb m,x.blocks=some (bb,m)/\(∀i,i∈m.keys↔lq S sc (x.has,x.vals) (B r π).1 i)/\∀i v,m.look i=some v->v=true):Inv S C T Ta B Zo none loc (cu s sc.st.adr o):=by
 have h0:=h.step r R _ sc hr hk hz;have ly:π.length<R.steps.length:=(c'.1 hk).1
 have ne:∀b o',s b=some o'->(∀z,o'≠.join z)->(∀z,o'≠.nt z)->(∀z,o'≠.test z)->cu s sc.st.adr o b=some o':=λb o' hb c1 c2 c3=>by
  rw[QG];· exact hb
  ·intro e;subst e;unfold ju at h0;split at h0;· obtain⟨x,U,_⟩:=h0;rw[hb]at U;cases U;exact c1 _ rfl
   · obtain⟨x,U,_⟩:=h0;rw[hb]at U;cases U;exact c2 _ rfl
   · obtain⟨x,U,_⟩:=h0;rw[hb]at U;cases U;exact c3 _ rfl
 refine⟨?_,?_,?_,?_,?_,h.inj,h.root,h.le⟩
 ·obtain⟨x,a1,a2⟩:=h.net;exact⟨x,ne _ _ a1 (λ_ e=>by cases e) (λ_ e=>by cases e) (λ_ e=>by cases e),a2⟩
 ·intro r' R' cz;obtain⟨x,a1,a2,a3,a4,a5,a6⟩:=h.row r' R' cz;refine⟨x,ne _ _ a1 (λ_ e=>by cases e) (λ_ e=>by cases e) (λ_ e=>by cases e),a2,a3,a4,a5,a6.reg' hp λe=>?_⟩;subst e;rw[hr]at cz;cases cz;omega
 ·intro r' R' k' di cz ec zL;by_cases e:di.st.adr=sc.st.adr
  ·obtain⟨rfl,rfl⟩:=hW.steps _ _ _ _ _ _ _ _ cz hr ec hk e;rw[hr]at cz;cases cz;rw[hk]at ec;cases ec;rw[kf];exact ho
  ·rw [QG e];have h1:=h.step r' R' k' di cz ec zL
   have de:r'=r->π.length≠k':=λU e2=>by
    subst U;subst e2;rw[hr]at cz;cases cz;rw[hk]at ec;cases ec;exact e rfl
   unfold ju at h1⊢;split at h1;· obtain⟨x,c1,c2,c3,c4,c5,c6⟩:=h1;exact⟨x,c1,c2,c3,c4,c5,c6.reg' hp de⟩
   · obtain⟨x,c1,c2,c3,c4,c5,c6⟩:=h1;exact⟨x,c1,c2,c3,c4,c5,c6.reg' hp de⟩
   · obtain⟨x,c1,c2,c3,c4,c5⟩:=h1;exact⟨x,c1,c2,c3,c4,c5⟩
 ·intro A hA;obtain⟨x,a1,a2⟩:=h.al A hA;exact⟨x,ne _ _ a1 (λ_ e=>by cases e) (λ_ e=>by cases e) (λ_ e=>by cases e),a2⟩
 ·intro q r' ρ hl;obtain⟨R',x,a1,a2,a3⟩:=h.part q r' ρ hl;refine⟨R',x,a1,ne _ _ a2 (λ_ e=>by cases e) (λ_ e=>by cases e) (λ_ e=>by cases e),⟨a3.env,a3.top,a3.up,a3.kids,λ_ di a' U e2=>?_,a3.free,a3.kn⟩⟩;by_cases hq:q=p
  ·subst hq;rw[hp]at hl;cases hl;rw[hr]at a1;cases a1;rw[hk]at U;cases U;exact hb a' x e2 a2
  · exact a3.blocks (cx hq) di a' U e2
theorem keys_in {m:MS Nat Bool} (h:Inv S C T Ta B Zo cq loc s)(hm:LK cq loc r k m)(hp:loc p=some (r,π)):∀y,y=p\/y∈m.keys->s y≠none:=λy hy=>by
 have:∃l:Nat×List Int,loc y=some l:=by
  rcases hy with rfl|hy;· exact⟨_,hp⟩
  ·obtain⟨⟨ρ,h1,_⟩,_⟩:=(hm y).1 hy;exact⟨_,h1⟩
 obtain⟨l,U⟩:=this;obtain⟨_,x,_,c2,_⟩:=h.part y l.1 l.2 U;rw[c2];simp
theorem Sp {α:Type} {l:List α} {x:α} (h:l[k]? =some x):l.drop k=x::l.drop (k+1):=by
 obtain⟨h1,U⟩:=c'.1 h;rw[List.drop_eq_getElem_cons h1,U]
theorem IM {b:Nat} {s:Qc} {Q:List Qo->Prop} (e:a=b)(h:XU N b s Q):XU N a s Q:=e▸h
theorem zS {R:gp} {sc:gh} {e:fg} {rc:Nat->Int->Nat->Qc->WM Qc} {Q:Qc->Prop} (hW:pS C)(hlen:R.steps.length<9223372036854775807)(hN:B0<=N)(hND:D.length<N)(hT:jC T D)(hD:D.length<=3518437208882)(hr:C.rows[r]? =some R)(hk:R.steps[k]? =some sc)(ca:sc.st=.join a)(cr:yT S I C T sc)(Ij:XH S C T B I rc r R (k+1))
  (h:Inv S C T (λ_=>T) B Zo (some p) loc s) (hp:loc p=some (r,π)) (kK:π.length=k) (he:ij S T R.steps (R.hs,R.vs) π=some e) (hI:I e) (il:∀y i,loc y≠some (r,π++[i])) (hZ:∀k' sc,k<=k'->R.steps[k']? =some sc->¬Zo sc.st.adr)
  (hQ:∀bg s',Inv S C T (λ_=>T) B Zo none bg s'->DK loc bg r π->(rN bg->jU S T bg r π (R.steps.drop k) e)->Q s'):Q5f N rc a p s Q:=by
 subst kK;have hz:=hZ _ sc (O' _) hk;have gy:sc.st.adr=a:=by rw[ca];rfl
 have h0:=h.step r R _ sc hr hk hz;unfold ju at h0;rw[ca]at h0;obtain⟨x,b1,b2,b3,b4,b5,b6⟩:=h0;have rU:s a=some (.join x):=b1;refine Qk (U8 rU) ?_;refine iE (keys_in h b6 hp) ?_;refine nG ?_;have Wk:=h.reg hW (o:=.join {x with parts:=x.parts.put p true}) hr hp hk hz (by unfold ju;rw[ca];exact⟨_,rfl,b2,b3,b4,b5,b6.reg hp rfl⟩) (λa' x' q1 _=>by rw[ca]at q1;cases q1);rw[gy]at Wk;obtain⟨A,rh,Oe,VR⟩:=cr.al (λa' e'=>by rw[ca]at e';cases e');refine QZ ?_;refine IM (b2.trans Oe.symm) ?_;refine MB (Wk.al A rh) hT hND hD λl kr zG hl3=>?_;refine yX (λ(u,s')=>u<=l.length/\∃bg,Inv S C T (λ_=>T) B Zo none bg s'/\lZ loc bg/\(∀y z,bg y=some z->loc y=none->∃f U,f∈l.take u/\z=(r,π++[f.id]++U))/\(rN bg->∀f∈l.take u,∀e',S.mt sc.c e.1 e.2 f=some e'->jU S T bg r (π++[f.id]) (R.steps.drop (π.length+1)) e')) (λ(u,_)=>l.length-u) ?_ N (0,_) ⟨I' _,loc,Wk,lZ.refl _,(λy z h1 h2=>by rw[h1]at h2;cases h2),(λ_ f hf=>by cases hf)⟩ (by show l.length-0<N;omega);rintro⟨u,s'⟩ ag ⟨hu,dc,kJ,AN,DT,EZ⟩ gH;dsimp only at hu gH⊢;refine jA (λhb=>?_) (λhb=>?_)
 ·have bp:u<l.length:=of_decide_eq_true hb;obtain⟨f,hf⟩:∃f,l[u]? =some f:=⟨_,m' bp⟩
  have hfm:=(zG f).1 (A' hf);have hU:l.take (u+1)=l.take u++[f]:=by rw[N',hf];rfl
  have ux:∀g∈l.take u,g.id≠f.id:=λg hg e1=>by
   have h1:(l.take (u+1)).map (·.id)=(l.take u).map (·.id)++[f.id]:=by rw[hU];simp
   have h2:((l.take (u+1)).map (·.id)).Nodup:=List.Nodup.sublist (List.Sublist.map _ (T' _ _)) kr;rw[h1]at h2;exact(C'.1 h2).2.2 _ (a!.2 ⟨g,hg,rfl⟩) _ ax e1
  refine Qk hf ?_;refine QZ ?_;refine Tm hW hlen hN hr hk ca cr Ij kJ (AN _ _ hp) rfl he hI hfm.1 (λy hy=>?_) hZ λff s2 kF jx oq vT=>?_
  ·cases sR:loc y with
   |some z=>have:=AN _ _ sR;rw[hy]at this;cases this;exact il _ _ sR
   | none=>
     obtain⟨g,U,q1,q2⟩:=DT y _ hy sR;simp only[Prod.mk.injEq,true_and,H',J',K',L',List.cons.injEq]at q2;exact ux g q1 q2.1.symm
  ·refine iE (by have:=hT.len;omega) ?_;refine gH (u+1,s2) ⟨an,ff,kF,AN.trans jx,λy z h1 h2=>?_,λiF g hg e' ri=>?_⟩ an
   · cases Wc:dc y with
     | some z'=>
       have:=jx _ _ Wc;rw[h1]at this;cases this;obtain⟨g,U,q1,q2⟩:=DT y _ Wc h2;exact⟨g,U,by rw[hU];exact u' _ q1,q2⟩
     | none=>
       obtain⟨U,q2⟩:=oq y z h1 Wc;exact⟨f,U,by rw[hU];simp,q2⟩
   · rw[hU]at hg;rcases j'.1 hg with hg|hg;· exact(EZ (ZV kJ.cnt jx iF kF.cnt) g hg e' ri).mono jx
     · rw[f'.1 hg]at ri⊢;exact vT iF e' ri
 ·have ri:¬u<l.length:=of_decide_eq_false hb;have YG:l.take u=l:=E' an;rw[YG]at DT EZ;refine hQ dc s' kJ ⟨AN,λy z h1 h2=>?_⟩ λiF U iG=>?_
  ·obtain⟨f,U,_,rfl⟩:=DT y z h1 h2;exact⟨f.id::U,ax,ax⟩
  ·rw [Sp hk]at iG;cases U with
   |nil=>exact⟨p,by simpa using AN _ _ hp⟩
   | cons i U=>
     simp only[im,kz,ca]at iG;cases hTi:T i with
     |none=>rw[hTi]at iG;simp at iG
     | some f=>
       rw[hTi]at iG;simp only[v']at iG;cases hmf:S.mt sc.c e.1 e.2 f with
       |none=>rw[hmf]at iG;simp at iG
       | some e'=>
         rw[hmf]at iG;simp only[v']at iG;have hid:=(hT.mem i f hTi).2.1;have hfl:f∈l:=(zG f).2 ⟨by rw[hid];exact hTi,VR f e e' hmf⟩;obtain⟨y,hy⟩:=EZ iF f hfl e' hmf U iG;exact⟨y,by rw[hy,hid];simp⟩
end
end
section
open Go Go.RowKit Classical
theorem kW {A R:Type} {Q:R->Prop} {f:A->WM R} {g:(A->WM R)->WM R} (h:g f Q):lO f g Q:=h
section
variable {S:gO} {I:fg->Prop} {C:ic} {T:cg} {Ta:Nat->cg} {B:Nat->List Int->cg×cg} {Zo:Nat->Prop} {cq:Option Nat} {loc:Loc} {s:Qc} {D:List Int}
theorem Inv.setBlocks {B':Nat->List Int->cg×cg} {p r:Nat} {π:List Int} {R:gp} {x:jy} {bl:Option (Nat×MS Int Bool)} (h:Inv S C T Ta B Zo cq loc s)(hr:C.rows[r]? =some R)(hp:loc p=some (r,π))(hx:s p=some (.part x))(hB:∀U gL,(U,gL)≠(r,π)->B' U gL=B U gL)
  (hb:some p≠cq->∀sc a,R.steps[π.length]? =some sc->sc.st=.nt a->∃bb m,bl=some (bb,m)/\(∀i,i∈m.keys↔lq S sc (x.has,x.vals) (B' r π).1 i)/\∀i v,m.look i=some v->v=true)
  (hf:∀sc a,R.steps[π.length]? =some sc->sc.st=.nt a->(∃y i,loc y=some (r,π++[i]))->∀i,¬lq S sc (x.has,x.vals) (B' r π).2 i):Inv S C T Ta B' Zo cq loc (cu s p (.part {x with blocks:=bl})):=by
 have ne:∀b o',s b=some o'->(∀z,o'≠.part z)->cu s p (.part {x with blocks:=bl}) b=some o':=λb o' hb c1=>by
  rw[QG (λe=>by rw[e,hx]at hb;cases hb;exact c1 _ rfl)];exact hb
 refine⟨?_,?_,?_,?_,?_,h.inj,h.root,h.le⟩
 ·obtain⟨y,a1,a2⟩:=h.net;exact⟨y,ne _ _ a1 (λ_ e=>by cases e),a2⟩
 ·intro U R' cz;obtain⟨y,a1,a2⟩:=h.row U R' cz;exact⟨y,ne _ _ a1 (λ_ e=>by cases e),a2⟩
 ·intro U R' k' di cz ec zL;have h1:=h.step U R' k' di cz ec zL;unfold ju at h1⊢;split at h1;· obtain⟨y,c1,c2⟩:=h1;exact⟨y,ne _ _ c1 (λ_ e=>by cases e),c2⟩
  · obtain⟨y,c1,c2⟩:=h1;exact⟨y,ne _ _ c1 (λ_ e=>by cases e),c2⟩
  · obtain⟨y,c1,c2⟩:=h1;exact⟨y,ne _ _ c1 (λ_ e=>by cases e),c2⟩
 ·intro A hA;obtain⟨y,a1,a2⟩:=h.al A hA;exact⟨y,ne _ _ a1 (λ_ e=>by cases e),a2⟩
 ·intro q U ρ hl;obtain⟨R',y,a1,a2,a3⟩:=h.part q U ρ hl;by_cases hq:q=p
  ·subst hq;rw[hp]at hl;cases hl;rw[hr]at a1;cases a1;rw[hx]at a2;cases a2;exact⟨R,_,hr,kf _ _ _,⟨a3.env,a3.top,a3.up,a3.kids,hb,hf,a3.kn⟩⟩
  ·have de:(U,ρ)≠(r,π):=λe=>hq (h.inj _ _ _ (by rw[<-e];exact hl) hp);refine⟨R',y,a1,(by rw[QG hq];exact a2),⟨a3.env,a3.top,a3.up,a3.kids,?_,?_,a3.kn⟩⟩;· rw[hB _ _ de];exact a3.blocks
   · rw[hB _ _ de];exact a3.free
theorem uL {N r k a p:Nat} {R:gp} {sc:gh} {π:List Int} {e:fg} {rc:Nat->Int->Nat->Qc->WM Qc} {Q:Qc->Prop} (hW:pS C)(hlen:R.steps.length<9223372036854775807)(hr:C.rows[r]? =some R)(hk:R.steps[k]? =some sc)(ca:sc.st=.nt a)(Ij:XH S C T B I rc r R (k+1))
  (h:Inv S C T (λ_=>T) B Zo none loc s) (hp:loc p=some (r,π)) (kK:π.length=k) (he:ij S T R.steps (R.hs,R.vs) π=some e) (hI:I e) (hB:B r π=(T,T)) (il:∀y i,loc y≠some (r,π++[i])) (hZ:∀k' sc,k<=k'->R.steps[k']? =some sc->¬Zo sc.st.adr)
  (hQ:∀bg s',Inv S C T (λ_=>T) B Zo none bg s'->DK loc bg r π->(rN bg->jU S T bg r π (R.steps.drop k) e)->Q s'):TP N rc a p s Q:=by
 subst kK;have hz:=hZ _ sc (O' _) hk;have gy:sc.st.adr=a:=by rw[ca];rfl
 have h0:=h.step r R _ sc hr hk hz;unfold ju at h0;rw[ca]at h0;obtain⟨x,b1,b2,b3,b4,b5,b6⟩:=h0;have rU:s a=some (.nt x):=b1;obtain⟨R',z,c1,c2,c3,c4⟩:=h.gPart hp;rw[hr]at c1;cases c1;have AO:e=(z.has,z.vals):=Option.some.inj (he.symm.trans c4.env);obtain⟨bb,m,m1,m2,m3⟩:=c4.blocks ax sc a hk ca;rw[hB,<-AO]at m2;dsimp only at m2;have BW:(∀τ:List Int,im S T (R.steps.drop π.length) e τ≠none->τ=[])->TP N rc a p s Q->TP N rc a p s Q:=λ_ h=>h;refine kW ?_;refine Qk c2 ?_;refine Qk m1 ?_;have ly:π.length<R.steps.length:=(c'.1 hk).1;refine jA (λhb=>?_) (λhb=>?_)
 ·have ou:∀i,¬lq S sc e T i:=λi hi=>by
    have:=(m2 i).2 hi
    have h0:m.es=[]:=by
     have:m.es.length=0:=by simpa using hb
     exact P' this
    simp[MS.keys,h0]at this
  refine Qk (O3 rU) ?_;refine QZ ?_;rw[b3];refine ER h hr λn hn=>?_;refine jA (λhf=>?_) (λhf=>?_)
  · have hnn:¬4096<n:=by simpa using hf
    refine Qk (O3 rU) ?_;refine Qk c2 ?_;refine iE (by rw[b4];omega) ?_;refine QZ ?_;rw[b3,b4]
    have T8:ij S T R.steps (R.hs,R.vs) (π++[0])=some (z.has,z.vals):=by
     rw[QaS,he];simp only[v',hk,iI,ca,if_true,AO]
    have oi:=h.del hW hr hk hz;rw[gy]at oi;refine M5 (p0:=0) oi hr hp he T8 (λy=>il y 0) (λdi a' q1 q2=>by rw[hk]at q1;cases q1;rw[hB];exact ou) (λm hm=>by have:=hm.unique hn;omega) λp' s1 df kJ=>?_;refine QZ ?_;have BK:(π.length:Int)+1=((π.length+1:Nat):Int):=an
    rw[BK];refine Ij _ _ s1 p' (π++[0]) (z.has,z.vals) _ kJ mY ax T8 (by rw[<-AO];exact hI) (λy i hy=>?_) (λk' di ec GM=>?_) λff s2 kF oq vT=>?_
    ·unfold jf at hy;split at hy
     · simp only[Option.some.injEq,Prod.mk.injEq,true_and]at hy;have:=congrArg List.length hy;simp at this
     · obtain⟨R',z',_,_,h4⟩:=h.part _ _ _ hy;obtain⟨_,q2,_,h5⟩:=h4.up _ _ rfl;exact il _ _ h5
    ·rintro(hh|hh);· exact hZ k' di an GM hh
     · have:=(hW.steps r r R R k' _ di sc hr hr GM hk (by rw[hh,gy])).2;omega
    ·refine nG (lx λFe=>?_)
     have ri:DK loc ff r π:=⟨(qm df).trans oq.1,λy l h1 h2=>by
       cases hy:jf loc p' (r,π++[0]) y with
       | none=>
         obtain⟨τ,_,rfl⟩:=oq.2 y l h1 hy;exact⟨0::τ,ax,ax⟩
       | some l'=>
         have h3:=oq.1 y l' hy;rw[h1]at h3;cases h3;unfold jf at hy;split at hy;· cases hy;exact⟨[0],ax,rfl⟩
         · rw[h2]at hy;cases hy⟩
     have hb:Inv S C T (λ_=>T) B Zo none ff (cu s2 sc.st.adr (.nt x)):=by
       refine Inv.back hW (by rw[gy];exact kF) hr hk (by rw[gy];exact Fe) ?_;unfold ju;rw[ca];exact⟨x,rfl,b2,b3,b4,b5,b6.grown ri (λ_=>an)⟩
     rw[gy]at hb;refine hQ ff _ hb ri λiF τ U=>?_
     rw[Sp hk]at U;cases τ with
     |nil=>exact⟨p,by simpa using ri.1 _ _ hp⟩
     | cons i τ=>
       simp only[im,kz,ca]at U;by_cases hi:i=0
       · subst hi;rw[if_pos ⟨rfl,ou⟩]at U;simp only[v']at U;rw[AO]at U;obtain⟨y,hy⟩:=vT iF τ U;exact⟨y,by rw[hy];simp⟩
       · rw[if_neg (λhh=>hi hh.1)]at U;simp at U
  · have hnn:4096<n:=by simpa using hf
    exact hQ loc s h (DK.refl _ _ _) λiF=>by have:=iF n hn;omega
 ·refine Ba rfl ?_;refine hQ loc s h (DK.refl _ _ _) λiF τ U=>?_;rw[Sp hk]at U;cases τ with
  |nil=>exact⟨p,by simpa using hp⟩
  | cons i τ=>
    exfalso;simp only[im,kz,ca]at U;have de:m.es≠[]:=λe1=>by simp[e1]at hb
    obtain⟨y,l,hl⟩:=List.exists_cons_of_ne_nil de;have hy:y.1∈m.keys:=by simp[MS.keys,hl]
    rw[if_neg (λhh=>hh.2 y.1 ((m2 _).1 hy))]at U;simp at U
end
end
section
open Go Go.RowKit Classical
section
variable {S:gO} {I:fg->Prop} {C:ic} {T:cg} {Ta:Nat->cg} {B:Nat->List Int->cg×cg} {Zo:Nat->Prop} {cq:Option Nat} {loc:Loc} {s:Qc} {D:List Int}
theorem Inv.regT {a p r:Nat} {π:List Int} {R:gp} {sc:gh} (h:Inv S C T Ta B Zo (some p) loc s)(hr:C.rows[r]? =some R)(hp:loc p=some (r,π))(hk:R.steps[π.length]? =some sc)(ca:sc.st=.test a):Inv S C T Ta B Zo none loc s:=by
 have ly:π.length<R.steps.length:=(c'.1 hk).1;refine⟨h.net,?_,?_,h.al,?_,h.inj,h.root,h.le⟩
 ·intro r' R' U;obtain⟨x,a1,a2,a3,a4,a5,a6⟩:=h.row r' R' U;refine⟨x,a1,a2,a3,a4,a5,a6.reg' hp λe=>?_⟩;subst e;rw[hr]at U;cases U;omega
 ·intro r' R' k' di U ec zL;have h1:=h.step r' R' k' di U ec zL
  have de:(∀b,di.st≠.test b)->r'=r->π.length≠k':=λhh e1 e2=>by
   subst e1;subst e2;rw[hr]at U;cases U;rw[hk]at ec;cases ec;exact hh a ca
  unfold ju at h1⊢;split at h1
  ·rename_i b hb;obtain⟨x,c1,c2,c3,c4,c5,c6⟩:=h1;exact⟨x,c1,c2,c3,c4,c5,c6.reg' hp (de λb' e=>by rw[hb]at e;cases e)⟩
  ·rename_i b hb;obtain⟨x,c1,c2,c3,c4,c5,c6⟩:=h1;exact⟨x,c1,c2,c3,c4,c5,c6.reg' hp (de λb' e=>by rw[hb]at e;cases e)⟩
  · exact h1
 ·intro q r' ρ hl;obtain⟨R',x,a1,a2,a3⟩:=h.part q r' ρ hl;refine⟨R',x,a1,a2,⟨a3.env,a3.top,a3.up,a3.kids,λ_ di a' e1 e2=>?_,a3.free,a3.kn⟩⟩;by_cases hq:q=p
  ·subst hq;rw[hp]at hl;cases hl;rw[hr]at a1;cases a1;rw[hk]at e1;cases e1;rw[ca]at e2;cases e2
  · exact a3.blocks (cx hq) di a' e1 e2
theorem Ap {N r k a p:Nat} {R:gp} {sc:gh} {π:List Int} {e:fg} {rc:Nat->Int->Nat->Qc->WM Qc} {Q:Qc->Prop} (hW:pS C)(hlen:R.steps.length<9223372036854775807)(hN:B0<=N)(hr:C.rows[r]? =some R)(hk:R.steps[k]? =some sc)(ca:sc.st=.test a)(cr:yT S I C T sc)(Ij:XH S C T B I rc r R (k+1))
  (h0:Inv S C T (λ_=>T) B Zo (some p) loc s) (hp:loc p=some (r,π)) (kK:π.length=k) (he:ij S T R.steps (R.hs,R.vs) π=some e) (hI:I e) (il:∀y i,loc y≠some (r,π++[i])) (hZ:∀k' sc,k<=k'->R.steps[k']? =some sc->¬Zo sc.st.adr)
  (hQ:∀bg s',Inv S C T (λ_=>T) B Zo none bg s'->DK loc bg r π->(rN bg->jU S T bg r π (R.steps.drop k) e)->Q s'):Q5g N rc a p s Q:=by
 subst kK;have h:=h0.regT hr hp hk ca;have hz:=hZ _ sc (O' _) hk;have gy:sc.st.adr=a:=by rw[ca];rfl
 have h1:=h.step r R _ sc hr hk hz;unfold ju at h1;rw[ca]at h1;obtain⟨x,b1,b3,b4,b5,b6⟩:=h1;have rU:s a=some (.test x):=b1;obtain⟨R',z,c1,c2,c3,c4⟩:=h.gPart hp;rw[hr]at c1;cases c1;have AO:e=(z.has,z.vals):=Option.some.inj (he.symm.trans c4.env);have ly:π.length<R.steps.length:=(c'.1 hk).1;obtain⟨kk,n,sx,zz,d1,d2⟩:=cr.ev a ca N hN e hI;rw[AO]at d1;refine Qk (uk rU) ?_;refine Qk c2 ?_;rw[b5];refine Qk d1 ?_;refine kW ?_
 have stop:S.ev sc.c e.2=false->Q s:=λJx=>hQ loc s h (DK.refl _ _ _) λ_ τ U=>by
  rw[Sp hk]at U;cases τ with
  |nil=>exact⟨p,by simpa using hp⟩
  | cons i τ=>
    exfalso;simp only[im,kz,ca]at U;rw[if_neg (λhh=>by rw[Jx]at hh;cases hh.2)]at U;simp at U
 refine jA (λVY=>?_) (λVY=>Ba rfl (stop (by rw[d2,VY];rfl)));refine jA (λur=>?_) (λur=>Ba rfl (stop (by rw[d2,VY,ur];rfl)));refine jA (λOf=>?_) (λOf=>Ba rfl (stop (by rw[d2,VY,ur,Of];rfl)));have Jx:S.ev sc.c e.2=true:=by rw[d2,VY,ur,Of];rfl
 refine QZ ?_;rw[b3];refine ER h hr λn hn=>?_;refine jA (λhf=>?_) (λhf=>hQ loc s h (DK.refl _ _ _) λiF=>by have hnn:4096<n:=(cx hf);have:=iF n hn;omega);have hnn:¬4096<n:=by simpa using hf
 refine Qk (uk rU) ?_;refine Qk c2 ?_;refine iE (by rw[b4];omega) ?_;refine QZ ?_;rw[b3,b4]
 have T8:ij S T R.steps (R.hs,R.vs) (π++[0])=some (z.has,z.vals):=by
  rw[QaS,he];simp only[v',hk,iI,ca];rw[if_pos ⟨trivial,Jx⟩,AO]
 have oi:=h.del hW hr hk hz;rw[gy]at oi;refine M5 (p0:=0) oi hr hp he T8 (λy=>il y 0) (λdi a' q1 q2=>by rw[hk]at q1;cases q1;rw[ca]at q2;cases q2) (λm hm=>by have:=hm.unique hn;omega) λp' s1 df kJ=>?_;refine QZ ?_;have BK:(π.length:Int)+1=((π.length+1:Nat):Int):=an
 rw[BK];refine Ij _ _ s1 p' (π++[0]) (z.has,z.vals) _ kJ mY ax T8 (by rw[<-AO];exact hI) (λy i hy=>?_) (λk' di ec GM=>?_) λff s2 kF oq vT=>?_
 ·unfold jf at hy;split at hy
  · simp only[Option.some.injEq,Prod.mk.injEq,true_and]at hy;have:=congrArg List.length hy;simp at this
  · obtain⟨R',z',_,_,h4⟩:=h.part _ _ _ hy;obtain⟨_,q2,_,h5⟩:=h4.up _ _ rfl;exact il _ _ h5
 ·rintro(hh|hh);· exact hZ k' di an GM hh
  · have:=(hW.steps r r R R k' _ di sc hr hr GM hk (by rw[hh,gy])).2;omega
 ·refine nG (lx λFe=>?_)
  have ri:DK loc ff r π:=⟨(qm df).trans oq.1,λy l h1 h2=>by
    cases hy:jf loc p' (r,π++[0]) y with
    | none=>
      obtain⟨τ,_,rfl⟩:=oq.2 y l h1 hy;exact⟨0::τ,ax,ax⟩
    | some l'=>
      have h3:=oq.1 y l' hy;rw[h1]at h3;cases h3;unfold jf at hy;split at hy;· cases hy;exact⟨[0],ax,rfl⟩
      · rw[h2]at hy;cases hy⟩
  have hb:Inv S C T (λ_=>T) B Zo none ff (cu s2 sc.st.adr (.test x)):=by
    refine Inv.back hW (by rw[gy];exact kF) hr hk (by rw[gy];exact Fe) ?_;unfold ju;rw[ca];exact⟨x,rfl,b3,b4,b5,b6⟩
  rw[gy]at hb;refine hQ ff _ hb ri λiF τ U=>?_
  rw[Sp hk]at U;cases τ with
  |nil=>exact⟨p,by simpa using ri.1 _ _ hp⟩
  | cons i τ=>
    simp only[im,kz,ca]at U;by_cases hi:i=0
    · subst hi;rw[if_pos ⟨rfl,Jx⟩]at U;simp only[v']at U;rw[AO]at U;obtain⟨y,hy⟩:=vT iF τ U;exact⟨y,by rw[hy];simp⟩
    · rw[if_neg (λhh=>hi hh.1)]at U;simp at U
end
end
section
open Go Go.RowKit Classical
section
variable {S:gO} {I:fg->Prop} {C:ic} {T:cg} {Ta:Nat->cg} {B:Nat->List Int->cg×cg} {Zo:Nat->Prop} {cq:Option Nat} {loc:Loc} {s:Qc} {D:List Int}
theorem qA {a:Nat} {o:PO}:cu s a o a=some o:=kf _ _ _
theorem Nx {a b:Nat} {o o':PO} (h:a≠b):cu (cu s a o) b o'=cu (cu s b o') a o:=by
 funext c;by_cases h1:c=b
 ·subst h1;rw[kf,QG (λe=>h e.symm),kf]
 ·by_cases U:c=a
  ·subst U;rw[QG h1,kf,kf]
  · rw[QG h1,QG U,QG U,QG h1]
theorem Ct {N r k a p:Nat} {R:gp} {sc:gh} {π:List Int} {e:fg} {rc:Nat->Int->Nat->Qc->WM Qc} {Q:Qc->Prop} (hW:pS C)(hlen:R.steps.length<9223372036854775807)(hN:B0<=N)(hND:D.length<N)(hT:jC T D)(hr:C.rows[r]? =some R)(hk:R.steps[k]? =some sc)(ca:sc.st=.nt a)(cr:yT S I C T sc)(Ij:XH S C T B I rc r R (k+1))
  (h:Inv S C T (λ_=>T) B Zo (some p) loc s) (hp:loc p=some (r,π)) (kK:π.length=k) (he:ij S T R.steps (R.hs,R.vs) π=some e) (hI:I e) (hB:B r π=(T,T)) (il:∀y i,loc y≠some (r,π++[i])) (hZ:∀k' sc,k<=k'->R.steps[k']? =some sc->¬Zo sc.st.adr)
  (hQ:∀bg s',Inv S C T (λ_=>T) B Zo none bg s'->DK loc bg r π->(rN bg->jU S T bg r π (R.steps.drop k) e)->Q s'):Q5u N rc a p s Q:=by
 subst kK;have hz:=hZ _ sc (O' _) hk;have gy:sc.st.adr=a:=by rw[ca];rfl
 have h0:=h.step r R _ sc hr hk hz;unfold ju at h0;rw[ca]at h0;obtain⟨x,b1,b2,b3,b4,b5,b6⟩:=h0;have rU:s a=some (.nt x):=b1;obtain⟨R',z,c1,c2,c3,c4⟩:=h.gPart hp;rw[hr]at c1;cases c1;have AO:e=(z.has,z.vals):=Option.some.inj (he.symm.trans c4.env);have uo:a≠p:=λe1=>by rw[e1,c3]at rU;cases rU
 obtain⟨A,rh,Oe,VR⟩:=cr.al (λa' e'=>by rw[ca]at e';cases e');obtain⟨xA,d1,d2,d3,d4,d5⟩:=h.al A rh;have hAa:A.b≠a:=λe1=>by rw[e1,rU]at d1;cases d1
 have hAp:A.b≠p:=λe1=>by rw[e1,c3]at d1;cases d1
 have kT:∀i,i∈xA.facts.keys↔∃f,T i=some f/\hasB A f=true:=λi=>by
  rw[MS.look_iff];constructor;· rintro⟨f,hf⟩;rw[d5]at hf;exact⟨f,by simpa using hf⟩
  · rintro⟨f,DS,BO⟩;exact⟨f,by rw[d5];simp[DS,BO]⟩
 have ly:xA.facts.keys.length<=D.length:=Je d4 λi hi=>by
  obtain⟨f,hf,_⟩:=(kT i).1 hi;exact(hT.mem i f hf).1
 have a2P:∀U:MS Int Bool,∀g:Nat,(∀i,i∈U.keys↔lq S sc e T i)->(∀i v,U.look i=some v->v=true)->Inv S C T (λ_=>T) B Zo none loc (cu (cu s a (.nt {x with parts:=x.parts.put p true})) p (.part {z with blocks:=some (g,U)})):=λU g YE T2=>by
  rw[Nx uo];have q1:Inv S C T (λ_=>T) B Zo (some p) loc (cu s p (.part {z with blocks:=some (g,U)})):=h.setBlocks hr hp c3 (λ_ _ _=>rfl) (λhh=>absurd rfl hh) (λ_ _ _ _ ⟨y,i,hy⟩=>absurd hy (il y i))
  have:=q1.reg hW (o:=.nt {x with parts:=x.parts.put p true}) hr hp hk hz (by unfold ju;rw[ca];exact⟨_,rfl,b2,b3,b4,b5,b6.reg hp rfl⟩) (λa' x' _ nJ=>by
   rw[kf]at nJ;cases nJ;refine⟨g,U,rfl,λi=>?_,T2⟩;rw[YE i,hB,AO])
  rw[gy]at this;exact this
 refine Qk (O3 rU) ?_;refine iE (keys_in h b6 hp) ?_;refine nG ?_;refine Qk (a:=z) (by rw[sL (Ne.symm uo)];exact c2) ?_;refine w8 λg15=>nG ?_;refine kW ?_;refine Qk (a:={x with parts:=x.parts.put p true}) (by rw[ET uo];exact O3 qA) ?_;have GH:x.alpha=A.b:=b2.trans Oe.symm;refine Qk (a:=xA) (by show vQ _ x.alpha=_;rw[GH,od hAp,od hAa];exact Yi d1) ?_;refine yX (λ(b,m,d,s')=>b=xA.factsA/\m=xA.facts/\d.Nodup/\(∀i∈d,i∈xA.facts.keys)/\∃U:MS Int Bool,s'=cu (cu s a (.nt {x with parts:=x.parts.put p true})) p (.part {z with blocks:=some (g15,U)})/\(∀i,i∈U.keys↔i∈d/\lq S sc e T i)/\∀i v,U.look i=some v->v=true) (λ(_,_,d,_)=>xA.facts.keys.length-d.length) ?_ N (xA.factsA,xA.facts,[],_) ⟨rfl,rfl,S',(λi hi=>by cases hi),MS.nil,rfl,(λi=>⟨λhi=>absurd hi MS.keys_nil,λhi=>by cases hi.1⟩),λi v hv=>by simp[MS.look,MS.nil,iK]at hv⟩ (by show xA.facts.keys.length-0<N;omega);rintro⟨b,m,d,s'⟩ ag ⟨rfl,rfl,lS,om,U,rfl,YE,T2⟩ gH;dsimp only at lS om gH⊢;refine Qk (a:=xA) (by show vQ _ x.alpha=_;rw[GH,od hAp,od hAa];exact Yi d1) ?_;refine iE ⟨rfl,rfl⟩ ?_;refine Sz (λfe=>?_) λi hi hid=>?_
 ·refine QZ ?_
  have a2H:∀i,i∈U.keys↔lq S sc e T i:=λi=>by
   rw[YE];refine⟨λhh=>hh.2,λhh=>⟨?_,hh⟩⟩;obtain⟨f,f1,f2⟩:=hh;obtain⟨e',GI⟩:=X'.1 f2;exact fe i ((kT i).2 ⟨f,f1,VR f e e' GI⟩)
  exact uL hW hlen hr hk ca Ij (a2P U g15 a2H T2) hp rfl he hI hB il hZ hQ
 ·obtain ⟨f,f1,f2⟩:=(kT i).1 hi;have YA:=(hT.mem i f f1).2.1
  have bp:d.length<xA.facts.keys.length:=by
   have:=Je (M'.2 ⟨hid,lS⟩) (l:=xA.facts.keys) (by
    intro j hj;rcases G'.1 hj with rfl|hj;· exact hi
    · exact om j hj)
   simp only[g']at this;omega
  refine Qk (a:=f) (by rw[d5];simp[f1,f2]) ?_;refine Qk (a:={x with parts:=x.parts.put p true}) (by rw[ET uo];exact O3 qA) ?_;refine Qk (a:={z with blocks:=some (g15,U)}) (Li qA) ?_;obtain⟨ha,hv,q1,q2⟩:=cr.mt (λa' e'=>by rw[ca]at e';cases e') N hN f (by rw[YA];exact f1) e hI;rw[AO]at q1
  refine Qk (a:=(ha,hv,(S.mt sc.c (z.has,z.vals).1 (z.has,z.vals).2 f).isSome)) (by
   show NR N x.cond.kind x.cond.type x.cond.args x.cond.test.kind x.cond.test.value.k x.cond.test.value.n x.cond.test.value.s x.cond.test.var x.cond.test.op x.cond.test.kids f.id f.ty f.args z.has z.vals=_;rw[b5];exact q1) ?_
  have Iq:(d++[i]).Nodup:=C'.2 ⟨lS,ax,λy hy w hw e1=>hid (by simp at hw;rw[<-hw,<-e1];exact hy)⟩
  have j6:∀j∈d++[i],j∈xA.facts.keys:=λj hj=>by
   rcases j'.1 hj with hj|hj;· exact om j hj
   · rw[f'.1 hj];exact hi
  refine jA (λhb=>?_) (λhb=>?_)
  ·refine Qk (a:=(g15,U)) rfl ?_;refine nG ?_;refine gH _ ⟨rfl,rfl,Iq,j6,U.put i true,ti,λj=>?_,λj v hv=>?_⟩ (by show xA.facts.keys.length-(d++[i]).length<_;simp only[t',g',D'];omega)
   ·rw[MS.keys_put,YE,j',f'];by_cases hj:j=i
    ·subst hj;simp only[true_or,true_iff,or_true,true_and];exact⟨f,f1,by rw[AO];exact hb⟩
    · simp[hj]
   ·rw[MS.look_put]at hv;split at hv;· cases hv;rfl
    · exact T2 j v hv
  ·refine gH _ ⟨rfl,rfl,Iq,j6,U,rfl,λj=>?_,T2⟩ (by show xA.facts.keys.length-(d++[i]).length<_;simp only[t',g',D'];omega);rw[YE,j',f'];by_cases hj:j=i
   ·subst hj;simp only[or_true,true_and,iff_false_intro hid,false_and,false_iff,false_or];rintro⟨g,g1,g2⟩;rw[f1]at g1;cases g1;rw[AO]at g2;rw[g2]at hb;cases hb
   · simp[hj]
end
end
section
open Go Go.RowKit Classical
section
variable {S:gO} {I:fg->Prop} {C:ic} {T:cg} {Ta:Nat->cg} {B:Nat->List Int->cg×cg} {Zo:Nat->Prop} {cq:Option Nat} {loc:Loc} {s:Qc} {D:List Int}
theorem Inv.regW (hW:pS C) {p r:Nat} {π:List Int} {R:gp} {y:nQ} (h:Inv S C T Ta B Zo (some p) loc s)(hr:C.rows[r]? =some R)(hp:loc p=some (r,π))(hk:π.length=R.steps.length)(hy:s R.b=some (.row y)):Inv S C T Ta B Zo none loc (cu s R.b (.row {y with whole:=y.whole.put p true})):=by
 have ne:∀b o',s b=some o'->(∀z,o'≠.row z)->cu s R.b (.row {y with whole:=y.whole.put p true}) b=some o':=λb o' hb c1=>by
  rw[QG (λe=>by rw[e,hy]at hb;cases hb;exact c1 _ rfl)];exact hb
 refine⟨?_,?_,?_,?_,?_,h.inj,h.root,h.le⟩
 ·obtain⟨x,U,a2⟩:=h.net;exact⟨x,ne _ _ U (λ_ e=>by cases e),a2⟩
 ·intro r' R' cz;obtain⟨x,U,a2,a3,a4,a5,a6⟩:=h.row r' R' cz;by_cases e:R'.b=R.b
  ·obtain rfl:=hW.rows _ _ _ _ cz hr e;rw[hr]at cz;cases cz;rw[hy]at U;cases U;exact⟨{y with whole:=y.whole.put p true},kf _ _ _,a2,a3,a4,a5,a6.reg hp hk⟩
  ·refine⟨x,(by rw[QG e];exact U),a2,a3,a4,a5,a6.reg' hp λe1=>?_⟩;subst e1;rw[hr]at cz;cases cz;exact absurd rfl e
 ·intro r' R' k' di cz ec zL;have h1:=h.step r' R' k' di cz ec zL
  have de:r'=r->π.length≠k':=λe1 e2=>by
   subst e1;rw[hr]at cz;cases cz;have:=(c'.1 ec).1;omega
  unfold ju at h1⊢;split at h1;· obtain⟨x,c1,c2,c3,c4,c5,c6⟩:=h1;exact⟨x,ne _ _ c1 (λ_ e=>by cases e),c2,c3,c4,c5,c6.reg' hp de⟩
  · obtain⟨x,c1,c2,c3,c4,c5,c6⟩:=h1;exact⟨x,ne _ _ c1 (λ_ e=>by cases e),c2,c3,c4,c5,c6.reg' hp de⟩
  · obtain⟨x,c1,c2⟩:=h1;exact⟨x,ne _ _ c1 (λ_ e=>by cases e),c2⟩
 ·intro A hA;obtain⟨x,U,a2⟩:=h.al A hA;exact⟨x,ne _ _ U (λ_ e=>by cases e),a2⟩
 ·intro q r' ρ hl;obtain⟨R',x,U,a2,a3⟩:=h.part q r' ρ hl;refine⟨R',x,U,ne _ _ a2 (λ_ e=>by cases e),⟨a3.env,a3.top,a3.up,a3.kids,λ_ di a' e1 e2=>?_,a3.free,a3.kn⟩⟩;by_cases hq:q=p
  ·subst hq;rw[hp]at hl;cases hl;rw[hr]at U;cases U;have:=(c'.1 e1).1;omega
  · exact a3.blocks (cx hq) di a' e1 e2
theorem Rr {r:Nat} {R:gp} (hW:pS C)(hlen:R.steps.length<9223372036854775807)(hT:jC T D)(hD:D.length<=3518437208882)(U:C.rows[r]? =some R)(cr:∀sc∈R.steps,yT S I C T sc):∀(d k:Nat),k+d=R.steps.length->(∀π:List Int,k<=π.length->B r π=(T,T))->∀N,B0+D.length+d+1<N->XH S C T B I (Ja N) r R k
 |d,k,hd,hB,0,hN=>an
 | d,k,hd,hB,N+1,hN=>by
   intro Zo loc s p π e Q h hp kK he hI il hZ hQ;show Q7y N (Ja N) R.b (k:Int) p s Q;obtain⟨y,h1,h2,h3,h4,h5,h6,h7⟩:=h.gRow U;have Tg:y.steps.length=R.steps.length:=by rw[h4];simp
   refine Qk h1 ?_;refine jA (λhb=>?_) (λhb=>?_)
   ·have hkn:k=R.steps.length:=by rw[Tg]at hb;have h9:(k:Int)=(R.steps.length:Int):=(cx hb);omega
    refine iE (keys_in h h7 hp) ?_;refine nG ?_;refine hQ loc _ (h.regW hW U hp an h2) (DK.refl _ _ _) λ_ τ iG=>?_;rw[hkn,List.drop_length]at iG;cases τ with
    |nil=>exact⟨p,by simpa using hp⟩
    |cons i τ=>simp[im]at iG
   ·have hkn:k≠R.steps.length:=λe1=>by rw[Tg,e1]at hb;simp at hb
    have bp:k<R.steps.length:=an
    obtain⟨sc,fj⟩:∃sc,R.steps[k]? =some sc:=⟨_,m' bp⟩
    obtain⟨d',rfl⟩:∃d',d=d'+1:=⟨d-1,an⟩
    have Ij:=Rr hW hlen hT hD U cr d' (k+1) an (λgL a1g=>hB gL an) N an;have Ir:=cr sc (A' fj);refine iE an ?_;refine Qk (a:=sc.st) (by rw[h4,Int.toNat_natCast,U',fj];rfl) ?_;cases ca:sc.st with
    | join a=>
      refine lD (QZ ?_);exact zS hW hlen (by unfold B0 at*;omega) an hT hD U fj ca Ir Ij h hp kK he hI il hZ hQ
    | nt a=>
      refine lE (QZ ?_);exact Ct hW hlen (by unfold B0 at*;omega) an hT U fj ca Ir Ij h hp kK he hI (hB π an) il hZ hQ
    | test a=>
      refine lF (QZ ?_);exact Ap hW hlen (by unfold B0 at*;omega) U fj ca Ir Ij h hp kK he hI il hZ hQ
end
end
section
open Go Go.RowKit Classical
theorem jl.mono' {loc U:Loc} {n n':Nat} (h:jl loc n)(h':jl U n')(he:∀y l,loc y=some l->U y=some l):n<=n':=h.mono h' he
def K4 (loc:Loc)(p:Nat):Loc:=λb=>if b=p then none else loc b
theorem vY {loc:Loc} {p y:Nat} {l:Nat×List Int}:K4 loc p y=some l↔y≠p/\loc y=some l:=by
 unfold K4;by_cases h:y=p<;>simp[h]
theorem jl.del {loc:Loc} {n p r:Nat} {π:List Int} (h:jl loc n)(hp:loc p=some (r,π))(kK:π≠[]):∃m,n=m+1/\jl (K4 loc p) m:=by
 obtain⟨L,a1,a2,rfl⟩:=h;have hm:p∈L:=(a2 p).2 ⟨r,π,hp,kK⟩;refine⟨L.length-1,?_,L.erase p,a1.erase p,λq=>?_,W' hm⟩;· have:=Z' hm;omega
 ·rw[List.Nodup.mem_erase_iff a1,a2];constructor;· rintro⟨h1,r',gL,U,h3⟩;exact⟨r',gL,vY.2 ⟨h1,U⟩,h3⟩
  · rintro⟨r',gL,U,h3⟩;exact⟨(vY.1 U).1,r',gL,(vY.1 U).2,h3⟩
section
variable {S:gO} {I:fg->Prop} {C:ic} {T:cg} {Ta:Nat->cg} {B:Nat->List Int->cg×cg} {Zo:Nat->Prop} {cq:Option Nat} {loc:Loc} {s:Qc} {D:List Int}
theorem LK.del {r k p:Nat} {m:MS Nat Bool} (h:LK none loc r k m):LK none (K4 loc p) r k (m.del p):=λy=>by
 rw[MS.keys_del,h y];constructor;· rintro⟨h1,⟨π,U,h3⟩,h4⟩;exact⟨⟨π,vY.2 ⟨h1,U⟩,h3⟩,h4⟩
 · rintro⟨⟨π,U,h3⟩,h4⟩;exact⟨(vY.1 U).1,⟨π,(vY.1 U).2,h3⟩,h4⟩
theorem LK.del' {r r' k p:Nat} {π:List Int} {m:MS Nat Bool} (h:LK none loc r' k m)(hp:loc p=some (r,π))(de:r'=r->π.length≠k):LK none (K4 loc p) r' k m/\p∉m.keys:=by
 have PY:p∉m.keys:=λhm=>by
  obtain⟨⟨ρ,h1,U⟩,_⟩:=(h p).1 hm;rw[hp]at h1;cases h1;exact de rfl U
 refine⟨λy=>?_,PY⟩;rw[h y];constructor
 ·rintro⟨⟨ρ,U,h3⟩,h4⟩;refine⟨⟨ρ,vY.2 ⟨λe=>?_,U⟩,h3⟩,h4⟩;subst e;exact PY ((h y).2 ⟨⟨ρ,U,h3⟩,h4⟩)
 · rintro⟨⟨ρ,U,h3⟩,h4⟩;exact⟨⟨ρ,(vY.1 U).2,h3⟩,h4⟩
theorem Inv.kill (hW:pS C) {s6:Qc} {p q r:Nat} {ρ:List Int} {i:Int} {R:gp} {xn:gT} {xq:jy} {y:nQ} (h:Inv S C T Ta B Zo none loc s)(hr:C.rows[r]? =some R)(hp:loc p=some (r,ρ++[i]))(hq:loc q=some (r,ρ))(ou:∀z j,loc z≠some (r,ρ++[i]++[j]))
  (hn:s C.g=some (.net xn)) (hxq:s q=some (.part xq)) (hy:s R.b=some (.row y))
  (gn:s6 C.g=some (.net {xn with parts:=xn.parts-1})) (gq:s6 q=some (.part {xq with kids:=xq.kids.del p})) (gr:s6 R.b=some (.row {y with whole:=y.whole.del p}))
  (gs:∀sc,R.steps[(ρ++[i]).length]? =some sc->¬Zo sc.st.adr->ju none (K4 loc p) r R (ρ++[i]).length sc (s6 sc.st.adr))
  (go:∀b,b≠C.g->b≠q->b≠R.b->(∀sc,R.steps[(ρ++[i]).length]? =some sc->b=sc.st.adr->(∀x,s b≠some (.join x))/\(∀x,s b≠some (.nt x))/\(∀x,s b≠some (.test x)))->s6 b=s b):
  Inv S C T Ta B Zo none (K4 loc p) s6:=by
 have hqp:q≠p:=λe=>by
  rw[e,hp]at hq;simp only[Option.some.injEq,Prod.mk.injEq,true_and]at hq;have:=congrArg List.length hq;simp at this
 have keep:∀b o,s b=some o->b≠C.g->b≠q->b≠R.b->(∀x,o≠.join x)->(∀x,o≠.nt x)->(∀x,o≠.test x)->s6 b=some o:=λb o hb c1 c2 c3 c4 c5 c6=>by
  rw[go b c1 c2 c3 λsc _ _=>⟨λx e=>by rw[hb]at e;cases e;exact c4 _ rfl,λx e=>by rw[hb]at e;cases e;exact c5 _ rfl,λx e=>by rw[hb]at e;cases e;exact c6 _ rfl⟩];exact hb
 refine⟨?_,?_,?_,?_,?_,?_,?_,?_⟩
 ·obtain⟨x,a1,a2,a3,a4,a5,a6,a7,a8,n,a9,js⟩:=h.net;rw[hn]at a1;cases a1;obtain⟨m,rfl,hm⟩:=js.del hp ax;exact⟨_,gn,a2,a3,a4,a5,a6,a7,a8,m,by simp[a9],hm⟩
 ·intro r' R' cz;obtain⟨x,a1,a2,a3,a4,a5,a6⟩:=h.row r' R' cz;by_cases e:R'.b=R.b
  ·obtain rfl:=hW.rows _ _ _ _ cz hr e;rw[hr]at cz;cases cz;rw[hy]at a1;cases a1;exact⟨_,gr,a2,a3,a4,a5,a6.del⟩
  ·refine⟨x,keep _ _ a1 (λU=>by rw[U,hn]at a1;cases a1) (λU=>by rw[U,hxq]at a1;cases a1) e (λ_ e=>by cases e) (λ_ e=>by cases e) (λ_ e=>by cases e),a2,a3,a4,a5,(a6.del' hp λU=>?_).1⟩;subst U;rw[hr]at cz;cases cz;exact absurd rfl e
 ·intro r' R' k' di cz ec zL;have h1:=h.step r' R' k' di cz ec zL;by_cases e:r'=r/\(ρ++[i]).length=k'
  ·obtain⟨rfl,rfl⟩:=e;rw[hr]at cz;cases cz;exact gs di ec zL
  ·have de:r'=r->(ρ++[i]).length≠k':=λU e2=>e ⟨U,e2⟩
   have jF:(∃o,s di.st.adr=some o/\(∀x,o≠.net x)/\(∀x,o≠.part x)/\∀x,o≠.row x)->s6 di.st.adr=s di.st.adr:=λ⟨o,ho,c1,c2,c3⟩=>
    go _ (λU=>by rw[U,hn]at ho;cases ho;exact c1 _ rfl) (λU=>by rw[U,hxq]at ho;cases ho;exact c2 _ rfl) (λU=>by rw[U,hy]at ho;cases ho;exact c3 _ rfl) λsc fj hb=>by
     obtain⟨U,e2⟩:=hW.steps _ _ _ _ _ _ _ _ cz hr ec fj hb;exact absurd ⟨U,e2.symm⟩ e
   unfold ju at h1⊢;split at h1
   ·obtain⟨x,c1,c2,c3,c4,c5,c6⟩:=h1;exact⟨x,(by rw[jF ⟨_,c1,(λ_ e=>by cases e),(λ_ e=>by cases e),λ_ e=>by cases e⟩];exact c1),c2,c3,c4,c5,(c6.del' hp de).1⟩
   ·obtain⟨x,c1,c2,c3,c4,c5,c6⟩:=h1;exact⟨x,(by rw[jF ⟨_,c1,(λ_ e=>by cases e),(λ_ e=>by cases e),λ_ e=>by cases e⟩];exact c1),c2,c3,c4,c5,(c6.del' hp de).1⟩
   ·obtain⟨x,c1,c2⟩:=h1;exact⟨x,(by rw[jF ⟨_,c1,(λ_ e=>by cases e),(λ_ e=>by cases e),λ_ e=>by cases e⟩];exact c1),c2⟩
 ·intro A hA;obtain⟨x,a1,a2⟩:=h.al A hA;exact⟨x,keep _ _ a1 (λU=>by rw[U,hn]at a1;cases a1) (λU=>by rw[U,hxq]at a1;cases a1) (λU=>by rw[U,hy]at a1;cases a1) (λ_ e=>by cases e) (λ_ e=>by cases e) (λ_ e=>by cases e),a2⟩
 ·intro z r' gL hl;obtain⟨hzp,sR⟩:=vY.1 hl;obtain⟨R',x,a1,a2,a3⟩:=h.part z r' gL sR
  have hup:∀ck j,gL=ck++[j]->x.id=j/\∃q2,x.up=some q2/\K4 loc p q2=some (r',ck):=λck j e=>by
   obtain⟨d1,q2,d2,d3⟩:=a3.up ck j e;refine⟨d1,q2,d2,vY.2 ⟨λU=>?_,d3⟩⟩;subst U;rw[hp]at d3;simp only[Option.some.injEq,Prod.mk.injEq]at d3;obtain⟨rfl,rfl⟩:=d3;rw[e]at sR;exact ou _ _ sR
  have iq:∀sc a,R'.steps[gL.length]? =some sc->sc.st=.nt a->(∃w j,K4 loc p w=some (r',gL++[j]))->∀j,¬lq S sc (x.has,x.vals) (B r' gL).2 j:=λsc a U e2 ⟨w,j,hw⟩=>a3.free sc a U e2 ⟨w,j,(vY.1 hw).2⟩;by_cases hzq:z=q
  ·subst hzq;rw[hq]at sR;cases sR;rw[hr]at a1;cases a1;rw[hxq]at a2;cases a2;refine⟨R,_,hr,gq,⟨a3.env,a3.top,hup,λw=>?_,a3.blocks,iq,MS.nodup_del a3.kn⟩⟩;show w∈(xq.kids.del p).keys↔_;rw[MS.keys_del,a3.kids];constructor;· rintro⟨h1,j,h2⟩;exact⟨j,vY.2 ⟨h1,h2⟩⟩
   · rintro⟨j,h2⟩;exact⟨(vY.1 h2).1,j,(vY.1 h2).2⟩
  ·refine⟨R',x,a1,keep _ _ a2 (λU=>by rw[U,hn]at a2;cases a2) hzq (λU=>by rw[U,hy]at a2;cases a2) (λ_ e=>by cases e) (λ_ e=>by cases e) (λ_ e=>by cases e),⟨a3.env,a3.top,hup,λw=>?_,a3.blocks,iq,a3.kn⟩⟩;rw[a3.kids];constructor
   ·rintro⟨j,h2⟩;refine⟨j,vY.2 ⟨λU=>?_,h2⟩⟩;subst U;rw[hp]at h2;simp only[Option.some.injEq,Prod.mk.injEq]at h2;obtain⟨rfl,e2⟩:=h2;obtain⟨rfl,_⟩:=Yn e2;exact hzq (h.inj _ _ _ sR hq)
   · rintro⟨j,h2⟩;exact⟨j,(vY.1 h2).2⟩
 ·intro a b l ha hb;exact h.inj _ _ _ (vY.1 ha).2 (vY.1 hb).2
 ·intro r' R' cz;refine vY.2 ⟨λe=>?_,h.root r' R' cz⟩;have:=h.root r' R' cz;rw[e,hp]at this;simp at this
 ·intro n' Jy;obtain⟨_,_,_,_,_,_,_,_,_,n,_,js⟩:=h.net;exact F' (Jy.mono' js λy l hy=>(vY.1 hy).2) (h.le n js)
end
end
section
open Go Go.RowKit Classical
def YV (loc bg:Loc)(r:Nat)(π:List Int):Prop:=∀y l,bg y=some l↔loc y=some l/\¬∃U,U≠[]/\l=(r,π++U)
def Kc (loc U:Loc)(r:Nat)(π:List Int):Prop:=∀y l,U y=some l↔loc y=some l/\¬∃τ,l=(r,π++τ)
def Frame (s s':Qc)(R:gp)(n:Nat):Prop:=∀(k:Nat)(sc:gh),k<n->R.steps[k]? =some sc->s' sc.st.adr=s sc.st.adr
theorem vz {s:Qc} {a:Nat} {o:PO} (h:s a=some o):cu s a o=s:=by
 funext c;unfold cu;split;· rename_i e;rw[e,h]
 · rfl
section
variable {S:gO} {I:fg->Prop} {C:ic} {T:cg} {Ta:Nat->cg} {B:Nat->List Int->cg×cg} {Zo:Nat->Prop} {cq:Option Nat} {loc:Loc} {s:Qc} {D:List Int}
variable {N p a:Nat}{Q:Qc->Prop}{x:x8}
theorem BF (h:s a=some (.join x))(hk:∀y,y=p\/y∈x.parts.keys->s y≠none)(U:Q (cu s a (.join {x with parts:=x.parts.del p}))):Zy N a p s Q:=
 Qk (U8 h) (iE hk (nG U))
theorem BG (h:s a=some (.nt x))(hk:∀y,y=p\/y∈x.parts.keys->s y≠none)(U:Q (cu s a (.nt {x with parts:=x.parts.del p}))):Zh N a p s Q:=
 Qk (O3 h) (iE hk (nG U))
theorem Le {x:mf} (h:s a=some (.test x))(hk:∀y,y=p\/y∈x.parts.keys->s y≠none)(U:Q (cu s a (.test {x with parts:=x.parts.del p}))):Zj N a p s Q:=
 Qk (uk h) (iE hk (nG U))
theorem Inv.pre (h:Inv S C T Ta B Zo cq loc s) {r:Nat} {π:List Int}:∀(n:Nat)(U:List Int)(y:Nat),U.length=n->loc y=some (r,π++U)->∃z,loc z=some (r,π)
 | 0,U,y,hn,hy=>by
   have:U=[]:=P' hn;subst this;exact⟨y,by simpa using hy⟩
 | n+1,U,y,hn,hy=>by
   rcases List.eq_nil_or_concat U with rfl|⟨τ',j,rfl⟩
   · cases hn
   ·rw[List.concat_eq_append]at hy hn;obtain⟨R,x,_,_,h4⟩:=h.part _ _ _ hy;obtain⟨_,q,_,h5⟩:=h4.up (π++τ') j ax;exact h.pre n τ' q (cx hn) h5
def TC (S:gO)(C:ic)(T:cg)(Ta:Nat->cg)(B:Nat->List Int->cg×cg)(Zo:Nat->Prop)(M:Nat)(rc:Nat->Nat->Qc->WM Qc)(r:Nat)(R:gp)(k:Nat):Prop:=
 ∀(loc:Loc) (s:Qc) (p:Nat) (π:List Int) (Q:Qc->Prop),Inv S C T Ta B Zo none loc s->(∀n,jl loc n->n<=M)->loc p=some (r,π)->π.length=k->(∀U s',Inv S C T Ta B Zo none U s'->YV loc U r π->Frame s s' R (k+1)->Q s')->rc R.b p s Q
theorem Nr {M r:Nat} {R:gp} {ρ:List Int} {i:Int} {rc:Nat->Nat->Qc->WM Qc} (hW:pS C) (hr:C.rows[r]? =some R) (hN:R.steps.length<N) (PE:R.steps.length<9223372036854775807) (hM:M<9223372036854775807) (W3:TC S C T Ta B Zo M rc r R (ρ++[i]).length) (hZ:∀(k:Nat) (sc:gh),R.steps[k]? =some sc->¬Zo sc.st.adr)
  (h:Inv S C T Ta B Zo none loc s) (hc:∀n,jl loc n->n<=M) (hp:loc p=some (r,ρ++[i])) (hQ:∀bg s',Inv S C T Ta B Zo none bg s'->Kc loc bg r (ρ++[i])->Frame s s' R (ρ++[i]).length->Q s'):Zu N rc R.b p s Q:=by
 refine QZ ?_;refine W3 loc s p (ρ++[i]) _ h hc hp rfl λff s2 h2 Yy gj=>?_;have jg:ff p=some (r,ρ++[i]):=(Yy p _).2 ⟨hp,λ⟨τ,h1,h3⟩=>by have h4:=congrArg (λz:Nat×List Int=>z.2.length) h3;have:=Q'.2 h1;simp only[t']at h4;omega⟩;have ou:∀z j,ff z≠some (r,ρ++[i]++[j]):=λz j hz=>((Yy z _).1 hz).2 ⟨[j],ax,rfl⟩;obtain⟨y,y1,y2,y3,y4,y5,y6,y7⟩:=h2.gRow hr;obtain⟨xn,g1,g2,_,_,_,_,_,_,_,n,g3,g4⟩:=h2.gNet
 have hnM:n<=M:=by
  obtain⟨m,hm⟩:=h.cnt;exact F' (g4.mono hm λy l hy=>((Yy y l).1 hy).1) (hc m hm)
 obtain⟨R',xp,c1,c2,c3,c4⟩:=h2.gPart jg;rw[hr]at c1;cases c1;obtain⟨_,q,c5,hq⟩:=c4.up ρ i rfl;obtain⟨R',xq,d1,d2,d3,d4⟩:=h2.gPart hq;rw[hr]at d1;cases d1;have hpg:p≠C.g:=λe=>by rw[e,g2]at c3;cases c3
 have hqg:q≠C.g:=λe=>by rw[e,g2]at d3;cases d3
 have hRg:R.b≠C.g:=λe=>by rw[e,g2]at y2;cases y2
 have hRq:R.b≠q:=λe=>by rw[e,d3]at y2;cases y2
 have hRp:R.b≠p:=λe=>by rw[e,c3]at y2;cases y2
 have hqp:q≠p:=λe=>by
  rw[e,jg]at hq;simp only[Option.some.injEq,Prod.mk.injEq,true_and]at hq;have:=congrArg List.length hq;simp at this
 refine Qk y1 ?_;rw[y3];refine Qk g1 ?_;refine iE an ?_;refine nG ?_;refine Qk (a:=xp) (by rw[sL hpg];exact c2) ?_;refine Qk c5 ?_;refine Qk (a:=xq) (by rw[sL hqg];exact d2) ?_
 have live:∀z l,ff z=some l->s2 z≠none:=λz l hz=>by
  obtain⟨_,x,_,e2,_⟩:=h2.part z l.1 l.2 hz;rw[e2];simp
 have Tv:∀(σ:Qc) (b:Nat) (o:PO) (z:Nat),σ z≠none->cu σ b o z≠none:=λσ b o z hz=>by
  unfold cu;split;· simp
  · exact hz
 refine iE (λz hz=>Tv _ _ _ _ ?_) ?_
 ·rcases hz with rfl|hz;· exact live _ _ jg
  · obtain⟨j,hj⟩:=(d4.kids z).1 hz;exact live _ _ hj
 refine nG ?_;refine Qk (a:=y) (by rw[zB hRq,zB hRg];exact y1) ?_;refine iE (λz hz=>Tv _ _ _ _ (Tv _ _ _ _ ?_)) ?_
 ·rcases hz with rfl|hz;· exact live _ _ jg
  · obtain⟨⟨π,hj,_⟩,_⟩:=(y7 z).1 hz;exact live _ _ hj
 refine nG ?_;generalize hs5:cu (cu (cu s2 C.g (.net {xn with parts:=xn.parts-1})) q (.part {xq with kids:=xq.kids.del p})) R.b (.row {y with whole:=y.whole.del p})=s5;have s5g:s5 C.g=some (.net {xn with parts:=xn.parts-1}):=by rw[<-hs5,QG (Ne.symm hRg),QG (Ne.symm hqg),kf]
 have s5q:s5 q=some (.part {xq with kids:=xq.kids.del p}):=by rw[<-hs5,QG (Ne.symm hRq),kf]
 have s5R:s5 R.b=some (.row {y with whole:=y.whole.del p}):=by rw[<-hs5,kf]
 have s5o:∀b,b≠C.g->b≠q->b≠R.b->s5 b=s2 b:=λb e1 e2 e3=>by rw[<-hs5,QG e3,QG e2,QG e1]
 have s5n:∀z,s2 z≠none->s5 z≠none:=λz hz=>by rw[<-hs5];exact Tv _ _ _ _ (Tv _ _ _ _ (Tv _ _ _ _ hz))
 have MI:∀b o,s2 b=some o->(∀z,o≠.net z)->(∀z,o≠.part z)->(∀z,o≠.row z)->s5 b=some o:=λb o hb e1 e2 e3=>by
  rw[s5o b (λe=>by rw[e,g2]at hb;cases hb;exact e1 _ rfl) (λe=>by rw[e,d3]at hb;cases hb;exact e2 _ rfl) (λe=>by rw[e,y2]at hb;cases hb;exact e3 _ rfl)];exact hb
 obtain ⟨s6,a2O,JA⟩:∃s6:Qc,(∀z,s5 z≠none->s6 z≠none)/\((R.steps[(ρ++[i]).length]? =none/\s6=s5)\/∃sc,R.steps[(ρ++[i]).length]? =some sc/\((∃a x,sc.st=.join a/\s5 a=some (.join x)/\s6=cu s5 a (.join {x with parts:=x.parts.del p}))\/(∃a x,sc.st=.nt a/\s5 a=some (.nt x)/\s6=cu s5 a (.nt {x with parts:=x.parts.del p}))\/∃a,sc.st=.test a/\s6=s5)):=by
  cases fj:R.steps[(ρ++[i]).length]? with
  |none=>exact⟨s5,λ_ h=>h,.inl ⟨rfl,rfl⟩⟩
  | some sc=>
    have h1:=h2.step r R _ sc hr fj (hZ _ sc fj);unfold ju at h1;cases U:sc.st with
    | join a=>
      rw[U]at h1;obtain⟨x,e1,_⟩:=h1;exact⟨_,λz hz=>Tv _ _ _ _ hz,.inr ⟨sc,rfl,.inl ⟨a,x,U,MI _ _ e1 (λ_ e=>by cases e) (λ_ e=>by cases e) (λ_ e=>by cases e),rfl⟩⟩⟩
    | nt a=>
      rw[U]at h1;obtain⟨x,e1,_⟩:=h1;exact⟨_,λz hz=>Tv _ _ _ _ hz,.inr ⟨sc,rfl,.inr (.inl ⟨a,x,U,MI _ _ e1 (λ_ e=>by cases e) (λ_ e=>by cases e) (λ_ e=>by cases e),rfl⟩)⟩⟩
    |test a=>exact⟨s5,λ_ h=>h,.inr ⟨sc,rfl,.inr (.inr ⟨a,U,rfl⟩)⟩⟩
 have s6k:∀b o,s5 b=some o->(∀z,o≠.join z)->(∀z,o≠.nt z)->s6 b=some o:=λb o hb e1 e2=>by
  rcases JA with⟨_,rfl⟩|⟨sc,_,⟨a,x,_,hx,rfl⟩|⟨a,x,_,hx,rfl⟩|⟨a,_,rfl⟩⟩
  · exact hb
  · rw[QG (λe=>by rw[e,hx]at hb;cases hb;exact e1 _ rfl)];exact hb
  · rw[QG (λe=>by rw[e,hx]at hb;cases hb;exact e2 _ rfl)];exact hb
  · exact hb
 have a0S:Inv S C T Ta B Zo none (K4 ff p) s6:=by
  refine h2.kill hW hr jg hq ou g2 d3 y2 (s6k _ _ s5g (λ_ e=>by cases e) (λ_ e=>by cases e)) (s6k _ _ s5q (λ_ e=>by cases e) (λ_ e=>by cases e)) (s6k _ _ s5R (λ_ e=>by cases e) (λ_ e=>by cases e)) (λsc fj hz=>?_) (λb e1 e2 e3 e4=>?_)
  · have h1:=h2.step r R _ sc hr fj hz;rcases JA with⟨h0,_⟩|⟨di,gQ,hh⟩
    · rw[h0]at fj;cases fj
    · rw[gQ]at fj;cases fj;rcases hh with⟨a,x,U,hx,rfl⟩|⟨a,x,U,hx,rfl⟩|⟨a,U,rfl⟩
      ·unfold ju at h1⊢;rw[U]at h1⊢;obtain⟨x',f1,f2,f3,f4,f5,f6⟩:=h1;have:=MI _ _ f1 (λ_ e=>by cases e) (λ_ e=>by cases e) (λ_ e=>by cases e);have nJ:s5 (bz.join a).adr=some (.join x):=hx;rw[nJ]at this;cases this;exact⟨_,kf _ _ _,f2,f3,f4,f5,f6.del⟩
      ·unfold ju at h1⊢;rw[U]at h1⊢;obtain⟨x',f1,f2,f3,f4,f5,f6⟩:=h1;have:=MI _ _ f1 (λ_ e=>by cases e) (λ_ e=>by cases e) (λ_ e=>by cases e);have nJ:s5 (bz.nt a).adr=some (.nt x):=hx;rw[nJ]at this;cases this;exact⟨_,kf _ _ _,f2,f3,f4,f5,f6.del⟩
      ·unfold ju at h1⊢;rw[U]at h1⊢;obtain⟨x',f1,f2⟩:=h1;exact⟨x',MI _ _ f1 (λ_ e=>by cases e) (λ_ e=>by cases e) (λ_ e=>by cases e),f2⟩
  · rw[<-s5o b e1 e2 e3];rcases JA with⟨_,rfl⟩|⟨sc,fj,⟨a,x,U,hx,rfl⟩|⟨a,x,U,hx,rfl⟩|⟨a,_,rfl⟩⟩
    · rfl
    · refine QG λe=>?_;have:=(e4 sc fj (by rw[e,U];rfl)).1 x;rw[<-s5o b e1 e2 e3,e]at this;exact this hx
    · refine QG λe=>?_;have:=(e4 sc fj (by rw[e,U];rfl)).2.1 x;rw[<-s5o b e1 e2 e3,e]at this;exact this hx
    · rfl
 have hU:Kc loc (K4 ff p) r (ρ++[i]):=λz l=>by
  rw[vY,Yy];constructor
  · rintro⟨e1,e2,e3⟩;refine⟨e2,λ⟨τ,e4⟩=>?_⟩;by_cases iG:τ=[]
    · subst iG;rw[List.append_nil]at e4;rw[e4]at e2;exact e1 (h.inj _ _ _ e2 hp)
    · exact e3 ⟨τ,iG,e4⟩
  · rintro⟨e2,e3⟩;refine⟨λe=>?_,e2,λ⟨τ,_,e4⟩=>e3 ⟨τ,e4⟩⟩;rw[e,hp]at e2;cases e2;exact e3 ⟨[],ax⟩
 have Tg:y.steps.length=R.steps.length:=by rw[y4];simp
 have W7:Frame s s6 R (ρ++[i]).length:=λk' di ec gQ=>by
  rw[<-gj k' di an gQ];have h1:=h2.step r R k' di hr gQ (hZ _ _ gQ)
  have h5:s5 di.st.adr=s2 di.st.adr:=by
    unfold ju at h1;split at h1;· obtain⟨x,f1,_⟩:=h1;rw[f1];exact MI _ _ f1 (λ_ e=>by cases e) (λ_ e=>by cases e) (λ_ e=>by cases e)
    · obtain⟨x,f1,_⟩:=h1;rw[f1];exact MI _ _ f1 (λ_ e=>by cases e) (λ_ e=>by cases e) (λ_ e=>by cases e)
    · obtain⟨x,f1,_⟩:=h1;rw[f1];exact MI _ _ f1 (λ_ e=>by cases e) (λ_ e=>by cases e) (λ_ e=>by cases e)
  rw[<-h5]
  have de:∀sc,R.steps[(ρ++[i]).length]? =some sc->di.st.adr≠sc.st.adr:=λsc fj e=>by
    have:=(hW.steps r r R R _ _ di sc hr hr gQ fj e).2;omega
  rcases JA with⟨_,rfl⟩|⟨sc,fj,⟨a,x,U,hx,rfl⟩|⟨a,x,U,hx,rfl⟩|⟨a,_,rfl⟩⟩
  · rfl
  · exact QG λe=>de sc fj (by rw[e,U];rfl)
  · exact QG λe=>de sc fj (by rw[e,U];rfl)
  · rfl
 have both:∀(σ:Qc) (u:Nat),σ=(if(ρ++[i]).length<u then s6 else s5)->(∀z,s5 z≠none->σ z≠none)/\∀b o,s5 b=some o->(∀z,o≠.join z)->(∀z,o≠.nt z)->σ b=some o:=λσ u e=>by
  split at e;· subst e;exact⟨a2O,s6k⟩
  · subst e;exact⟨λ_ h=>h,λ_ _ h _ _=>h⟩
 refine yX (λ(u,σ)=>u<=R.steps.length/\σ=if(ρ++[i]).length<u then s6 else s5) (λ(u,_)=>R.steps.length-u) ?_ N (0,s5) ⟨I' _,by rw[if_neg an]⟩ (by show R.steps.length-0<N;omega);rintro⟨u,σ⟩ ag ⟨hu,Ff⟩ gH;dsimp only at hu Ff gH⊢;obtain⟨bn,bk⟩:=both σ u Ff;refine jA (λhb=>?_) (λhb=>?_)
 ·have bp:u<R.steps.length:=by have:=of_decide_eq_true hb;rwa [Tg]at this
  obtain⟨sc,fj⟩:∃sc,R.steps[u]? =some sc:=⟨_,m' bp⟩
  refine kW ?_;refine Qk (sM (bk _ _ s5R (λ_ e=>by cases e) (λ_ e=>by cases e))) ?_;refine iE ⟨rfl,rfl,rfl⟩ ?_;refine Qk (a:=sc.st) (by show y.steps[u]? =_;rw[y4,U',fj];rfl) ?_;have h1:=h2.step r R u sc hr fj (hZ u sc fj)
  have lv:∀(m:MS Nat Bool),LK none ff r u m->∀z,z=p\/z∈m.keys->σ z≠none:=λm hm z hz=>by
    refine bn z (s5n z ?_);rcases hz with rfl|hz;· exact live _ _ jg
    · obtain⟨⟨π,hj,_⟩,_⟩:=(hm z).1 hz;exact live _ _ hj
  have next:u≠(ρ++[i]).length->(∀s',s'=σ->gv (u+1<=9223372036854775807) (ag (u+1,s')) Q):=λde s' e=>by
    refine iE an (gH (u+1,s') ⟨an,?_⟩ an);rw[e,Ff];by_cases hh:(ρ++[i]).length<u;· rw[if_pos hh,if_pos an]
    · rw[if_neg hh,if_neg an]
  have last:u=(ρ++[i]).length->gv (u+1<=9223372036854775807) (ag (u+1,s6)) Q:=λhe=>
    iE an (gH (u+1,s6) ⟨an,by rw[if_pos an]⟩ an)
  unfold ju at h1;cases U:sc.st with
  | join a=>
    rw[U]at h1;obtain⟨x,f1,f2,f3,f4,f5,f6⟩:=h1;have f1':s2 a=some (.join x):=f1;have g5:=MI _ _ f1' (λ_ e=>by cases e) (λ_ e=>by cases e) (λ_ e=>by cases e);refine lD (QZ ?_);by_cases he:u=(ρ++[i]).length
    · have Fg:σ=s5:=by rw[Ff,if_neg an]
      refine BF (x:=x) (by rw[Fg];exact g5) (lv _ f6) ?_;rw[Fg]
      have:cu s5 a (.join {x with parts:=x.parts.del p})=s6:=by
       rcases JA with⟨h0,_⟩|⟨di,gQ,⟨a',x',q1,q2,q3⟩|⟨a',x',q1,q2,q3⟩|⟨a',q1,q3⟩⟩
       · rw[<-he,fj]at h0;cases h0
       ·rw[<-he,fj]at gQ;cases gQ;rw[U]at q1;cases q1;rw[g5]at q2;cases q2;exact q3.symm
       ·rw[<-he,fj]at gQ;cases gQ;rw[U]at q1;cases q1
       ·rw[<-he,fj]at gQ;cases gQ;rw[U]at q1;cases q1
      rw[this];exact last he
    · obtain⟨_,hnk⟩:=f6.del' jg (λ_ e=>he e.symm)
      have mS:σ a=some (.join x):=by
       rw[Ff];split
       ·rcases JA with⟨_,rfl⟩|⟨di,gQ,⟨a',x',q1,q2,rfl⟩|⟨a',x',q1,q2,rfl⟩|⟨a',q1,rfl⟩⟩
        · exact g5
        · rw[QG (λe=>he (hW.steps r r R R _ _ sc di hr hr fj gQ (by rw[U,q1,<-e])).2)];exact g5
        · rw[QG (λe=>he (hW.steps r r R R _ _ sc di hr hr fj gQ (by rw[U,q1,<-e];rfl)).2)];exact g5
        · exact g5
       · exact g5
      refine BF (x:=x) mS (lv _ f6) ?_;rw[MS.del_none hnk];exact next he _ (vz mS)
  | nt a=>
    rw[U]at h1;obtain⟨x,f1,f2,f3,f4,f5,f6⟩:=h1;have f1':s2 a=some (.nt x):=f1;have g5:=MI _ _ f1' (λ_ e=>by cases e) (λ_ e=>by cases e) (λ_ e=>by cases e);refine lE (QZ ?_);by_cases he:u=(ρ++[i]).length
    · have Fg:σ=s5:=by rw[Ff,if_neg an]
      refine BG (x:=x) (by rw[Fg];exact g5) (lv _ f6) ?_;rw[Fg]
      have:cu s5 a (.nt {x with parts:=x.parts.del p})=s6:=by
       rcases JA with⟨h0,_⟩|⟨di,gQ,⟨a',x',q1,q2,q3⟩|⟨a',x',q1,q2,q3⟩|⟨a',q1,q3⟩⟩
       · rw[<-he,fj]at h0;cases h0
       ·rw[<-he,fj]at gQ;cases gQ;rw[U]at q1;cases q1
       ·rw[<-he,fj]at gQ;cases gQ;rw[U]at q1;cases q1;rw[g5]at q2;cases q2;exact q3.symm
       ·rw[<-he,fj]at gQ;cases gQ;rw[U]at q1;cases q1
      rw[this];exact last he
    · obtain⟨_,hnk⟩:=f6.del' jg (λ_ e=>he e.symm)
      have mS:σ a=some (.nt x):=by
       rw[Ff];split
       ·rcases JA with⟨_,rfl⟩|⟨di,gQ,⟨a',x',q1,q2,rfl⟩|⟨a',x',q1,q2,rfl⟩|⟨a',q1,rfl⟩⟩
        · exact g5
        · rw[QG (λe=>he (hW.steps r r R R _ _ sc di hr hr fj gQ (by rw[U,q1,<-e];rfl)).2)];exact g5
        · rw[QG (λe=>he (hW.steps r r R R _ _ sc di hr hr fj gQ (by rw[U,q1,<-e])).2)];exact g5
        · exact g5
       · exact g5
      refine BG (x:=x) mS (lv _ f6) ?_;rw[MS.del_none hnk];exact next he _ (vz mS)
  | test a=>
    rw[U]at h1;obtain⟨x,f1,f2,f3,f4,f5⟩:=h1;have f1':s2 a=some (.test x):=f1;have g5:=MI _ _ f1' (λ_ e=>by cases e) (λ_ e=>by cases e) (λ_ e=>by cases e);have mS:=bk _ _ g5 (λ_ e=>by cases e) (λ_ e=>by cases e);refine lF (QZ ?_);refine Le (x:=x) mS (λz hz=>?_) ?_
    · rcases hz with rfl|hz;· exact bn _ (s5n _ (live _ _ jg))
      · exact absurd hz (f5 z)
    · rw[MS.del_none (f5 p),vz mS];by_cases he:u=(ρ++[i]).length
      ·have Fg:σ=s6:=by
        rw[Ff,if_neg an];rcases JA with⟨_,rfl⟩|⟨di,gQ,⟨a',x',q1,q2,q3⟩|⟨a',x',q1,q2,q3⟩|⟨a',q1,q3⟩⟩
        · rfl
        ·rw[<-he,fj]at gQ;cases gQ;rw[U]at q1;cases q1
        ·rw[<-he,fj]at gQ;cases gQ;rw[U]at q1;cases q1
        · exact q3.symm
       rw[Fg];exact last he
      · exact next he _ rfl
 ·have ri:¬u<R.steps.length:=by have:=of_decide_eq_false hb;rwa [Tg]at this
  have:σ=s6:=by
    rw[Ff];split;· rfl
    · rename_i hh;rcases JA with⟨_,rfl⟩|⟨di,gQ,_⟩
      · rfl
      ·have:=(c'.1 gQ).1;omega
  rw[this];exact hQ _ _ a0S hU W7
end
end
section
open Go Go.RowKit Classical
section
variable {S:gO} {I:fg->Prop} {C:ic} {T:cg} {Ta:Nat->cg} {B:Nat->List Int->cg×cg} {Zo:Nat->Prop} {cq:Option Nat} {loc:Loc} {s:Qc} {D:List Int}
theorem Kv {M r:Nat} {R:gp} (hW:pS C)(hr:C.rows[r]? =some R)(PE:R.steps.length<9223372036854775807)(hM:M<4398046511104)(hZ:∀(k:Nat)(sc:gh),R.steps[k]? =some sc->¬Zo sc.st.adr):
   ∀(d k:Nat),k+d=R.steps.length->∀N,M+R.steps.length+d+1<N->TC S C T Ta B Zo M (NQ N) r R k
 |d,k,hd,0,hN=>an
 | d,k,hd,N+1,hN=>by
   intro loc s p π Q h hc hp kK hQ;show Q6S N (NQ N) R.b p s Q;obtain⟨R',x,r1,r2,r3,r4⟩:=h.gPart hp;rw[hr]at r1;cases r1;obtain⟨n,L,l1,l2,l3⟩:=h.cnt;have hn:=hc n ⟨L,l1,l2,l3⟩
   have ly:∀ks:List Nat,ks.Nodup->(∀w∈ks,w∈x.kids.keys)->ks.length<=M:=λks h1 h2=>by
    have:=JV (l:=L) h1 λw hw=>by
     obtain⟨i,hi⟩:=(r4.kids w).1 (h2 w hw);exact(l2 w).2 ⟨r,_,hi,ax⟩
    omega
   refine Qk r2 ?_;refine QZ ⟨F' (ly _ r4.kn λ_ h=>h) an,λks LF=>?_⟩;have a2F:=ly ks LF.1 λw hw=>(LF.2 w).1 hw;have HQ:∀w∈ks,∃i,loc w=some (r,π++[i]):=λw hw=>(r4.kids w).1 ((LF.2 w).1 hw);refine yX (λ(u,σ)=>u<=ks.length/\∃bg,Inv S C T Ta B Zo none bg σ/\Frame s σ R (k+1)/\∀y l,bg y=some l↔loc y=some l/\¬∃w∈ks.take u,∃i,loc w=some (r,π++[i])/\∃U,l=(r,π++[i]++U)) (λ(u,_)=>ks.length-u) ?_ N (0,s) ⟨I' _,loc,h,λ_ _ _ _=>rfl,λy l=>⟨λhy=>⟨hy,λ⟨w,hw,_⟩=>by cases hw⟩,λhy=>hy.1⟩⟩ (by show ks.length-0<N;omega);rintro⟨u,σ⟩ ag ⟨hu,dc,kJ,a0O,kr⟩ gH;dsimp only at hu gH⊢;refine jA (λhb=>?_) (λhb=>?_)
   ·have bp:u<ks.length:=of_decide_eq_true hb;obtain⟨w,hw⟩:∃w,ks[u]? =some w:=⟨_,m' bp⟩
    obtain⟨i,Oo⟩:=HQ w (A' hw);have hU:ks.take (u+1)=ks.take u++[w]:=by rw[N',hw];rfl
    have ux:w∉ks.take u:=λhm=>by
     have h2:(ks.take (u+1)).Nodup:=List.Nodup.sublist (T' _ _) LF.1;rw[hU]at h2;exact(C'.1 h2).2.2 _ hm _ ax rfl
    have hw1:dc w=some (r,π++[i]):=(kr w _).2 ⟨Oo,λ⟨w',jY,j,hj,U,e⟩=>by
     simp only[Prod.mk.injEq,true_and,H',J',K',L',List.cons.injEq]at e;rw[<-e.1]at hj;exact ux (by rw[h.inj _ _ _ Oo hj];exact jY)⟩
    have hkn:k<R.steps.length:=by
     obtain⟨R',x',q1,q2,q3⟩:=h.part _ _ _ Oo;rw[hr]at q1;cases q1;have:=nZ q3.env;simp only[t',g',D']at this;omega
    obtain⟨d',rfl⟩:∃d',d=d'+1:=⟨d-1,an⟩
    refine Qk hw ?_;refine QZ ?_;have ih:=Kv hW hr PE hM hZ d' (k+1) an N an;refine Nr hW hr an PE an (by rw[show(π++[i]).length=k+1 from by simp[kK]];exact ih) hZ kJ (λm hm=>F' (hm.mono ⟨L,l1,l2,l3⟩ λy l hy=>((kr y l).1 hy).1) hn) hw1 λff s2 kF ht2 BO=>?_;refine iE an (gH (u+1,s2) ⟨an,ff,kF,λk' di e1 e2=>(BO k' di (by simp[kK];omega) e2).trans (a0O k' di e1 e2),λy l=>?_⟩ an);rw[ht2,kr,hU];constructor
    ·rintro⟨⟨e1,e2⟩,e3⟩;refine⟨e1,λ⟨w',jY,j,hj,U,e⟩=>?_⟩;rcases j'.1 jY with jY|jY;· exact e2 ⟨w',jY,j,hj,U,e⟩
     · rw[f'.1 jY,Oo]at hj;simp only[Option.some.injEq,Prod.mk.injEq,true_and]at hj;obtain⟨_,rfl⟩:=Yn hj;exact e3 ⟨U,e⟩
    ·rintro⟨e1,e2⟩;exact⟨⟨e1,λ⟨w',jY,hh⟩=>e2 ⟨w',u' _ jY,hh⟩⟩,λ⟨U,e⟩=>e2 ⟨w,List.mem_append_right _ ax,i,Oo,U,e⟩⟩
   ·have ri:¬u<ks.length:=of_decide_eq_false hb;have YG:ks.take u=ks:=E' an;rw[YG]at kr;refine hQ dc σ kJ (λy l=>?_) a0O;rw[kr];constructor
    ·rintro⟨e1,e2⟩;refine⟨e1,λ⟨U,iG,e⟩=>?_⟩;cases U with
     |nil=>exact iG rfl
     | cons i U=>
       rw[e]at e1;have e1':loc y=some (r,π++[i]++U):=by rw[e1];simp
       obtain⟨w,hw⟩:=h.pre U.length U y rfl e1';have hwk:w∈ks:=(LF.2 w).2 ((r4.kids w).2 ⟨i,hw⟩);exact e2 ⟨w,hwk,i,hw,U,by rw[e];simp⟩
    ·rintro⟨e1,e2⟩;exact⟨e1,λ⟨w,_,i,_,U,e⟩=>e2 ⟨i::U,ax,by rw[e];simp⟩⟩
end
end
section
open Go Go.RowKit Classical
def Shape (C:ic)(s:Qc):Prop:=(∃x,gNet s C.g=some x/\x.rows=C.rows.map (·.b)/\x.rowsP=C.rP/\x.rowsC=C.rC)/\∀(r:Nat)(R:gp),C.rows[r]? =some R->∃y,gRow s R.b=some y/\y.steps=R.steps.map (·.st)/\y.stepsP=R.sP/\y.stepsC=R.sC
theorem Inv.shape {S:gO} {C:ic} {T:cg} {Ta:Nat->cg} {B:Nat->List Int->cg×cg} {Zo:Nat->Prop} {cq:Option Nat} {loc:Loc} {s:Qc} (h:Inv S C T Ta B Zo cq loc s):Shape C s:=by
 refine⟨?_,λr R hr=>?_⟩
 ·obtain⟨x,h1,_,_,U,h3,h4,_⟩:=h.gNet;exact⟨x,h1,U,h3,h4⟩
 ·obtain⟨y,h1,_,_,U,h3,h4,_⟩:=h.gRow hr;exact⟨y,h1,U,h3,h4⟩
section
variable {C:ic} {K:bz->Qc->WM Qc} {E:Nat->Qc->Prop} {J:Nat->Nat->Qc->Prop}
theorem Hd {r:Nat} {R:gp} {y:nQ} (hr:C.rows[r]? =some R)(hy:y.steps=R.steps.map (·.st)/\y.stepsP=R.sP/\y.stepsC=R.sC)(hJ:∀m s,J r m s->Shape C s)
   (step:∀m sc s Q,J r (m+1) s->R.steps[m]? =some sc->(∀s',J r m s'->Q s')->K sc.st s Q):∀(m:Nat) (s:Qc) (Q:Qc->Prop),m<=R.steps.length->J r m s->(∀s',J r 0 s'->Q s')->vh K R.b y m s Q
 |0,s,Q,_,h,U=>U s h
 | m+1,s,Q,hm,h,U=>by
   obtain⟨sc,fj⟩:∃sc,R.steps[m]? =some sc:=⟨_,m' an⟩
   obtain⟨y',h1,h2,h3,h4⟩:=(hJ _ _ h).2 r R hr;refine Qk h1 ?_;refine iE ⟨by rw[h3,hy.2.1],by rw[h2,hy.1],by rw[h4,hy.2.2]⟩ ?_;refine Qk (a:=sc.st) (by rw[hy.1,U',fj];rfl) ?_;refine QZ ?_;exact step m sc s _ h fj λs' GM=>Hd hr hy hJ step m s' Q an GM U
theorem zA {s:Qc} {Q:Qc->Prop} (hlen:C.rows.length<=9223372036854775806)(hsl:∀R∈C.rows,R.steps.length<=9223372036854775807)(hE:∀r s,E r s->Shape C s)(hJ:∀r m s,J r m s->Shape C s)
  (enter:∀r R s,C.rows[r]? =some R->E r s->J r R.steps.length s)
  (step:∀r R m sc s Q,C.rows[r]? =some R->J r (m+1) s->R.steps[m]? =some sc->(∀s',J r m s'->Q s')->K sc.st s Q)
  (leave:∀r s,J r 0 s->E (r+1) s) (h:E 0 s) (hQ:∀s',E C.rows.length s'->Q s'):Gk K C.g s Q:=by
 obtain⟨x,h1,h2,h3,h4⟩:=(hE _ _ h).1;refine Qk h1 ?_;refine iE (by rw[h2];simpa using hlen) ?_
 have key:∀(l:List gp) (r:Nat) (s:Qc),C.rows.drop r=l->r+l.length=C.rows.length->E r s->H9 K C.g x (l.map (·.b)) s Q:=by
  intro l;induction l with
  | nil=>
    intro r s hl YF he;exact hQ s (by rw[<-YF];exact he)
  | cons R l ih=>
    intro r s hl YF he
    have U:C.rows[r]? =some R:=by
     have:=congrArg (·[0]?) hl;simpa using this
    have zG:C.rows.drop (r+1)=l:=by rw[<-List.drop_drop,hl];rfl
    obtain⟨x',q1,q2,q3,q4⟩:=(hE _ _ he).1;obtain⟨y,p1,p2,p3,p4⟩:=(hE _ _ he).2 r R U;refine Qk q1 ?_;refine iE ⟨by rw[q3,h3],by rw[q2,h2],by rw[q4,h4]⟩ ?_;refine Qk p1 ?_;have Tg:y.steps.length=R.steps.length:=by rw[p2];simp
    refine iE (by rw[Tg];exact hsl R (A' U)) ?_;refine QZ ?_;rw[Tg];exact Hd U ⟨p2,p3,p4⟩ (hJ r) (λm sc s Q=>step r R m sc s Q U) _ s _ (O' _) (enter r R s U he) λs' GM=>ih (r+1) s' zG (by simp only[g']at YF;omega) (leave r s' GM)
 rw[h2];exact key C.rows 0 s rfl an h
end
end
section
open Go Go.RowKit Classical
section
variable {S:gO} {I:fg->Prop} {C:ic} {T:cg} {Ta:Nat->cg} {B:Nat->List Int->cg×cg} {Zo:Nat->Prop} {cq:Option Nat} {loc:Loc} {s:Qc} {D:List Int}
theorem Inv.parts_list (h:Inv S C T Ta B Zo cq loc s) {r M:Nat} {R:gp} (hr:C.rows[r]? =some R)(hc:∀n,jl loc n->n<=M):∃L:List Nat,L.length<=M+1/\∀y π,loc y=some (r,π)->y∈L:=by
 obtain⟨n,L,l1,l2,l3⟩:=h.cnt;refine⟨R.root::L,by simp only[g'];have:=hc n ⟨L,l1,l2,l3⟩;omega,λy π hy=>?_⟩;by_cases U:π=[]
 ·subst U;rw[h.inj _ _ _ hy (h.root r R hr)];simp
 · exact List.mem_cons_of_mem _ ((l2 y).2 ⟨r,π,hy,U⟩)
theorem CR {π:List Int} {k:Nat} {id:Int} (h:π[k]? =some id):π=π.take k++[id]++π.drop (k+1)/\(π.take k).length=k:=by
 have U:=(c'.1 h).1;refine⟨?_,by simp;omega⟩;have h1:π.drop k=id::π.drop (k+1):=Sp h
 calc π=π.take k++π.drop k:=(List.take_append_drop k π).symm
  _=_:=by rw[h1];simp
theorem Cj {N M r k a:Nat} {R:gp} {sc:gh} {id:Int} {Q:Qc->Prop} (hW:pS C) (hr:C.rows[r]? =some R) (hk:R.steps[k]? =some sc) (ca:sc.st=.join a) (PE:R.steps.length<9223372036854775807) (hM:M<4398046511103) (hN:M+R.steps.length+R.steps.length+2<N) (hZ:∀(k:Nat) (sc:gh),R.steps[k]? =some sc->¬Zo sc.st.adr)
    (h:Inv S C T Ta B Zo none loc s) (hc:∀n,jl loc n->n<=M) (hQ:∀bg s',Inv S C T Ta B Zo none bg s'->(∀y l,bg y=some l↔loc y=some l/\¬(l.1=r/\l.2[k]? =some id))->Q s'):Q6Q N a id s Q:=by
  have ly:k<R.steps.length:=(c'.1 hk).1;have h0:=h.step r R k sc hr hk (hZ k sc hk);unfold ju at h0;rw[ca]at h0;obtain⟨x,b1,b2,b3,b4,b5,b6⟩:=h0;have rU:s a=some (.join x):=b1;have gy:sc.st.adr=a:=by rw[ca];rfl
  obtain⟨L,hL1,VV⟩:=h.parts_list hr hc;obtain⟨n0,T5⟩:=h.cnt;have W3:∀k',k'<=R.steps.length->TC S C T Ta B Zo M (NQ N) r R k':=λk' ec=>Kv hW hr PE an hZ (R.steps.length-k') k' an N an;refine Qk (U8 rU) ?_;refine yX (λ(b,m,d,σ)=>b=x.partsA/\m=x.parts/\d.Nodup/\(∀q∈d,q∈x.parts.keys)/\∃bg,Inv S C T Ta B Zo none bg σ/\Frame s σ R (k+1)/\∀y l,bg y=some l↔loc y=some l/\¬∃q∈d,∃ρ,loc q=some (r,ρ)/\ρ.length=k/\∃τ,l=(r,ρ++[id]++τ)) (λ(_,_,d,_)=>M+1-d.length) ?_ N _ ⟨rfl,rfl,S',(λq hq=>by cases hq),loc,h,(λ_ _ _ _=>rfl),λy l=>⟨λhy=>⟨hy,λ⟨q,hq,_⟩=>by cases hq⟩,λhy=>hy.1⟩⟩ (by show M+1-0<N;omega);rintro⟨b,m,d,σ⟩ ag ⟨rfl,rfl,lS,om,dc,kJ,DS,kr⟩ gH;dsimp only at lS om gH⊢;have mS:σ a=some (.join x):=by rw[<-gy,DS k sc an hk,gy];exact rU
  refine Qk (U8 mS) ?_;refine iE ⟨rfl,rfl⟩ ?_;refine Sz (λfe=>?_) λq hq GL=>?_
  · refine hQ dc σ kJ λy l=>?_;rw[kr];constructor
    · rintro⟨U,e2⟩;refine⟨U,λ⟨e3,e4⟩=>?_⟩;obtain⟨r',π⟩:=l;dsimp only at e3 e4;subst e3;obtain⟨e5,e6⟩:=CR e4;rw[e5,H']at U;obtain⟨q,hq⟩:=h.pre _ _ y rfl U;exact e2 ⟨q,fe q ((b6 q).2 ⟨⟨_,hq,e6⟩,ax⟩),_,hq,e6,π.drop (k+1),by rw[<-e5]⟩
    · rintro⟨U,e2⟩;refine⟨U,λ⟨q,_,ρ,_,e4,τ,e5⟩=>e2 ?_⟩;rw[e5];refine⟨rfl,?_⟩;show(ρ++[id]++τ)[k]? =some id;rw[H',List.getElem?_append_right an,e4];simp
  · obtain⟨⟨ρ,iY,jh⟩,_⟩:=(b6 q).1 hq
    have Iu:dc q=some (r,ρ):=(kr q _).2 ⟨iY,λ⟨q',_,ck,_,e4,τ,e5⟩=>by
      have:=congrArg (λz:Nat×List Int=>z.2.length) e5;simp only[t',g',D']at this;omega⟩
    obtain⟨v,hv⟩:=ZP hq;refine Qk hv ?_;obtain⟨R',z,r1,r2,r3,r4⟩:=kJ.gPart Iu;rw[hr]at r1;cases r1;refine Qk r2 ?_;have Jw:∀n,jl dc n->n<=M:=λn hn=>F' (hn.mono T5 λy l hy=>((kr y l).1 hy).1) (hc _ T5);obtain⟨n1,L1,l1,l2,l3⟩:=kJ.cnt
    have hkb:∀ks:List Nat,ks.Nodup->(∀w∈ks,w∈z.kids.keys)->ks.length<=M:=λks h1 h2=>by
      have:=JV (l:=L1) h1 λw hw=>by
        obtain⟨i,hi⟩:=(r4.kids w).1 (h2 w hw);exact(l2 w).2 ⟨r,_,hi,ax⟩
      have:=Jw n1 ⟨L1,l1,l2,l3⟩;omega
    refine QZ ⟨F' (hkb _ r4.kn λ_ h=>h) an,λks LF=>?_⟩;have a2F:=hkb ks LF.1 λw hw=>(LF.2 w).1 hw
    have PM:d.length<M+1:=by
      have:=JV (l:=L) (M'.2 ⟨GL,lS⟩) λw hw=>by
        have:w∈x.parts.keys:=by
          rcases G'.1 hw with rfl|hw;· exact hq
          · exact om w hw
        obtain⟨⟨π,U,_⟩,_⟩:=(b6 w).1 this;exact VV w π U
      simp only[g']at this;omega
    refine yX (λ(u,G9)=>u<=ks.length/\∃bg,Inv S C T Ta B Zo none bg G9/\Frame s G9 R (k+1)/\∀y l,bg y=some l↔dc y=some l/\¬((∃w∈ks.take u,dc w=some (r,ρ++[id]))/\∃τ,l=(r,ρ++[id]++τ))) (λ(u,_)=>ks.length-u) ?_ N (0,σ) ⟨I' _,dc,kJ,DS,λy l=>⟨λhy=>⟨hy,λ⟨⟨w,hw,_⟩,_⟩=>by cases hw⟩,λhy=>hy.1⟩⟩ (by show ks.length-0<N;omega);rintro⟨u,G9⟩ ag2 ⟨hu,ff,kF,BO,zG⟩ Ik;dsimp only at hu Ik⊢;refine jA (λhb=>?_) (λhb=>?_)
    · have bp:u<ks.length:=of_decide_eq_true hb;obtain⟨w,hw⟩:∃w,ks[u]? =some w:=⟨_,m' bp⟩
      have hwk:=A' hw;obtain⟨i,Oo⟩:=(r4.kids w).1 ((LF.2 w).1 hwk);have hU:ks.take (u+1)=ks.take u++[w]:=by rw[N',hw];rfl
      have ux:w∉ks.take u:=λhm=>by
        have h2:(ks.take (u+1)).Nodup:=List.Nodup.sublist (T' _ _) LF.1;rw[hU]at h2;exact(C'.1 h2).2.2 _ hm _ ax rfl
      have YJ:ff w=some (r,ρ++[i]):=(zG w _).2 ⟨Oo,λ⟨⟨w',jY,hj⟩,τ,e⟩=>by
        simp only[Prod.mk.injEq,true_and,H',J',K',L',List.cons.injEq]at e;rw[<-e.1]at hj;exact ux (by rw[kJ.inj _ _ _ Oo hj];exact jY)⟩
      refine kW ?_;refine Qk hw ?_;obtain⟨R',zw,p1,p2,p3,p4⟩:=kF.gPart YJ;refine Qk p2 ?_;have hid:=(p4.up ρ i rfl).1;refine jA (λW0=>?_) (λW0=>?_)
      · have YB:i=id:=by rw[hid]at W0;simpa using W0
        subst YB;have a1h:G9 a=some (.join x):=by rw[<-gy,BO k sc an hk,gy];exact rU
        refine Qk (U8 a1h) ?_;refine QZ ?_;rw[b3];have Ol:(ρ++[i]).length=k+1:=by simp[jh]
        show Zu N (NQ N) R.b w G9 _;refine Nr hW hr an PE an (W3 _ an) hZ kF (λm hm=>F' (hm.mono ⟨L1,l1,l2,rfl⟩ λy l hy=>((zG y l).1 hy).1) (Jw _ ⟨L1,l1,l2,rfl⟩)) YJ λa2X s3 hi3 ht3 hf3=>?_;refine iE an (Ik (u+1,s3) ⟨an,a2X,hi3,λk' di U e2=>(hf3 k' di an e2).trans (BO k' di U e2),λy l=>?_⟩ an);rw[ht3,zG,hU];constructor;· rintro⟨⟨U,e2⟩,e3⟩;exact⟨U,λ⟨_,e5⟩=>e3 e5⟩
        · rintro⟨U,e2⟩;exact⟨⟨U,λ⟨⟨w',jY,e4⟩,e5⟩=>e2 ⟨⟨w',u' _ jY,e4⟩,e5⟩⟩,λe5=>e2 ⟨⟨w,ax,Oo⟩,e5⟩⟩
      · have YB:i≠id:=λe=>by rw[hid,e]at W0;simp at W0
        refine iE an (Ik (u+1,G9) ⟨an,ff,kF,BO,λy l=>?_⟩ an);rw[zG,hU];constructor
        · rintro⟨U,e2⟩;refine⟨U,λ⟨⟨w',jY,e4⟩,e5⟩=>?_⟩;rcases j'.1 jY with jY|jY;· exact e2 ⟨⟨w',jY,e4⟩,e5⟩
          · rw[f'.1 jY,Oo]at e4;simp only[Option.some.injEq,Prod.mk.injEq,true_and]at e4;exact YB (Yn e4).2
        · rintro⟨U,e2⟩;exact⟨U,λ⟨⟨w',jY,e4⟩,e5⟩=>e2 ⟨⟨w',u' _ jY,e4⟩,e5⟩⟩
    · have ri:¬u<ks.length:=of_decide_eq_false hb;have YG:ks.take u=ks:=E' an;rw[YG]at zG;refine gH _ ⟨rfl,rfl,C'.2 ⟨lS,ax,λy hy w hw U=>GL (by simp at hw;rw[<-hw,<-U];exact hy)⟩,(λw hw=>?_),ff,kF,BO,λy l=>?_⟩ (by show M+1-(d++[q]).length<_;simp only[t',g',D'];omega)
      · rcases j'.1 hw with hw|hw;· exact om w hw
        · rw[f'.1 hw];exact hq
      · rw[zG,kr];constructor
        · rintro⟨⟨U,e2⟩,e3⟩;refine⟨U,λ⟨q',ef,ck,e4,e5,τ,e6⟩=>?_⟩;rcases j'.1 ef with ef|ef;· exact e2 ⟨q',ef,ck,e4,e5,τ,e6⟩
          · rw[f'.1 ef,iY]at e4;cases e4;have YL:dc y=some l:=(kr y l).2 ⟨U,e2⟩;rw[e6]at YL;obtain⟨w,hw⟩:=kJ.pre _ _ y rfl YL;exact e3 ⟨⟨w,(LF.2 w).2 ((r4.kids w).2 ⟨id,hw⟩),hw⟩,τ,e6⟩
        · rintro⟨U,e2⟩;exact⟨⟨U,λ⟨q',ef,hh⟩=>e2 ⟨q',u' _ ef,hh⟩⟩,λ⟨_,τ,e6⟩=>e2 ⟨q,ax,ρ,iY,jh,τ,e6⟩⟩
end
end
section
open Go Go.RowKit Classical
section
variable {S:gO} {I:fg->Prop} {C:ic} {T:cg} {Ta:Nat->cg} {B:Nat->List Int->cg×cg} {Zo:Nat->Prop} {cq:Option Nat} {loc:Loc} {s:Qc} {D:List Int}
theorem Inv.congrB {B':Nat->List Int->cg×cg} (h:Inv S C T Ta B Zo cq loc s)(U:∀p r π,loc p=some (r,π)->B' r π=B r π):Inv S C T Ta B' Zo cq loc s:=by
 refine⟨h.net,h.row,h.step,h.al,λp r π hp=>?_,h.inj,h.root,h.le⟩;obtain⟨R,x,a1,a2,a3⟩:=h.part p r π hp;exact⟨R,x,a1,a2,⟨a3.env,a3.top,a3.up,a3.kids,by rw[U p r π hp];exact a3.blocks,by rw[U p r π hp];exact a3.free,a3.kn⟩⟩
noncomputable def oU (B:Nat->List Int->cg×cg)(r k:Nat)(T:cg):Nat->List Int->cg×cg:=λU π=>if U=r/\π.length=k then(T,T)else B U π
theorem Fp {N M r k a:Nat} {R:gp} {sc:gh} {id:Int} {T0:cg} {Q:Qc->Prop} (hW:pS C) (hT:jC T D) (hD:D.length<=3518437208882) (hr:C.rows[r]? =some R) (hk:R.steps[k]? =some sc) (ca:sc.st=.nt a) (hlen:R.steps.length<9223372036854775807) (cr:∀sc∈R.steps,yT S I C T sc) (hI:∀π e,ij S T R.steps (R.hs,R.vs) π=some e->I e)
  (hN:B0+D.length+R.steps.length+2<N) (hMN:M+2<N) (hZ:∀(k:Nat) (sc:gh),R.steps[k]? =some sc->¬Zo sc.st.adr) (hid:T id=none) (PG:∀i,i≠id->T0 i=T i) (VS:∀π:List Int,π.length=k->B r π=(T0,T0)) (Yx:∀π:List Int,k<π.length->B r π=(T,T))
  (h:Inv S C T (λ_=>T) B Zo none loc s) (hc:∀n,jl loc n->n<=M)
  (hQ:∀bg s',Inv S C T (λ_=>T) (oU B r k T) Zo none bg s'->lZ loc bg->(∀y l,bg y=some l->loc y=none->∃q ρ τ,loc q=some (r,ρ)/\ρ.length=k/\τ≠[]/\l=(r,ρ++τ))->(rN bg->∀q ρ e,loc q=some (r,ρ)->ρ.length=k->ij S T R.steps (R.hs,R.vs) ρ=some e->lq S sc e T0 id->jU S T bg r ρ (R.steps.drop k) e)->Q s'):Q7x N a id s Q:=by
 have h0:=h.step r R k sc hr hk (hZ k sc hk);unfold ju at h0;rw[ca]at h0;obtain⟨x,b1,b2,b3,b4,b5,b6⟩:=h0;have rU:s a=some (.nt x):=b1;have ly:k<R.steps.length:=(c'.1 hk).1;obtain⟨L,hL1,VV⟩:=h.parts_list hr hc
 have Eu:∀(e:fg) (i:Int),lq S sc e T i↔i≠id/\lq S sc e T0 i:=λe i=>by
  constructor
  ·rintro⟨f,f1,f2⟩;have:i≠id:=λU=>by rw[U,hid]at f1;cases f1
   exact⟨this,f,by rw[PG i this];exact f1,f2⟩
  · rintro⟨h1,f,f1,f2⟩;exact⟨f,by rw[<-PG i h1];exact f1,f2⟩
 let Bd:List Nat->Nat->List Int->cg×cg:=λd r' gL=>if r'=r/\∃q∈d,loc q=some (r,gL)then(T,T)else B r' gL
 have BdT:∀d gL,k<gL.length->Bd d r gL=(T,T):=λd gL hp=>by
  show(if _ then _ else _)=_;split;· rfl
  · exact Yx gL hp
 refine Qk (O3 rU) ?_;refine yX (λ(d,σ)=>d.Nodup/\(∀q∈d,q∈x.parts.keys)/\∃bg,Inv S C T (λ_=>T) (Bd d) Zo none bg σ/\lZ loc bg/\(∀y l,bg y=some l->loc y=none->∃q ρ τ,q∈d/\loc q=some (r,ρ)/\ρ.length=k/\τ≠[]/\l=(r,ρ++τ))/\(rN bg->∀q∈d,∀ρ e,loc q=some (r,ρ)->ij S T R.steps (R.hs,R.vs) ρ=some e->lq S sc e T0 id->jU S T bg r ρ (R.steps.drop k) e)) (λ(d,_)=>M+1-d.length) ?_ N ([],s) ⟨S',(λq hq=>by cases hq),loc,h.congrB (λp r' gL _=>if_neg λ⟨_,q,hq,_⟩=>by cases hq),lZ.refl _,(λy l h1 h2=>by rw[h1]at h2;cases h2),λ_ q hq=>by cases hq⟩ (by show M+1-0<N;omega);rintro⟨d,σ⟩ ag ⟨lS,om,dc,kJ,AN,DT,EZ⟩ gH;dsimp only at lS om gH⊢;refine Sz (λfe=>?_) λq hq GL=>?_
 ·refine hQ dc σ (kJ.congrB λp r' gL hp=>?_) AN (λy l h1 h2=>?_) λiF q ρ e hq Th=>EZ iF q (fe q ((b6 q).2 ⟨⟨ρ,hq,Th⟩,ax⟩)) ρ e hq
  ·show oU B r k T r' gL=if _ then _ else _
   unfold oU;by_cases hh:r'=r/\gL.length=k
   ·rw [if_pos hh];obtain⟨rfl,hh⟩:=hh
    have sR:loc p=some (r',gL):=by
      cases hl:loc p with
      |some l=>have:=AN _ _ hl;rw[hp]at this;exact this.symm
      | none=>
        obtain⟨q,ρ,τ,_,_,e3,e4,e5⟩:=DT p _ hp hl;simp only[Prod.mk.injEq,true_and]at e5;have:=Q'.2 e4;rw[e5,t']at hh;omega
    rw[if_pos ⟨rfl,p,fe p ((b6 p).2 ⟨⟨gL,sR,hh⟩,ax⟩),sR⟩]
   ·rw[if_neg hh];split
    · rename_i h2;obtain⟨rfl,q,hq,BU⟩:=h2;obtain⟨⟨ρ,U,e2⟩,_⟩:=(b6 q).1 (om q hq);rw[U]at BU;cases BU;exact absurd ⟨rfl,e2⟩ hh
    · rfl
  ·obtain⟨q,ρ,τ,_,e2,e3,e4,e5⟩:=DT y l h1 h2;exact⟨q,ρ,τ,e2,e3,e4,e5⟩
 ·obtain ⟨⟨ρ,iY,jh⟩,_⟩:=(b6 q).1 hq;have Iu:=AN _ _ iY;obtain⟨v,hv⟩:=ZP hq;refine Qk hv ?_;obtain⟨R',z,r1,r2,r3,r4⟩:=kJ.gPart Iu;rw[hr]at r1;cases r1;have qf:=r4.env;have hIe:=hI _ _ qf;obtain⟨bb,m,m1,m2,m3⟩:=r4.blocks ax sc a (by rw[jh];exact hk) ca
  have VU:Bd d r ρ=(T0,T0):=by
   show(if _ then _ else _)=_;rw[if_neg];· exact VS ρ jh
   ·rintro⟨_,q',ef,BU⟩;exact GL (by rw[h.inj _ _ _ iY BU];exact ef)
  rw[VU]at m2;dsimp only at m2
  have PM:d.length<M+1:=by
   have:=JV (l:=L) (M'.2 ⟨GL,lS⟩) λw hw=>by
    have:w∈x.parts.keys:=by
      rcases G'.1 hw with rfl|hw;· exact hq
      · exact om w hw
    obtain⟨⟨π,U,_⟩,_⟩:=(b6 w).1 this;exact VV w π U
   simp only[g']at this;omega
  have F4:(d++[q]).Nodup:=C'.2 ⟨lS,ax,λy hy w hw U=>GL (by simp at hw;rw[<-hw,<-U];exact hy)⟩
  have F3:∀w∈d++[q],w∈x.parts.keys:=λw hw=>by
   rcases j'.1 hw with hw|hw;· exact om w hw
   · rw[f'.1 hw];exact hq
  have um:Bd (d++[q]) r ρ=(T,T):=if_pos ⟨rfl,q,ax,iY⟩
  have BI:∀r' gL,(r',gL)≠(r,ρ)->Bd (d++[q]) r' gL=Bd d r' gL:=λr' gL de=>by
   show(if _ then _ else _)=(if _ then _ else _)
   by_cases hh:r'=r/\∃q'∈d,loc q'=some (r,gL);· rw[if_pos hh,if_pos ⟨hh.1,hh.2.choose,u' _ hh.2.choose_spec.1,hh.2.choose_spec.2⟩]
   ·rw[if_neg hh,if_neg];rintro⟨rfl,q',ef,BU⟩;rcases j'.1 ef with ef|ef;· exact hh ⟨rfl,q',ef,BU⟩
    · rw[f'.1 ef,iY]at BU;cases BU;exact de rfl
  have hmu:M+1-(d++[q]).length<M+1-d.length:=by simp only[t',g',D'];omega
  refine kW ?_;refine Qk r2 ?_;refine Qk m1 ?_
  have skip:¬lq S sc (z.has,z.vals) T0 id->ag (d++[q],σ) Q:=λhnb=>by
   refine gH (d++[q],σ) ⟨F4,F3,dc,?_,AN,(λy l h1 h2=>by obtain⟨q',ck,τ,e0,U⟩:=DT y l h1 h2;exact⟨q',ck,τ,u' _ e0,U⟩),λiF q' ef ck e U e2 e3=>?_⟩ hmu
   ·have:=kJ.setBlocks (B':=Bd (d++[q])) (bl:=z.blocks) hr Iu r3 BI (λ_ di a' q1 q2=>?_) (λdi a' q1 q2 ec=>?_);· rwa [vz r3]at this
    · rw[jh,hk]at q1;cases q1;refine⟨bb,m,m1,λi=>?_,m3⟩;rw[m2,um];refine Iff.trans ?_ (Eu _ _).symm;exact⟨λhb=>⟨λe=>hnb (e▸hb),hb⟩,λhb=>hb.2⟩
    · have:=r4.free di a' q1 q2 ec;rw[jh,hk]at q1;cases q1;rw[VU]at this;intro i hi;rw[um]at hi;have hi:=(Eu _ _).1 hi;exact this i hi.2
   ·rcases j'.1 ef with ef|ef;· exact EZ iF q' ef ck e U e2 e3
    · rw[f'.1 ef,iY]at U;cases U;rw[qf]at e2;cases e2;exact absurd e3 hnb
  refine zZ (λLI=>?_) (λw LI=>?_)
  ·refine Ba rfl (skip λhb=>?_);obtain⟨w,hw⟩:=MS.look_iff.1 ((m2 id).2 hb);rw[LI]at hw;cases hw
  ·have hwt:=m3 _ _ LI;subst hwt;have a2p:lq S sc (z.has,z.vals) T0 id:=(m2 id).1 (MS.look_iff.2 ⟨_,LI⟩)
   have il:∀y i,dc y≠some (r,ρ++[i]):=λy i hy=>by
    have:=r4.free sc a (by rw[jh];exact hk) ca ⟨y,i,hy⟩ id;rw[VU]at this;exact this a2p
   refine kU rfl ?_;refine Qk r2 ?_;refine Qk m1 ?_;refine nG ?_
   have zJ:=kJ.setBlocks (B':=Bd (d++[q])) (bl:=some (bb,m.del id)) hr Iu r3 BI (λ_ di a' q1 q2=>by
    rw[jh,hk]at q1;cases q1;refine⟨bb,m.del id,rfl,λi=>?_,λi v hv=>?_⟩
    · rw[MS.keys_del,m2,um];exact(Eu _ _).symm
    · rw[MS.look_del]at hv;split at hv;· cases hv
      · exact m3 i v hv) (λdi a' q1 q2 ⟨y,i,hy⟩=>absurd hy (il y i))
   refine QZ ?_;show TP N (Ja N) a q _ _;refine uL hW hlen hr hk ca (Rr (S:=S) (I:=I) (B:=Bd (d++[q])) hW hlen hT hD hr cr (R.steps.length-(k+1)) (k+1) an (λgL a1g=>BdT _ gL an) N an) zJ Iu jh qf hIe um il (λk' di _ hs=>hZ k' di hs) λff s2 kF oq vT=>?_;refine gH (d++[q],s2) ⟨F4,F3,ff,kF,AN.trans oq.1,λy l h1 h2=>?_,λiF q' ef ck e U e2 e3=>?_⟩ hmu
   ·cases hy:dc y with
    | some l'=>
      have:=oq.1 _ _ hy;rw[h1]at this;cases this;obtain⟨q',ck,τ,e0,U⟩:=DT y l hy h2;exact⟨q',ck,τ,u' _ e0,U⟩
    | none=>
      obtain⟨τ,U,e2⟩:=oq.2 y l h1 hy;exact⟨q,ρ,τ,ax,iY,jh,U,e2⟩
   ·rcases j'.1 ef with ef|ef;· exact(EZ (ZV kJ.cnt oq.1 iF kF.cnt) q' ef ck e U e2 e3).mono oq.1
    · rw[f'.1 ef,iY]at U;cases U;rw[qf]at e2;cases e2;exact vT iF
end
end
section
open Go Go.RowKit Classical
section
variable {S:gO} {I:fg->Prop} {C:ic} {T:cg} {Ta:Nat->cg} {B:Nat->List Int->cg×cg} {Zo:Nat->Prop} {cq:Option Nat} {loc:Loc} {s:Qc} {D:List Int}
def xe (A:JI)(f:Qo)(j:Nat):Bool:=match A.args[j]? with
 |some a=>if a.k=4 then decide (f.args[j]? =some a.v)else true
 |none=>true
theorem uq {A:JI} {f:Qo}:hasB A f=true↔f.ty=A.kind/\∀j,j<A.args.length->xe A f j=true:=by
 unfold hasB;simp only[Y',decide_eq_true_eq,b!,List.mem_range];exact Iff.rfl
theorem Ls {N:Nat} {A:JI} {Ta:cg} {f:Qo} {Q:Bool->Prop} (hA:JJ Ta A (s A.b)) (hN:A.args.length<N) (hlen:A.args.length<9223372036854775807) (hf:f.ty=A.kind->∀(j:Nat) (a:gS),A.args[j]? =some a->∃v,f.args[j]? =some v) (hQ:Q (hasB A f)):OD N A.b f.id f.ty f.args s Q:=by
 obtain⟨x,h1,h2,h3,_⟩:=hA;refine Qk (Yi h1) ?_;refine jA (λhb=>?_) (λhb=>?_)
 ·have:hasB A f=false:=by
   cases hh:hasB A f with
   |false=>rfl
   |true=>have:=(uq.1 hh).1;rw[h2,this]at hb;simp at hb
  rw[this]at hQ;exact hQ
 ·have hk:f.ty=A.kind:=by rw[h2]at hb;simpa using hb
  refine kW ?_;refine yX (λu=>u<=A.args.length/\∀j,j<u->xe A f j=true) (λu=>A.args.length-u) ?_ N 0 ⟨I' _,λj hj=>absurd hj (Nat.not_lt_zero _)⟩ an;intro u ag ⟨hu,fe⟩ gH;rw[h3];refine jA (λur=>?_) (λur=>?_)
  ·have bp:u<A.args.length:=of_decide_eq_true ur;obtain⟨a,ha⟩:∃a,A.args[u]? =some a:=⟨_,m' bp⟩
   refine Qk ha ?_;refine kW ?_
   have go:xe A f u=true->gv (u+1<=9223372036854775807) (ag (u+1)) Q:=λh=>iE an (gH (u+1) ⟨an,λj hj=>by
    by_cases e:j=u;· rw[e];exact h
    · exact fe j an⟩ an)
   refine jA (λOf=>?_) (λOf=>?_)
   ·have h4:a.k=4:=by simpa using Of
    obtain⟨v,hv⟩:=hf hk u a ha;refine Qk hv ?_;refine jA (λU=>?_) (λU=>?_)
    ·have de:¬a.v=v:=by simpa using U
     have:hasB A f=false:=by
      cases hh:hasB A f with
      |false=>rfl
      | true=>
        have:=(uq.1 hh).2 u bp;simp only[xe,ha,h4,if_true,hv,decide_eq_true_eq,Option.some.injEq]at this;exact absurd this.symm de
     rw[this]at hQ;exact hQ
    ·have heq:a.v=v:=by simpa using U
     exact go (by simp only[xe,ha,h4,if_true,hv,heq,decide_true])
   ·have h4:¬a.k=4:=by simpa using Of
    exact Ba rfl (go (by simp only[xe,ha,if_neg h4]))
  ·have ri:¬u<A.args.length:=of_decide_eq_false ur;have:hasB A f=true:=uq.2 ⟨hk,λj hj=>fe j an⟩;rw[this]at hQ;exact hQ
theorem Inv.congrB2 {B':Nat->List Int->cg×cg} (h:Inv S C T Ta B Zo cq loc s)(U:∀p r π,loc p=some (r,π)->B' r π=B r π\/((B' r π).1=(B r π).1/\∀y i,loc y≠some (r,π++[i]))):Inv S C T Ta B' Zo cq loc s:=by
 refine⟨h.net,h.row,h.step,h.al,λp r π hp=>?_,h.inj,h.root,h.le⟩;obtain⟨R,x,a1,a2,a3⟩:=h.part p r π hp;refine⟨R,x,a1,a2,⟨a3.env,a3.top,a3.up,a3.kids,?_,?_,a3.kn⟩⟩
 ·rcases U p r π hp with e|⟨e,_⟩
  · rw[e];exact a3.blocks
  · rw[e];exact a3.blocks
 ·rcases U p r π hp with e|⟨_,e⟩
  · rw[e];exact a3.free
  ·intro sc a q1 q2 ⟨y,i,hy⟩;exact absurd hy (e y i)
theorem Inv.congrK {B':Nat->List Int->cg×cg} (h:Inv S C T Ta B Zo cq loc s)(hB:∀p r π R x sc a,loc p=some (r,π)->C.rows[r]? =some R->s p=some (.part x)->ij S T R.steps (R.hs,R.vs) π=some (x.has,x.vals)->R.steps[π.length]? =some sc->sc.st=.nt a->∀i,(lq S sc (x.has,x.vals) (B' r π).1 i↔lq S sc (x.has,x.vals) (B r π).1 i)/\(lq S sc (x.has,x.vals) (B' r π).2 i->lq S sc (x.has,x.vals) (B r π).2 i)):Inv S C T Ta B' Zo cq loc s:=by
 refine⟨h.net,h.row,h.step,h.al,λp r π hp=>?_,h.inj,h.root,h.le⟩;obtain⟨R,x,a1,a2,a3⟩:=h.part p r π hp;refine⟨R,x,a1,a2,⟨a3.env,a3.top,a3.up,a3.kids,λDW sc a U q2=>?_,λsc a U q2 q3 i hi=>?_,a3.kn⟩⟩
 ·obtain⟨bb,m,m1,m2,m3⟩:=a3.blocks DW sc a U q2;exact⟨bb,m,m1,λi=>(m2 i).trans (hB p r π R x sc a hp a1 a2 a3.env U q2 i).1.symm,m3⟩
 · exact a3.free sc a U q2 q3 i ((hB p r π R x sc a hp a1 a2 a3.env U q2 i).2 hi)
end
end
end Go.Proofs.YtocfkfhdcnjklaaGreatDoor
