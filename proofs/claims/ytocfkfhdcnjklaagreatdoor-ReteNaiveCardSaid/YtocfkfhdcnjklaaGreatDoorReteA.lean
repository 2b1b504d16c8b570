import Derived.Test.YtocfkfhdcnjklaaGreatDoorSq
open List renaming getElem?_eq_some_iff->c',mem_singleton->f',length_cons->g',mem_append->j',getElem?_eq_getElem->m',length_append->t',mem_append_left->u',mem_of_getElem?->v',nodup_append->A',length_nil->E',take_of_length_le->H',mem_cons->M',append_assoc->N',append_cancel_left_eq->S',cons_append->T',nil_append->W',nodup_cons->a!,take_add_one->b!,eq_nil_of_length_eq_zero->d!,length_pos_iff->e!,nodup_nil->g!,take_sublist->h!,getElem?_map->i!,map_cons->j!,length_erase_of_mem->k!,length_pos_of_mem->o!,mem_map->p!,all_eq_true->q!,map_append->r!
open Option renaming bind_some->F',isSome_iff_exists->l!
open Nat renaming le_trans->K',zero_le->Q',le_refl->c!
open Bool renaming and_eq_true->n!
namespace Go.Proofs.YtocfkfhdcnjklaaGreatDoor
section
open Go Go.RowKit
section
variable {A R S:Type} {Q:R->Prop}
variable {k:A->WM R}{x y:WM R}{o:bf A}{b:Bool}{a:A}{c:Prop}{O:Type}{s:Nat->bf O}
theorem Qo (h:o=some a)(hk:k a Q):QA o k Q:=⟨a,h,hk⟩
theorem gY {k:WM R} (h:c)(hk:k Q):fN c k Q:=⟨h,hk⟩
theorem nF {x:A} (hk:k x Q):j4 x k Q:=λ_ e=>e▸hk
theorem wq (hk:∀a,k a Q):lM k Q:=hk
theorem Vk {k:WM R} (h:c->k Q):Vi c k Q:=h
theorem gV {m:WM A} (h:m (λa=>k a Q)):fu m k Q:=h
theorem kE (h:b=true)(U:x Q):fZ b x y Q:=⟨λ_=>U,λe=>by rw[h]at e;cases e⟩
theorem B9 (h:b=false)(hy:y Q):fZ b x y Q:=⟨λe=>(by rw[h]at e;cases e),λ_=>hy⟩
theorem jj (U:b=true->x Q)(hy:b=false->y Q):fZ b x y Q:=⟨U,hy⟩
theorem A7 (U:o=none->x Q)(hk:∀a,o=some a->k a Q):A6 o x k Q:=⟨U,hk⟩
theorem FF (h:o=some a)(hk:k a Q):A6 o x k Q:=⟨λe=>(by rw[h]at e;cases e),λb e=>by rw[h]at e;cases e;exact hk⟩
theorem kI {o:Nat->O} {k:Nat->(Nat->bf O)->WM R} (h:∀a,s a=none->k a (dp s a (o a)) Q):so s o k Q:=λa U _ e=>e▸h a U
theorem kX {a:Nat} {k:WM R} (h:s a=none->k Q):jL s a k Q:=h
theorem T7 {κ α:Type} [DecidableEq κ] {m:MS κ α} {done:aq κ} {k:κ->WM R} (U:(∀y∈m.keys,y∈done)->x Q)(hk:∀y,y∈m.keys->y∉done->k y Q):kJ m done x k Q:=⟨U,hk⟩
end
theorem lk {R:Type} {Q:R->Prop} {a:Nat} {f g h:Nat->WM R} (hk:f a Q):mg (.join a) f g h Q:=⟨λb e=>(by cases e;exact hk),λb e=>(by cases e),λb e=>(by cases e)⟩
theorem ll {R:Type} {Q:R->Prop} {a:Nat} {f g h:Nat->WM R} (hk:g a Q):mg (.nt a) f g h Q:=⟨λb e=>(by cases e),λb e=>(by cases e;exact hk),λb e=>(by cases e)⟩
theorem ln {R:Type} {Q:R->Prop} {a:Nat} {f g h:Nat->WM R} (hk:h a Q):mg (.test a) f g h Q:=⟨λb e=>(by cases e),λb e=>(by cases e),λb e=>(by cases e;exact hk)⟩
section maps
variable {κ α:Type} [DecidableEq κ]
theorem y9 {x:κ} {v:α×Nat} {y:κ}:∀{l:aq (κ×α×Nat)},y∈(kG x v l).map (·.1)↔y=x\/y∈l.map (·.1)
 |[]=>by simp[kG]
 | z ::l=>by
   unfold kG;split
   ·rename_i h;simp only[j!,M'];rw[h];constructor
    ·rintro(h1|h1);· exact .inl h1
     · exact .inr (.inr h1)
    ·rintro(h1|h1|h1);· exact .inl h1
     · exact .inl h1
     · exact .inr h1
   ·simp only[j!,M',y9 (l:=l)];constructor
    ·rintro(h1|h1|h1);· exact .inr (.inl h1)
     · exact .inl h1
     · exact .inr (.inr h1)
    ·rintro(h1|h1|h1);· exact .inr (.inl h1)
     · exact .inl h1
     · exact .inr (.inr h1)
theorem MS.keys_put {m:MS κ α} {x y:κ} {a:α}:y∈(m.put x a).keys↔y=x\/y∈m.keys:=by
 unfold MS.put MS.keys;cases h:ib x m.es with
 |some v=>exact y9
 |none=>simp only[r!,j!,List.map_nil,j',f',or_comm]
theorem MS.keys_del {m:MS κ α} {x y:κ}:y∈(m.del x).keys↔y≠x/\y∈m.keys:=by
 unfold MS.del MS.keys;simp only[p!,List.mem_filter,Bool.not_eq_true',decide_eq_false_iff_not];constructor;· rintro⟨z,⟨h1,U⟩,rfl⟩;exact⟨U,z,h1,rfl⟩
 · rintro⟨U,z,h1,rfl⟩;exact⟨z,⟨h1,U⟩,rfl⟩
theorem MS.keys_nil {κ α:Type} {y:κ}:¬y∈(MS.nil:MS κ α).keys:=by simp[MS.nil,MS.keys]
theorem MS.del_none {m:MS κ α} {x:κ} (h:x∉m.keys):m.del x=m:=by
 unfold MS.del;have:m.es.filter (λy=>!decide (y.1=x))=m.es:=filter_none h;rw[this]
theorem uZ {x y:κ} {v:α×Nat}:∀{l:aq (κ×α×Nat)},ib y (kG x v l)=if y=x then some v else ib y l
 | []=>by
   simp only[kG,ib];by_cases h:y=x;· subst h;simp
   · rw[if_neg h,if_neg (λe=>h e.symm)]
 | z::l=>by
   unfold kG;by_cases h:z.1=x
   ·rw[if_pos h];simp only[ib];by_cases U:y=x;· subst U;simp
    · rw[if_neg U,if_neg (λe=>U e.symm),if_neg (λe=>U (by rw[<-h,e]))]
   ·rw[if_neg h];simp only[ib,uZ (l:=l)];by_cases U:z.1=y;· rw[if_pos U,if_pos U,if_neg (λe=>h (by rw[U,e]))]
    · rw[if_neg U,if_neg U]
theorem yh {x y:κ} {v:α×Nat}:∀{l:aq (κ×α×Nat)},ib x l=none->ib y (l++[(x,v)])=if y=x then some v else ib y l
 | [],_=>by
   simp only[W',ib];by_cases h:y=x;· subst h;simp
   · rw[if_neg h,if_neg (λe=>h e.symm)]
 | z::l,h=>by
   unfold ib at h;split at h;· cases h
   ·rename_i hz;simp only[T',ib,yh (y:=y) h];by_cases U:z.1=y;· rw[if_pos U,if_pos U,if_neg (λe=>hz (by rw[U,e]))]
    · rw[if_neg U,if_neg U]
theorem MS.look_put {m:MS κ α} {x y:κ} {a:α}:(m.put x a).look y=if y=x then some a else m.look y:=by
 unfold MS.put MS.look;cases h:ib x m.es with
 | some v=>
   simp only[uZ];by_cases h2:y=x<;>simp[h2]
 | none=>
   simp only[yh h];by_cases h2:y=x<;>simp[h2]
theorem Qca {x y:κ}:∀{l:aq (κ×α×Nat)},ib y (l.filter λz=> !decide (z.1=x))=if y=x then none else ib y l
 |[]=>by simp[ib]
 | z::l=>by
   by_cases h:z.1=x
   ·rw[List.filter_cons_of_neg (by simp[h]),Qca (l:=l)];by_cases U:y=x;· rw[if_pos U,if_pos U]
    ·rw[if_neg U,if_neg U];simp only[ib];rw[if_neg (λe=>U (by rw[<-e,h]))]
   ·rw[List.filter_cons_of_pos (by simp[h])];simp only[ib,Qca (l:=l)];by_cases U:z.1=y;· rw[if_pos U,if_pos U,if_neg (λe=>h (by rw[U,e]))]
    · rw[if_neg U,if_neg U]
theorem MS.look_del {m:MS κ α} {x y:κ}:(m.del x).look y=if y=x then none else m.look y:=by
 unfold MS.del MS.look;simp only[Qca];by_cases h2:y=x<;>simp[h2]
theorem MS.look_iff {m:MS κ α} {x:κ}:x∈m.keys↔∃a,m.look x=some a:=by
 unfold MS.keys MS.look
 have key:∀l:aq (κ×α×Nat),x∈l.map (·.1)↔∃v,ib x l=some v:=by
  intro l;induction l with
  |nil=>simp[ib]
  | cons z l U=>
    simp only[j!,M',ib];by_cases h:z.1=x;· simp[h]
    ·rw [if_neg h,<-U];constructor
     ·rintro(h1|h1);· exact absurd h1.symm h
      · exact h1
     · exact .inr
 rw[key];constructor;· rintro⟨v,h⟩;exact⟨v.1,by simp[h]⟩
 ·rintro⟨a,h⟩;cases hv:ib x m.es with
  |none=>simp[hv]at h
  |some v=>exact⟨v,rfl⟩
theorem MS.keys_put_eq {m:MS κ α} {x:κ} {a:α}:(m.put x a).keys=if x∈m.keys then m.keys else m.keys++[x]:=by
 unfold MS.put
 have hm:x∈m.keys↔∃v,ib x m.es=some v:=by
   rw[MS.look_iff];unfold MS.look;constructor
   ·rintro⟨a,h⟩;cases U:ib x m.es with
    |none=>simp[U]at h
    |some v=>exact⟨v,rfl⟩
   · rintro⟨v,h⟩;exact⟨v.1,by simp[h]⟩
 cases h:ib x m.es with
 | some v=>
   rw[if_pos (hm.2 ⟨v,h⟩)]
   have key:∀l:aq (κ×α×Nat),(∃v,ib x l=some v)->(kG x (a,v.2) l).map (·.1)=l.map (·.1):=by
    intro l;induction l with
    |nil=>rintro⟨v,h⟩;cases h
    | cons z l ih=>
      rintro⟨w,h⟩;unfold ib at h;unfold kG;split;· rename_i hz;simp[hz]
      ·rename_i hz;rw[if_neg hz]at h;simp[ih ⟨w,h⟩]
   exact key _ ⟨v,h⟩
 | none=>
   rw[if_neg (λhh=>by obtain⟨v,U⟩:=hm.1 hh;rw[h]at U;cases U)];simp[MS.keys]
theorem MS.nodup_put {m:MS κ α} {x:κ} {a:α} (h:m.keys.Nodup):(m.put x a).keys.Nodup:=by
 rw[MS.keys_put_eq];split;· exact h
 ·rename_i hx;exact A'.2 ⟨h,bh,λy hy z U e=>hx (by simp at U;rw[<-U,<-e];exact hy)⟩
theorem MS.nodup_del {m:MS κ α} {x:κ} (h:m.keys.Nodup):(m.del x).keys.Nodup:=by
 exact List.Nodup.sublist (List.Sublist.map _ List.filter_sublist) h
theorem JC:∀{ks l:aq κ},ks.Nodup->(∀z∈ks,z∈l)->ks.length<=l.length
 |[],l,_,_=>Q' _
 | k::ks,l,h,hs=>by
   have h1:=a!.1 h;have hk:k∈l:=hs k bh;have:=JC (l:=l.erase k) h1.2 λz U=>(List.mem_erase_of_ne (λe=>h1.1 (by rw[<-e];exact U))).2 (hs z (by simp[U]));rw[k! hk]at this;have:=o! hk;simp only[g'];omega
end maps
end
section
open Go Go.RowKit
structure fY where
 mt:Qq->List Bool->List V->Qg->Option (List Bool×List V)
 ev:Qq->List V->Bool
structure fz where
 st:cz
 al:Nat
 c:Qq
structure fH where
 b:Nat
 steps:List fz
 sP:Option Addr
 sC:Nat
 root:Nat
 hs:List Bool
 vs:List V
structure K3 where
 b:Nat
 kind:Int
 args:List fK
structure gA where
 g:Nat
 types:List Q9
 rows:List fH
 rP:Option Addr
 rC:Nat
 alphas:MS ByteArray Nat
 alphasA:Nat
 als:List K3
abbrev dc:=Int->bf Qg
abbrev fb:=aq Bool×aq V
abbrev Loc:=Nat->bf (Nat×aq Int)
def hY (S:fY)(T:dc)(sc:fz)(e:fb)(i:Int):bf fb:=match sc.st with
 | .join _=>(T i).bind λf=>S.mt sc.c e.1 e.2 f
 | .nt _=>if i=0 then some e else none
 | .test _=>if i=0/\S.ev sc.c e.2=true then some e else none
def gE (S:fY)(T:dc):aq fz->fb->aq Int->bf fb
 |_,e,[]=>some e
 |[],_,_::_=>none
 |sc::l,e,i::π=>(hY S T sc e i).bind λU=>gE S T l U π
theorem QbF {S:fY} {T:dc} {i:Int}:∀{π:aq Int} {l:aq fz} {e:fb},gE S T l e (π++[i])=(gE S T l e π).bind λU=>(l[π.length]?).bind λsc=>hY S T sc U i
 |[],[],e=>by simp[gE]
 | [],sc::l,e=>by
   simp only[W',gE,E',List.getElem?_cons_zero,F'];cases hY S T sc e i<;>rfl
 |j::π,[],e=>by simp[gE]
 | j::π,sc::l,e=>by
   simp only[T',gE,g',List.getElem?_cons_succ];cases h:hY S T sc e j with
   |none=>rfl
   |some U=>simp only[F'];exact QbF
theorem nY {S:fY} {T:dc}:∀{π:aq Int} {l:aq fz} {e U:fb},gE S T l e π=some U->π.length<=l.length
 |[],l,e,U,_=>Q' _
 |j::π,[],e,U,h=>by simp[gE]at h
 | j::π,sc::l,e,U,h=>by
   simp only[gE]at h;cases h1:hY S T sc e j with
   |none=>rw[h1]at h;cases h
   |some e1=>rw[h1]at h;have:=nY h;simp;exact this
def kT (S:fY)(sc:fz)(e:fb)(T:dc)(i:Int):Prop:=∃f,T i=some f/\(S.mt sc.c e.1 e.2 f).isSome=true
def hasB (A:K3)(f:Qg):Bool:=decide (f.ty=A.kind)&&(List.range A.args.length).all λj=>match A.args[j]? with
 |some a=>if a.k=4 then decide (f.args[j]? =some a.v)else true
 |none=>true
def jd (loc:Loc)(n:Nat):Prop:=∃L:aq Nat,L.Nodup/\(∀p,p∈L↔∃r π,loc p=some (r,π)/\π≠[])/\L.length=n
section
variable (S:fY) (C:gA) (T:dc) (Ta:Nat->dc) (B:Nat->aq Int->dc×dc) (Zo:Nat->Prop) (di:bf Nat) (loc:Loc) (s:Qe)
def LK (r k:Nat)(m:MS Nat Bool):Prop:=∀y,y∈m.keys↔(∃π,loc y=some (r,π)/\π.length=k)/\some y≠di
def Ι (o:bf PO):Prop:=∃x,o=some (.net x)/\x.types=C.types/\x.rows=C.rows.map (·.b)/\x.rowsP=C.rP/\x.rowsC=C.rC/\x.alphas=C.alphas/\x.alphasA=C.alphasA/\(x.facts.keys.Nodup/\∀i,x.facts.look i=Ta C.g i)/\∃n:Nat,x.parts=(n:Int)/\jd loc n
def a00 (r:Nat)(R:fH)(o:bf PO):Prop:=∃y,o=some (.row y)/\y.net=C.g/\y.steps=R.steps.map (·.st)/\y.stepsP=R.sP/\y.stepsC=R.sC/\LK di loc r R.steps.length y.whole
def jg (r:Nat)(R:fH)(k:Nat)(sc:fz)(o:bf PO):Prop:=match sc.st with
 | .join _=>∃x,o=some (.join x)/\x.alpha=sc.al/\x.row=R.b/\x.k=(k:Int)/\x.cond=sc.c/\LK di loc r k x.parts
 | .nt _=>∃x,o=some (.nt x)/\x.alpha=sc.al/\x.row=R.b/\x.k=(k:Int)/\x.cond=sc.c/\LK di loc r k x.parts
 | .test _=>∃x,o=some (.test x)/\x.row=R.b/\x.k=(k:Int)/\x.cond=sc.c/\∀y,y∉x.parts.keys
def K4 (Tb:dc)(A:K3)(o:bf PO):Prop:=∃x,o=some (.alpha x)/\x.kind=A.kind/\x.args=A.args/\x.facts.keys.Nodup/\∀i,x.facts.look i=(Tb i).filter (hasB A)
structure SC (R:fH) (r p:Nat) (π:List Int) (x:ji):Prop where
 env:gE S T R.steps (R.hs,R.vs) π=some (x.has,x.vals)
 top:π=[]->x.up=none/\x.id=0/\p=R.root
 up:∀ρ i,π=ρ++[i]->x.id=i/\∃q,x.up=some q/\loc q=some (r,ρ)
 kids:∀y,y∈x.kids.keys↔∃i,loc y=some (r,π++[i])
 blocks:some p≠di->∀sc a,R.steps[π.length]? =some sc->sc.st=.nt a->∃bb m,x.blocks=some (bb,m)/\(∀i,i∈m.keys↔kT S sc (x.has,x.vals) (B r π).1 i)/\∀i v,m.look i=some v->v=true
 free:∀sc a,R.steps[π.length]? =some sc->sc.st=.nt a->(∃y i,loc y=some (r,π++[i]))->∀i,¬kT S sc (x.has,x.vals) (B r π).2 i
 kn:x.kids.keys.Nodup
def Ur (p r:Nat)(π:aq Int)(o:bf PO):Prop:=∃R x,C.rows[r]? =some R/\o=some (.part x)/\SC S T B di loc R r p π x
structure Inv:Prop where
 net:Ι C Ta loc (s C.g)
 row:∀r R,C.rows[r]? =some R->a00 C di loc r R (s R.b)
 step:∀r R k sc,C.rows[r]? =some R->R.steps[k]? =some sc->¬Zo sc.st.adr->jg di loc r R k sc (s sc.st.adr)
 al:∀A∈C.als,K4 (Ta A.b) A (s A.b)
 part:∀p r π,loc p=some (r,π)->Ur S C T B di loc p r π (s p)
 inj:∀p q l,loc p=some l->loc q=some l->p=q
 root:∀r R,C.rows[r]? =some R->loc R.root=some (r,[])
 le:∀n,jd loc n->n<=4097
end
structure pV (C:gA):Prop where
 rows:∀(r r':Nat) (R R':fH),C.rows[r]? =some R->C.rows[r']? =some R'->R.b=R'.b->r=r'
 steps:∀(r r':Nat) (R R':fH) (k k':Nat) (sc ez:fz),C.rows[r]? =some R->C.rows[r']? =some R'->R.steps[k]? =some sc->R'.steps[k']? =some ez->sc.st.adr=ez.st.adr->r=r'/\k=k'
 kind:∀(r:Nat) (R:fH) (k:Nat) (sc:fz),C.rows[r]? =some R->R.steps[k]? =some sc->(match sc.st with| .join _=>sc.c.kind=1| .nt _=>sc.c.kind=2| .test _=>sc.c.kind=3)
theorem jd.unique {loc:Loc} {n m:Nat} (h:jd loc n)(h':jd loc m):n=m:=by
 obtain⟨L,a1,a2,rfl⟩:=h;obtain⟨M,b1,b2,rfl⟩:=h';exact Nat.le_antisymm (Kf a1 λz U=>(b2 z).2 ((a2 z).1 U)) (Kf b1 λz U=>(a2 z).2 ((b2 z).1 U))
def j8 (loc:Loc)(p:Nat)(l:Nat×aq Int):Loc:=λb=>if b=p then some l else loc b
theorem jd.add {loc:Loc} {n p r:Nat} {π:aq Int} (h:jd loc n)(hp:loc p=none)(ke:π≠[]):jd (j8 loc p (r,π)) (n+1):=by
 obtain⟨L,U,a2,rfl⟩:=h;refine⟨p::L,a!.2 ⟨λhm=>?_,U⟩,λq=>?_,rfl⟩
 ·obtain⟨r',fV,h1,_⟩:=(a2 p).1 hm;rw[hp]at h1;cases h1
 ·simp only[M',a2,j8];by_cases hq:q=p;· subst hq;simp;exact⟨r,π,⟨rfl,rfl⟩,ke⟩
  · simp[hq]
section
variable {S:fY} {C:gA} {T:dc} {Ta:Nat->dc} {B:Nat->aq Int->dc×dc} {Zo:Nat->Prop} {di:bf Nat} {loc:Loc} {s:Qe}
theorem Inv.gNet (h:Inv S C T Ta B Zo di loc s):∃x,Go.Proofs.YtocfkfhdcnjklaaGreatDoor.gNet s C.g=some x/\s C.g=some (.net x)/\x.types=C.types/\x.rows=C.rows.map (·.b)/\x.rowsP=C.rP/\x.rowsC=C.rC/\x.alphas=C.alphas/\x.alphasA=C.alphasA/\(x.facts.keys.Nodup/\∀i,x.facts.look i=Ta C.g i)/\∃n:Nat,x.parts=(n:Int)/\jd loc n:=by
 obtain⟨x,h1,U⟩:=h.net;exact⟨x,by simp[Go.Proofs.YtocfkfhdcnjklaaGreatDoor.gNet,h1],h1,U⟩
theorem Inv.gRow (h:Inv S C T Ta B Zo di loc s) {r:Nat} {R:fH} (hr:C.rows[r]? =some R):∃y,Go.Proofs.YtocfkfhdcnjklaaGreatDoor.gRow s R.b=some y/\s R.b=some (.row y)/\y.net=C.g/\y.steps=R.steps.map (·.st)/\y.stepsP=R.sP/\y.stepsC=R.sC/\LK di loc r R.steps.length y.whole:=by
 obtain⟨x,h1,U⟩:=h.row r R hr;exact⟨x,by simp[Go.Proofs.YtocfkfhdcnjklaaGreatDoor.gRow,h1],h1,U⟩
theorem Inv.gPart (h:Inv S C T Ta B Zo di loc s) {p r:Nat} {π:aq Int} (hp:loc p=some (r,π)):∃R x,C.rows[r]? =some R/\Go.Proofs.YtocfkfhdcnjklaaGreatDoor.gPart s p=some x/\s p=some (.part x)/\SC S T B di loc R r p π x:=by
 obtain⟨R,x,h1,U,h3⟩:=h.part p r π hp;exact⟨R,x,h1,by simp[Go.Proofs.YtocfkfhdcnjklaaGreatDoor.gPart,U],U,h3⟩
theorem EV {N r:Nat} {R:fH} {Q:Bool->Prop} (h:Inv S C T Ta B Zo di loc s)(hr:C.rows[r]? =some R)(hQ:∀n,jd loc n->Q (decide (4096<n))):SK N R.b s Q:=by
 obtain⟨y,h1,_,U,_⟩:=h.gRow hr;obtain⟨x,g1,_,_,_,_,_,_,_,_,n,g2,g3⟩:=h.gNet;refine Qo h1 ?_;rw[U];refine Qo g1 ?_;have:=hQ n g3;rw[g2]
 have e:decide ((n:Int)>4096)=decide (4096<n):=by
  by_cases hh:4096<n;· rw[decide_eq_true hh,decide_eq_true au]
  · rw[decide_eq_false hh,decide_eq_false au]
 rw[e];exact this
theorem QI {s:Qe} {a b:Nat} {o:PO} (h:b≠a):dp s a o b=s b:=if_neg h
theorem LK.fresh {r k p:Nat} {l:Nat×aq Int} {m:MS Nat Bool} (hp:loc p=none)(h:LK none loc r k m):LK (some p) (j8 loc p l) r k m:=λy=>by
 rw[h y];unfold j8;by_cases hy:y=p;· subst hy;simp[hp]
 · simp[hy]
theorem Inv.none_loc (h:Inv S C T Ta B Zo di loc s) {p:Nat} (hp:s p=none):loc p=none:=by
 cases hl:loc p with
 |none=>rfl
 | some l=>
   obtain⟨R,x,_,U,_⟩:=h.part p l.1 l.2 hl;rw[hp]at U;cases U
theorem Zz {ρ U:aq Int} {i i':Int} (h:ρ++[i]=U++[i']):ρ=U/\i=i':=by
 have:=List.append_inj' h rfl;exact⟨this.1,by simpa using this.2⟩
theorem Inv.kid (h:Inv S C T Ta B Zo none loc s) {p q r:Nat} {ρ:aq Int} {i:Int} {R:fH} {x:ji} {xn:gP} {hs:aq Bool} {vs:aq V} {ka:Nat} (hr:C.rows[r]? =some R)(hp:s p=none)(hq:loc q=some (r,ρ))(hx:s q=some (.part x))(hn:s C.g=some (.net xn))
  (he:gE S T R.steps (R.hs,R.vs) (ρ++[i])=some (hs,vs)) (gF:∀y,loc y≠some (r,ρ++[i])) (gK:∀sc a,R.steps[ρ.length]? =some sc->sc.st=.nt a->∀j,¬kT S sc (x.has,x.vals) (B r ρ).2 j) (hle:∀n,jd loc n->n<=4096):
  Inv S C T Ta B Zo (some p) (j8 loc p (r,ρ++[i])) (dp (dp (dp s p (.part ⟨hs,vs,some q,i,MS.nil,ka,none⟩)) q (.part {x with kids:=x.kids.put p true})) C.g (.net {xn with parts:=xn.parts+1})):=by
 have Fj:=h.none_loc hp;have hqp:q≠p:=λe=>by rw[e,hp]at hx;cases hx
 have hpg:p≠C.g:=λe=>by rw[e,hn]at hp;cases hp
 have old:∀b,b≠p->b≠q->b≠C.g->(dp (dp (dp s p (.part ⟨hs,vs,some q,i,MS.nil,ka,none⟩)) q (.part {x with kids:=x.kids.put p true})) C.g (.net {xn with parts:=xn.parts+1})) b=s b:=λb h1 h2 h3=>by
  rw[QI h3,QI h2,QI h1]
 have YA:∀y l,loc y=some l->j8 loc p (r,ρ++[i]) y=some l:=λy l hl=>by
  unfold j8;rw[if_neg (λe=>by rw[e,Fj]at hl;cases hl)];exact hl
 have U0:∀y j,j8 loc p (r,ρ++[i]) y≠some (r,ρ++[i]++[j]):=λy j hy=>by
  unfold j8 at hy;split at hy
  ·simp only[Option.some.injEq,Prod.mk.injEq,true_and]at hy;have:=congrArg List.length hy;simp at this
  ·obtain⟨R',x',_,_,h4⟩:=h.part _ _ _ hy;obtain⟨_,q2,_,h5⟩:=h4.up _ _ rfl;exact gF _ h5
 refine⟨?_,?_,?_,?_,?_,?_,?_,?_⟩
 ·obtain⟨x0,a1,a2,a3,a4,a5,a6,a7,a8,n,a9,iU⟩:=h.net;rw[hn]at a1;cases a1;exact⟨_,jH _ _ _,a2,a3,a4,a5,a6,a7,a8,n+1,by simp[a9],iU.add Fj bh⟩
 ·intro r' R' ei;obtain⟨y,U,b2,b3,b4,b5,b6⟩:=h.row r' R' ei;rw[old _ (λe=>by rw[e,hp]at U;cases U) (λe=>by rw[e,hx]at U;cases U) (λe=>by rw[e,hn]at U;cases U)];exact⟨y,U,b2,b3,b4,b5,b6.fresh Fj⟩
 ·intro r' R' k sc ei hk hz;have h0:=h.step r' R' k sc ei hk hz
  have hb:∀o,s sc.st.adr=some o->(∀z,o≠.part z)->(∀z,o≠.net z)->(dp (dp (dp s p (.part ⟨hs,vs,some q,i,MS.nil,ka,none⟩)) q (.part {x with kids:=x.kids.put p true})) C.g (.net {xn with parts:=xn.parts+1})) sc.st.adr=some o:=λo ho c1 c2=>by
   rw[old _ (λe=>by rw[e,hp]at ho;cases ho) (λe=>by rw[e,hx]at ho;cases ho;exact c1 _ rfl) (λe=>by rw[e,hn]at ho;cases ho;exact c2 _ rfl)];exact ho
  unfold jg at h0⊢;split at h0
  ·obtain⟨z,U,b2,b3,b4,b5,b6⟩:=h0;exact⟨z,hb _ U cr cr,b2,b3,b4,b5,b6.fresh Fj⟩
  ·obtain⟨z,U,b2,b3,b4,b5,b6⟩:=h0;exact⟨z,hb _ U cr cr,b2,b3,b4,b5,b6.fresh Fj⟩
  ·obtain⟨z,U,b3,b4,b5,b6⟩:=h0;exact⟨z,hb _ U cr cr,b3,b4,b5,b6⟩
 ·intro A hA;obtain⟨z,U,b2⟩:=h.al A hA;refine⟨z,?_,b2⟩;rw[old _ (λe=>by rw[e,hp]at U;cases U) (λe=>by rw[e,hx]at U;cases U) (λe=>by rw[e,hn]at U;cases U)];exact U
 ·intro p' r' fV hl;by_cases h1:p'=p
  ·subst h1;have:(r,ρ++[i])=(r',fV):=by simpa[j8]using hl
   cases this;refine⟨R,⟨hs,vs,some q,i,MS.nil,ka,none⟩,hr,(by rw[QI hpg,QI (Ne.symm hqp),jH]),⟨he,λe=>by simp at e,λde i' e=>?_,λy=>?_,λe=>absurd rfl e,λsc a _ _ hk=>?_,g!⟩⟩
   ·obtain⟨rfl,rfl⟩:=Zz e;exact⟨rfl,q,rfl,YA _ _ hq⟩
   · exact⟨λhy=>absurd hy MS.keys_nil,λ⟨j,hj⟩=>absurd hj (U0 y j)⟩
   · obtain⟨y,j,hj⟩:=hk;exact absurd hj (U0 y j)
  ·have ti:loc p'=some (r',fV):=by unfold j8 at hl;rwa [if_neg h1]at hl
   obtain⟨R',x',c1,c2,c3⟩:=h.part p' r' fV ti;have a0W:p'≠C.g:=λe=>by rw[e,hn]at c2;cases c2
   have hup:∀de j,fV=de++[j]->x'.id=j/\∃q2,x'.up=some q2/\j8 loc p (r,ρ++[i]) q2=some (r',de):=λde j e=>by
    obtain⟨d1,q2,d2,d3⟩:=c3.up de j e;exact⟨d1,q2,d2,YA _ _ d3⟩
   by_cases h2:p'=q
   ·subst h2;rw[hq]at ti;cases ti;rw[hr]at c1;cases c1;rw[hx]at c2;cases c2;refine⟨R,{x with kids:=x.kids.put p true},hr,(by rw[QI a0W,jH]),⟨c3.env,c3.top,hup,λy=>?_,λ_=>c3.blocks bh,λsc a e1 e2 _=>gK sc a e1 e2,MS.nodup_put c3.kn⟩⟩;rw[MS.keys_put,c3.kids];unfold j8;by_cases hy:y=p;· subst hy;simp
    · simp[hy]
   ·refine ⟨R',x',c1,(by rw[old _ h1 h2 a0W];exact c2),⟨c3.env,c3.top,hup,λy=>?_,λ_=>c3.blocks bh,λsc a e1 e2 hk=>c3.free sc a e1 e2 ?_,c3.kn⟩⟩
    ·rw[c3.kids];unfold j8;by_cases hy:y=p
     ·subst hy;simp only[Fj,if_true,reduceCtorEq,exists_false,Option.some.injEq,Prod.mk.injEq,false_iff,not_exists];rintro j ⟨rfl,e⟩;obtain⟨rfl,_⟩:=Zz e;exact h2 (h.inj _ _ _ ti hq)
     · simp[hy]
    ·obtain⟨y,j,hj⟩:=hk;refine⟨y,j,?_⟩;unfold j8 at hj;split at hj
     ·simp only[Option.some.injEq,Prod.mk.injEq]at hj;obtain⟨rfl,e⟩:=hj;obtain⟨rfl,_⟩:=Zz e;exact absurd (h.inj _ _ _ ti hq) h2
     · exact hj
 ·intro a b l ha hb;unfold j8 at ha hb;by_cases h1:a=p<;>by_cases h2:b=p;· rw[h1,h2]
  ·rw[if_pos h1]at ha;rw[if_neg h2]at hb;cases ha;exact absurd hb (gF _)
  ·rw[if_neg h1]at ha;rw[if_pos h2]at hb;cases hb;exact absurd ha (gF _)
  ·rw[if_neg h1]at ha;rw[if_neg h2]at hb;exact h.inj _ _ _ ha hb
 ·intro r' R' ei;exact YA _ _ (h.root r' R' ei)
 ·intro n' JU;obtain⟨_,_,_,_,_,_,_,_,_,n,_,iU⟩:=h.net;have:=JU.unique (iU.add Fj bh);have:=hle n iU;omega
end
end
section
open Go Go.RowKit
section
variable {s:Qe} {a b:Nat} {o:PO}
theorem te (h:b≠a):gPart (dp s a o) b=gPart s b:=by simp[gPart,dp,h]
theorem zC (h:b≠a):gRow (dp s a o) b=gRow s b:=by simp[gRow,dp,h]
theorem LD (h:b≠a):gNet (dp s a o) b=gNet s b:=by simp[gNet,dp,h]
theorem oa (h:b≠a):wa (dp s a o) b=wa s b:=by simp[wa,dp,h]
theorem EX (h:b≠a):jq (dp s a o) b=jq s b:=by simp[jq,dp,h]
theorem LF {x:ji} (h:s a=some (.part x)):gPart s a=some x:=by simp[gPart,h]
theorem tf {x:nQ} (h:s a=some (.row x)):gRow s a=some x:=by simp[gRow,h]
theorem R1 {x:gP} (h:s a=some (.net x)):gNet s a=some x:=by simp[gNet,h]
theorem Zp {x:Ox} (h:s a=some (.alpha x)):wa s a=some x:=by simp[wa,h]
theorem UX {x:xm} (h:s a=some (.join x)):jo s a=some x:=by simp[jo,h]
theorem Ot {x:xm} (h:s a=some (.nt x)):jq s a=some x:=by simp[jq,h]
theorem uC {x:lP} (h:s a=some (.test x)):ru s a=some x:=by simp[ru,h]
theorem tC {U:PO}:dp (dp s a o) a U=dp s a U:=by funext c;unfold dp;split<;>rfl
theorem xB (h:b≠a):del s a b=s b:=if_neg h
end
section
variable {S:fY} {C:gA} {T:dc} {Ta:Nat->dc} {B:Nat->aq Int->dc×dc} {Zo:Nat->Prop} {di:bf Nat} {loc:Loc} {s:Qe}
variable {N q r:Nat}{ρ:aq Int}{i:Int}{R:fH}{e:fb}{hs:aq Bool}{vs:aq V}{Q:Nat×Qe->Prop}
theorem Mr {p0:Nat} (h:Inv S C T Ta B Zo none loc s)(hr:C.rows[r]? =some R)(hq:loc q=some (r,ρ))(h0:gE S T R.steps (R.hs,R.vs) ρ=some e)
  (he:gE S T R.steps (R.hs,R.vs) (ρ++[i])=some (hs,vs)) (gF:∀y,loc y≠some (r,ρ++[i])) (gK:∀sc a,R.steps[ρ.length]? =some sc->sc.st=.nt a->∀j,¬kT S sc e (B r ρ).2 j) (Rg:∀n,jd loc n->n<=4096)
  (hQ:∀p s',loc p=none->Inv S C T Ta B Zo (some p) (j8 loc p (r,ρ++[i])) s'->Q (p,s')):OZ N R.b q hs vs i s Q:=by
 obtain⟨R',x,r1,r2,U,r4⟩:=h.gPart hq;rw[hr]at r1;cases r1;have hxe:e=(x.has,x.vals):=by have:=h0.symm.trans r4.env;exact Option.some.inj this
 obtain⟨y,y1,y2,y3,_⟩:=h.gRow hr;obtain⟨xn,g1,g2,_,_,_,_,_,_,_,n,g3,g4⟩:=h.gNet;have hn:=Rg n g4;refine wq λka=>kI λp hp=>?_;have hqp:q≠p:=λe=>by rw[e,hp]at U;cases U
 have hqg:q≠C.g:=λe=>by rw[e,g2]at U;cases U
 have hpg:p≠C.g:=λe=>by rw[e,g2]at hp;cases hp
 have hRp:R.b≠p:=λe=>by rw[e,hp]at y2;cases y2
 have hRq:R.b≠q:=λe=>by rw[e,U]at y2;cases y2
 refine Qo (a:=x) (by rw[te hqp];exact r2) ?_;refine gY (λz hz=>?_) ?_
 ·rcases hz with rfl|hz;· rw[jH];simp
  ·obtain⟨j,hj⟩:=(r4.kids z).1 hz;obtain⟨_,xz,_,c2,_⟩:=h.part _ _ _ hj;rw[QI (λe=>by rw[e,hp]at c2;cases c2),c2];simp
 refine nF ?_;refine Qo (a:=y) (by rw[zC hRq,zC hRp];exact y1) ?_;rw[y3];refine Qo (a:=xn) (by rw[LD (Ne.symm hqg),LD (Ne.symm hpg)];exact g1) ?_;refine gY au ?_;refine nF ?_;exact hQ p _ (h.none_loc hp) (h.kid hr hp hq U g2 he gF (λsc a e1 e2=>by rw[<-hxe];exact gK sc a e1 e2) Rg)
theorem Xy (h:Inv S C T Ta B Zo none loc s)(hr:C.rows[r]? =some R)(hq:loc q=some (r,ρ))(h0:gE S T R.steps (R.hs,R.vs) ρ=some e)
 (he:gE S T R.steps (R.hs,R.vs) (ρ++[i])=some (hs,vs)) (gF:∀y,loc y≠some (r,ρ++[i])) (gK:∀sc a,R.steps[ρ.length]? =some sc->sc.st=.nt a->∀j,¬kT S sc e (B r ρ).2 j) (U:∀n,jd loc n->n<=4096)
 (hQ:∀p s',loc p=none->Inv S C T Ta B Zo (some p) (j8 loc p (r,ρ++[i])) s'->Q (p,s')):OZ N R.b q hs vs i s Q:=Mr (N:=N) (p0:=0) h hr hq h0 he gF gK U hQ
theorem Inv.del (_:pV C)(h:Inv S C T Ta B Zo di loc s) {r k:Nat} {R:fH} {sc:fz} (hr:C.rows[r]? =some R)(hk:R.steps[k]? =some sc)(hz:¬Zo sc.st.adr):Inv S C T Ta B (λb=>Zo b\/b=sc.st.adr) di loc (del s sc.st.adr):=by
 have h0:=h.step r R k sc hr hk hz
 have hs:∀b o,s b=some o->(∀z,o≠.join z)->(∀z,o≠.nt z)->(∀z,o≠.test z)->Go.Proofs.YtocfkfhdcnjklaaGreatDoor.del s sc.st.adr b=some o:=λb o hb c1 c2 c3=>by
  rw[xB];· exact hb
  ·intro e;subst e;unfold jg at h0;split at h0;· obtain⟨x,U,_⟩:=h0;rw[hb]at U;cases U;exact c1 _ rfl
   · obtain⟨x,U,_⟩:=h0;rw[hb]at U;cases U;exact c2 _ rfl
   · obtain⟨x,U,_⟩:=h0;rw[hb]at U;cases U;exact c3 _ rfl
 refine⟨?_,?_,?_,?_,?_,h.inj,h.root,h.le⟩
 ·obtain⟨x,a1,a2⟩:=h.net;exact⟨x,hs _ _ a1 cr cr cr,a2⟩
 ·intro r' R' ei;obtain⟨x,a1,a2⟩:=h.row r' R' ei;exact⟨x,hs _ _ a1 cr cr cr,a2⟩
 ·intro r' R' k' ez ei eO zK;rw[xB (λe=>zK (.inr e))];exact h.step r' R' k' ez ei eO λe=>zK (.inl e)
 ·intro A hA;obtain⟨x,a1,a2⟩:=h.al A hA;exact⟨x,hs _ _ a1 cr cr cr,a2⟩
 ·intro p r' π hl;obtain⟨R',x,a1,a2,a3⟩:=h.part p r' π hl;exact⟨R',x,a1,hs _ _ a2 cr cr cr,a3⟩
theorem Inv.back (hW:pV C) {r k:Nat} {R:fH} {sc:fz} {o:PO} (h:Inv S C T Ta B (λb=>Zo b\/b=sc.st.adr) di loc s)(hr:C.rows[r]? =some R)(hk:R.steps[k]? =some sc)(hs:s sc.st.adr=none)(ho:jg di loc r R k sc (some o)):Inv S C T Ta B Zo di loc (dp s sc.st.adr o):=by
 have ne:∀b o',s b=some o'->dp s sc.st.adr o b=some o':=λb o' hb=>by
  rw[QI (λe=>by rw[e,hs]at hb;cases hb)];exact hb
 refine⟨?_,?_,?_,?_,?_,h.inj,h.root,h.le⟩;· obtain⟨x,U,a2⟩:=h.net;exact⟨x,ne _ _ U,a2⟩
 ·intro r' R' ei;obtain⟨x,U,a2⟩:=h.row r' R' ei;exact⟨x,ne _ _ U,a2⟩
 ·intro r' R' k' ez ei eO zK;by_cases e:ez.st.adr=sc.st.adr
  ·obtain⟨rfl,rfl⟩:=hW.steps _ _ _ _ _ _ _ _ ei hr eO hk e;rw[hr]at ei;cases ei;rw[hk]at eO;cases eO;rw[jH];exact ho
  ·rw[QI e];exact h.step r' R' k' ez ei eO λe'=>by rcases e' with e'|e';exact zK e';exact e e'
 ·intro A hA;obtain⟨x,U,a2⟩:=h.al A hA;exact⟨x,ne _ _ U,a2⟩
 ·intro p r' π hl;obtain⟨R',x,U,a2,a3⟩:=h.part p r' π hl;exact⟨R',x,U,ne _ _ a2,a3⟩
structure jl (T:dc) (D:List Int):Prop where
 mem:∀i f,T i=some f->i∈D/\f.id=i/\1<=i/\i<=1099511627776
 len:D.length<=8000000000000
theorem MY {N:Nat} {A:K3} {Ta:dc} {D:aq Int} {Q:aq Qg->Prop} (hA:K4 Ta A (s A.b))(hT:jl Ta D)(hN:D.length<N)(hD:D.length<=3518437208882)
  (hQ:∀l:aq Qg,(l.map (·.id)).Nodup->(∀f,f∈l↔Ta f.id=some f/\hasB A f=true)->l.length<=D.length->Q l):YT N A.b s Q:=by
 obtain⟨x,h1,h2,h3,h4,h5⟩:=hA
 have hk:∀i,i∈x.facts.keys↔∃f,Ta i=some f/\hasB A f=true:=λi=>by
  rw[MS.look_iff];constructor;· rintro⟨f,U⟩;rw[h5]at U;exact⟨f,by simpa using U⟩
  · rintro⟨f,DU,BO⟩;exact⟨f,by rw[h5];simp[DU,BO]⟩
 have hlen:x.facts.keys.length<=D.length:=JC h4 λi hi=>by
  obtain⟨f,U,_⟩:=(hk i).1 hi;exact(hT.mem i f U).1
 have rB:(nB x.facts).Perm x.facts.keys:=List.mergeSort_perm _ _
 have M1:UW x.facts=true:=by
  unfold UW;simp only[n!,q!,decide_eq_true_eq];refine⟨λi hi=>?_,by have:=hT.len;omega⟩;obtain⟨f,U,_⟩:=(hk i).1 hi;obtain⟨_,_,b1,b2⟩:=hT.mem i f U;have e1:IntKind.min .i64=-9223372036854775808:=bp
  have e2:IntKind.max .i64=9223372036854775807:=bp
  simp only[Lit.wf,n!,decide_eq_true_eq,e1,e2];omega
 refine Qo (Zp h1) ?_;refine gY M1 ?_;refine z7 (λ(u,l)=>u<=(nB x.facts).length/\l.map (·.id)=(nB x.facts).take u/\∀f∈l,Ta f.id=some f/\hasB A f=true) (λ(u,_)=>(nB x.facts).length-u) ?_ N (0,[]) ⟨Q' _,rfl,λ_ h=>by cases h⟩ (by rw[rB.length_eq];simp;omega);rintro⟨u,l⟩ ag ⟨hu,hl,U⟩ gQ;dsimp only at hu hl U gQ⊢;refine jj (λhb=>?_) (λhb=>?_)
 ·have cj:u<(nB x.facts).length:=of_decide_eq_true hb;obtain⟨i,hi⟩:∃i,(nB x.facts)[u]? =some i:=⟨_,m' cj⟩
  have him:i∈x.facts.keys:=rB.mem_iff.1 (v' hi);obtain⟨f,DU,BO⟩:=(hk i).1 him;have ZM:=(hT.mem i f DU).2.1;refine Qo hi ?_;refine FF (a:=f) (by rw[h5];simp[DU,BO]) ?_;have hll:l.length=u:=by have:=congrArg List.length hl;simpa[Nat.min_eq_left hu]using this
  have hsl:(nB x.facts).length<=D.length:=by rw[rB.length_eq];exact hlen
  refine gY (by simp only[g',E'];omega) ?_;refine gY au ?_;refine gQ (u+1,l++[f]) ⟨au,?_,λg hg=>?_⟩ au
  ·rw[r!,hl,b!,hi];simp[ZM]
  ·rcases j'.1 hg with hg|hg;· exact U g hg
   · rw[f'.1 hg,ZM];exact⟨DU,BO⟩
 ·have pN:¬u<(nB x.facts).length:=of_decide_eq_false hb;have zG:l.map (·.id)=nB x.facts:=by rw[hl,H' au]
  refine hQ l ?_ (λf=>⟨U f,λ⟨f1,f2⟩=>?_⟩) ?_;· rw[zG];exact rB.nodup_iff.2 h4
  ·have:f.id∈l.map (·.id):=by rw[zG];exact rB.mem_iff.2 ((hk _).2 ⟨f,f1,f2⟩)
   obtain⟨g,hg,hgi⟩:=p!.1 this;have:=(U g hg).1;rw[hgi,f1]at this;cases this;exact hg
  ·have:=congrArg List.length zG;rw[List.length_map]at this;rw[this,rB.length_eq];exact hlen
end
end
section
open Go Go.RowKit Classical
noncomputable section
def jP (S:fY)(T:dc)(sc:fz)(e:fb)(i:Int):bf fb:=match sc.st with
 | .join _=>(T i).bind λf=>S.mt sc.c e.1 e.2 f
 | .nt _=>if i=0/\∀j,¬kT S sc e T j then some e else none
 | .test _=>if i=0/\S.ev sc.c e.2=true then some e else none
def gL (S:fY)(T:dc):aq fz->fb->aq Int->bf fb
 |_,e,[]=>some e
 |[],_,_::_=>none
 |sc::l,e,i::π=>(jP S T sc e i).bind λU=>gL S T l U π
end
abbrev B0:Nat:=9223372036855775808
structure yY (S:fY) (I:fb->Prop) (C:gA) (T:dc) (sc:fz):Prop where
 mt:(∀a,sc.st≠.test a)->∀N,B0<=N->∀f,T f.id=some f->∀e,I e->
  ∃a b,Jy N sc.c.kind sc.c.type sc.c.args sc.c.test.kind sc.c.test.value.k sc.c.test.value.n sc.c.test.value.s sc.c.test.var sc.c.test.op sc.c.test.kids f.id f.ty f.args e.1 e.2=some (a,b,(S.mt sc.c e.1 e.2 f).isSome)/\∀p,S.mt sc.c e.1 e.2 f=some p->p=(a,b)/\I p
 ev:∀a,sc.st=.test a->∀N,B0<=N->∀e,I e->
  ∃k n s z,w5 N sc.c.test.kind sc.c.test.value.k sc.c.test.value.n sc.c.test.value.s sc.c.test.var sc.c.test.op sc.c.test.kids e.2=some (k,n,s,z)/\S.ev sc.c e.2=(z==0&&(k==1&&n !=0))
 al:(∀a,sc.st≠.test a)->∃A∈C.als,A.b=sc.al/\∀(f:Qg) (e p:fb),S.mt sc.c e.1 e.2 f=some p->hasB A f=true
def rY (loc:Loc):Prop:=∀n,jd loc n->n<=4096
def lL (loc U:Loc):Prop:=∀y l,loc y=some l->U y=some l
def DM (loc U:Loc)(r:Nat)(π:aq Int):Prop:=lL loc U/\∀y l,U y=some l->loc y=none->∃τ,τ≠[]/\l=(r,π++τ)
def jz (S:fY)(T:dc)(loc:Loc)(r:Nat)(π:aq Int)(l:aq fz)(e:fb):Prop:=∀U,gL S T l e U≠none->∃y,loc y=some (r,π++U)
theorem jd.mono {loc U:Loc} {n n':Nat} (h:jd loc n)(h':jd U n')(he:lL loc U):n<=n':=by
 obtain⟨L,a1,a2,rfl⟩:=h;obtain⟨M,b1,b2,rfl⟩:=h';refine Kf a1 λz hz=>?_;obtain⟨r,π,h1,h2⟩:=(a2 z).1 hz;exact(b2 z).2 ⟨r,π,he _ _ h1,h2⟩
theorem lL.refl (loc:Loc):lL loc loc:=λ_ _ h=>h
theorem lL.trans {a b c:Loc} (h:lL a b)(h':lL b c):lL a c:=λy l hy=>h' y l (h y l hy)
theorem DM.refl (loc:Loc)(r:Nat)(π:aq Int):DM loc loc r π:=⟨lL.refl _,λy l h h'=>by rw[h]at h';cases h'⟩
theorem jz.mono {S:fY} {T:dc} {loc U:Loc} {r:Nat} {π:aq Int} {l:aq fz} {e:fb} (h:jz S T loc r π l e)(he:lL loc U):jz S T U r π l e:=λτ iD=>by
 obtain⟨y,hy⟩:=h τ iD;exact⟨y,he _ _ hy⟩
section
variable {S:fY} {I:fb->Prop} {C:gA} {T:dc} {Ta:Nat->dc} {B:Nat->aq Int->dc×dc} {Zo:Nat->Prop} {di:bf Nat} {loc:Loc} {s:Qe} {D:aq Int}
variable {p:Nat}{l:Nat×aq Int}
theorem Inv.cnt (h:Inv S C T Ta B Zo di loc s):∃n,jd loc n:=by
 obtain⟨x,_,_,_,_,_,_,_,_,n,_,U⟩:=h.net;exact⟨n,U⟩
theorem Q8N (h:∃n,jd loc n) {U:Loc} (he:lL loc U)(h':rY U)(hc:∃n,jd U n):rY loc:=λn hn=>by
 obtain⟨m,hm⟩:=hc;exact K' (hn.mono hm he) (h' m hm)
theorem LK.grown {bq:Loc} {r r' k:Nat} {π:aq Int} {m:MS Nat Bool} (h:LK none loc r' k m)(hg:DM loc bq r π)(hk:r'=r->k<=π.length):LK none bq r' k m:=λy=>by
 rw[h y];constructor;· rintro⟨⟨ρ,h1,U⟩,h3⟩;exact⟨⟨ρ,hg.1 _ _ h1,U⟩,h3⟩
 ·rintro⟨⟨ρ,h1,U⟩,h3⟩;refine⟨⟨ρ,?_,U⟩,h3⟩;cases hl:loc y with
  |some l=>have:=hg.1 _ _ hl;rw[h1]at this;exact this.symm
  | none=>
    obtain⟨τ,q1,q2⟩:=hg.2 _ _ h1 hl;obtain⟨rfl,rfl⟩:=q2;have:=e!.2 q1;simp only[t']at U;omega
def YK (S:fY)(C:gA)(T:dc)(B:Nat->aq Int->dc×dc)(I:fb->Prop)(rc:Nat->Int->Nat->Qe->WM Qe)(r:Nat)(R:fH)(k:Nat):Prop:=
 ∀ (Zo:Nat->Prop) (loc:Loc) (s:Qe) (p:Nat) (π:aq Int) (e:fb) (Q:Qe->Prop),Inv S C T (λ_=>T) B Zo (some p) loc s->loc p=some (r,π)->π.length=k->gE S T R.steps (R.hs,R.vs) π=some e->I e->
   (∀y i,loc y≠some (r,π++[i]))->(∀k' sc,k<=k'->R.steps[k']? =some sc->¬Zo sc.st.adr)->
   (∀U s',Inv S C T (λ_=>T) B Zo none U s'->DM loc U r π->(rY U->jz S T U r π (R.steps.drop k) e)->Q s')->rc R.b (k:Int) p s Q
theorem mV:j8 loc p l p=some l:=if_pos rfl
theorem qt (hp:loc p=none):lL loc (j8 loc p l):=λy U h=>by
 unfold j8;rw[if_neg (λe=>by rw[e,hp]at h;cases h)];exact h
theorem U2 {N r k a:Nat} {R:fH} {sc:fz} {π:aq Int} {e:fb} {f:Qg} {rc:Nat->Int->Nat->Qe->WM Qe} {Q:Qe->Prop} (hW:pV C)(hlen:R.steps.length<9223372036854775807)(hN:B0<=N)(hr:C.rows[r]? =some R)(hk:R.steps[k]? =some sc)(cx:sc.st=.join a)(dh:yY S I C T sc)(Ix:YK S C T B I rc r R (k+1))
  (h:Inv S C T (λ_=>T) B Zo none loc s) (hp:loc p=some (r,π)) (ke:π.length=k) (he:gE S T R.steps (R.hs,R.vs) π=some e) (hI:I e) (hf:T f.id=some f) (gF:∀y,loc y≠some (r,π++[f.id])) (hZ:∀k' sc,k<=k'->R.steps[k']? =some sc->¬Zo sc.st.adr)
  (hQ:∀bq s',Inv S C T (λ_=>T) B Zo none bq s'->lL loc bq->(∀y l,bq y=some l->loc y=none->∃τ,l=(r,π++[f.id]++τ))->(rY bq->∀U,S.mt sc.c e.1 e.2 f=some U->jz S T bq r (π++[f.id]) (R.steps.drop (k+1)) U)->Q s'):
  Q6g N rc a p f.id f.ty f.args s Q:=by
 have hz:=hZ k sc (c! _) hk;have fT:sc.st.adr=a:=by rw[cx];rfl
 have h0:=h.step r R k sc hr hk hz;unfold jg at h0;rw[cx]at h0;obtain⟨x,b1,b2,b3,b4,b5,b6⟩:=h0;have si:s a=some (.join x):=b1;refine Qo (UX si) ?_;refine gV ?_;rw[b3];refine EV h hr λn hn=>?_;refine jj (λhb=>?_) (λhb=>?_)
 ·refine hQ loc s h (lL.refl _) (λy l h1 h2=>by rw[h1]at h2;cases h2) λhX=>?_;have:=hX n hn;have:=of_decide_eq_true hb;omega
 ·have hnn:=of_decide_eq_false hb;obtain⟨R',z,c1,c2,c3,c4⟩:=h.gPart hp;rw[hr]at c1;cases c1;have AQ:e=(z.has,z.vals):=Option.some.inj (he.symm.trans c4.env);refine Qo c2 ?_;obtain⟨ha,hv,d1,d2⟩:=dh.mt (λa' U=>by rw[cx]at U;cases U) N hN f hf e hI;rw[AQ]at d1;rw[b5];refine Qo d1 ?_;refine jj (λuG=>?_) (λuG=>?_)
  ·obtain ⟨U,hme⟩:∃U,S.mt sc.c e.1 e.2 f=some U:=by rw[AQ];exact l!.1 uG
   obtain⟨GW,a2t⟩:=d2 U hme;have kZ:k<R.steps.length:=(c'.1 hk).1
   have TS:gE S T R.steps (R.hs,R.vs) (π++[f.id])=some (ha,hv):=by
    rw[QbF,he];simp only[F',ke,hk,hY,cx,hf,hme,GW]
   refine gY (by rw[b4];omega) ?_;refine gV ?_;rw[b4];have lD:=h.del hW hr hk hz;rw[fT]at lD;refine Xy lD hr hp he TS gF (λez a' q1 q2=>by rw[ke,hk]at q1;cases q1;rw[cx]at q2;cases q2) (λm hm=>by have:=hm.unique hn;omega) λp' s1 ew kc=>?_;refine gV ?_;have BK:(k:Int)+1=((k+1:Nat):Int):=au
   rw[BK];refine Ix _ _ s1 p' (π++[f.id]) (ha,hv) _ kc mV (by simp[ke]) TS (by rw[<-GW];exact a2t) (λy i hy=>?_) (λk' ez eO H3=>?_) λfa s2 jT oe wi=>?_
   ·unfold j8 at hy;split at hy
    ·simp only[Option.some.injEq,Prod.mk.injEq,true_and]at hy;have:=congrArg List.length hy;simp at this
    ·obtain⟨R',z',_,_,h4⟩:=h.part _ _ _ hy;obtain⟨_,q2,_,h5⟩:=h4.up _ _ rfl;exact gF _ h5
   ·rintro(hh|hh);· exact hZ k' ez au H3 hh
    ·have:=(hW.steps r r R R k' k ez sc hr hr H3 hk (by rw[hh,fT])).2;omega
   ·refine nF (kX λFl=>?_)
    have pN:DM loc fa r π:=⟨(qt ew).trans oe.1,λy l h1 h2=>by
     cases hy:j8 loc p' (r,π++[f.id]) y with
     | none=>
       obtain⟨τ,_,rfl⟩:=oe.2 y l h1 hy;exact⟨f.id::τ,bh,bh⟩
     | some l'=>
       have h3:=oe.1 y l' hy;rw[h1]at h3;cases h3;unfold j8 at hy;split at hy;· cases hy;exact⟨[f.id],bh,rfl⟩
       · rw[h2]at hy;cases hy⟩
    have hb:Inv S C T (λ_=>T) B Zo none fa (dp s2 sc.st.adr (.join x)):=by
     refine Inv.back hW (by rw[fT];exact jT) hr hk (by rw[fT];exact Fl) ?_;unfold jg;rw[cx];exact⟨x,rfl,b2,b3,b4,b5,b6.grown pN (λ_=>au)⟩
    rw[fT]at hb;refine hQ fa _ hb pN.1 (λy l h1 h2=>?_) λhX e2 jh=>?_
    ·cases hy:j8 loc p' (r,π++[f.id]) y with
     | none=>
       obtain⟨τ,_,rfl⟩:=oe.2 y l h1 hy;exact⟨τ,rfl⟩
     | some l'=>
       have h3:=oe.1 y l' hy;rw[h1]at h3;cases h3;unfold j8 at hy;split at hy;· cases hy;exact⟨[],bh⟩
       · rw[h2]at hy;cases hy
    ·rw[hme]at jh;cases jh;rw[GW];exact wi hX
  ·refine hQ loc s h (lL.refl _) (λy l h1 h2=>by rw[h1]at h2;cases h2) λ_ e2 jh=>?_;rw[AQ]at jh;rw[jh]at uG;cases uG
end
end
section
open Go Go.RowKit Classical
section
variable {S:fY} {I:fb->Prop} {C:gA} {T:dc} {Ta:Nat->dc} {B:Nat->aq Int->dc×dc} {Zo:Nat->Prop} {di:bf Nat} {loc:Loc} {s:Qe} {D:aq Int}
variable {k r p N a:Nat}{π:aq Int}
theorem LK.reg {r k p:Nat} {π:aq Int} {m:MS Nat Bool} (h:LK (some p) loc r k m)(hp:loc p=some (r,π))(hk:π.length=k):LK none loc r k (m.put p true):=λy=>by
 rw[MS.keys_put,h y];by_cases hy:y=p;· subst hy;simp only[true_or,true_iff];exact⟨⟨π,hp,hk⟩,bh⟩
 · simp[hy]
theorem LK.reg' {r U k p:Nat} {π:aq Int} {m:MS Nat Bool} (h:LK (some p) loc U k m)(hp:loc p=some (r,π))(hk:U=r->π.length≠k):LK none loc U k m:=λy=>by
 rw[h y];by_cases hy:y=p
 ·subst hy;simp only[ne_eq,not_true_eq_false,and_false,false_iff,not_and,reduceCtorEq,not_false_eq_true,not_true_eq_false];rintro⟨ρ,h1,h2⟩;rw[hp]at h1;cases h1;exact hk rfl h2
 · simp[hy]
theorem Inv.reg (hW:pV C) {p r:Nat} {π:aq Int} {R:fH} {sc:fz} {o:PO} (h:Inv S C T Ta B Zo (some p) loc s)(hr:C.rows[r]? =some R)(hp:loc p=some (r,π))(hk:R.steps[π.length]? =some sc)(hz:¬Zo sc.st.adr)(ho:jg none loc r R π.length sc (some o))
  (hb:∀a x,sc.st=.nt a->s p=some (.part x)->∃bb m,x.blocks=some (bb,m)/\(∀i,i∈m.keys↔kT S sc (x.has,x.vals) (B r π).1 i)/\∀i v,m.look i=some v->v=true):Inv S C T Ta B Zo none loc (dp s sc.st.adr o):=by
 have h0:=h.step r R _ sc hr hk hz;have kZ:π.length<R.steps.length:=(c'.1 hk).1
 have ne:∀b o',s b=some o'->(∀z,o'≠.join z)->(∀z,o'≠.nt z)->(∀z,o'≠.test z)->dp s sc.st.adr o b=some o':=λb o' hb c1 c2 c3=>by
  rw[QI];· exact hb
  ·intro e;subst e;unfold jg at h0;split at h0;· obtain⟨x,U,_⟩:=h0;rw[hb]at U;cases U;exact c1 _ rfl
   · obtain⟨x,U,_⟩:=h0;rw[hb]at U;cases U;exact c2 _ rfl
   · obtain⟨x,U,_⟩:=h0;rw[hb]at U;cases U;exact c3 _ rfl
 refine⟨?_,?_,?_,?_,?_,h.inj,h.root,h.le⟩
 ·obtain⟨x,a1,a2⟩:=h.net;exact⟨x,ne _ _ a1 cr cr cr,a2⟩
 ·intro r' R' ei;obtain⟨x,a1,a2,a3,a4,a5,a6⟩:=h.row r' R' ei;refine⟨x,ne _ _ a1 cr cr cr,a2,a3,a4,a5,a6.reg' hp λe=>?_⟩;subst e;rw[hr]at ei;cases ei;omega
 ·intro r' R' k' ez ei eO zK;by_cases e:ez.st.adr=sc.st.adr
  ·obtain⟨rfl,rfl⟩:=hW.steps _ _ _ _ _ _ _ _ ei hr eO hk e;rw[hr]at ei;cases ei;rw[hk]at eO;cases eO;rw[jH];exact ho
  ·rw [QI e];have h1:=h.step r' R' k' ez ei eO zK
   have ep:r'=r->π.length≠k':=λU e2=>by
    subst U;subst e2;rw[hr]at ei;cases ei;rw[hk]at eO;cases eO;exact e rfl
   unfold jg at h1⊢;split at h1;· obtain⟨x,c1,c2,c3,c4,c5,c6⟩:=h1;exact⟨x,c1,c2,c3,c4,c5,c6.reg' hp ep⟩
   · obtain⟨x,c1,c2,c3,c4,c5,c6⟩:=h1;exact⟨x,c1,c2,c3,c4,c5,c6.reg' hp ep⟩
   · obtain⟨x,c1,c2,c3,c4,c5⟩:=h1;exact⟨x,c1,c2,c3,c4,c5⟩
 ·intro A hA;obtain⟨x,a1,a2⟩:=h.al A hA;exact⟨x,ne _ _ a1 cr cr cr,a2⟩
 ·intro q r' ρ hl;obtain⟨R',x,a1,a2,a3⟩:=h.part q r' ρ hl;refine⟨R',x,a1,ne _ _ a2 cr cr cr,⟨a3.env,a3.top,a3.up,a3.kids,λ_ ez a' U e2=>?_,a3.free,a3.kn⟩⟩;by_cases hq:q=p
  ·subst hq;rw[hp]at hl;cases hl;rw[hr]at a1;cases a1;rw[hk]at U;cases U;exact hb a' x e2 a2
  · exact a3.blocks (du hq) ez a' U e2
theorem keys_in {m:MS Nat Bool} (h:Inv S C T Ta B Zo di loc s)(hm:LK di loc r k m)(hp:loc p=some (r,π)):∀y,y=p\/y∈m.keys->s y≠none:=λy hy=>by
 have:∃l:Nat×aq Int,loc y=some l:=by
  rcases hy with rfl|hy;· exact⟨_,hp⟩
  ·obtain⟨⟨ρ,h1,_⟩,_⟩:=(hm y).1 hy;exact⟨_,h1⟩
 obtain⟨l,U⟩:=this;obtain⟨_,x,_,c2,_⟩:=h.part y l.1 l.2 U;rw[c2];simp
theorem SZ {α:Type} {l:aq α} {x:α} (h:l[k]? =some x):l.drop k=x::l.drop (k+1):=by
 obtain⟨h1,U⟩:=c'.1 h;rw[List.drop_eq_getElem_cons h1,U]
theorem Jb {b:Nat} {s:Qe} {Q:aq Qg->Prop} (e:a=b)(h:YT N b s Q):YT N a s Q:=e▸h
theorem zR {R:fH} {sc:fz} {e:fb} {rc:Nat->Int->Nat->Qe->WM Qe} {Q:Qe->Prop} (hW:pV C)(hlen:R.steps.length<9223372036854775807)(hN:B0<=N)(hND:D.length<N)(hT:jl T D)(hD:D.length<=3518437208882)(hr:C.rows[r]? =some R)(hk:R.steps[k]? =some sc)(cx:sc.st=.join a)(dh:yY S I C T sc)(Ix:YK S C T B I rc r R (k+1))
  (h:Inv S C T (λ_=>T) B Zo (some p) loc s) (hp:loc p=some (r,π)) (ke:π.length=k) (he:gE S T R.steps (R.hs,R.vs) π=some e) (hI:I e) (gF:∀y i,loc y≠some (r,π++[i])) (hZ:∀k' sc,k<=k'->R.steps[k']? =some sc->¬Zo sc.st.adr)
  (hQ:∀bq s',Inv S C T (λ_=>T) B Zo none bq s'->DM loc bq r π->(rY bq->jz S T bq r π (R.steps.drop k) e)->Q s'):Q5x N rc a p s Q:=by
 subst ke;have hz:=hZ _ sc (c! _) hk;have fT:sc.st.adr=a:=by rw[cx];rfl
 have h0:=h.step r R _ sc hr hk hz;unfold jg at h0;rw[cx]at h0;obtain⟨x,b1,b2,b3,b4,b5,b6⟩:=h0;have si:s a=some (.join x):=b1;refine Qo (UX si) ?_;refine gY (keys_in h b6 hp) ?_;refine nF ?_;have Xg:=h.reg hW (o:=.join {x with parts:=x.parts.put p true}) hr hp hk hz (by unfold jg;rw[cx];exact⟨_,rfl,b2,b3,b4,b5,b6.reg hp rfl⟩) (λa' x' q1 _=>by rw[cx]at q1;cases q1);rw[fT]at Xg;obtain⟨A,rv,OE,WG⟩:=dh.al (λa' e'=>by rw[cx]at e';cases e');refine gV ?_;refine Jb (b2.trans OE.symm) ?_;refine MY (Xg.al A rv) hT hND hD λl jx zG hl3=>?_;refine z7 (λ(u,s')=>u<=l.length/\∃bq,Inv S C T (λ_=>T) B Zo none bq s'/\lL loc bq/\(∀y z,bq y=some z->loc y=none->∃f U,f∈l.take u/\z=(r,π++[f.id]++U))/\(rY bq->∀f∈l.take u,∀e',S.mt sc.c e.1 e.2 f=some e'->jz S T bq r (π++[f.id]) (R.steps.drop (π.length+1)) e')) (λ(u,_)=>l.length-u) ?_ N (0,_) ⟨Q' _,loc,Xg,lL.refl _,(λy z h1 h2=>by rw[h1]at h2;cases h2),(λ_ f hf=>by cases hf)⟩ (by show l.length-0<N;omega);rintro⟨u,s'⟩ ag ⟨hu,eu,kc,AP,DV,F6⟩ gQ;dsimp only at hu gQ⊢;refine jj (λhb=>?_) (λhb=>?_)
 ·have cj:u<l.length:=of_decide_eq_true hb;obtain⟨f,hf⟩:∃f,l[u]? =some f:=⟨_,m' cj⟩
  have hfm:=(zG f).1 (v' hf);have gx:l.take (u+1)=l.take u++[f]:=by rw[b!,hf];rfl
  have uK:∀g∈l.take u,g.id≠f.id:=λg hg e1=>by
   have h1:(l.take (u+1)).map (·.id)=(l.take u).map (·.id)++[f.id]:=by rw[gx];simp
   have h2:((l.take (u+1)).map (·.id)).Nodup:=List.Nodup.sublist (List.Sublist.map _ (h! _ _)) jx;rw[h1]at h2;exact(A'.1 h2).2.2 _ (p!.2 ⟨g,hg,rfl⟩) _ bh e1
  refine Qo hf ?_;refine gV ?_;refine U2 hW hlen hN hr hk cx dh Ix kc (AP _ _ hp) rfl he hI hfm.1 (λy hy=>?_) hZ λfa s2 jT jh oe wi=>?_
  ·cases ti:loc y with
   |some z=>have:=AP _ _ ti;rw[hy]at this;cases this;exact gF _ _ ti
   | none=>
     obtain⟨g,U,q1,q2⟩:=DV y _ hy ti;simp only[Prod.mk.injEq,true_and,N',S',T',W',List.cons.injEq]at q2;exact uK g q1 q2.1.symm
  ·refine gY (by have:=hT.len;omega) ?_;refine gQ (u+1,s2) ⟨au,fa,jT,AP.trans jh,λy z h1 h2=>?_,λhX g hg e' pN=>?_⟩ au
   · cases X9:eu y with
     | some z'=>
       have:=jh _ _ X9;rw[h1]at this;cases this;obtain⟨g,U,q1,q2⟩:=DV y _ X9 h2;exact⟨g,U,by rw[gx];exact u' _ q1,q2⟩
     | none=>
       obtain⟨U,q2⟩:=oe y z h1 X9;exact⟨f,U,by rw[gx];simp,q2⟩
   · rw[gx]at hg;rcases j'.1 hg with hg|hg;· exact(F6 (Q8N kc.cnt jh hX jT.cnt) g hg e' pN).mono jh
     · rw[f'.1 hg]at pN⊢;exact wi hX e' pN
 ·have pN:¬u<l.length:=of_decide_eq_false hb;have ZS:l.take u=l:=H' au;rw[ZS]at DV F6;refine hQ eu s' kc ⟨AP,λy z h1 h2=>?_⟩ λhX U iD=>?_
  ·obtain⟨f,U,_,rfl⟩:=DV y z h1 h2;exact⟨f.id::U,bh,bh⟩
  ·rw [SZ hk]at iD;cases U with
   |nil=>exact⟨p,by simpa using AP _ _ hp⟩
   | cons i U=>
     simp only[gL,jP,cx]at iD;cases hTi:T i with
     |none=>rw[hTi]at iD;simp at iD
     | some f=>
       rw[hTi]at iD;simp only[F']at iD;cases hmf:S.mt sc.c e.1 e.2 f with
       |none=>rw[hmf]at iD;simp at iD
       | some e'=>
         rw[hmf]at iD;have hid:=(hT.mem i f hTi).2.1;have ZN:f∈l:=(zG f).2 ⟨by rw[hid];exact hTi,WG f e e' hmf⟩;obtain⟨y,hy⟩:=F6 hX f ZN e' hmf U iD;exact⟨y,by rw[hy,hid];simp⟩
end
end
section
open Go Go.RowKit Classical
theorem kF {A R:Type} {Q:R->Prop} {f:A->WM R} {g:(A->WM R)->WM R} (h:g f Q):lA f g Q:=h
section
variable {S:fY} {I:fb->Prop} {C:gA} {T:dc} {Ta:Nat->dc} {B:Nat->aq Int->dc×dc} {Zo:Nat->Prop} {di:bf Nat} {loc:Loc} {s:Qe} {D:aq Int}
theorem Inv.setBlocks {B':Nat->aq Int->dc×dc} {p r:Nat} {π:aq Int} {R:fH} {x:ji} {bl:bf (Nat×MS Int Bool)} (h:Inv S C T Ta B Zo di loc s)(hr:C.rows[r]? =some R)(hp:loc p=some (r,π))(hx:s p=some (.part x))(hB:∀U fV,(U,fV)≠(r,π)->B' U fV=B U fV)
  (hb:some p≠di->∀sc a,R.steps[π.length]? =some sc->sc.st=.nt a->∃bb m,bl=some (bb,m)/\(∀i,i∈m.keys↔kT S sc (x.has,x.vals) (B' r π).1 i)/\∀i v,m.look i=some v->v=true)
  (hf:∀sc a,R.steps[π.length]? =some sc->sc.st=.nt a->(∃y i,loc y=some (r,π++[i]))->∀i,¬kT S sc (x.has,x.vals) (B' r π).2 i):Inv S C T Ta B' Zo di loc (dp s p (.part {x with blocks:=bl})):=by
 have ne:∀b o',s b=some o'->(∀z,o'≠.part z)->dp s p (.part {x with blocks:=bl}) b=some o':=λb o' hb c1=>by
  rw[QI (λe=>by rw[e,hx]at hb;cases hb;exact c1 _ rfl)];exact hb
 refine⟨?_,?_,?_,?_,?_,h.inj,h.root,h.le⟩
 ·obtain⟨y,a1,a2⟩:=h.net;exact⟨y,ne _ _ a1 cr,a2⟩
 ·intro U R' ei;obtain⟨y,a1,a2⟩:=h.row U R' ei;exact⟨y,ne _ _ a1 cr,a2⟩
 ·intro U R' k' ez ei eO zK;have h1:=h.step U R' k' ez ei eO zK;unfold jg at h1⊢;split at h1;· obtain⟨y,c1,c2⟩:=h1;exact⟨y,ne _ _ c1 cr,c2⟩
  · obtain⟨y,c1,c2⟩:=h1;exact⟨y,ne _ _ c1 cr,c2⟩
  · obtain⟨y,c1,c2⟩:=h1;exact⟨y,ne _ _ c1 cr,c2⟩
 ·intro A hA;obtain⟨y,a1,a2⟩:=h.al A hA;exact⟨y,ne _ _ a1 cr,a2⟩
 ·intro q U ρ hl;obtain⟨R',y,a1,a2,a3⟩:=h.part q U ρ hl;by_cases hq:q=p
  ·subst hq;rw[hp]at hl;cases hl;rw[hr]at a1;cases a1;rw[hx]at a2;cases a2;exact⟨R,_,hr,jH _ _ _,⟨a3.env,a3.top,a3.up,a3.kids,hb,hf,a3.kn⟩⟩
  ·have ep:(U,ρ)≠(r,π):=λe=>hq (h.inj _ _ _ (by rw[<-e];exact hl) hp);refine⟨R',y,a1,(by rw[QI hq];exact a2),⟨a3.env,a3.top,a3.up,a3.kids,?_,?_,a3.kn⟩⟩;· rw[hB _ _ ep];exact a3.blocks
   · rw[hB _ _ ep];exact a3.free
theorem ve {N r k a p:Nat} {R:fH} {sc:fz} {π:aq Int} {e:fb} {rc:Nat->Int->Nat->Qe->WM Qe} {Q:Qe->Prop} (hW:pV C)(hlen:R.steps.length<9223372036854775807)(hr:C.rows[r]? =some R)(hk:R.steps[k]? =some sc)(cx:sc.st=.nt a)(Ix:YK S C T B I rc r R (k+1))
  (h:Inv S C T (λ_=>T) B Zo none loc s) (hp:loc p=some (r,π)) (ke:π.length=k) (he:gE S T R.steps (R.hs,R.vs) π=some e) (hI:I e) (hB:B r π=(T,T)) (gF:∀y i,loc y≠some (r,π++[i])) (hZ:∀k' sc,k<=k'->R.steps[k']? =some sc->¬Zo sc.st.adr)
  (hQ:∀bq s',Inv S C T (λ_=>T) B Zo none bq s'->DM loc bq r π->(rY bq->jz S T bq r π (R.steps.drop k) e)->Q s'):Q6h N rc a p s Q:=by
 subst ke;have hz:=hZ _ sc (c! _) hk;have fT:sc.st.adr=a:=by rw[cx];rfl
 have h0:=h.step r R _ sc hr hk hz;unfold jg at h0;rw[cx]at h0;obtain⟨x,b1,b2,b3,b4,b5,b6⟩:=h0;have si:s a=some (.nt x):=b1;obtain⟨R',z,c1,c2,c3,c4⟩:=h.gPart hp;rw[hr]at c1;cases c1;have AQ:e=(z.has,z.vals):=Option.some.inj (he.symm.trans c4.env);obtain⟨bb,m,m1,m2,m3⟩:=c4.blocks bh sc a hk cx;rw[hB,<-AQ]at m2;refine kF ?_;refine Qo c2 ?_;refine Qo m1 ?_;have kZ:π.length<R.steps.length:=(c'.1 hk).1;refine jj (λhb=>?_) (λhb=>?_)
 ·have og:∀i,¬kT S sc e T i:=λi hi=>by
    have:=(m2 i).2 hi
    have h0:m.es=[]:=by
     have:m.es.length=0:=by simpa using hb
     exact d! this
    simp[MS.keys,h0]at this
  refine Qo (Ot si) ?_;refine gV ?_;rw[b3];refine EV h hr λn hn=>?_;refine jj (λhf=>?_) (λhf=>?_)
  · have hnn:¬4096<n:=by simpa using hf
    refine Qo (Ot si) ?_;refine Qo c2 ?_;refine gY (by rw[b4];omega) ?_;refine gV ?_;rw[b3,b4]
    have TS:gE S T R.steps (R.hs,R.vs) (π++[0])=some (z.has,z.vals):=by
     rw[QbF,he];simp only[F',hk,hY,cx,if_true,AQ]
    have lD:=h.del hW hr hk hz;rw[fT]at lD;refine Mr (p0:=0) lD hr hp he TS (λy=>gF y 0) (λez a' q1 q2=>by rw[hk]at q1;cases q1;rw[hB];exact og) (λm hm=>by have:=hm.unique hn;omega) λp' s1 ew kc=>?_;refine gV ?_;have BK:(π.length:Int)+1=((π.length+1:Nat):Int):=au
    rw[BK];refine Ix _ _ s1 p' (π++[0]) (z.has,z.vals) _ kc mV bh TS (by rw[<-AQ];exact hI) (λy i hy=>?_) (λk' ez eO H3=>?_) λfa s2 jT oe wi=>?_
    ·unfold j8 at hy;split at hy
     · simp only[Option.some.injEq,Prod.mk.injEq,true_and]at hy;have:=congrArg List.length hy;simp at this
     · obtain⟨R',z',_,_,h4⟩:=h.part _ _ _ hy;obtain⟨_,q2,_,h5⟩:=h4.up _ _ rfl;exact gF _ _ h5
    ·rintro(hh|hh);· exact hZ k' ez au H3 hh
     · have:=(hW.steps r r R R k' _ ez sc hr hr H3 hk (by rw[hh,fT])).2;omega
    ·refine nF (kX λFl=>?_)
     have pN:DM loc fa r π:=⟨(qt ew).trans oe.1,λy l h1 h2=>by
       cases hy:j8 loc p' (r,π++[0]) y with
       | none=>
         obtain⟨τ,_,rfl⟩:=oe.2 y l h1 hy;exact⟨0::τ,bh,bh⟩
       | some l'=>
         have h3:=oe.1 y l' hy;rw[h1]at h3;cases h3;unfold j8 at hy;split at hy;· cases hy;exact⟨[0],bh,rfl⟩
         · rw[h2]at hy;cases hy⟩
     have hb:Inv S C T (λ_=>T) B Zo none fa (dp s2 sc.st.adr (.nt x)):=by
       refine Inv.back hW (by rw[fT];exact jT) hr hk (by rw[fT];exact Fl) ?_;unfold jg;rw[cx];exact⟨x,rfl,b2,b3,b4,b5,b6.grown pN (λ_=>au)⟩
     rw[fT]at hb;refine hQ fa _ hb pN λhX τ U=>?_
     rw[SZ hk]at U;cases τ with
     |nil=>exact⟨p,by simpa using pN.1 _ _ hp⟩
     | cons i τ=>
       simp only[gL,jP,cx]at U;by_cases hi:i=0
       · subst hi;rw[if_pos ⟨rfl,og⟩]at U;rw[AQ]at U;obtain⟨y,hy⟩:=wi hX τ U;exact⟨y,by rw[hy];simp⟩
       · rw[if_neg (λhh=>hi hh.1)]at U;simp at U
  · have hnn:4096<n:=by simpa using hf
    exact hQ loc s h (DM.refl _ _ _) λhX=>by have:=hX n hn;omega
 ·refine B9 rfl ?_;refine hQ loc s h (DM.refl _ _ _) λhX τ U=>?_;rw[SZ hk]at U;cases τ with
  |nil=>exact⟨p,by simpa using hp⟩
  | cons i τ=>
    exfalso;simp only[gL,jP,cx]at U;have ep:m.es≠[]:=λe1=>by simp[e1]at hb
    obtain⟨y,l,hl⟩:=List.exists_cons_of_ne_nil ep;have hy:y.1∈m.keys:=by simp[MS.keys,hl]
    rw[if_neg (λhh=>hh.2 y.1 ((m2 _).1 hy))]at U;simp at U
end
end
section
open Go Go.RowKit Classical
section
variable {S:fY} {I:fb->Prop} {C:gA} {T:dc} {Ta:Nat->dc} {B:Nat->aq Int->dc×dc} {Zo:Nat->Prop} {di:bf Nat} {loc:Loc} {s:Qe} {D:aq Int}
theorem Inv.regT {a p r:Nat} {π:aq Int} {R:fH} {sc:fz} (h:Inv S C T Ta B Zo (some p) loc s)(hr:C.rows[r]? =some R)(hp:loc p=some (r,π))(hk:R.steps[π.length]? =some sc)(cx:sc.st=.test a):Inv S C T Ta B Zo none loc s:=by
 have kZ:π.length<R.steps.length:=(c'.1 hk).1;refine⟨h.net,?_,?_,h.al,?_,h.inj,h.root,h.le⟩
 ·intro r' R' U;obtain⟨x,a1,a2,a3,a4,a5,a6⟩:=h.row r' R' U;refine⟨x,a1,a2,a3,a4,a5,a6.reg' hp λe=>?_⟩;subst e;rw[hr]at U;cases U;omega
 ·intro r' R' k' ez U eO zK;have h1:=h.step r' R' k' ez U eO zK
  have ep:(∀b,ez.st≠.test b)->r'=r->π.length≠k':=λhh e1 e2=>by
   subst e1;subst e2;rw[hr]at U;cases U;rw[hk]at eO;cases eO;exact hh a cx
  unfold jg at h1⊢;split at h1
  ·rename_i b hb;obtain⟨x,c1,c2,c3,c4,c5,c6⟩:=h1;exact⟨x,c1,c2,c3,c4,c5,c6.reg' hp (ep λb' e=>by rw[hb]at e;cases e)⟩
  ·rename_i b hb;obtain⟨x,c1,c2,c3,c4,c5,c6⟩:=h1;exact⟨x,c1,c2,c3,c4,c5,c6.reg' hp (ep λb' e=>by rw[hb]at e;cases e)⟩
  · exact h1
 ·intro q r' ρ hl;obtain⟨R',x,a1,a2,a3⟩:=h.part q r' ρ hl;refine⟨R',x,a1,a2,⟨a3.env,a3.top,a3.up,a3.kids,λ_ ez a' e1 e2=>?_,a3.free,a3.kn⟩⟩;by_cases hq:q=p
  ·subst hq;rw[hp]at hl;cases hl;rw[hr]at a1;cases a1;rw[hk]at e1;cases e1;rw[cx]at e2;cases e2
  · exact a3.blocks (du hq) ez a' e1 e2
theorem Aw {N r k a p:Nat} {R:fH} {sc:fz} {π:aq Int} {e:fb} {rc:Nat->Int->Nat->Qe->WM Qe} {Q:Qe->Prop} (hW:pV C)(hlen:R.steps.length<9223372036854775807)(hN:B0<=N)(hr:C.rows[r]? =some R)(hk:R.steps[k]? =some sc)(cx:sc.st=.test a)(dh:yY S I C T sc)(Ix:YK S C T B I rc r R (k+1))
  (h0:Inv S C T (λ_=>T) B Zo (some p) loc s) (hp:loc p=some (r,π)) (ke:π.length=k) (he:gE S T R.steps (R.hs,R.vs) π=some e) (hI:I e) (gF:∀y i,loc y≠some (r,π++[i])) (hZ:∀k' sc,k<=k'->R.steps[k']? =some sc->¬Zo sc.st.adr)
  (hQ:∀bq s',Inv S C T (λ_=>T) B Zo none bq s'->DM loc bq r π->(rY bq->jz S T bq r π (R.steps.drop k) e)->Q s'):Q5y N rc a p s Q:=by
 subst ke;have h:=h0.regT hr hp hk cx;have hz:=hZ _ sc (c! _) hk;have fT:sc.st.adr=a:=by rw[cx];rfl
 have h1:=h.step r R _ sc hr hk hz;unfold jg at h1;rw[cx]at h1;obtain⟨x,b1,b3,b4,b5,b6⟩:=h1;have si:s a=some (.test x):=b1;obtain⟨R',z,c1,c2,c3,c4⟩:=h.gPart hp;rw[hr]at c1;cases c1;have AQ:e=(z.has,z.vals):=Option.some.inj (he.symm.trans c4.env);have kZ:π.length<R.steps.length:=(c'.1 hk).1;obtain⟨kk,n,sx,zz,d1,d2⟩:=dh.ev a cx N hN e hI;rw[AQ]at d1;refine Qo (uC si) ?_;refine Qo c2 ?_;rw[b5];refine Qo d1 ?_;refine kF ?_
 have stop:S.ev sc.c e.2=false->Q s:=λDT=>hQ loc s h (DM.refl _ _ _) λ_ τ U=>by
  rw[SZ hk]at U;cases τ with
  |nil=>exact⟨p,by simpa using hp⟩
  | cons i τ=>
    exfalso;simp only[gL,jP,cx]at U;rw[if_neg (λhh=>by rw[DT]at hh;cases hh.2)]at U;simp at U
 refine jj (λWS=>?_) (λWS=>B9 rfl (stop (by rw[d2,WS];rfl)));refine jj (λuG=>?_) (λuG=>B9 rfl (stop (by rw[d2,WS,uG];rfl)));refine jj (λOG=>?_) (λOG=>B9 rfl (stop (by rw[d2,WS,uG,OG];rfl)));have DT:S.ev sc.c e.2=true:=by rw[d2,WS,uG,OG];rfl
 refine gV ?_;rw[b3];refine EV h hr λn hn=>?_;refine jj (λhf=>?_) (λhf=>hQ loc s h (DM.refl _ _ _) λhX=>by have hnn:4096<n:=(du hf);have:=hX n hn;omega);have hnn:¬4096<n:=by simpa using hf
 refine Qo (uC si) ?_;refine Qo c2 ?_;refine gY (by rw[b4];omega) ?_;refine gV ?_;rw[b3,b4]
 have TS:gE S T R.steps (R.hs,R.vs) (π++[0])=some (z.has,z.vals):=by
  rw[QbF,he];simp only[F',hk,hY,cx];rw[if_pos ⟨trivial,DT⟩,AQ]
 have lD:=h.del hW hr hk hz;rw[fT]at lD;refine Mr (p0:=0) lD hr hp he TS (λy=>gF y 0) (λez a' q1 q2=>by rw[hk]at q1;cases q1;rw[cx]at q2;cases q2) (λm hm=>by have:=hm.unique hn;omega) λp' s1 ew kc=>?_;refine gV ?_;have BK:(π.length:Int)+1=((π.length+1:Nat):Int):=au
 rw[BK];refine Ix _ _ s1 p' (π++[0]) (z.has,z.vals) _ kc mV bh TS (by rw[<-AQ];exact hI) (λy i hy=>?_) (λk' ez eO H3=>?_) λfa s2 jT oe wi=>?_
 ·unfold j8 at hy;split at hy
  · simp only[Option.some.injEq,Prod.mk.injEq,true_and]at hy;have:=congrArg List.length hy;simp at this
  · obtain⟨R',z',_,_,h4⟩:=h.part _ _ _ hy;obtain⟨_,q2,_,h5⟩:=h4.up _ _ rfl;exact gF _ _ h5
 ·rintro(hh|hh);· exact hZ k' ez au H3 hh
  · have:=(hW.steps r r R R k' _ ez sc hr hr H3 hk (by rw[hh,fT])).2;omega
 ·refine nF (kX λFl=>?_)
  have pN:DM loc fa r π:=⟨(qt ew).trans oe.1,λy l h1 h2=>by
    cases hy:j8 loc p' (r,π++[0]) y with
    | none=>
      obtain⟨τ,_,rfl⟩:=oe.2 y l h1 hy;exact⟨0::τ,bh,bh⟩
    | some l'=>
      have h3:=oe.1 y l' hy;rw[h1]at h3;cases h3;unfold j8 at hy;split at hy;· cases hy;exact⟨[0],bh,rfl⟩
      · rw[h2]at hy;cases hy⟩
  have hb:Inv S C T (λ_=>T) B Zo none fa (dp s2 sc.st.adr (.test x)):=by
    refine Inv.back hW (by rw[fT];exact jT) hr hk (by rw[fT];exact Fl) ?_;unfold jg;rw[cx];exact⟨x,rfl,b3,b4,b5,b6⟩
  rw[fT]at hb;refine hQ fa _ hb pN λhX τ U=>?_
  rw[SZ hk]at U;cases τ with
  |nil=>exact⟨p,by simpa using pN.1 _ _ hp⟩
  | cons i τ=>
    simp only[gL,jP,cx]at U;by_cases hi:i=0
    · subst hi;rw[if_pos ⟨rfl,DT⟩]at U;rw[AQ]at U;obtain⟨y,hy⟩:=wi hX τ U;exact⟨y,by rw[hy];simp⟩
    · rw[if_neg (λhh=>hi hh.1)]at U;simp at U
end
end
section
open Go Go.RowKit Classical
section
variable {S:fY} {I:fb->Prop} {C:gA} {T:dc} {Ta:Nat->dc} {B:Nat->aq Int->dc×dc} {Zo:Nat->Prop} {di:bf Nat} {loc:Loc} {s:Qe} {D:aq Int}
theorem qG {a:Nat} {o:PO}:dp s a o a=some o:=jH _ _ _
theorem NW {a b:Nat} {o o':PO} (h:a≠b):dp (dp s a o) b o'=dp (dp s b o') a o:=by
 funext c;by_cases h1:c=b
 ·subst h1;rw[jH,QI (λe=>h e.symm),jH]
 ·by_cases U:c=a
  ·subst U;rw[QI h1,jH,jH]
  · rw[QI h1,QI U,QI U,QI h1]
theorem Cs {N r k a p:Nat} {R:fH} {sc:fz} {π:aq Int} {e:fb} {rc:Nat->Int->Nat->Qe->WM Qe} {Q:Qe->Prop} (hW:pV C)(hlen:R.steps.length<9223372036854775807)(hN:B0<=N)(hND:D.length<N)(hT:jl T D)(hr:C.rows[r]? =some R)(hk:R.steps[k]? =some sc)(cx:sc.st=.nt a)(dh:yY S I C T sc)(Ix:YK S C T B I rc r R (k+1))
  (h:Inv S C T (λ_=>T) B Zo (some p) loc s) (hp:loc p=some (r,π)) (ke:π.length=k) (he:gE S T R.steps (R.hs,R.vs) π=some e) (hI:I e) (hB:B r π=(T,T)) (gF:∀y i,loc y≠some (r,π++[i])) (hZ:∀k' sc,k<=k'->R.steps[k']? =some sc->¬Zo sc.st.adr)
  (hQ:∀bq s',Inv S C T (λ_=>T) B Zo none bq s'->DM loc bq r π->(rY bq->jz S T bq r π (R.steps.drop k) e)->Q s'):Q5R N rc a p s Q:=by
 subst ke;have hz:=hZ _ sc (c! _) hk;have fT:sc.st.adr=a:=by rw[cx];rfl
 have h0:=h.step r R _ sc hr hk hz;unfold jg at h0;rw[cx]at h0;obtain⟨x,b1,b2,b3,b4,b5,b6⟩:=h0;have si:s a=some (.nt x):=b1;obtain⟨R',z,c1,c2,c3,c4⟩:=h.gPart hp;rw[hr]at c1;cases c1;have AQ:e=(z.has,z.vals):=Option.some.inj (he.symm.trans c4.env);have qi:a≠p:=λe1=>by rw[e1,c3]at si;cases si
 obtain⟨A,rv,OE,WG⟩:=dh.al (λa' e'=>by rw[cx]at e';cases e');obtain⟨xA,d1,d2,d3,d4,d5⟩:=h.al A rv;have hAa:A.b≠a:=λe1=>by rw[e1,si]at d1;cases d1
 have hAp:A.b≠p:=λe1=>by rw[e1,c3]at d1;cases d1
 have sk:∀i,i∈xA.facts.keys↔∃f,T i=some f/\hasB A f=true:=λi=>by
  rw[MS.look_iff];constructor;· rintro⟨f,hf⟩;rw[d5]at hf;exact⟨f,by simpa using hf⟩
  · rintro⟨f,DU,BO⟩;exact⟨f,by rw[d5];simp[DU,BO]⟩
 have kZ:xA.facts.keys.length<=D.length:=JC d4 λi hi=>by
  obtain⟨f,hf,_⟩:=(sk i).1 hi;exact(hT.mem i f hf).1
 have a3g:∀U:MS Int Bool,∀g:Nat,(∀i,i∈U.keys↔kT S sc e T i)->(∀i v,U.look i=some v->v=true)->Inv S C T (λ_=>T) B Zo none loc (dp (dp s a (.nt {x with parts:=x.parts.put p true})) p (.part {z with blocks:=some (g,U)})):=λU g ZR TL=>by
  rw[NW qi];have q1:Inv S C T (λ_=>T) B Zo (some p) loc (dp s p (.part {z with blocks:=some (g,U)})):=h.setBlocks hr hp c3 (λ_ _ _=>rfl) (λhh=>absurd rfl hh) (λ_ _ _ _ ⟨y,i,hy⟩=>absurd hy (gF y i))
  have:=q1.reg hW (o:=.nt {x with parts:=x.parts.put p true}) hr hp hk hz (by unfold jg;rw[cx];exact⟨_,rfl,b2,b3,b4,b5,b6.reg hp rfl⟩) (λa' x' _ nH=>by
   rw[jH]at nH;cases nH;refine⟨g,U,rfl,λi=>?_,TL⟩;rw[ZR i,hB,AQ])
  rw[fT]at this;exact this
 refine Qo (Ot si) ?_;refine gY (keys_in h b6 hp) ?_;refine nF ?_;refine Qo (a:=z) (by rw[te (Ne.symm qi)];exact c2) ?_;refine wq λg15=>nF ?_;refine kF ?_;refine Qo (a:={x with parts:=x.parts.put p true}) (by rw[EX qi];exact Ot qG) ?_;have GU:x.alpha=A.b:=b2.trans OE.symm;refine Qo (a:=xA) (by show wa _ x.alpha=_;rw[GU,oa hAp,oa hAa];exact Zp d1) ?_;refine z7 (λ(b,m,d,s')=>b=xA.factsA/\m=xA.facts/\d.Nodup/\(∀i∈d,i∈xA.facts.keys)/\∃U:MS Int Bool,s'=dp (dp s a (.nt {x with parts:=x.parts.put p true})) p (.part {z with blocks:=some (g15,U)})/\(∀i,i∈U.keys↔i∈d/\kT S sc e T i)/\∀i v,U.look i=some v->v=true) (λ(_,_,d,_)=>xA.facts.keys.length-d.length) ?_ N (xA.factsA,xA.facts,[],_) ⟨rfl,rfl,g!,(λi hi=>by cases hi),MS.nil,rfl,(λi=>⟨λhi=>absurd hi MS.keys_nil,λhi=>by cases hi.1⟩),λi v hv=>by simp[MS.look,MS.nil,ib]at hv⟩ (by show xA.facts.keys.length-0<N;omega);rintro⟨b,m,d,s'⟩ ag ⟨rfl,rfl,rz,ry,U,rfl,ZR,TL⟩ gQ;refine Qo (a:=xA) (by show wa _ x.alpha=_;rw[GU,oa hAp,oa hAa];exact Zp d1) ?_;refine gY ⟨rfl,rfl⟩ ?_;refine T7 (λeZ=>?_) λi hi hid=>?_
 ·refine gV ?_
  have a2Y:∀i,i∈U.keys↔kT S sc e T i:=λi=>by
   rw[ZR];refine⟨λhh=>hh.2,λhh=>⟨?_,hh⟩⟩;obtain⟨f,f1,f2⟩:=hh;obtain⟨e',GW⟩:=l!.1 f2;exact eZ i ((sk i).2 ⟨f,f1,WG f e e' GW⟩)
  exact ve hW hlen hr hk cx Ix (a3g U g15 a2Y TL) hp rfl he hI hB gF hZ hQ
 ·obtain ⟨f,f1,f2⟩:=(sk i).1 hi;have ZM:=(hT.mem i f f1).2.1
  have cj:d.length<xA.facts.keys.length:=by
   have:=JC (a!.2 ⟨hid,rz⟩) (l:=xA.facts.keys) (by
    intro j hj;rcases M'.1 hj with rfl|hj;· exact hi
    · exact ry j hj)
   simp only[g']at this;omega
  refine Qo (a:=f) (by rw[d5];simp[f1,f2]) ?_;refine Qo (a:={x with parts:=x.parts.put p true}) (by rw[EX qi];exact Ot qG) ?_;refine Qo (a:={z with blocks:=some (g15,U)}) (LF qG) ?_;obtain⟨ha,hv,q1,q2⟩:=dh.mt (λa' e'=>by rw[cx]at e';cases e') N hN f (by rw[ZM];exact f1) e hI;rw[AQ]at q1
  refine Qo (a:=(ha,hv,(S.mt sc.c (z.has,z.vals).1 (z.has,z.vals).2 f).isSome)) (by
   rw[b5];exact q1) ?_
  have IG:(d++[i]).Nodup:=A'.2 ⟨rz,bh,λy hy w hw e1=>hid (by simp at hw;rw[<-hw,<-e1];exact hy)⟩
  have iY:∀j∈d++[i],j∈xA.facts.keys:=λj hj=>by
   rcases j'.1 hj with hj|hj;· exact ry j hj
   · rw[f'.1 hj];exact hi
  refine jj (λhb=>?_) (λhb=>?_)
  ·refine Qo (a:=(g15,U)) rfl ?_;refine nF ?_;refine gQ _ ⟨rfl,rfl,IG,iY,U.put i true,tC,λj=>?_,λj v hv=>?_⟩ (by show xA.facts.keys.length-(d++[i]).length<_;simp only[t',g',E'];omega)
   ·rw[MS.keys_put,ZR,j',f'];by_cases hj:j=i
    ·subst hj;simp only[true_or,true_iff,or_true,true_and];exact⟨f,f1,by rw[AQ];exact hb⟩
    · simp[hj]
   ·rw[MS.look_put]at hv;split at hv;· cases hv;rfl
    · exact TL j v hv
  ·refine gQ _ ⟨rfl,rfl,IG,iY,U,rfl,λj=>?_,TL⟩ (by show xA.facts.keys.length-(d++[i]).length<_;simp only[t',g',E'];omega);rw[ZR,j',f'];by_cases hj:j=i
   ·subst hj;simp only[or_true,true_and,iff_false_intro hid,false_and,false_iff];rintro⟨g,g1,g2⟩;rw[f1]at g1;cases g1;rw[AQ]at g2;rw[g2]at hb;cases hb
   · simp[hj]
end
end
section
open Go Go.RowKit Classical
section
variable {S:fY} {I:fb->Prop} {C:gA} {T:dc} {Ta:Nat->dc} {B:Nat->aq Int->dc×dc} {Zo:Nat->Prop} {di:bf Nat} {loc:Loc} {s:Qe} {D:aq Int}
theorem Inv.regW (hW:pV C) {p r:Nat} {π:aq Int} {R:fH} {y:nQ} (h:Inv S C T Ta B Zo (some p) loc s)(hr:C.rows[r]? =some R)(hp:loc p=some (r,π))(hk:π.length=R.steps.length)(hy:s R.b=some (.row y)):Inv S C T Ta B Zo none loc (dp s R.b (.row {y with whole:=y.whole.put p true})):=by
 have ne:∀b o',s b=some o'->(∀z,o'≠.row z)->dp s R.b (.row {y with whole:=y.whole.put p true}) b=some o':=λb o' hb c1=>by
  rw[QI (λe=>by rw[e,hy]at hb;cases hb;exact c1 _ rfl)];exact hb
 refine⟨?_,?_,?_,?_,?_,h.inj,h.root,h.le⟩
 ·obtain⟨x,U,a2⟩:=h.net;exact⟨x,ne _ _ U cr,a2⟩
 ·intro r' R' ei;obtain⟨x,U,a2,a3,a4,a5,a6⟩:=h.row r' R' ei;by_cases e:R'.b=R.b
  ·obtain rfl:=hW.rows _ _ _ _ ei hr e;rw[hr]at ei;cases ei;rw[hy]at U;cases U;exact⟨{y with whole:=y.whole.put p true},jH _ _ _,a2,a3,a4,a5,a6.reg hp hk⟩
  ·refine⟨x,(by rw[QI e];exact U),a2,a3,a4,a5,a6.reg' hp λe1=>?_⟩;subst e1;rw[hr]at ei;cases ei;exact absurd rfl e
 ·intro r' R' k' ez ei eO zK;have h1:=h.step r' R' k' ez ei eO zK
  have ep:r'=r->π.length≠k':=λe1 e2=>by
   subst e1;rw[hr]at ei;cases ei;have:=(c'.1 eO).1;omega
  unfold jg at h1⊢;split at h1;· obtain⟨x,c1,c2,c3,c4,c5,c6⟩:=h1;exact⟨x,ne _ _ c1 cr,c2,c3,c4,c5,c6.reg' hp ep⟩
  · obtain⟨x,c1,c2,c3,c4,c5,c6⟩:=h1;exact⟨x,ne _ _ c1 cr,c2,c3,c4,c5,c6.reg' hp ep⟩
  · obtain⟨x,c1,c2⟩:=h1;exact⟨x,ne _ _ c1 cr,c2⟩
 ·intro A hA;obtain⟨x,U,a2⟩:=h.al A hA;exact⟨x,ne _ _ U cr,a2⟩
 ·intro q r' ρ hl;obtain⟨R',x,U,a2,a3⟩:=h.part q r' ρ hl;refine⟨R',x,U,ne _ _ a2 cr,⟨a3.env,a3.top,a3.up,a3.kids,λ_ ez a' e1 e2=>?_,a3.free,a3.kn⟩⟩;by_cases hq:q=p
  ·subst hq;rw[hp]at hl;cases hl;rw[hr]at U;cases U;have:=(c'.1 e1).1;omega
  · exact a3.blocks (du hq) ez a' e1 e2
theorem RY {r:Nat} {R:fH} (hW:pV C)(hlen:R.steps.length<9223372036854775807)(hT:jl T D)(hD:D.length<=3518437208882)(U:C.rows[r]? =some R)(dh:∀sc∈R.steps,yY S I C T sc):∀(d k:Nat),k+d=R.steps.length->(∀π:aq Int,k<=π.length->B r π=(T,T))->∀N,B0+D.length+d+1<N->YK S C T B I (P7 N) r R k
 |d,k,hd,hB,0,hN=>au
 | d,k,hd,hB,N+1,hN=>by
   intro Zo loc s p π e Q h hp ke he hI gF hZ hQ;obtain⟨y,h1,h2,h3,h4,h5,h6,h7⟩:=h.gRow U;have TV:y.steps.length=R.steps.length:=by rw[h4];simp
   refine Qo h1 ?_;refine jj (λhb=>?_) (λhb=>?_)
   ·have hkn:k=R.steps.length:=by rw[TV]at hb;have h9:(k:Int)=(R.steps.length:Int):=(du hb);omega
    refine gY (keys_in h h7 hp) ?_;refine nF ?_;refine hQ loc _ (h.regW hW U hp au h2) (DM.refl _ _ _) λ_ τ iD=>?_;rw[hkn,List.drop_length]at iD;cases τ with
    |nil=>exact⟨p,by simpa using hp⟩
    |cons i τ=>simp[gL]at iD
   ·have hkn:k≠R.steps.length:=λe1=>by rw[TV,e1]at hb;simp at hb
    have cj:k<R.steps.length:=au
    obtain⟨sc,fj⟩:∃sc,R.steps[k]? =some sc:=⟨_,m' cj⟩
    obtain⟨d',rfl⟩:∃d',d=d'+1:=⟨d-1,au⟩
    have Ix:=RY hW hlen hT hD U dh d' (k+1) au (λfV a1i=>hB fV au) N au;have IH:=dh sc (v' fj);refine gY au ?_;refine Qo (a:=sc.st) (by rw[h4,Int.toNat_natCast,i!,fj];rfl) ?_;cases cx:sc.st with
    | join a=>
      refine lk (gV ?_);exact zR hW hlen (by unfold B0 at*;omega) au hT hD U fj cx IH Ix h hp ke he hI gF hZ hQ
    | nt a=>
      refine ll (gV ?_);exact Cs hW hlen (by unfold B0 at*;omega) au hT U fj cx IH Ix h hp ke he hI (hB π au) gF hZ hQ
    | test a=>
      refine ln (gV ?_);exact Aw hW hlen (by unfold B0 at*;omega) U fj cx IH Ix h hp ke he hI gF hZ hQ
end
end
section
open Go Go.RowKit Classical
theorem jd.mono' {loc U:Loc} {n n':Nat} (h:jd loc n)(h':jd U n')(he:∀y l,loc y=some l->U y=some l):n<=n':=h.mono h' he
def Kr (loc:Loc)(p:Nat):Loc:=λb=>if b=p then none else loc b
theorem wk {loc:Loc} {p y:Nat} {l:Nat×aq Int}:Kr loc p y=some l↔y≠p/\loc y=some l:=by
 unfold Kr;by_cases h:y=p<;>simp[h]
theorem jd.del {loc:Loc} {n p r:Nat} {π:aq Int} (h:jd loc n)(hp:loc p=some (r,π))(ke:π≠[]):∃m,n=m+1/\jd (Kr loc p) m:=by
 obtain⟨L,a1,a2,rfl⟩:=h;have hm:p∈L:=(a2 p).2 ⟨r,π,hp,ke⟩;refine⟨L.length-1,?_,L.erase p,a1.erase p,λq=>?_,k! hm⟩;· have:=o! hm;omega
 ·rw[List.Nodup.mem_erase_iff a1,a2];constructor;· rintro⟨h1,r',fV,U,h3⟩;exact⟨r',fV,wk.2 ⟨h1,U⟩,h3⟩
  · rintro⟨r',fV,U,h3⟩;exact⟨(wk.1 U).1,r',fV,(wk.1 U).2,h3⟩
section
variable {S:fY} {I:fb->Prop} {C:gA} {T:dc} {Ta:Nat->dc} {B:Nat->aq Int->dc×dc} {Zo:Nat->Prop} {di:bf Nat} {loc:Loc} {s:Qe} {D:aq Int}
theorem LK.del {r k p:Nat} {m:MS Nat Bool} (h:LK none loc r k m):LK none (Kr loc p) r k (m.del p):=λy=>by
 rw[MS.keys_del,h y];constructor;· rintro⟨h1,⟨π,U,h3⟩,h4⟩;exact⟨⟨π,wk.2 ⟨h1,U⟩,h3⟩,h4⟩
 · rintro⟨⟨π,U,h3⟩,h4⟩;exact⟨(wk.1 U).1,⟨π,(wk.1 U).2,h3⟩,h4⟩
theorem LK.del' {r r' k p:Nat} {π:aq Int} {m:MS Nat Bool} (h:LK none loc r' k m)(hp:loc p=some (r,π))(ep:r'=r->π.length≠k):LK none (Kr loc p) r' k m/\p∉m.keys:=by
 have Rq:p∉m.keys:=λhm=>by
  obtain⟨⟨ρ,h1,U⟩,_⟩:=(h p).1 hm;rw[hp]at h1;cases h1;exact ep rfl U
 refine⟨λy=>?_,Rq⟩;rw[h y];constructor
 ·rintro⟨⟨ρ,U,h3⟩,h4⟩;refine⟨⟨ρ,wk.2 ⟨λe=>?_,U⟩,h3⟩,h4⟩;subst e;exact Rq ((h y).2 ⟨⟨ρ,U,h3⟩,h4⟩)
 · rintro⟨⟨ρ,U,h3⟩,h4⟩;exact⟨⟨ρ,(wk.1 U).2,h3⟩,h4⟩
theorem Inv.kill (hW:pV C) {s6:Qe} {p q r:Nat} {ρ:aq Int} {i:Int} {R:fH} {xn:gP} {xq:ji} {y:nQ} (h:Inv S C T Ta B Zo none loc s)(hr:C.rows[r]? =some R)(hp:loc p=some (r,ρ++[i]))(hq:loc q=some (r,ρ))(og:∀z j,loc z≠some (r,ρ++[i]++[j]))
  (hn:s C.g=some (.net xn)) (hxq:s q=some (.part xq)) (hy:s R.b=some (.row y))
  (gn:s6 C.g=some (.net {xn with parts:=xn.parts-1})) (gq:s6 q=some (.part {xq with kids:=xq.kids.del p})) (gr:s6 R.b=some (.row {y with whole:=y.whole.del p}))
  (gs:∀sc,R.steps[(ρ++[i]).length]? =some sc->¬Zo sc.st.adr->jg none (Kr loc p) r R (ρ++[i]).length sc (s6 sc.st.adr))
  (go:∀b,b≠C.g->b≠q->b≠R.b->(∀sc,R.steps[(ρ++[i]).length]? =some sc->b=sc.st.adr->(∀x,s b≠some (.join x))/\(∀x,s b≠some (.nt x))/\(∀x,s b≠some (.test x)))->s6 b=s b):
  Inv S C T Ta B Zo none (Kr loc p) s6:=by
 have hqp:q≠p:=λe=>by
  rw[e,hp]at hq;simp only[Option.some.injEq,Prod.mk.injEq,true_and]at hq;have:=congrArg List.length hq;simp at this
 have keep:∀b o,s b=some o->b≠C.g->b≠q->b≠R.b->(∀x,o≠.join x)->(∀x,o≠.nt x)->(∀x,o≠.test x)->s6 b=some o:=λb o hb c1 c2 c3 c4 c5 c6=>by
  rw[go b c1 c2 c3 λsc _ _=>⟨λx e=>by rw[hb]at e;cases e;exact c4 _ rfl,λx e=>by rw[hb]at e;cases e;exact c5 _ rfl,λx e=>by rw[hb]at e;cases e;exact c6 _ rfl⟩];exact hb
 refine⟨?_,?_,?_,?_,?_,?_,?_,?_⟩
 ·obtain⟨x,a1,a2,a3,a4,a5,a6,a7,a8,n,a9,iU⟩:=h.net;rw[hn]at a1;cases a1;obtain⟨m,rfl,hm⟩:=iU.del hp bh;exact⟨_,gn,a2,a3,a4,a5,a6,a7,a8,m,by simp[a9],hm⟩
 ·intro r' R' ei;obtain⟨x,a1,a2,a3,a4,a5,a6⟩:=h.row r' R' ei;by_cases e:R'.b=R.b
  ·obtain rfl:=hW.rows _ _ _ _ ei hr e;rw[hr]at ei;cases ei;rw[hy]at a1;cases a1;exact⟨_,gr,a2,a3,a4,a5,a6.del⟩
  ·refine⟨x,keep _ _ a1 (λU=>by rw[U,hn]at a1;cases a1) (λU=>by rw[U,hxq]at a1;cases a1) e cr cr cr,a2,a3,a4,a5,(a6.del' hp λU=>?_).1⟩;subst U;rw[hr]at ei;cases ei;exact absurd rfl e
 ·intro r' R' k' ez ei eO zK;have h1:=h.step r' R' k' ez ei eO zK;by_cases e:r'=r/\(ρ++[i]).length=k'
  ·obtain⟨rfl,rfl⟩:=e;rw[hr]at ei;cases ei;exact gs ez eO zK
  ·have ep:r'=r->(ρ++[i]).length≠k':=λU e2=>e ⟨U,e2⟩
   have iX:(∃o,s ez.st.adr=some o/\(∀x,o≠.net x)/\(∀x,o≠.part x)/\∀x,o≠.row x)->s6 ez.st.adr=s ez.st.adr:=λ⟨o,ho,c1,c2,c3⟩=>
    go _ (λU=>by rw[U,hn]at ho;cases ho;exact c1 _ rfl) (λU=>by rw[U,hxq]at ho;cases ho;exact c2 _ rfl) (λU=>by rw[U,hy]at ho;cases ho;exact c3 _ rfl) λsc fj hb=>by
     obtain⟨U,e2⟩:=hW.steps _ _ _ _ _ _ _ _ ei hr eO fj hb;exact absurd ⟨U,e2.symm⟩ e
   unfold jg at h1⊢;split at h1
   ·obtain⟨x,c1,c2,c3,c4,c5,c6⟩:=h1;exact⟨x,(by rw[iX ⟨_,c1,cr,cr,λ_ e=>by cases e⟩];exact c1),c2,c3,c4,c5,(c6.del' hp ep).1⟩
   ·obtain⟨x,c1,c2,c3,c4,c5,c6⟩:=h1;exact⟨x,(by rw[iX ⟨_,c1,cr,cr,λ_ e=>by cases e⟩];exact c1),c2,c3,c4,c5,(c6.del' hp ep).1⟩
   ·obtain⟨x,c1,c2⟩:=h1;exact⟨x,(by rw[iX ⟨_,c1,cr,cr,λ_ e=>by cases e⟩];exact c1),c2⟩
 ·intro A hA;obtain⟨x,a1,a2⟩:=h.al A hA;exact⟨x,keep _ _ a1 (λU=>by rw[U,hn]at a1;cases a1) (λU=>by rw[U,hxq]at a1;cases a1) (λU=>by rw[U,hy]at a1;cases a1) cr cr cr,a2⟩
 ·intro z r' fV hl;obtain⟨hzp,ti⟩:=wk.1 hl;obtain⟨R',x,a1,a2,a3⟩:=h.part z r' fV ti
  have hup:∀de j,fV=de++[j]->x.id=j/\∃q2,x.up=some q2/\Kr loc p q2=some (r',de):=λde j e=>by
   obtain⟨d1,q2,d2,d3⟩:=a3.up de j e;refine⟨d1,q2,d2,wk.2 ⟨λU=>?_,d3⟩⟩;subst U;rw[hp]at d3;obtain⟨rfl,rfl⟩:=d3;rw[e]at ti;exact og _ _ ti
  have gK:∀sc a,R'.steps[fV.length]? =some sc->sc.st=.nt a->(∃w j,Kr loc p w=some (r',fV++[j]))->∀j,¬kT S sc (x.has,x.vals) (B r' fV).2 j:=λsc a U e2 ⟨w,j,hw⟩=>a3.free sc a U e2 ⟨w,j,(wk.1 hw).2⟩;by_cases hzq:z=q
  ·subst hzq;rw[hq]at ti;cases ti;rw[hr]at a1;cases a1;rw[hxq]at a2;cases a2;refine⟨R,_,hr,gq,⟨a3.env,a3.top,hup,λw=>?_,a3.blocks,gK,MS.nodup_del a3.kn⟩⟩;rw[MS.keys_del,a3.kids];constructor;· rintro⟨h1,j,h2⟩;exact⟨j,wk.2 ⟨h1,h2⟩⟩
   · rintro⟨j,h2⟩;exact⟨(wk.1 h2).1,j,(wk.1 h2).2⟩
  ·refine⟨R',x,a1,keep _ _ a2 (λU=>by rw[U,hn]at a2;cases a2) hzq (λU=>by rw[U,hy]at a2;cases a2) cr cr cr,⟨a3.env,a3.top,hup,λw=>?_,a3.blocks,gK,a3.kn⟩⟩;rw[a3.kids];constructor
   ·rintro⟨j,h2⟩;refine⟨j,wk.2 ⟨λU=>?_,h2⟩⟩;subst U;rw[hp]at h2;simp only[Option.some.injEq,Prod.mk.injEq]at h2;obtain⟨rfl,e2⟩:=h2;obtain⟨rfl,_⟩:=Zz e2;exact hzq (h.inj _ _ _ ti hq)
   · rintro⟨j,h2⟩;exact⟨j,(wk.1 h2).2⟩
 ·intro a b l ha hb;exact h.inj _ _ _ (wk.1 ha).2 (wk.1 hb).2
 ·intro r' R' ei;refine wk.2 ⟨λe=>?_,h.root r' R' ei⟩;have:=h.root r' R' ei;rw[e,hp]at this;simp at this
 ·intro n' JU;obtain⟨_,_,_,_,_,_,_,_,_,n,_,iU⟩:=h.net;exact K' (JU.mono' iU λy l hy=>(wk.1 hy).2) (h.le n iU)
end
end
section
open Go Go.RowKit Classical
def Ε (loc bq:Loc)(r:Nat)(π:aq Int):Prop:=∀y l,bq y=some l↔loc y=some l/\¬∃U,U≠[]/\l=(r,π++U)
def Kv (loc U:Loc)(r:Nat)(π:aq Int):Prop:=∀y l,U y=some l↔loc y=some l/\¬∃τ,l=(r,π++τ)
def Frame (s s':Qe)(R:fH)(n:Nat):Prop:=∀(k:Nat)(sc:fz),k<n->R.steps[k]? =some sc->s' sc.st.adr=s sc.st.adr
theorem vM {s:Qe} {a:Nat} {o:PO} (h:s a=some o):dp s a o=s:=by
 funext c;unfold dp;split;· rename_i e;rw[e,h]
 · rfl
section
variable {S:fY} {I:fb->Prop} {C:gA} {T:dc} {Ta:Nat->dc} {B:Nat->aq Int->dc×dc} {Zo:Nat->Prop} {di:bf Nat} {loc:Loc} {s:Qe} {D:aq Int}
variable {N p a:Nat}{Q:Qe->Prop}{x:xm}
theorem BF (h:s a=some (.join x))(hk:∀y,y=p\/y∈x.parts.keys->s y≠none)(U:Q (dp s a (.join {x with parts:=x.parts.del p}))):D' N a p s Q:=
 Qo (UX h) (gY hk (nF U))
theorem BG (h:s a=some (.nt x))(hk:∀y,y=p\/y∈x.parts.keys->s y≠none)(U:Q (dp s a (.nt {x with parts:=x.parts.del p}))):ζ N a p s Q:=
 Qo (Ot h) (gY hk (nF U))
theorem LA {x:lP} (h:s a=some (.test x))(hk:∀y,y=p\/y∈x.parts.keys->s y≠none)(U:Q (dp s a (.test {x with parts:=x.parts.del p}))):η N a p s Q:=
 Qo (uC h) (gY hk (nF U))
theorem Inv.pre (h:Inv S C T Ta B Zo di loc s) {r:Nat} {π:aq Int}:∀(n:Nat)(U:aq Int)(y:Nat),U.length=n->loc y=some (r,π++U)->∃z,loc z=some (r,π)
 | 0,U,y,hn,hy=>by
   have:U=[]:=d! hn;subst this;exact⟨y,by simpa using hy⟩
 | n+1,U,y,hn,hy=>by
   rcases List.eq_nil_or_concat U with rfl|⟨τ',j,rfl⟩
   · cases hn
   ·rw[List.concat_eq_append]at hy hn;obtain⟨R,x,_,_,h4⟩:=h.part _ _ _ hy;obtain⟨_,q,_,h5⟩:=h4.up (π++τ') j bh;exact h.pre n τ' q (du hn) h5
def Um (S:fY)(C:gA)(T:dc)(Ta:Nat->dc)(B:Nat->aq Int->dc×dc)(Zo:Nat->Prop)(M:Nat)(rc:Nat->Nat->Qe->WM Qe)(r:Nat)(R:fH)(k:Nat):Prop:=
 ∀(loc:Loc) (s:Qe) (p:Nat) (π:aq Int) (Q:Qe->Prop),Inv S C T Ta B Zo none loc s->(∀n,jd loc n->n<=M)->loc p=some (r,π)->π.length=k->(∀U s',Inv S C T Ta B Zo none U s'->Ε loc U r π->Frame s s' R (k+1)->Q s')->rc R.b p s Q
theorem NO {M r:Nat} {R:fH} {ρ:aq Int} {i:Int} {rc:Nat->Nat->Qe->WM Qe} (hW:pV C) (hr:C.rows[r]? =some R) (hN:R.steps.length<N) (R8:R.steps.length<9223372036854775807) (hM:M<9223372036854775807) (WY:Um S C T Ta B Zo M rc r R (ρ++[i]).length) (hZ:∀(k:Nat) (sc:fz),R.steps[k]? =some sc->¬Zo sc.st.adr)
  (h:Inv S C T Ta B Zo none loc s) (hc:∀n,jd loc n->n<=M) (hp:loc p=some (r,ρ++[i])) (hQ:∀bq s',Inv S C T Ta B Zo none bq s'->Kv loc bq r (ρ++[i])->Frame s s' R (ρ++[i]).length->Q s'):Q6i N rc R.b p s Q:=by
 refine gV ?_;refine WY loc s p (ρ++[i]) _ h hc hp rfl λfa s2 h2 ZK fC=>?_;have jb:fa p=some (r,ρ++[i]):=(ZK p _).2 ⟨hp,λ⟨τ,h1,h3⟩=>by have h4:=congrArg (λz:Nat×aq Int=>z.2.length) h3;have:=e!.2 h1;simp only[t']at h4;omega⟩;have og:∀z j,fa z≠some (r,ρ++[i]++[j]):=λz j hz=>((ZK z _).1 hz).2 ⟨[j],bh,rfl⟩;obtain⟨y,y1,y2,y3,y4,y5,y6,y7⟩:=h2.gRow hr;obtain⟨xn,g1,g2,_,_,_,_,_,_,_,n,g3,g4⟩:=h2.gNet
 have hnM:n<=M:=by
  obtain⟨m,hm⟩:=h.cnt;exact K' (g4.mono hm λy l hy=>((ZK y l).1 hy).1) (hc m hm)
 obtain⟨R',xp,c1,c2,c3,c4⟩:=h2.gPart jb;rw[hr]at c1;cases c1;obtain⟨_,q,c5,hq⟩:=c4.up ρ i rfl;obtain⟨R',xq,d1,d2,d3,d4⟩:=h2.gPart hq;rw[hr]at d1;cases d1;have hpg:p≠C.g:=λe=>by rw[e,g2]at c3;cases c3
 have hqg:q≠C.g:=λe=>by rw[e,g2]at d3;cases d3
 have hRg:R.b≠C.g:=λe=>by rw[e,g2]at y2;cases y2
 have hRq:R.b≠q:=λe=>by rw[e,d3]at y2;cases y2
 have hqp:q≠p:=λe=>by
  rw[e,jb]at hq;simp only[Option.some.injEq,Prod.mk.injEq,true_and]at hq;have:=congrArg List.length hq;simp at this
 refine Qo y1 ?_;rw[y3];refine Qo g1 ?_;refine gY au ?_;refine nF ?_;refine Qo (a:=xp) (by rw[te hpg];exact c2) ?_;refine Qo c5 ?_;refine Qo (a:=xq) (by rw[te hqg];exact d2) ?_
 have live:∀z l,fa z=some l->s2 z≠none:=λz l hz=>by
  obtain⟨_,x,_,e2,_⟩:=h2.part z l.1 l.2 hz;rw[e2];simp
 have Ud:∀(σ:Qe) (b:Nat) (o:PO) (z:Nat),σ z≠none->dp σ b o z≠none:=λσ b o z hz=>by
  unfold dp;split;· simp
  · exact hz
 refine gY (λz hz=>Ud _ _ _ _ ?_) ?_
 ·rcases hz with rfl|hz;· exact live _ _ jb
  · obtain⟨j,hj⟩:=(d4.kids z).1 hz;exact live _ _ hj
 refine nF ?_;refine Qo (a:=y) (by rw[zC hRq,zC hRg];exact y1) ?_;refine gY (λz hz=>Ud _ _ _ _ (Ud _ _ _ _ ?_)) ?_
 ·rcases hz with rfl|hz;· exact live _ _ jb
  · obtain⟨⟨π,hj,_⟩,_⟩:=(y7 z).1 hz;exact live _ _ hj
 refine nF ?_;generalize hs5:dp (dp (dp s2 C.g (.net {xn with parts:=xn.parts-1})) q (.part {xq with kids:=xq.kids.del p})) R.b (.row {y with whole:=y.whole.del p})=s5;have s5g:s5 C.g=some (.net {xn with parts:=xn.parts-1}):=by rw[<-hs5,QI (Ne.symm hRg),QI (Ne.symm hqg),jH]
 have s5q:s5 q=some (.part {xq with kids:=xq.kids.del p}):=by rw[<-hs5,QI (Ne.symm hRq),jH]
 have s5R:s5 R.b=some (.row {y with whole:=y.whole.del p}):=by rw[<-hs5,jH]
 have s5o:∀b,b≠C.g->b≠q->b≠R.b->s5 b=s2 b:=λb e1 e2 e3=>by rw[<-hs5,QI e3,QI e2,QI e1]
 have s5n:∀z,s2 z≠none->s5 z≠none:=λz hz=>by rw[<-hs5];exact Ud _ _ _ _ (Ud _ _ _ _ (Ud _ _ _ _ hz))
 have N6:∀b o,s2 b=some o->(∀z,o≠.net z)->(∀z,o≠.part z)->(∀z,o≠.row z)->s5 b=some o:=λb o hb e1 e2 e3=>by
  rw[s5o b (λe=>by rw[e,g2]at hb;cases hb;exact e1 _ rfl) (λe=>by rw[e,d3]at hb;cases hb;exact e2 _ rfl) (λe=>by rw[e,y2]at hb;cases hb;exact e3 _ rfl)];exact hb
 obtain ⟨s6,a3f,JX⟩:∃s6:Qe,(∀z,s5 z≠none->s6 z≠none)/\((R.steps[(ρ++[i]).length]? =none/\s6=s5)\/∃sc,R.steps[(ρ++[i]).length]? =some sc/\((∃a x,sc.st=.join a/\s5 a=some (.join x)/\s6=dp s5 a (.join {x with parts:=x.parts.del p}))\/(∃a x,sc.st=.nt a/\s5 a=some (.nt x)/\s6=dp s5 a (.nt {x with parts:=x.parts.del p}))\/∃a,sc.st=.test a/\s6=s5)):=by
  cases fj:R.steps[(ρ++[i]).length]? with
  |none=>exact⟨s5,λ_ h=>h,.inl ⟨rfl,rfl⟩⟩
  | some sc=>
    have h1:=h2.step r R _ sc hr fj (hZ _ sc fj);unfold jg at h1;cases U:sc.st with
    | join a=>
      rw[U]at h1;obtain⟨x,e1,_⟩:=h1;exact⟨_,λz hz=>Ud _ _ _ _ hz,.inr ⟨sc,rfl,.inl ⟨a,x,U,N6 _ _ e1 cr cr cr,rfl⟩⟩⟩
    | nt a=>
      rw[U]at h1;obtain⟨x,e1,_⟩:=h1;exact⟨_,λz hz=>Ud _ _ _ _ hz,.inr ⟨sc,rfl,.inr (.inl ⟨a,x,U,N6 _ _ e1 cr cr cr,rfl⟩)⟩⟩
    |test a=>exact⟨s5,λ_ h=>h,.inr ⟨sc,rfl,.inr (.inr ⟨a,U,rfl⟩)⟩⟩
 have s6k:∀b o,s5 b=some o->(∀z,o≠.join z)->(∀z,o≠.nt z)->s6 b=some o:=λb o hb e1 e2=>by
  rcases JX with⟨_,rfl⟩|⟨sc,_,⟨a,x,_,hx,rfl⟩|⟨a,x,_,hx,rfl⟩|⟨a,_,rfl⟩⟩
  · exact hb
  · rw[QI (λe=>by rw[e,hx]at hb;cases hb;exact e1 _ rfl)];exact hb
  · rw[QI (λe=>by rw[e,hx]at hb;cases hb;exact e2 _ rfl)];exact hb
  · exact hb
 have a0P:Inv S C T Ta B Zo none (Kr fa p) s6:=by
  refine h2.kill hW hr jb hq og g2 d3 y2 (s6k _ _ s5g cr cr) (s6k _ _ s5q cr cr) (s6k _ _ s5R cr cr) (λsc fj hz=>?_) (λb e1 e2 e3 e4=>?_)
  · have h1:=h2.step r R _ sc hr fj hz;rcases JX with⟨h0,_⟩|⟨ez,gj,hh⟩
    · rw[h0]at fj;cases fj
    · rw[gj]at fj;cases fj;rcases hh with⟨a,x,U,hx,rfl⟩|⟨a,x,U,hx,rfl⟩|⟨a,U,rfl⟩
      ·unfold jg at h1⊢;rw[U]at h1⊢;obtain⟨x',f1,f2,f3,f4,f5,f6⟩:=h1;have:=N6 _ _ f1 cr cr cr;have nH:s5 (cz.join a).adr=some (.join x):=hx;rw[nH]at this;cases this;exact⟨_,jH _ _ _,f2,f3,f4,f5,f6.del⟩
      ·unfold jg at h1⊢;rw[U]at h1⊢;obtain⟨x',f1,f2,f3,f4,f5,f6⟩:=h1;have:=N6 _ _ f1 cr cr cr;have nH:s5 (cz.nt a).adr=some (.nt x):=hx;rw[nH]at this;cases this;exact⟨_,jH _ _ _,f2,f3,f4,f5,f6.del⟩
      ·unfold jg at h1⊢;rw[U]at h1⊢;obtain⟨x',f1,f2⟩:=h1;exact⟨x',N6 _ _ f1 cr cr cr,f2⟩
  · rw[<-s5o b e1 e2 e3];rcases JX with⟨_,rfl⟩|⟨sc,fj,⟨a,x,U,hx,rfl⟩|⟨a,x,U,hx,rfl⟩|⟨a,_,rfl⟩⟩
    · rfl
    · refine QI λe=>?_;have:=(e4 sc fj (by rw[e,U];rfl)).1 x;rw[<-s5o b e1 e2 e3,e]at this;exact this hx
    · refine QI λe=>?_;have:=(e4 sc fj (by rw[e,U];rfl)).2.1 x;rw[<-s5o b e1 e2 e3,e]at this;exact this hx
    · rfl
 have gx:Kv loc (Kr fa p) r (ρ++[i]):=λz l=>by
  rw[wk,ZK];constructor
  · rintro⟨e1,e2,e3⟩;refine⟨e2,λ⟨τ,e4⟩=>?_⟩;by_cases iD:τ=[]
    · subst iD;rw[List.append_nil]at e4;rw[e4]at e2;exact e1 (h.inj _ _ _ e2 hp)
    · exact e3 ⟨τ,iD,e4⟩
  · rintro⟨e2,e3⟩;refine⟨λe=>?_,e2,λ⟨τ,_,e4⟩=>e3 ⟨τ,e4⟩⟩;rw[e,hp]at e2;cases e2;exact e3 ⟨[],bh⟩
 have TV:y.steps.length=R.steps.length:=by rw[y4];simp
 have X2:Frame s s6 R (ρ++[i]).length:=λk' ez eO gj=>by
  rw[<-fC k' ez au gj];have h1:=h2.step r R k' ez hr gj (hZ _ _ gj)
  have h5:s5 ez.st.adr=s2 ez.st.adr:=by
    unfold jg at h1;split at h1;· obtain⟨x,f1,_⟩:=h1;rw[f1];exact N6 _ _ f1 cr cr cr
    · obtain⟨x,f1,_⟩:=h1;rw[f1];exact N6 _ _ f1 cr cr cr
    · obtain⟨x,f1,_⟩:=h1;rw[f1];exact N6 _ _ f1 cr cr cr
  rw[<-h5]
  have ep:∀sc,R.steps[(ρ++[i]).length]? =some sc->ez.st.adr≠sc.st.adr:=λsc fj e=>by
    have:=(hW.steps r r R R _ _ ez sc hr hr gj fj e).2;omega
  rcases JX with⟨_,rfl⟩|⟨sc,fj,⟨a,x,U,hx,rfl⟩|⟨a,x,U,hx,rfl⟩|⟨a,_,rfl⟩⟩
  · rfl
  · exact QI λe=>ep sc fj (by rw[e,U];rfl)
  · exact QI λe=>ep sc fj (by rw[e,U];rfl)
  · rfl
 have both:∀(σ:Qe) (u:Nat),σ=(if(ρ++[i]).length<u then s6 else s5)->(∀z,s5 z≠none->σ z≠none)/\∀b o,s5 b=some o->(∀z,o≠.join z)->(∀z,o≠.nt z)->σ b=some o:=λσ u e=>by
  split at e;· subst e;exact⟨a3f,s6k⟩
  · subst e;exact⟨λ_ h=>h,λ_ _ h _ _=>h⟩
 refine z7 (λ(u,σ)=>u<=R.steps.length/\σ=if(ρ++[i]).length<u then s6 else s5) (λ(u,_)=>R.steps.length-u) ?_ N (0,s5) ⟨Q' _,by rw[if_neg au]⟩ (by show R.steps.length-0<N;omega);rintro⟨u,σ⟩ ag ⟨hu,H6⟩ gQ;dsimp only at hu H6 gQ⊢;obtain⟨bn,bk⟩:=both σ u H6;refine jj (λhb=>?_) (λhb=>?_)
 ·have cj:u<R.steps.length:=by have:=of_decide_eq_true hb;rwa [TV]at this
  obtain⟨sc,fj⟩:∃sc,R.steps[u]? =some sc:=⟨_,m' cj⟩
  refine kF ?_;refine Qo (tf (bk _ _ s5R cr cr)) ?_;refine gY ⟨rfl,rfl,rfl⟩ ?_;refine Qo (a:=sc.st) (by show y.steps[u]? =_;rw[y4,i!,fj];rfl) ?_;have h1:=h2.step r R u sc hr fj (hZ u sc fj)
  have lv:∀(m:MS Nat Bool),LK none fa r u m->∀z,z=p\/z∈m.keys->σ z≠none:=λm hm z hz=>by
    refine bn z (s5n z ?_);rcases hz with rfl|hz;· exact live _ _ jb
    · obtain⟨⟨π,hj,_⟩,_⟩:=(hm z).1 hz;exact live _ _ hj
  have next:u≠(ρ++[i]).length->(∀s',s'=σ->fN (u+1<=9223372036854775807) (ag (u+1,s')) Q):=λep s' e=>by
    refine gY au (gQ (u+1,s') ⟨au,?_⟩ au);rw[e,H6];by_cases hh:(ρ++[i]).length<u;· rw[if_pos hh,if_pos au]
    · rw[if_neg hh,if_neg au]
  have last:u=(ρ++[i]).length->fN (u+1<=9223372036854775807) (ag (u+1,s6)) Q:=λhe=>
    gY au (gQ (u+1,s6) ⟨au,by rw[if_pos au]⟩ au)
  unfold jg at h1;cases U:sc.st with
  | join a=>
    rw[U]at h1;obtain⟨x,f1,f2,f3,f4,f5,f6⟩:=h1;have f1':s2 a=some (.join x):=f1;have g5:=N6 _ _ f1' cr cr cr;refine lk (gV ?_);by_cases he:u=(ρ++[i]).length
    · have Fp:σ=s5:=by rw[H6,if_neg au]
      refine BF (x:=x) (by rw[Fp];exact g5) (lv _ f6) ?_;rw[Fp]
      have:dp s5 a (.join {x with parts:=x.parts.del p})=s6:=by
       rcases JX with⟨h0,_⟩|⟨ez,gj,⟨a',x',q1,q2,q3⟩|⟨a',x',q1,q2,q3⟩|⟨a',q1,q3⟩⟩
       · rw[<-he,fj]at h0;cases h0
       ·rw[<-he,fj]at gj;cases gj;rw[U]at q1;cases q1;rw[g5]at q2;cases q2;exact q3.symm
       ·rw[<-he,fj]at gj;cases gj;rw[U]at q1;cases q1
       ·rw[<-he,fj]at gj;cases gj;rw[U]at q1;cases q1
      rw[this];exact last he
    · obtain⟨_,hnk⟩:=f6.del' jb (λ_ e=>he e.symm)
      have mP:σ a=some (.join x):=by
       rw[H6];split
       ·rcases JX with⟨_,rfl⟩|⟨ez,gj,⟨a',x',q1,q2,rfl⟩|⟨a',x',q1,q2,rfl⟩|⟨a',q1,rfl⟩⟩
        · exact g5
        · rw[QI (λe=>he (hW.steps r r R R _ _ sc ez hr hr fj gj (by rw[U,q1,<-e])).2)];exact g5
        · rw[QI (λe=>he (hW.steps r r R R _ _ sc ez hr hr fj gj (by rw[U,q1,<-e];rfl)).2)];exact g5
        · exact g5
       · exact g5
      refine BF (x:=x) mP (lv _ f6) ?_;rw[MS.del_none hnk];exact next he _ (vM mP)
  | nt a=>
    rw[U]at h1;obtain⟨x,f1,f2,f3,f4,f5,f6⟩:=h1;have f1':s2 a=some (.nt x):=f1;have g5:=N6 _ _ f1' cr cr cr;refine ll (gV ?_);by_cases he:u=(ρ++[i]).length
    · have Fp:σ=s5:=by rw[H6,if_neg au]
      refine BG (x:=x) (by rw[Fp];exact g5) (lv _ f6) ?_;rw[Fp]
      have:dp s5 a (.nt {x with parts:=x.parts.del p})=s6:=by
       rcases JX with⟨h0,_⟩|⟨ez,gj,⟨a',x',q1,q2,q3⟩|⟨a',x',q1,q2,q3⟩|⟨a',q1,q3⟩⟩
       · rw[<-he,fj]at h0;cases h0
       ·rw[<-he,fj]at gj;cases gj;rw[U]at q1;cases q1
       ·rw[<-he,fj]at gj;cases gj;rw[U]at q1;cases q1;rw[g5]at q2;cases q2;exact q3.symm
       ·rw[<-he,fj]at gj;cases gj;rw[U]at q1;cases q1
      rw[this];exact last he
    · obtain⟨_,hnk⟩:=f6.del' jb (λ_ e=>he e.symm)
      have mP:σ a=some (.nt x):=by
       rw[H6];split
       ·rcases JX with⟨_,rfl⟩|⟨ez,gj,⟨a',x',q1,q2,rfl⟩|⟨a',x',q1,q2,rfl⟩|⟨a',q1,rfl⟩⟩
        · exact g5
        · rw[QI (λe=>he (hW.steps r r R R _ _ sc ez hr hr fj gj (by rw[U,q1,<-e];rfl)).2)];exact g5
        · rw[QI (λe=>he (hW.steps r r R R _ _ sc ez hr hr fj gj (by rw[U,q1,<-e])).2)];exact g5
        · exact g5
       · exact g5
      refine BG (x:=x) mP (lv _ f6) ?_;rw[MS.del_none hnk];exact next he _ (vM mP)
  | test a=>
    rw[U]at h1;obtain⟨x,f1,f2,f3,f4,f5⟩:=h1;have f1':s2 a=some (.test x):=f1;have g5:=N6 _ _ f1' cr cr cr;have mP:=bk _ _ g5 cr cr;refine ln (gV ?_);refine LA (x:=x) mP (λz hz=>?_) ?_
    · rcases hz with rfl|hz;· exact bn _ (s5n _ (live _ _ jb))
      · exact absurd hz (f5 z)
    · rw[MS.del_none (f5 p),vM mP];by_cases he:u=(ρ++[i]).length
      ·have Fp:σ=s6:=by
        rw[H6,if_neg au];rcases JX with⟨_,rfl⟩|⟨ez,gj,⟨a',x',q1,q2,q3⟩|⟨a',x',q1,q2,q3⟩|⟨a',q1,q3⟩⟩
        · rfl
        ·rw[<-he,fj]at gj;cases gj;rw[U]at q1;cases q1
        ·rw[<-he,fj]at gj;cases gj;rw[U]at q1;cases q1
        · exact q3.symm
       rw[Fp];exact last he
      · exact next he _ rfl
 ·have pN:¬u<R.steps.length:=by have:=of_decide_eq_false hb;rwa [TV]at this
  have:σ=s6:=by
    rw[H6];split;· rfl
    · rename_i hh;rcases JX with⟨_,rfl⟩|⟨ez,gj,_⟩
      · rfl
      ·have:=(c'.1 gj).1;omega
  rw[this];exact hQ _ _ a0P gx X2
end
end
section
open Go Go.RowKit Classical
section
variable {S:fY} {I:fb->Prop} {C:gA} {T:dc} {Ta:Nat->dc} {B:Nat->aq Int->dc×dc} {Zo:Nat->Prop} {di:bf Nat} {loc:Loc} {s:Qe} {D:aq Int}
theorem KO {M r:Nat} {R:fH} (hW:pV C)(hr:C.rows[r]? =some R)(R8:R.steps.length<9223372036854775807)(hM:M<4398046511104)(hZ:∀(k:Nat)(sc:fz),R.steps[k]? =some sc->¬Zo sc.st.adr):
   ∀(d k:Nat),k+d=R.steps.length->∀N,M+R.steps.length+d+1<N->Um S C T Ta B Zo M (SP N) r R k
 |d,k,hd,0,hN=>au
 | d,k,hd,N+1,hN=>by
   intro loc s p π Q h hc hp ke hQ;obtain⟨R',x,r1,r2,r3,r4⟩:=h.gPart hp;rw[hr]at r1;cases r1;obtain⟨n,L,l1,l2,l3⟩:=h.cnt;have hn:=hc n ⟨L,l1,l2,l3⟩
   have kZ:∀ks:aq Nat,ks.Nodup->(∀w∈ks,w∈x.kids.keys)->ks.length<=M:=λks h1 h2=>by
    have:=Kf (l:=L) h1 λw hw=>by
     obtain⟨i,hi⟩:=(r4.kids w).1 (h2 w hw);exact(l2 w).2 ⟨r,_,hi,bh⟩
    omega
   refine Qo r2 ?_;refine gV ⟨K' (kZ _ r4.kn λ_ h=>h) au,λks M6=>?_⟩;have a2U:=kZ ks M6.1 λw hw=>(M6.2 w).1 hw;have I7:∀w∈ks,∃i,loc w=some (r,π++[i]):=λw hw=>(r4.kids w).1 ((M6.2 w).1 hw);refine z7 (λ(u,σ)=>u<=ks.length/\∃bq,Inv S C T Ta B Zo none bq σ/\Frame s σ R (k+1)/\∀y l,bq y=some l↔loc y=some l/\¬∃w∈ks.take u,∃i,loc w=some (r,π++[i])/\∃U,l=(r,π++[i]++U)) (λ(u,_)=>ks.length-u) ?_ N (0,s) ⟨Q' _,loc,h,λ_ _ _ _=>rfl,λy l=>⟨λhy=>⟨hy,λ⟨w,hw,_⟩=>by cases hw⟩,λhy=>hy.1⟩⟩ (by show ks.length-0<N;omega);rintro⟨u,σ⟩ ag ⟨hu,eu,kc,a0J,jx⟩ gQ;dsimp only at hu gQ⊢;refine jj (λhb=>?_) (λhb=>?_)
   ·have cj:u<ks.length:=of_decide_eq_true hb;obtain⟨w,hw⟩:∃w,ks[u]? =some w:=⟨_,m' cj⟩
    obtain⟨i,OL⟩:=I7 w (v' hw);have gx:ks.take (u+1)=ks.take u++[w]:=by rw[b!,hw];rfl
    have uK:w∉ks.take u:=λhm=>by
     have h2:(ks.take (u+1)).Nodup:=List.Nodup.sublist (h! _ _) M6.1;rw[gx]at h2;exact(A'.1 h2).2.2 _ hm _ bh rfl
    have hw1:eu w=some (r,π++[i]):=(jx w _).2 ⟨OL,λ⟨w',jC,j,hj,U,e⟩=>by
     simp only[Prod.mk.injEq,true_and,N',S',T',W',List.cons.injEq]at e;rw[<-e.1]at hj;exact uK (by rw[h.inj _ _ _ OL hj];exact jC)⟩
    have hkn:k<R.steps.length:=by
     obtain⟨R',x',q1,q2,q3⟩:=h.part _ _ _ OL;rw[hr]at q1;cases q1;have:=nY q3.env;simp only[t',g',E']at this;omega
    obtain⟨d',rfl⟩:∃d',d=d'+1:=⟨d-1,au⟩
    refine Qo hw ?_;refine gV ?_;have ih:=KO hW hr R8 hM hZ d' (k+1) au N au;refine NO hW hr au R8 au (by rw[show(π++[i]).length=k+1 from by simp[ke]];exact ih) hZ kc (λm hm=>K' (hm.mono ⟨L,l1,l2,l3⟩ λy l hy=>((jx y l).1 hy).1) hn) hw1 λfa s2 jT ht2 BO=>?_;refine gY au (gQ (u+1,s2) ⟨au,fa,jT,λk' ez e1 e2=>(BO k' ez (by simp[ke];omega) e2).trans (a0J k' ez e1 e2),λy l=>?_⟩ au);rw[ht2,jx,gx];constructor
    ·rintro⟨⟨e1,e2⟩,e3⟩;refine⟨e1,λ⟨w',jC,j,hj,U,e⟩=>?_⟩;rcases j'.1 jC with jC|jC;· exact e2 ⟨w',jC,j,hj,U,e⟩
     · rw[f'.1 jC,OL]at hj;simp only[Option.some.injEq,Prod.mk.injEq,true_and]at hj;obtain⟨_,rfl⟩:=Zz hj;exact e3 ⟨U,e⟩
    ·rintro⟨e1,e2⟩;exact⟨⟨e1,λ⟨w',jC,hh⟩=>e2 ⟨w',u' _ jC,hh⟩⟩,λ⟨U,e⟩=>e2 ⟨w,List.mem_append_right _ bh,i,OL,U,e⟩⟩
   ·have pN:¬u<ks.length:=of_decide_eq_false hb;have ZS:ks.take u=ks:=H' au;rw[ZS]at jx;refine hQ eu σ kc (λy l=>?_) a0J;rw[jx];constructor
    ·rintro⟨e1,e2⟩;refine⟨e1,λ⟨U,iD,e⟩=>?_⟩;cases U with
     |nil=>exact iD rfl
     | cons i U=>
       rw[e]at e1;have e1':loc y=some (r,π++[i]++U):=by rw[e1];simp
       obtain⟨w,hw⟩:=h.pre U.length U y rfl e1';have hwk:w∈ks:=(M6.2 w).2 ((r4.kids w).2 ⟨i,hw⟩);exact e2 ⟨w,hwk,i,hw,U,by rw[e];simp⟩
    ·rintro⟨e1,e2⟩;exact⟨e1,λ⟨w,_,i,_,U,e⟩=>e2 ⟨i::U,bh,by rw[e];simp⟩⟩
end
end
section
open Go Go.RowKit Classical
def Shape (C:gA)(s:Qe):Prop:=(∃x,gNet s C.g=some x/\x.rows=C.rows.map (·.b)/\x.rowsP=C.rP/\x.rowsC=C.rC)/\∀(r:Nat)(R:fH),C.rows[r]? =some R->∃y,gRow s R.b=some y/\y.steps=R.steps.map (·.st)/\y.stepsP=R.sP/\y.stepsC=R.sC
theorem Inv.shape {S:fY} {C:gA} {T:dc} {Ta:Nat->dc} {B:Nat->aq Int->dc×dc} {Zo:Nat->Prop} {di:bf Nat} {loc:Loc} {s:Qe} (h:Inv S C T Ta B Zo di loc s):Shape C s:=by
 refine⟨?_,λr R hr=>?_⟩
 ·obtain⟨x,h1,_,_,U,h3,h4,_⟩:=h.gNet;exact⟨x,h1,U,h3,h4⟩
 ·obtain⟨y,h1,_,_,U,h3,h4,_⟩:=h.gRow hr;exact⟨y,h1,U,h3,h4⟩
section
variable {C:gA} {K:cz->Qe->WM Qe} {E:Nat->Qe->Prop} {J:Nat->Nat->Qe->Prop}
theorem Ht {r:Nat} {R:fH} {y:nQ} (hr:C.rows[r]? =some R)(hy:y.steps=R.steps.map (·.st)/\y.stepsP=R.sP/\y.stepsC=R.sC)(hJ:∀m s,J r m s->Shape C s)
   (step:∀m sc s Q,J r (m+1) s->R.steps[m]? =some sc->(∀s',J r m s'->Q s')->K sc.st s Q):∀(m:Nat) (s:Qe) (Q:Qe->Prop),m<=R.steps.length->J r m s->(∀s',J r 0 s'->Q s')->vy K R.b y m s Q
 |0,s,Q,_,h,U=>U s h
 | m+1,s,Q,hm,h,U=>by
   obtain⟨sc,fj⟩:∃sc,R.steps[m]? =some sc:=⟨_,m' au⟩
   obtain⟨y',h1,h2,h3,h4⟩:=(hJ _ _ h).2 r R hr;refine Qo h1 ?_;refine gY ⟨by rw[h3,hy.2.1],by rw[h2,hy.1],by rw[h4,hy.2.2]⟩ ?_;refine Qo (a:=sc.st) (by rw[hy.1,i!,fj];rfl) ?_;refine gV ?_;exact step m sc s _ h fj λs' H3=>Ht hr hy hJ step m s' Q au H3 U
theorem zA {s:Qe} {Q:Qe->Prop} (hlen:C.rows.length<=9223372036854775806)(hsl:∀R∈C.rows,R.steps.length<=9223372036854775807)(hE:∀r s,E r s->Shape C s)(hJ:∀r m s,J r m s->Shape C s)
  (enter:∀r R s,C.rows[r]? =some R->E r s->J r R.steps.length s)
  (step:∀r R m sc s Q,C.rows[r]? =some R->J r (m+1) s->R.steps[m]? =some sc->(∀s',J r m s'->Q s')->K sc.st s Q)
  (leave:∀r s,J r 0 s->E (r+1) s) (h:E 0 s) (hQ:∀s',E C.rows.length s'->Q s'):Gr K C.g s Q:=by
 obtain⟨x,h1,h2,h3,h4⟩:=(hE _ _ h).1;refine Qo h1 ?_;refine gY (by rw[h2];simpa using hlen) ?_
 have key:∀(l:aq fH) (r:Nat) (s:Qe),C.rows.drop r=l->r+l.length=C.rows.length->E r s->Hp K C.g x (l.map (·.b)) s Q:=by
  intro l;induction l with
  | nil=>
    intro r s hl Xh he;exact hQ s (by rw[<-Xh];exact he)
  | cons R l ih=>
    intro r s hl Xh he
    have U:C.rows[r]? =some R:=by
     have:=congrArg (·[0]?) hl;simpa using this
    have zG:C.rows.drop (r+1)=l:=by rw[<-List.drop_drop,hl];rfl
    obtain⟨x',q1,q2,q3,q4⟩:=(hE _ _ he).1;obtain⟨y,p1,p2,p3,p4⟩:=(hE _ _ he).2 r R U;refine Qo q1 ?_;refine gY ⟨by rw[q3,h3],by rw[q2,h2],by rw[q4,h4]⟩ ?_;refine Qo p1 ?_;have TV:y.steps.length=R.steps.length:=by rw[p2];simp
    refine gY (by rw[TV];exact hsl R (v' U)) ?_;refine gV ?_;rw[TV];exact Ht U ⟨p2,p3,p4⟩ (hJ r) (λm sc s Q=>step r R m sc s Q U) _ s _ (c! _) (enter r R s U he) λs' H3=>ih (r+1) s' zG (by simp only[g']at Xh;omega) (leave r s' H3)
 rw[h2];exact key C.rows 0 s rfl au h
end
end
section
open Go Go.RowKit Classical
section
variable {S:fY} {I:fb->Prop} {C:gA} {T:dc} {Ta:Nat->dc} {B:Nat->aq Int->dc×dc} {Zo:Nat->Prop} {di:bf Nat} {loc:Loc} {s:Qe} {D:aq Int}
theorem Inv.parts_list (h:Inv S C T Ta B Zo di loc s) {r M:Nat} {R:fH} (hr:C.rows[r]? =some R)(hc:∀n,jd loc n->n<=M):∃L:aq Nat,L.length<=M+1/\∀y π,loc y=some (r,π)->y∈L:=by
 obtain⟨n,L,l1,l2,l3⟩:=h.cnt;refine⟨R.root::L,by simp only[g'];have:=hc n ⟨L,l1,l2,l3⟩;omega,λy π hy=>?_⟩;by_cases U:π=[]
 ·subst U;rw[h.inj _ _ _ hy (h.root r R hr)];simp
 · exact List.mem_cons_of_mem _ ((l2 y).2 ⟨r,π,hy,U⟩)
theorem CR {π:aq Int} {k:Nat} {id:Int} (h:π[k]? =some id):π=π.take k++[id]++π.drop (k+1)/\(π.take k).length=k:=by
 have U:=(c'.1 h).1;refine⟨?_,by simp;omega⟩;have h1:π.drop k=id::π.drop (k+1):=SZ h
 calc π=π.take k++π.drop k:=(List.take_append_drop k π).symm
  _=_:=by rw[h1];simp
theorem Ch {N M r k a:Nat} {R:fH} {sc:fz} {id:Int} {Q:Qe->Prop} (hW:pV C) (hr:C.rows[r]? =some R) (hk:R.steps[k]? =some sc) (cx:sc.st=.join a) (R8:R.steps.length<9223372036854775807) (hM:M<4398046511103) (hN:M+R.steps.length+R.steps.length+2<N) (hZ:∀(k:Nat) (sc:fz),R.steps[k]? =some sc->¬Zo sc.st.adr)
    (h:Inv S C T Ta B Zo none loc s) (hc:∀n,jd loc n->n<=M) (hQ:∀bq s',Inv S C T Ta B Zo none bq s'->(∀y l,bq y=some l↔loc y=some l/\¬(l.1=r/\l.2[k]? =some id))->Q s'):Q7n N a id s Q:=by
  have kZ:k<R.steps.length:=(c'.1 hk).1;have h0:=h.step r R k sc hr hk (hZ k sc hk);unfold jg at h0;rw[cx]at h0;obtain⟨x,b1,b2,b3,b4,b5,b6⟩:=h0;have si:s a=some (.join x):=b1;have fT:sc.st.adr=a:=by rw[cx];rfl
  obtain⟨L,hL1,WO⟩:=h.parts_list hr hc;obtain⟨n0,TO⟩:=h.cnt;have WY:∀k',k'<=R.steps.length->Um S C T Ta B Zo M (SP N) r R k':=λk' eO=>KO hW hr R8 au hZ (R.steps.length-k') k' au N au;refine Qo (UX si) ?_;refine z7 (λ(b,m,d,σ)=>b=x.partsA/\m=x.parts/\d.Nodup/\(∀q∈d,q∈x.parts.keys)/\∃bq,Inv S C T Ta B Zo none bq σ/\Frame s σ R (k+1)/\∀y l,bq y=some l↔loc y=some l/\¬∃q∈d,∃ρ,loc q=some (r,ρ)/\ρ.length=k/\∃τ,l=(r,ρ++[id]++τ)) (λ(_,_,d,_)=>M+1-d.length) ?_ N _ ⟨rfl,rfl,g!,(λq hq=>by cases hq),loc,h,(λ_ _ _ _=>rfl),λy l=>⟨λhy=>⟨hy,λ⟨q,hq,_⟩=>by cases hq⟩,λhy=>hy.1⟩⟩ (by show M+1-0<N;omega);rintro⟨b,m,d,σ⟩ ag ⟨rfl,rfl,rz,ry,eu,kc,DU,jx⟩ gQ;have mP:σ a=some (.join x):=by rw[<-fT,DU k sc au hk,fT];exact si
  refine Qo (UX mP) ?_;refine gY ⟨rfl,rfl⟩ ?_;refine T7 (λeZ=>?_) λq hq GZ=>?_
  · refine hQ eu σ kc λy l=>?_;rw[jx];constructor
    · rintro⟨U,e2⟩;refine⟨U,λ⟨e3,e4⟩=>?_⟩;obtain⟨r',π⟩:=l;dsimp only at e3 e4;subst e3;obtain⟨e5,e6⟩:=CR e4;rw[e5,N']at U;obtain⟨q,hq⟩:=h.pre _ _ y rfl U;exact e2 ⟨q,eZ q ((b6 q).2 ⟨⟨_,hq,e6⟩,bh⟩),_,hq,e6,π.drop (k+1),by rw[<-e5]⟩
    · rintro⟨U,e2⟩;refine⟨U,λ⟨q,_,ρ,_,e4,τ,e5⟩=>e2 ?_⟩;rw[e5];refine⟨rfl,?_⟩;rw[N',List.getElem?_append_right au,e4];simp
  · obtain⟨⟨ρ,iN,jc⟩,_⟩:=(b6 q).1 hq
    have IK:eu q=some (r,ρ):=(jx q _).2 ⟨iN,λ⟨q',_,de,_,e4,τ,e5⟩=>by
      have:=congrArg (λz:Nat×aq Int=>z.2.length) e5;simp only[t',g',E']at this;omega⟩
    obtain⟨v,hv⟩:=Q7R hq;refine Qo hv ?_;obtain⟨R',z,r1,r2,r3,r4⟩:=kc.gPart IK;rw[hr]at r1;cases r1;refine Qo r2 ?_;have JT:∀n,jd eu n->n<=M:=λn hn=>K' (hn.mono TO λy l hy=>((jx y l).1 hy).1) (hc _ TO);obtain⟨n1,L1,l1,l2,l3⟩:=kc.cnt
    have hkb:∀ks:aq Nat,ks.Nodup->(∀w∈ks,w∈z.kids.keys)->ks.length<=M:=λks h1 h2=>by
      have:=Kf (l:=L1) h1 λw hw=>by
        obtain⟨i,hi⟩:=(r4.kids w).1 (h2 w hw);exact(l2 w).2 ⟨r,_,hi,bh⟩
      have:=JT n1 ⟨L1,l1,l2,l3⟩;omega
    refine gV ⟨K' (hkb _ r4.kn λ_ h=>h) au,λks M6=>?_⟩;have a2U:=hkb ks M6.1 λw hw=>(M6.2 w).1 hw
    have Rh:d.length<M+1:=by
      have:=Kf (l:=L) (a!.2 ⟨GZ,rz⟩) λw hw=>by
        have:w∈x.parts.keys:=by
          rcases M'.1 hw with rfl|hw;· exact hq
          · exact ry w hw
        obtain⟨⟨π,U,_⟩,_⟩:=(b6 w).1 this;exact WO w π U
      simp only[g']at this;omega
    refine z7 (λ(u,HT)=>u<=ks.length/\∃bq,Inv S C T Ta B Zo none bq HT/\Frame s HT R (k+1)/\∀y l,bq y=some l↔eu y=some l/\¬((∃w∈ks.take u,eu w=some (r,ρ++[id]))/\∃τ,l=(r,ρ++[id]++τ))) (λ(u,_)=>ks.length-u) ?_ N (0,σ) ⟨Q' _,eu,kc,DU,λy l=>⟨λhy=>⟨hy,λ⟨⟨w,hw,_⟩,_⟩=>by cases hw⟩,λhy=>hy.1⟩⟩ (by show ks.length-0<N;omega);rintro⟨u,HT⟩ ag2 ⟨hu,fa,jT,BO,zG⟩ Iy;dsimp only at hu Iy⊢;refine jj (λhb=>?_) (λhb=>?_)
    · have cj:u<ks.length:=of_decide_eq_true hb;obtain⟨w,hw⟩:∃w,ks[u]? =some w:=⟨_,m' cj⟩
      have hwk:=v' hw;obtain⟨i,OL⟩:=(r4.kids w).1 ((M6.2 w).1 hwk);have gx:ks.take (u+1)=ks.take u++[w]:=by rw[b!,hw];rfl
      have uK:w∉ks.take u:=λhm=>by
        have h2:(ks.take (u+1)).Nodup:=List.Nodup.sublist (h! _ _) M6.1;rw[gx]at h2;exact(A'.1 h2).2.2 _ hm _ bh rfl
      have ZV:fa w=some (r,ρ++[i]):=(zG w _).2 ⟨OL,λ⟨⟨w',jC,hj⟩,τ,e⟩=>by
        simp only[Prod.mk.injEq,true_and,N',S',T',W',List.cons.injEq]at e;rw[<-e.1]at hj;exact uK (by rw[kc.inj _ _ _ OL hj];exact jC)⟩
      refine kF ?_;refine Qo hw ?_;obtain⟨R',zw,p1,p2,p3,p4⟩:=jT.gPart ZV;refine Qo p2 ?_;have hid:=(p4.up ρ i rfl).1;refine jj (λWV=>?_) (λWV=>?_)
      · have ZP:i=id:=by rw[hid]at WV;simpa using WV
        subst ZP;have a1j:HT a=some (.join x):=by rw[<-fT,BO k sc au hk,fT];exact si
        refine Qo (UX a1j) ?_;refine gV ?_;rw[b3];have IE:(ρ++[i]).length=k+1:=by simp[jc]
        refine NO hW hr au R8 au (WY _ au) hZ jT (λm hm=>K' (hm.mono ⟨L1,l1,l2,rfl⟩ λy l hy=>((zG y l).1 hy).1) (JT _ ⟨L1,l1,l2,rfl⟩)) ZV λa3p s3 hi3 ht3 hf3=>?_;refine gY au (Iy (u+1,s3) ⟨au,a3p,hi3,λk' ez U e2=>(hf3 k' ez au e2).trans (BO k' ez U e2),λy l=>?_⟩ au);rw[ht3,zG,gx];constructor;· rintro⟨⟨U,e2⟩,e3⟩;exact⟨U,λ⟨_,e5⟩=>e3 e5⟩
        · rintro⟨U,e2⟩;exact⟨⟨U,λ⟨⟨w',jC,e4⟩,e5⟩=>e2 ⟨⟨w',u' _ jC,e4⟩,e5⟩⟩,λe5=>e2 ⟨⟨w,bh,OL⟩,e5⟩⟩
      · have ZP:i≠id:=λe=>by rw[hid,e]at WV;simp at WV
        refine gY au (Iy (u+1,HT) ⟨au,fa,jT,BO,λy l=>?_⟩ au);rw[zG,gx];constructor
        · rintro⟨U,e2⟩;refine⟨U,λ⟨⟨w',jC,e4⟩,e5⟩=>?_⟩;rcases j'.1 jC with jC|jC;· exact e2 ⟨⟨w',jC,e4⟩,e5⟩
          · rw[f'.1 jC,OL]at e4;simp only[Option.some.injEq,Prod.mk.injEq,true_and]at e4;exact ZP (Zz e4).2
        · rintro⟨U,e2⟩;exact⟨U,λ⟨⟨w',jC,e4⟩,e5⟩=>e2 ⟨⟨w',u' _ jC,e4⟩,e5⟩⟩
    · have pN:¬u<ks.length:=of_decide_eq_false hb;have ZS:ks.take u=ks:=H' au;rw[ZS]at zG;refine gQ _ ⟨rfl,rfl,A'.2 ⟨rz,bh,λy hy w hw U=>GZ (by simp at hw;rw[<-hw,<-U];exact hy)⟩,(λw hw=>?_),fa,jT,BO,λy l=>?_⟩ (by show M+1-(d++[q]).length<_;simp only[t',g',E'];omega)
      · rcases j'.1 hw with hw|hw;· exact ry w hw
        · rw[f'.1 hw];exact hq
      · rw[zG,jx];constructor
        · rintro⟨⟨U,e2⟩,e3⟩;refine⟨U,λ⟨q',eR,de,e4,e5,τ,e6⟩=>?_⟩;rcases j'.1 eR with eR|eR;· exact e2 ⟨q',eR,de,e4,e5,τ,e6⟩
          · rw[f'.1 eR,iN]at e4;cases e4;have ZY:eu y=some l:=(jx y l).2 ⟨U,e2⟩;rw[e6]at ZY;obtain⟨w,hw⟩:=kc.pre _ _ y rfl ZY;exact e3 ⟨⟨w,(M6.2 w).2 ((r4.kids w).2 ⟨id,hw⟩),hw⟩,τ,e6⟩
        · rintro⟨U,e2⟩;exact⟨⟨U,λ⟨q',eR,hh⟩=>e2 ⟨q',u' _ eR,hh⟩⟩,λ⟨_,τ,e6⟩=>e2 ⟨q,bh,ρ,iN,jc,τ,e6⟩⟩
end
end
section
open Go Go.RowKit Classical
section
variable {S:fY} {I:fb->Prop} {C:gA} {T:dc} {Ta:Nat->dc} {B:Nat->aq Int->dc×dc} {Zo:Nat->Prop} {di:bf Nat} {loc:Loc} {s:Qe} {D:aq Int}
theorem Inv.congrB {B':Nat->aq Int->dc×dc} (h:Inv S C T Ta B Zo di loc s)(U:∀p r π,loc p=some (r,π)->B' r π=B r π):Inv S C T Ta B' Zo di loc s:=by
 refine⟨h.net,h.row,h.step,h.al,λp r π hp=>?_,h.inj,h.root,h.le⟩;obtain⟨R,x,a1,a2,a3⟩:=h.part p r π hp;exact⟨R,x,a1,a2,⟨a3.env,a3.top,a3.up,a3.kids,by rw[U p r π hp];exact a3.blocks,by rw[U p r π hp];exact a3.free,a3.kn⟩⟩
noncomputable def oO (B:Nat->aq Int->dc×dc)(r k:Nat)(T:dc):Nat->aq Int->dc×dc:=λU π=>if U=r/\π.length=k then(T,T)else B U π
theorem FB {N M r k a:Nat} {R:fH} {sc:fz} {id:Int} {T0:dc} {Q:Qe->Prop} (hW:pV C) (hT:jl T D) (hD:D.length<=3518437208882) (hr:C.rows[r]? =some R) (hk:R.steps[k]? =some sc) (cx:sc.st=.nt a) (hlen:R.steps.length<9223372036854775807) (dh:∀sc∈R.steps,yY S I C T sc) (hI:∀π e,gE S T R.steps (R.hs,R.vs) π=some e->I e)
  (hN:B0+D.length+R.steps.length+2<N) (hMN:M+2<N) (hZ:∀(k:Nat) (sc:fz),R.steps[k]? =some sc->¬Zo sc.st.adr) (hid:T id=none) (Rb:∀i,i≠id->T0 i=T i) (hB0:∀π:aq Int,π.length=k->B r π=(T0,T0)) (hB1:∀π:aq Int,k<π.length->B r π=(T,T))
  (h:Inv S C T (λ_=>T) B Zo none loc s) (hc:∀n,jd loc n->n<=M)
  (hQ:∀bq s',Inv S C T (λ_=>T) (oO B r k T) Zo none bq s'->lL loc bq->(∀y l,bq y=some l->loc y=none->∃q ρ τ,loc q=some (r,ρ)/\ρ.length=k/\τ≠[]/\l=(r,ρ++τ))->(rY bq->∀q ρ e,loc q=some (r,ρ)->ρ.length=k->gE S T R.steps (R.hs,R.vs) ρ=some e->kT S sc e T0 id->jz S T bq r ρ (R.steps.drop k) e)->Q s'):Q85 N a id s Q:=by
 have h0:=h.step r R k sc hr hk (hZ k sc hk);unfold jg at h0;rw[cx]at h0;obtain⟨x,b1,b2,b3,b4,b5,b6⟩:=h0;have si:s a=some (.nt x):=b1;have kZ:k<R.steps.length:=(c'.1 hk).1;obtain⟨L,hL1,WO⟩:=h.parts_list hr hc
 have Ez:∀(e:fb) (i:Int),kT S sc e T i↔i≠id/\kT S sc e T0 i:=λe i=>by
  constructor
  ·rintro⟨f,f1,f2⟩;have:i≠id:=λU=>by rw[U,hid]at f1;cases f1
   exact⟨this,f,by rw[Rb i this];exact f1,f2⟩
  · rintro⟨h1,f,f1,f2⟩;exact⟨f,by rw[<-Rb i h1];exact f1,f2⟩
 let Bd:aq Nat->Nat->aq Int->dc×dc:=λd r' fV=>if r'=r/\∃q∈d,loc q=some (r,fV)then(T,T)else B r' fV
 have BdT:∀d fV,k<fV.length->Bd d r fV=(T,T):=λd fV hp=>by
  show(if _ then _ else _)=_;split;· rfl
  · exact hB1 fV hp
 refine Qo (Ot si) ?_;refine z7 (λ(d,σ)=>d.Nodup/\(∀q∈d,q∈x.parts.keys)/\∃bq,Inv S C T (λ_=>T) (Bd d) Zo none bq σ/\lL loc bq/\(∀y l,bq y=some l->loc y=none->∃q ρ τ,q∈d/\loc q=some (r,ρ)/\ρ.length=k/\τ≠[]/\l=(r,ρ++τ))/\(rY bq->∀q∈d,∀ρ e,loc q=some (r,ρ)->gE S T R.steps (R.hs,R.vs) ρ=some e->kT S sc e T0 id->jz S T bq r ρ (R.steps.drop k) e)) (λ(d,_)=>M+1-d.length) ?_ N ([],s) ⟨g!,(λq hq=>by cases hq),loc,h.congrB (λp r' fV _=>if_neg λ⟨_,q,hq,_⟩=>by cases hq),lL.refl _,(λy l h1 h2=>by rw[h1]at h2;cases h2),λ_ q hq=>by cases hq⟩ (by show M+1-0<N;omega);rintro⟨d,σ⟩ ag ⟨rz,ry,eu,kc,AP,DV,F6⟩ gQ;refine T7 (λeZ=>?_) λq hq GZ=>?_
 ·refine hQ eu σ (kc.congrB λp r' fV hp=>?_) AP (λy l h1 h2=>?_) λhX q ρ e hq TW=>F6 hX q (eZ q ((b6 q).2 ⟨⟨ρ,hq,TW⟩,bh⟩)) ρ e hq
  ·show oO B r k T r' fV=if _ then _ else _
   unfold oO;by_cases hh:r'=r/\fV.length=k
   ·rw [if_pos hh];obtain⟨rfl,hh⟩:=hh
    have ti:loc p=some (r',fV):=by
      cases hl:loc p with
      |some l=>have:=AP _ _ hl;rw[hp]at this;exact this.symm
      | none=>
        obtain⟨q,ρ,τ,_,_,e3,e4,e5⟩:=DV p _ hp hl;simp only[Prod.mk.injEq,true_and]at e5;have:=e!.2 e4;rw[e5,t']at hh;omega
    rw[if_pos ⟨rfl,p,eZ p ((b6 p).2 ⟨⟨fV,ti,hh⟩,bh⟩),ti⟩]
   ·rw[if_neg hh];split
    · rename_i h2;obtain⟨rfl,q,hq,BS⟩:=h2;obtain⟨⟨ρ,U,e2⟩,_⟩:=(b6 q).1 (ry q hq);rw[U]at BS;cases BS;exact absurd ⟨rfl,e2⟩ hh
    · rfl
  ·obtain⟨q,ρ,τ,_,e2,e3,e4,e5⟩:=DV y l h1 h2;exact⟨q,ρ,τ,e2,e3,e4,e5⟩
 ·obtain ⟨⟨ρ,iN,jc⟩,_⟩:=(b6 q).1 hq;have IK:=AP _ _ iN;obtain⟨v,hv⟩:=Q7R hq;refine Qo hv ?_;obtain⟨R',z,r1,r2,r3,r4⟩:=kc.gPart IK;rw[hr]at r1;cases r1;have qj:=r4.env;have hIe:=hI _ _ qj;obtain⟨bb,m,m1,m2,m3⟩:=r4.blocks bh sc a (by rw[jc];exact hk) cx
  have WJ:Bd d r ρ=(T0,T0):=by
   show(if _ then _ else _)=_;rw[if_neg];· exact hB0 ρ jc
   ·rintro⟨_,q',eR,BS⟩;exact GZ (by rw[h.inj _ _ _ iN BS];exact eR)
  rw[WJ]at m2
  have Rh:d.length<M+1:=by
   have:=Kf (l:=L) (a!.2 ⟨GZ,rz⟩) λw hw=>by
    have:w∈x.parts.keys:=by
      rcases M'.1 hw with rfl|hw;· exact hq
      · exact ry w hw
    obtain⟨⟨π,U,_⟩,_⟩:=(b6 w).1 this;exact WO w π U
   simp only[g']at this;omega
  have Fa:(d++[q]).Nodup:=A'.2 ⟨rz,bh,λy hy w hw U=>GZ (by simp at hw;rw[<-hw,<-U];exact hy)⟩
  have F9:∀w∈d++[q],w∈x.parts.keys:=λw hw=>by
   rcases j'.1 hw with hw|hw;· exact ry w hw
   · rw[f'.1 hw];exact hq
  have uE:Bd (d++[q]) r ρ=(T,T):=if_pos ⟨rfl,q,bh,iN⟩
  have BI:∀r' fV,(r',fV)≠(r,ρ)->Bd (d++[q]) r' fV=Bd d r' fV:=λr' fV ep=>by
   show(if _ then _ else _)=(if _ then _ else _)
   by_cases hh:r'=r/\∃q'∈d,loc q'=some (r,fV);· rw[if_pos hh,if_pos ⟨hh.1,hh.2.choose,u' _ hh.2.choose_spec.1,hh.2.choose_spec.2⟩]
   ·rw[if_neg hh,if_neg];rintro⟨rfl,q',eR,BS⟩;rcases j'.1 eR with eR|eR;· exact hh ⟨rfl,q',eR,BS⟩
    · rw[f'.1 eR,iN]at BS;cases BS;exact ep rfl
  have hmu:M+1-(d++[q]).length<M+1-d.length:=by simp only[t',g',E'];omega
  refine kF ?_;refine Qo r2 ?_;refine Qo m1 ?_
  have skip:¬kT S sc (z.has,z.vals) T0 id->ag (d++[q],σ) Q:=λhnb=>by
   refine gQ (d++[q],σ) ⟨Fa,F9,eu,?_,AP,(λy l h1 h2=>by obtain⟨q',de,τ,e0,U⟩:=DV y l h1 h2;exact⟨q',de,τ,u' _ e0,U⟩),λhX q' eR de e U e2 e3=>?_⟩ hmu
   ·have:=kc.setBlocks (B':=Bd (d++[q])) (bl:=z.blocks) hr IK r3 BI (λ_ ez a' q1 q2=>?_) (λez a' q1 q2 eO=>?_);· rwa [vM r3]at this
    · rw[jc,hk]at q1;cases q1;refine⟨bb,m,m1,λi=>?_,m3⟩;rw[m2,uE];refine Iff.trans ?_ (Ez _ _).symm;exact⟨λhb=>⟨λe=>hnb (e▸hb),hb⟩,λhb=>hb.2⟩
    · have:=r4.free ez a' q1 q2 eO;rw[jc,hk]at q1;cases q1;rw[WJ]at this;intro i hi;rw[uE]at hi;have hi:=(Ez _ _).1 hi;exact this i hi.2
   ·rcases j'.1 eR with eR|eR;· exact F6 hX q' eR de e U e2 e3
    · rw[f'.1 eR,iN]at U;cases U;rw[qj]at e2;cases e2;exact absurd e3 hnb
  refine A7 (λMa=>?_) (λw Ma=>?_)
  ·refine B9 rfl (skip λhb=>?_);obtain⟨w,hw⟩:=MS.look_iff.1 ((m2 id).2 hb);rw[Ma]at hw;cases hw
  ·have hwt:=m3 _ _ Ma;subst hwt;have a2v:kT S sc (z.has,z.vals) T0 id:=(m2 id).1 (MS.look_iff.2 ⟨_,Ma⟩)
   have gF:∀y i,eu y≠some (r,ρ++[i]):=λy i hy=>by
    have:=r4.free sc a (by rw[jc];exact hk) cx ⟨y,i,hy⟩ id;rw[WJ]at this;exact this a2v
   refine kE rfl ?_;refine Qo r2 ?_;refine Qo m1 ?_;refine nF ?_
   have zI:=kc.setBlocks (B':=Bd (d++[q])) (bl:=some (bb,m.del id)) hr IK r3 BI (λ_ ez a' q1 q2=>by
    rw[jc,hk]at q1;cases q1;refine⟨bb,m.del id,rfl,λi=>?_,λi v hv=>?_⟩
    · rw[MS.keys_del,m2,uE];exact(Ez _ _).symm
    · rw[MS.look_del]at hv;split at hv;· cases hv
      · exact m3 i v hv) (λez a' q1 q2 ⟨y,i,hy⟩=>absurd hy (gF y i))
   refine gV ?_;refine ve hW hlen hr hk cx (RY (S:=S) (I:=I) (B:=Bd (d++[q])) hW hlen hT hD hr dh (R.steps.length-(k+1)) (k+1) au (λfV a1i=>BdT _ fV au) N au) zI IK jc qj hIe uE gF (λk' ez _ hs=>hZ k' ez hs) λfa s2 jT oe wi=>?_;refine gQ (d++[q],s2) ⟨Fa,F9,fa,jT,AP.trans oe.1,λy l h1 h2=>?_,λhX q' eR de e U e2 e3=>?_⟩ hmu
   ·cases hy:eu y with
    | some l'=>
      have:=oe.1 _ _ hy;rw[h1]at this;cases this;obtain⟨q',de,τ,e0,U⟩:=DV y l hy h2;exact⟨q',de,τ,u' _ e0,U⟩
    | none=>
      obtain⟨τ,U,e2⟩:=oe.2 y l h1 hy;exact⟨q,ρ,τ,bh,iN,jc,U,e2⟩
   ·rcases j'.1 eR with eR|eR;· exact(F6 (Q8N kc.cnt oe.1 hX jT.cnt) q' eR de e U e2 e3).mono oe.1
    · rw[f'.1 eR,iN]at U;cases U;rw[qj]at e2;cases e2;exact wi hX
end
end
section
open Go Go.RowKit Classical
section
variable {S:fY} {I:fb->Prop} {C:gA} {T:dc} {Ta:Nat->dc} {B:Nat->aq Int->dc×dc} {Zo:Nat->Prop} {di:bf Nat} {loc:Loc} {s:Qe} {D:aq Int}
def xu (A:K3)(f:Qg)(j:Nat):Bool:=match A.args[j]? with
 |some a=>if a.k=4 then decide (f.args[j]? =some a.v)else true
 |none=>true
theorem uF {A:K3} {f:Qg}:hasB A f=true↔f.ty=A.kind/\∀j,j<A.args.length->xu A f j=true:=by
 unfold hasB;simp only[n!,decide_eq_true_eq,q!,List.mem_range];exact Iff.rfl
theorem LS {N:Nat} {A:K3} {Ta:dc} {f:Qg} {Q:Bool->Prop} (hA:K4 Ta A (s A.b)) (hN:A.args.length<N) (hlen:A.args.length<9223372036854775807) (hf:f.ty=A.kind->∀(j:Nat) (a:fK),A.args[j]? =some a->∃v,f.args[j]? =some v) (hQ:Q (hasB A f)):OY N A.b f.id f.ty f.args s Q:=by
 obtain⟨x,h1,h2,h3,_⟩:=hA;refine Qo (Zp h1) ?_;refine jj (λhb=>?_) (λhb=>?_)
 ·have:hasB A f=false:=by
   cases hh:hasB A f with
   |false=>rfl
   |true=>have:=(uF.1 hh).1;rw[h2,this]at hb;simp at hb
  rw[this]at hQ;exact hQ
 ·have hk:f.ty=A.kind:=by rw[h2]at hb;simpa using hb
  refine kF ?_;refine z7 (λu=>u<=A.args.length/\∀j,j<u->xu A f j=true) (λu=>A.args.length-u) ?_ N 0 ⟨Q' _,λj hj=>absurd hj (Nat.not_lt_zero _)⟩ au;intro u ag ⟨hu,eZ⟩ gQ;rw[h3];refine jj (λuG=>?_) (λuG=>?_)
  ·have cj:u<A.args.length:=of_decide_eq_true uG;obtain⟨a,ha⟩:∃a,A.args[u]? =some a:=⟨_,m' cj⟩
   refine Qo ha ?_;refine kF ?_
   have go:xu A f u=true->fN (u+1<=9223372036854775807) (ag (u+1)) Q:=λh=>gY au (gQ (u+1) ⟨au,λj hj=>by
    by_cases e:j=u;· rw[e];exact h
    · exact eZ j au⟩ au)
   refine jj (λOG=>?_) (λOG=>?_)
   ·have h4:a.k=4:=by simpa using OG
    obtain⟨v,hv⟩:=hf hk u a ha;refine Qo hv ?_;refine jj (λU=>?_) (λU=>?_)
    ·have ep:¬a.v=v:=by simpa using U
     have:hasB A f=false:=by
      cases hh:hasB A f with
      |false=>rfl
      | true=>
        have:=(uF.1 hh).2 u cj;simp only[xu,ha,h4,if_true,hv,decide_eq_true_eq,Option.some.injEq]at this;exact absurd this.symm ep
     rw[this]at hQ;exact hQ
    ·have heq:a.v=v:=by simpa using U
     exact go (by simp only[xu,ha,h4,if_true,hv,heq,decide_true])
   ·have h4:¬a.k=4:=by simpa using OG
    exact B9 rfl (go (by simp only[xu,ha,if_neg h4]))
  ·have pN:¬u<A.args.length:=of_decide_eq_false uG;have:hasB A f=true:=uF.2 ⟨hk,λj hj=>eZ j au⟩;rw[this]at hQ;exact hQ
theorem Inv.congrB2 {B':Nat->aq Int->dc×dc} (h:Inv S C T Ta B Zo di loc s)(U:∀p r π,loc p=some (r,π)->B' r π=B r π\/((B' r π).1=(B r π).1/\∀y i,loc y≠some (r,π++[i]))):Inv S C T Ta B' Zo di loc s:=by
 refine⟨h.net,h.row,h.step,h.al,λp r π hp=>?_,h.inj,h.root,h.le⟩;obtain⟨R,x,a1,a2,a3⟩:=h.part p r π hp;refine⟨R,x,a1,a2,⟨a3.env,a3.top,a3.up,a3.kids,?_,?_,a3.kn⟩⟩
 ·rcases U p r π hp with e|⟨e,_⟩
  · rw[e];exact a3.blocks
  · rw[e];exact a3.blocks
 ·rcases U p r π hp with e|⟨_,e⟩
  · rw[e];exact a3.free
  ·intro sc a q1 q2 ⟨y,i,hy⟩;exact absurd hy (e y i)
theorem Inv.congrK {B':Nat->aq Int->dc×dc} (h:Inv S C T Ta B Zo di loc s)(hB:∀p r π R x sc a,loc p=some (r,π)->C.rows[r]? =some R->s p=some (.part x)->gE S T R.steps (R.hs,R.vs) π=some (x.has,x.vals)->R.steps[π.length]? =some sc->sc.st=.nt a->∀i,(kT S sc (x.has,x.vals) (B' r π).1 i↔kT S sc (x.has,x.vals) (B r π).1 i)/\(kT S sc (x.has,x.vals) (B' r π).2 i->kT S sc (x.has,x.vals) (B r π).2 i)):Inv S C T Ta B' Zo di loc s:=by
 refine⟨h.net,h.row,h.step,h.al,λp r π hp=>?_,h.inj,h.root,h.le⟩;obtain⟨R,x,a1,a2,a3⟩:=h.part p r π hp;refine⟨R,x,a1,a2,⟨a3.env,a3.top,a3.up,a3.kids,λxX sc a U q2=>?_,λsc a U q2 q3 i hi=>?_,a3.kn⟩⟩
 ·obtain⟨bb,m,m1,m2,m3⟩:=a3.blocks xX sc a U q2;exact⟨bb,m,m1,λi=>(m2 i).trans (hB p r π R x sc a hp a1 a2 a3.env U q2 i).1.symm,m3⟩
 · exact a3.free sc a U q2 q3 i ((hB p r π R x sc a hp a1 a2 a3.env U q2 i).2 hi)
end
end
end Go.Proofs.YtocfkfhdcnjklaaGreatDoor
