import Derived.Test.YtocfkfhdcnjklaaGreatDoorReteQ
open List renaming getElem?_eq_getElem->a',mem_singleton->g',mem_cons_self->j',drop_eq_getElem_cons->l',drop_zero->o',mem_cons_of_mem->t',getElem_mem->w',mem_append->y',length_map->z',length_cons->B',take_add_one->E',map_append->F',take_of_length_le->H',drop_length->K',length_append->M',mem_map->Q',length_singleton->S',getElem?_eq_none->T',mem_append_left->a!,getElem?_of_mem->b!,getElem?_eq_some_iff->d!,mem_cons->e!,nodup_nil->g!,mem_append_right->h!,range'->i!,mem_of_getElem?->j!,getElem?_append_right->l!,all_cons->o!,map_cons->p!,all_eq_true->q!,getElem?_cons_zero->r!,any_eq_true->t!,take_zero->v!,getElem?_append->w!,getElem_of_mem->y!,mem_range'_1->C!,flatMap_cons->E!,range'_succ->F!,length_take->G!,flatMap_nil->H!,take_length->I!,foldl_cons->J!,append_nil->K!,foldl_nil->L!,replicate->M!,any_cons->N!,map_map->P!
open Bool renaming and_eq_true->b',true_and->d',false_eq_true->e',false_and->i',eq_iff_iff->u',not_eq_true->c!,not_false->k!,not_true->n!,false_or->z!,true_or->A!,not_eq_true'->B!,not_not->O!
open Nat renaming zero_le->W',sub_self->u!,le_refl->x!,le_succ_of_le->D!
namespace Go.Proofs.YtocfkfhdcnjklaaGreatDoor
section
open Go Go.RowKit
def DI {α:Type} (p:α->Bool):aq α->Nat->Int
 |[],_=>-1
 |x::l,i=>if p x then((i:Nat):Int)else DI p l (i+1)
theorem UN {α:Type} {p:α->Bool}:∀(l:aq α)(i:Nat),decide (DI p l i>=0)=l.any p
 |[],_=>by simp[DI]
 | x::l,i=>by
   unfold DI;cases h:p x with
   |true=>simp[h]
   |false=>simp[h];exact(UN l (i+1))
theorem SR {α:Type} {l:aq α} {f:Nat->bf (Nat⊕(Unit⊕Int))} {p:α->Bool} (step:∀i (h:i<l.length),f i=if p l[i]=true then some (.inr (.inr ((i:Nat):Int)))else some (.inl (i+1)))(stop:f l.length=some (.inr (.inl ()))):
   ∀(m i fuel:Nat),i+m=l.length->m<fuel->iT (fp f fuel i) (λ_=>some (-1))=some (DI p (l.drop i) i):=by
 intro m;induction m with
 | zero=>
   intro i fuel hi U;obtain⟨fuel,rfl⟩:∃q,fuel=q+1:=⟨fuel-1,au⟩
   obtain rfl:i=l.length:=au
   rw[pJ stop,lH,K'];rfl
 | succ m ih=>
   intro i fuel hi U;obtain⟨fuel,rfl⟩:∃q,fuel=q+1:=⟨fuel-1,au⟩
   have h:i<l.length:=au
   rw[l' h];unfold DI;by_cases hp:p l[i]=true;· rw[if_pos hp,pJ (by rw[step i h,if_pos hp]),B5]
   ·rw[if_neg hp,Gh (by rw[step i h,if_neg hp])];exact ih (i+1) fuel au au
noncomputable def r8 (v:V):Bool:=@decide (JK v) (Classical.propDecidable _)
noncomputable def lZ (s:cq):Bool:=@decide (kH s.data.toList) (Classical.propDecidable _)
theorem CL {m:bf Bool} {p:Prop} (h:lB m p):m=some (@decide p (Classical.propDecidable _)):=by
 obtain⟨b,h1,U⟩:=h;rw[h1];congr 1;rw[u',U,@decide_eq_true_iff _ (Classical.propDecidable _)]
theorem QbK (N:Nat)(v:V):yZ N v.k v.n v.s=some (r8 v):=CL (oM N v)
theorem Cp (N:Nat)(s:cq):Za N s=some (lZ s):=by
 unfold Za;have h:=oM N (⟨2,0,s⟩:V);have U:lB (yZ N 2 0 s) (kH s.data.toList):=h.iff (by unfold JK;simp);rw[CL U,Q1];rfl
def zg:V:=⟨0,0,⟨#[]⟩⟩
mutual
noncomputable def lS (vars:Int):Q3->Bool
 | ⟨k,v,x,op,kids⟩=>
   if k=1 then decide (x=0/\op=0/\kids.length=0)&&r8 v
   else if k=2 then decide (v=zg/\op=0/\kids.length=0/\0<=x/\x<vars)
   else if k=3 then decide (v=zg/\x=0/\1<=op/\op<=11/\kids.length=(if op=4\/op=11 then 1 else 2))&&PA vars kids
   else false
noncomputable def PA (vars:Int):aq Q3->Bool
 |[]=>true
 |x::l=>lS vars x&&PA vars l
end
theorem mG (vars:Int):∀l:aq Q3,PA vars l=!(l.any λx=> !lS vars x)
 |[]=>by simp[PA]
 |x::l=>by rw[PA,mG vars l,N!];cases lS vars x<;>simp
theorem oE (N:Nat)(k a b:Int)(s:cq)(x op:Int)(kids:aq Q3)(p q r:Bool):
  SM N k a b s x op kids p q r=some ((p||decide ((⟨a,b,s⟩:V)=zg))&&((q||decide (x=0))&&(r||(decide (op=0)&&decide (kids.length=0))))):=by
 unfold SM Q9a zg;have U:(x==0)=decide (x=0):=by rw[u'];simp
 have e2:(op==0)=decide (op=0):=by rw[u'];simp
 have e3:(kids.length==0)=decide (kids.length=0):=by rw[u'];simp
 rw[U,e2,e3];cases p<;>cases q<;>cases r<;>cases decide ((⟨a,b,s⟩:V)=⟨0,0,⟨#[]⟩⟩)<;>cases decide (x=0)<;>cases decide (op=0)<;>cases decide (kids.length=0)<;>rfl
theorem GK {types:aq Q9} {rules:aq Q8} {vars facts:Int}:∀(m N:Nat) (e:Q3),nodes e<=m->m<=1000000->9223372036854775808+m<=N->
    SI N types rules vars facts e.kind e.value.k e.value.n e.value.s e.var e.op e.kids=some (lS vars e):=by
  intro m;induction m with
  |zero=>intro N e h;rw[Oj]at h;omega
  | succ m ih =>
    intro N e h hm hN;obtain⟨N,rfl⟩:∃q,N=q+1:=⟨N-1,au⟩
    obtain⟨k,v,x,op,kids⟩:=e;have hk:pM kids<=m:=by rw[Oj]at h;simp only at h;omega
    show C' N (SI N) types rules vars facts k v.k v.n v.s x op kids=_;unfold C';rw[lS];by_cases h1:k=1
    · rw[cg h1,if_pos h1,oE,Q1];simp only[A!,d',z!];by_cases U:(decide (x=0)&&(decide (op=0)&&decide (kids.length=0)))=true
      · rw[if_pos U,QbK,Q1];congr 1;simp at U;simp[U]
      · rw[if_neg U];congr 1;simp at U;symm;rw[Bool.and_eq_false_iff];left;simpa using U
    · rw [ct h1,if_neg h1];by_cases U:k=2
      · rw[cg U,if_pos U,oE,Q1];simp only[A!,d',z!];have ev:(⟨v.k,v.n,v.s⟩:V)=v:=rfl;rw[ev];by_cases h3:(decide (v=zg)&&(decide (op=0)&&decide (kids.length=0)))=true
        · rw[if_pos h3];simp at h3;by_cases h4:0<=x
          · rw[cg h4];congr 1;simp[h3,h4]
          · rw[ct h4];congr 1;simp[h4]
        · rw[if_neg h3];congr 1;simp at h3;simp;intro a b c;exact absurd c (h3 a b)
      · rw [ct U,if_neg U];by_cases h3:k=3
        · rw [cg h3,if_pos h3]
          have hw:Q5s N op=some (if op=4\/op=11 then 1 else 2):=by
            unfold Q5s;by_cases a:op=4;· rw[cg a,Q1,if_pos rfl,if_pos (.inl a)]
            · rw[ct a,Q1];by_cases b:op=11;· rw[cg b,if_pos (.inr b)]
              · rw[ct b,if_neg au]
          have hex:ι N (SI N) types rules vars facts kids=some (PA vars kids):=by
            unfold ι Q36 Q3G;have hl:=Zj kids;rw[SR (l:=kids) (p:=λy=>!lS vars y) (λi hi=>by
              unfold δ Q4w;have hn:=UL (w' hi);rw[cg hi,a' hi,Q1,ih N kids[i] au au au,Q1,Q1];by_cases hb:(!lS vars kids[i])=true;· rw[if_pos hb,if_pos hb]
              · rw[if_neg hb,if_neg hb,QC au]) (by
              unfold δ;rw[if_neg bh]) kids.length 0 N au au,Q1,Q1,o',UN,mG]
          rw[hw,Q1];unfold Q6V;rw[oE,Q1];have ev:(⟨v.k,v.n,v.s⟩:V)=v:=rfl;rw[ev];by_cases c1:v=zg/\x=0
          · rw [if_pos (by simp[c1])];by_cases c2:1<=op
            · rw[cg c2];by_cases c3:op<=11
              · rw[cg c3];by_cases c4:kids.length=(if op=4\/op=11 then 1 else 2)
                · rw[cg c4,hex,Q1,Q1];congr 1;rw[decide_eq_true ⟨c1.1,c1.2,c2,c3,c4⟩,d']
                · rw[ct c4,Q1,decide_eq_false (λh=>c4 h.2.2.2.2),i']
              · rw[ct c3,Q1,decide_eq_false (λh=>c3 h.2.2.2.1),i']
            · rw[ct c2,Q1,decide_eq_false (λh=>c2 h.2.2.1),i']
          · rw[ct c1,Q1,decide_eq_false (λh=>c1 ⟨h.1,h.2.1⟩),i']
        · rw[ct h3,if_neg h3]
end
section
open Go Go.RowKit Classical
variable {v:V}{n:Int}
theorem Qdl:(if n<0 then 45::kr 20 n.natAbs else kr 20 n.toNat)=(wy n).data.toList:=by
 unfold wy;simp
def NX (l:aq UInt8):Nat:=l.foldl (λa b=>a*10+(b.toNat-48)) 0
theorem ta (u:Nat)(h:u<10):(UInt8.ofNat (48+u)).toNat=48+u:=by
 rw[UInt8.toNat_ofNat'];omega
theorem nX:∀(f u:Nat),u<10^(f+1)->NX (kr (f+1) u)=u
 | f,u,hu=>by
   unfold kr;by_cases h:u<10
   ·rw[if_pos h];simp only[NX,J!,L!,ta u h];omega
   ·rw[if_neg h];cases f with
    |zero=>simp at hu;omega
    | succ f=>
      have U:=nX f (u/10) (by rw[Nat.pow_succ]at hu;omega);unfold NX at U⊢;rw[List.foldl_append,U];simp only[J!,L!,ta _ (Nat.mod_lt u (by omega:0<10))];omega
theorem nW:∀(f u:Nat),∀b∈kr f u,48<=b.toNat/\b.toNat<=57
 |0,_,b,h=>by simp[kr]at h
 | f+1,u,b,h=>by
   unfold kr at h;split at h
   ·rename_i hu;rw[g']at h;subst h;have:=ta u hu;rw[this];omega
   ·rcases y'.1 h with h|h;· exact nW f _ b h
    ·rw[g']at h;subst h;have:=ta (u%10) (Nat.mod_lt u au);rw[this];omega
theorem Vu (f u:Nat):kr (f+1) u≠[]:=by
 unfold kr;split<;>simp
theorem Cf {m:Int} (hn:-9223372036854775808<=n/\n<=9223372036854775807)(hm:-9223372036854775808<=m/\m<=9223372036854775807)(h:(wy n).data.toList=(wy m).data.toList):n=m:=by
 have hp:(10:Nat)^20=100000000000000000000:=bp
 rw[<-Qdl,<-Qdl]at h;by_cases h1:n<0<;>by_cases U:m<0
 ·rw[if_pos h1,if_pos U]at h;have h3:=congrArg NX (List.cons.inj h).2;rw[nX 19 _ (by rw[hp];omega),nX 19 _ (by rw[hp];omega)]at h3;omega
 ·rw[if_pos h1,if_neg U]at h;have:=nW 20 m.toNat 45 (by rw[<-h];simp);exact absurd this.1 bp
 ·rw[if_neg h1,if_pos U]at h;have:=nW 20 n.toNat 45 (by rw[h];simp);exact absurd this.1 bp
 ·rw[if_neg h1,if_neg U]at h;have h3:=congrArg NX h;rw[nX 19 _ (by rw[hp];omega),nX 19 _ (by rw[hp];omega)]at h3;omega
theorem oi:∀b∈(wy n).data.toList,b≠44/\b≠39:=by
 rw[<-Qdl];intro b U;split at U
 ·rcases e!.1 U with rfl|U;· exact⟨bp,bp⟩
  ·have:=nW _ _ b U;exact⟨λe=>by subst e;exact absurd this.1 bp,λe=>by subst e;exact absurd this.1 bp⟩
 ·have:=nW _ _ b U;exact⟨λe=>by subst e;exact absurd this.1 bp,λe=>by subst e;exact absurd this.1 bp⟩
theorem RE:(wy n).data.toList≠[]:=by
 rw[<-Qdl];split;· simp
 · exact Vu 19 _
theorem zu:∀(f u:Nat),(kr f u).length<=f
 |0,_=>by simp[kr]
 | f+1,u=>by
   unfold kr;split;· simp
   ·have:=zu f (u/10);rw[M',S'];omega
theorem y8:(wy n).size<=21:=by
 have h:(wy n).size=(wy n).data.toList.length:=rfl;rw[h,<-Qdl];split
 ·have:=zu 20 n.natAbs;rw[B'];omega
 ·have:=zu 20 n.toNat
  omega
def Dx:fK:=⟨1,0,⟨0,0,⟨#[]⟩⟩⟩
def jW (l:aq fK):aq fK:=l.map λa=>if a.k=4 then a else Dx
theorem vr (h:r8 v=true):JK v:=@of_decide_eq_true _ (Classical.propDecidable _) h
noncomputable def zd (v:V):cq:=if r8 v=true then(if v.k=2 then(⟨#[39]⟩:cq)++v.s else wy v.n)else⟨#[]⟩
theorem Su (N:Nat) (h:eM v.n)(hs:v.s.size<=140737488351232):Q8G N v.k v.n v.s=some (zd v):=by
 unfold Q8G zd;rw[QbK,Q1];cases hr:r8 v with
 |false=>rfl
 | true=>
   rw[if_neg bh,if_pos rfl];by_cases U:v.k=2
   ·have e1:(⟨#[39]⟩:cq).size=1:=rfl;rw[cg U,if_pos U,QC (by rw[e1];omega)]
   · rw[ct U,if_neg U,QC (show-9223372036854775808<=v.n/\v.n<=9223372036854775807 from h)]
theorem Jl (hs:v.s.size<=140737488351232):(zd v).size<=140737488351233:=by
 unfold zd;split
 ·split
  ·have U:(⟨#[39]⟩:cq).size=1:=rfl;rw[ByteArray.size_append,U];omega
  · have:=y8 (n:=v.n);omega
 · show 0<=_;omega
theorem QdC (U:r8 v=true):(zd v).data.toList=if v.k=2 then 39::v.s.data.toList else(wy v.n).data.toList:=by
 unfold zd;rw[if_pos U];split;· simp[ByteArray.data_append]
 · rfl
theorem HF:∀b∈(zd v).data.toList,b≠44:=by
 intro b U;cases hr:r8 v with
 |false=>unfold zd at U;rw[hr]at U;cases U
 | true=>
   rw[QdC hr]at U;split at U
   ·rename_i h2;rcases e!.1 U with rfl|U;· decide
    ·have hp:JK v:=vr hr;rcases hp with⟨h1,_⟩|⟨_,_,_,_,_,h3⟩
     · omega
     ·have:=h3 b U;intro e;subst e;unfold Fz wW at this;revert this;decide
   · exact(oi b U).1
theorem NQ {w:V} (hv:r8 v=true)(hw:r8 w=true)(iv:eM v.n)(iw:eM w.n)(h:(zd v).data.toList=(zd w).data.toList):v=w:=by
 rw[QdC hv,QdC hw]at h;have pv:JK v:=vr hv;have pw:JK w:=vr hw;obtain⟨k1,n1,⟨⟨s1⟩⟩⟩:=v;obtain⟨k2,n2,⟨⟨s2⟩⟩⟩:=w;unfold JK at pv pw;simp only at pv pw h iv iw;rcases pv with⟨U,a2⟩|⟨U,a2,a3⟩<;>rcases pw with⟨b1,b2⟩|⟨b1,b2,b3⟩
 ·rw[if_neg au,if_neg au]at h;have:=Cf iv iw h;rw[U,b1,a2,b2,this]
 ·rw[if_neg au,if_pos b1]at h;exact absurd rfl (oi 39 (by rw[h];simp)).2
 ·rw[if_pos U,if_neg au]at h;exact absurd rfl (oi 39 (by rw[<-h];simp)).2
 ·rw[if_pos U,if_pos b1]at h;rw[U,b1,a2,b2,(List.cons.inj h).2]
theorem Df (U:r8 v=true):(zd v).data.toList≠[]:=by
 rw[QdC U];split;· simp
 · exact RE
theorem yF:(zd Dx.v).data.toList=[]:=by
 unfold zd
 have:r8 Dx.v=false:=by
  refine @decide_eq_false _ (Classical.propDecidable _) λh=>?_;rcases h with⟨h,_⟩|⟨h,_⟩
  · exact absurd h bp
  · exact absurd h bp
 rw[this];rfl
theorem Aj:∀{a b r U:aq UInt8},(∀x∈a,x≠44)->(∀x∈b,x≠44)->(r=[]\/∃t,r=44::t)->(U=[]\/∃t,U=44::t)->a++r=b++U->a=b/\r=U
 |[],[],_,_,_,_,_,_,h=>⟨rfl,h⟩
 | [],y::b,r,U,_,hb,hr,_,h=>by
   rcases hr with rfl|⟨t,rfl⟩
   · cases h
   · exact absurd (List.cons.inj h).1.symm (hb y j')
 | x::a,[],r,U,ha,_,_,ei,h=>by
   rcases ei with rfl|⟨t,rfl⟩
   · cases h
   · exact absurd (List.cons.inj h).1 (ha x j')
 | x::a,y::b,r,U,ha,hb,hr,ei,h=>by
   obtain⟨h1,h2⟩:=List.cons.inj h;obtain⟨h3,h4⟩:=Aj (λz hz=>ha z (t' _ hz)) (λz hz=>hb z (t' _ hz)) hr ei h2;exact⟨by rw[h1,h3],h4⟩
def tL (a:fK):Prop:=a=Dx\/(a.k=4/\a.var=0/\r8 a.v=true/\eM a.v.n)
noncomputable def jQ (l:aq fK):aq UInt8:=l.flatMap λa=>44::(zd a.v).data.toList
noncomputable def Ck (kind:Int)(l:aq fK):aq UInt8:=(wy kind).data.toList++jQ l
theorem Qcp:∀l:aq fK,jQ l=[]\/∃t,jQ l=44::t
 |[]=>.inl rfl
 |a::l=>.inr ⟨_,rfl⟩
theorem De:∀{l m:aq fK},(∀a∈l,tL a)->(∀a∈m,tL a)->jQ l=jQ m->l=m
 |[],[],_,_,_=>rfl
 |[],b::m,_,_,h=>by cases h
 |a::l,[],_,_,h=>by cases h
 | a::l,b::m,ha,hb,h=>by
   have h1:=(List.cons.inj (show 44::((zd a.v).data.toList++jQ l)=44::((zd b.v).data.toList++jQ m)from h)).2;obtain⟨U,h3⟩:=Aj HF HF (Qcp l) (Qcp m) h1;rw[De (λx hx=>ha x (t' _ hx)) (λx hx=>hb x (t' _ hx)) h3];congr 1;rcases ha a j' with e1|⟨p1,p2,p3,p4⟩<;>rcases hb b j' with e2|⟨q1,q2,q3,q4⟩
   · rw[e1,e2]
   ·subst e1;rw[yF]at U;exact absurd U.symm (Df q3)
   ·subst e2;rw[yF]at U;exact absurd U (Df p3)
   ·have h4:=NQ p3 q3 p4 q4 U;obtain⟨k1,v1,x1⟩:=a;obtain⟨k2,v2,x2⟩:=b;simp only at p1 p2 q1 q2 h4;rw[p1,p2,q1,q2,h4]
theorem key_inj {k k':Int} {l m:aq fK} (hk:eM k)(eO:eM k')(hl:∀a∈l,tL a)(hm:∀a∈m,tL a)(h:Ck k l=Ck k' m):k=k'/\l=m:=by
 obtain⟨h1,h2⟩:=Aj (λb U=>(oi b U).1) (λb U=>(oi b U).1) (Qcp l) (Qcp m) h;exact⟨Cf hk eO h1,De hl hm h2⟩
end
section
open Go Go.RowKit
variable {vars facts:Int}{N:Nat}{types:aq Q9}{rules:aq Q8}
def wb (types:aq Q9)(kind fields:Int):Bool:=match types[kind.toNat]? with
 |some t=>decide (0<=kind)&&t.fields==fields
 |none=>false
theorem Dg (N:Nat)(types:aq Q9)(rules:aq Q8)(a b kind fields:Int):YV N types rules a b kind fields=some (wb types kind fields):=by
 unfold YV wb;by_cases h:0<=kind
 ·rw [cg h];by_cases h2:kind<((types.length:Nat):Int)
  ·have U:kind.toNat<types.length:=au
   rw[cg h2,QC h,a' U,Q1];simp[h]
  · rw[ct h2,T' au]
 ·rw[ct h];split;· simp[h]
  · rfl
noncomputable def lC (binds:Bool)(vars:Int)(a:fK):Bool×Int:=
 if a.k=1 then(decide (a.var=0/\a.v=zg),vars)
 else if a.k=2 then(binds&&decide (a.var=vars/\a.v=zg),vars+1)
 else if a.k=3 then(decide (0<=a.var/\a.var<vars/\a.v=zg),vars)
 else if a.k=4 then(decide (a.var=0)&&r8 a.v,vars)
 else(false,vars)
theorem Vh (N:Nat)(types:aq Q9)(rules:aq Q8) (hv:0<=vars/\vars<=1000000000)(b:Int)(a:fK)(binds:Bool):Y' N types rules vars b a.k a.var a.v.k a.v.n a.v.s binds=some (lC binds vars a):=by
 unfold Y' lC;have ev:(⟨a.v.k,a.v.n,a.v.s⟩:V)=a.v:=rfl;rw[ev];by_cases h1:a.k=1
 ·rw[cg h1,if_pos h1];by_cases h:a.var=0;· rw[cg h];simp[h,zg]
  · rw[ct h];simp[h]
 ·rw [ct h1,if_neg h1];by_cases U:a.k=2
  ·rw[cg U,if_pos U,QC au];cases binds with
   |false=>rw[if_neg bh];simp
   | true=>
     rw[if_pos rfl,QC au,show vars+1-1=vars from by omega];by_cases h:a.var=vars;· rw[cg h];simp[h,zg]
     · rw[ct h];simp[h]
  ·rw [ct U,if_neg U];by_cases h3:a.k=3
   · rw[cg h3,if_pos h3];by_cases h:0<=a.var
     ·rw[cg h];by_cases h':a.var<vars;· rw[cg h'];simp[h,h',zg]
      · rw[ct h'];simp[h']
     · rw[ct h];simp[h]
   · rw[ct h3,if_neg h3];by_cases h4:a.k=4
     ·rw[cg h4,if_pos h4];by_cases h:a.var=0;· rw[cg h,QbK,Q1];simp[h]
      · rw[ct h];simp[h]
     · rw[ct h4,if_neg h4]
theorem Bh (binds:Bool)(vars:Int)(a:fK):(lC binds vars a).2=vars\/(lC binds vars a).2=vars+1:=by
 unfold lC;split;· exact .inl rfl
 ·split;· exact .inr rfl
  ·split;· exact .inl rfl
   · split<;>exact .inl rfl
noncomputable def DN (binds:Bool):aq fK->Int->Bool×Int
 |[],vars=>(true,vars)
 |a::l,vars=>if(lC binds vars a).1=true then DN binds l (lC binds vars a).2 else(false,(lC binds vars a).2)
theorem xx (binds:Bool):∀(l:aq fK)(vars:Int),vars<=(DN binds l vars).2/\(DN binds l vars).2<=vars+((l.length:Nat):Int)
 |[],vars=>by simp[DN]
 | a::l,vars=>by
   unfold DN;have h:=Bh binds vars a;split
   ·have:=xx binds l (lC binds vars a).2;simp only[B'];omega
   · simp only[B'];omega
theorem Ic {kind:Int} {l:aq fK} (hl:l.length<=1000000):
   ∀ (m i fuel:Nat) (vars:Int),i+m=l.length->m<fuel->0<=vars->vars+((m:Nat):Int)<=1000000000->
     fp (Us N l types rules facts kind) fuel (i,vars)=some (if(DN (kind==1) (l.drop i) vars).1=true then .inl (DN (kind==1) (l.drop i) vars).2 else .inr (false,(DN (kind==1) (l.drop i) vars).2,facts)):=by
 intro m;induction m with
 | zero=>
   intro i fuel vars hi hf U hv;obtain⟨fuel,rfl⟩:∃q,fuel=q+1:=⟨fuel-1,au⟩
   obtain rfl:i=l.length:=au
   rw[pJ (o:=.inl vars) (by unfold Us;simp only;rw[if_neg bh]),K'];simp[DN]
 | succ m ih=>
   intro i fuel vars hi hf U hv;obtain⟨fuel,rfl⟩:∃q,fuel=q+1:=⟨fuel-1,au⟩
   have h:i<l.length:=au
   have hs:Us N l types rules facts kind (i,vars)=if(lC (kind==1) vars l[i]).1=true then some (.inl (i+1,(lC (kind==1) vars l[i]).2))else some (.inr (.inr (false,(lC (kind==1) vars l[i]).2,facts))):=by
     unfold Us;simp only;rw[cg h,a' h,Q1,Vh N types rules au facts l[i] (kind==1),Q1];by_cases hb:(lC (kind==1) vars l[i]).1=true
     ·simp only[hb,n!,e',if_false,if_true];rw[QC au]
     ·simp only[c!]at hb;simp only[hb,k!,if_true,e',if_false]
   rw[l' h];rw[DN];have hv2:=Bh (kind==1) vars l[i];by_cases hb:(lC (kind==1) vars l[i]).1=true
   · rw[if_pos hb]at hs⊢;rw[Gh hs];exact ih (i+1) fuel _ au au au au
   · rw[if_neg hb]at hs⊢;rw[pJ hs];simp
def yP (e:Q3):Bool:=decide (e.kind=0/\e.value=zg/\e.var=0/\e.op=0/\e.kids.length=0)
noncomputable def tP (types:aq Q9)(vars facts:Int)(c:Qq):Bool×Int×Int:=
 if c.kind=1\/c.kind=2 then
  if wb types c.type ((c.args.length:Nat):Int)&&yP c.test then
   (if(DN (c.kind==1) c.args vars).1=true then(true,(DN (c.kind==1) c.args vars).2,if c.kind=1 then facts+1 else facts)else(false,(DN (c.kind==1) c.args vars).2,facts))
  else(false,vars,facts)
 else if c.kind=3 then(decide (c.type=0/\c.args.length=0)&&lS vars c.test,vars,facts)
 else(false,vars,facts)
theorem PM {c:Qq} (hN:9223372036854775808+1000000<=N)(ha:c.args.length<=1000000)(ht:nodes c.test<=1000000)(hv:0<=vars/\vars<=1000000)(hf:0<=facts/\facts<=1000000):
  Q5q N types rules vars facts c.kind c.type c.args c.test.kind c.test.value.k c.test.value.n c.test.value.s c.test.var c.test.op c.test.kids=some (tP types vars facts c):=by
 unfold Q5q tP
 have e12:(if(c.kind==1)=true then some (c.kind==1)else some (c.kind==2))=some (decide (c.kind=1\/c.kind=2)):=by
  by_cases h:c.kind=1;· simp[h]
  · rw[ct h];congr 1;rw[u'];simp[h]
 rw[e12,Q1];by_cases U:c.kind=1\/c.kind=2
 ·rw [cg U,if_pos U]
  have Rf:Q5r N types rules vars facts c.type c.args c.test.kind c.test.value.k c.test.value.n c.test.value.s c.test.var c.test.op c.test.kids=some (!(wb types c.type ((c.args.length:Nat):Int)&&yP c.test)):=by
   unfold Q5r;rw[Dg,Q1];cases ht:wb types c.type ((c.args.length:Nat):Int)with
   |false=>simp
   | true=>
     rw[if_neg bh];by_cases hk:c.test.kind=0
     ·rw[ct hk,oE,Q1];congr 1;unfold yP;have ev:(⟨c.test.value.k,c.test.value.n,c.test.value.s⟩:V)=c.test.value:=rfl;rw[ev,u'];simp[hk]
     ·rw[cg hk];congr 1;unfold yP;simp[hk]
  rw[Rf,Q1];by_cases hg:(wb types c.type ((c.args.length:Nat):Int)&&yP c.test)=true
  ·rw[if_neg (by rw[hg];simp),if_pos hg,Ic ha c.args.length 0 N vars au au hv.1 au,o'];by_cases hb:(DN (c.kind==1) c.args vars).1=true
   · rw[if_pos hb,if_pos hb,lH];by_cases h1:c.kind=1;· rw[cg h1,QC au,Q1,if_pos h1]
     · rw[ct h1,Q1,if_neg h1]
   · rw[if_neg hb,if_neg hb,B5]
  ·have hgf:(wb types c.type ((c.args.length:Nat):Int)&&yP c.test)=false:=by simpa only[c!]using hg
   rw[hgf,if_pos Ev,if_neg bh]
 ·rw [ct U,if_neg U];by_cases h3:c.kind=3
  ·rw[cg h3,if_pos h3];by_cases h4:c.type=0
   · rw[cg h4];by_cases h5:c.args.length=0
     ·rw[cg h5,GK 1000000 N c.test ht au au,Q1];congr 1;rw[decide_eq_true ⟨h4,h5⟩,d']
     · rw[ct h5,decide_eq_false (λh=>h5 h.2),i']
   · rw[ct h4,decide_eq_false (λh=>h4 h.1),i']
  · rw[ct h3,if_neg h3]
end
section
open Go Go.RowKit
variable {N:Nat}{types:aq Q9}{rules:aq Q8}{vars facts:Int}
theorem Bx {l:aq Q3} (hN:9223372036854775808+1000000<=N)(hl:pM l<=1000000):YU N types rules vars facts l=some (PA vars l):=by
 unfold YU Q3E Q4D;have hll:=Zj l
 rw [SR (l:=l) (p:=λy=>!lS vars y) (λi hi=>by
  unfold Ο Q5t;have hn:=UL (w' hi);rw[cg hi,a' hi,Q1,GK 1000000 N l[i] au au au,Q1,Q1];by_cases U:(!lS vars l[i])=true;· rw[if_pos U,if_pos U]
  · rw[if_neg U,if_neg U,QC au]) (by
  unfold Ο;rw[if_neg bh]) l.length 0 N au au,Q1,Q1,o',UN,mG]
noncomputable def Kx (types:aq Q9)(vars facts:Int)(a:kW):Bool:=
 if a.kind=1 then decide (a.which=0)&&(wb types a.type ((a.exprs.length:Nat):Int)&&PA vars a.exprs)
 else if a.kind=2 then decide (a.type=0/\a.exprs.length=0/\0<=a.which/\a.which<facts)
 else if a.kind=3 then decide (a.type=0/\a.which=0/\0<a.exprs.length)&&PA vars a.exprs
 else decide (a.kind=4/\a.type=0/\a.which=0/\a.exprs.length=0)
theorem Ve {a:kW} (hN:9223372036854775808+1000000<=N)(ha:pM a.exprs<=1000000):X' N types rules vars facts a.kind a.type a.which a.exprs=some (Kx types vars facts a):=by
 unfold X' Kx;by_cases h1:a.kind=1
 ·rw [cg h1,if_pos h1];by_cases U:a.which=0
  ·rw[cg U,Dg,Q1,decide_eq_true U,d'];cases ht:wb types a.type ((a.exprs.length:Nat):Int)with
   |true=>rw[if_pos rfl,Bx hN ha,Q1,d']
   |false=>rw[if_neg bh,i']
  · rw[ct U,decide_eq_false U,i']
 ·rw [ct h1,if_neg h1];by_cases U:a.kind=2
  ·rw [cg U,if_pos U];unfold Q7F;by_cases c1:a.type=0
   ·rw [cg c1];by_cases c2:a.exprs.length=0
    ·rw[cg c2];by_cases c3:0<=a.which
     ·rw[cg c3,Q1];congr 1;rw[u'];simp only[decide_eq_true_eq];exact⟨λh=>⟨c1,c2,c3,h⟩,λh=>h.2.2.2⟩
     · rw[ct c3,Q1,decide_eq_false (λh=>c3 h.2.2.1)]
    · rw[ct c2,Q1,decide_eq_false (λh=>c2 h.2.1)]
   · rw[ct c1,Q1,decide_eq_false (λh=>c1 h.1)]
  ·rw [ct U,if_neg U];by_cases h3:a.kind=3
   ·rw [cg h3,if_pos h3];unfold Q7G;by_cases c1:a.type=0
    ·rw [cg c1];by_cases c2:a.which=0
     ·rw[cg c2];by_cases c3:0<a.exprs.length;· rw[cg c3,Bx hN ha,Q1,Q1,decide_eq_true ⟨c1,c2,c3⟩,d']
      · rw[ct c3,Q1,decide_eq_false (λh=>c3 h.2.2),i']
     · rw[ct c2,Q1,decide_eq_false (λh=>c2 h.2.1),i']
    · rw[ct c1,Q1,decide_eq_false (λh=>c1 h.1),i']
   ·rw [ct h3,if_neg h3];unfold Q7H;by_cases c0:a.kind=4
    ·rw [cg c0];by_cases c1:a.type=0
     ·rw[cg c1];by_cases c2:a.which=0
      ·rw[cg c2,Q1];congr 1;rw[u'];simp only[decide_eq_true_eq,beq_iff_eq];exact⟨λh=>⟨c0,c1,c2,h⟩,λh=>h.2.2.2⟩
      · rw[ct c2,Q1,decide_eq_false (λh=>c2 h.2.2.1)]
     · rw[ct c1,Q1,decide_eq_false (λh=>c1 h.2.1)]
    · rw[ct c0,Q1,decide_eq_false (λh=>c0 h.1)]
theorem Ii (types:aq Q9)(vars facts:Int)(c:Qq):vars<=(tP types vars facts c).2.1/\(tP types vars facts c).2.1<=vars+((c.args.length:Nat):Int)/\facts<=(tP types vars facts c).2.2/\(tP types vars facts c).2.2<=facts+1:=by
 unfold tP;have h:=xx (c.kind==1) c.args vars;split
 ·split
  ·split;· simp only;split<;>omega
   · simp only;omega
  · simp only;omega
 · split<;>(simp only;omega)
noncomputable def Gn (types:aq Q9):aq Qq->Int->Int->Bool×Int×Int
 |[],vars,facts=>(true,vars,facts)
 |c::l,vars,facts=>if(tP types vars facts c).1=true then Gn types l (tP types vars facts c).2.1 (tP types vars facts c).2.2 else(false,(tP types vars facts c).2.1,(tP types vars facts c).2.2)
theorem EF {l:aq Qq} (hN:9223372036854775808+1000000<=N)(hl:∀c∈l,c.args.length<=1000/\nodes c.test<=1000000)(hll:l.length<=100):
   ∀ (m i fuel:Nat) (vars facts:Int),i+m=l.length->m<fuel->0<=vars/\vars+((m:Nat):Int)*1000<=1000000->0<=facts/\facts+((m:Nat):Int)<=1000000->
     fp (Uu N l types rules) fuel (i,vars,facts)=some (if(Gn types (l.drop i) vars facts).1=true then .inl (Gn types (l.drop i) vars facts).2 else .inr (Gn types (l.drop i) vars facts)):=by
 intro m;induction m with
 | zero=>
   intro i fuel vars facts hi hf hv U;obtain⟨fuel,rfl⟩:∃q,fuel=q+1:=⟨fuel-1,au⟩
   obtain rfl:i=l.length:=au
   rw[pJ (o:=.inl (vars,facts)) (by unfold Uu;simp only;rw[if_neg bh]),K'];simp[Gn]
 | succ m ih=>
   intro i fuel vars facts hi hf hv U;obtain⟨fuel,rfl⟩:∃q,fuel=q+1:=⟨fuel-1,au⟩
   have h:i<l.length:=au
   obtain⟨k1,k2⟩:=hl l[i] (w' h);have hc:=PM (rules:=rules) (types:=types) (vars:=vars) (facts:=facts) (c:=l[i]) hN au k2 au au;have hcv:=Ii types vars facts l[i]
   have hs:Uu N l types rules (i,vars,facts)=if(tP types vars facts l[i]).1=true then some (.inl (i+1,(tP types vars facts l[i]).2))else some (.inr (.inr (tP types vars facts l[i]))):=by
     unfold Uu;simp only;rw[cg h,a' h,Q1,hc,Q1];obtain⟨b,x,y⟩:=tP types vars facts l[i];cases b with
     |true=>simp only[n!,e',if_false,if_true];rw[QC au]
     |false=>simp only[k!,e',if_false,if_true]
   rw[l' h,Gn];by_cases hb:(tP types vars facts l[i]).1=true
   · rw[if_pos hb]at hs⊢;rw[Gh hs];exact ih (i+1) fuel (tP types vars facts l[i]).2.1 (tP types vars facts l[i]).2.2 au au au au
   · rw[if_neg hb]at hs⊢;rw[pJ hs];have uG:(tP types vars facts l[i]).1=false:=by simpa using hb
     simp only[e',if_false];rw[<-uG]
noncomputable def qW (types:aq Q9)(r:Q8):Bool:=
 (lZ r.name&&decide (-1000<=r.salience/\r.salience<=1000/\r.conds.length<=8/\r.acts.length<=8))&&
  ((Gn types r.conds 0 0).1&&(decide (r.vars=(Gn types r.conds 0 0).2.1/\(Gn types r.conds 0 0).2.1<=16)&&r.acts.all (Kx types (Gn types r.conds 0 0).2.1 (Gn types r.conds 0 0).2.2)))
structure Eb (r:Q8):Prop where
 conds:∀c∈r.conds,c.args.length<=1000/\nodes c.test<=1000000
 acts:∀a∈r.acts,pM a.exprs<=1000000
theorem sY {α:Type} {p:α->Bool}:∀l:aq α,(!(l.any λx=> !p x))=l.all p
 |[]=>rfl
 |x::l=>by rw[N!,o!,<-sY l];cases p x<;>simp
theorem NZ {N:Nat} {types:aq Q9} {rules:aq Q8} {a b:Int} {r:Q8} (hN:9223372036854775808+1000000<=N)(hr:Eb r):∃x y,U' N types rules a b r.name r.salience r.vars r.conds r.acts=some (qW types r,x,y):=by
 unfold U'
 have JT:Q5a N r.name r.salience r.conds r.acts=some (!(lZ r.name&&decide (-1000<=r.salience/\r.salience<=1000/\r.conds.length<=8/\r.acts.length<=8))):=by
  unfold Q5a;rw[Cp,Q1];cases lZ r.name with
  |false=>simp
  | true=>
    rw[if_neg bh,d'];by_cases c1:r.salience< -1000;· rw[cg c1,decide_eq_false au];rfl
    ·rw [ct c1];by_cases c2:r.salience>1000;· rw[cg c2,decide_eq_false au];rfl
     ·rw[ct c2];by_cases c3:8<r.conds.length;· rw[cg c3,decide_eq_false au];rfl
      ·rw[ct c3];congr 1;rw[u'];simp only[decide_eq_true_eq,B!,decide_eq_false_iff_not];omega
 rw[JT,Q1];unfold qW;by_cases U:(lZ r.name&&decide (-1000<=r.salience/\r.salience<=1000/\r.conds.length<=8/\r.acts.length<=8))=true
 ·rw [U,if_neg bh]
  have h8:r.conds.length<=8/\r.acts.length<=8:=by
    simp only[b',decide_eq_true_eq]at U;exact⟨U.2.2.2.1,U.2.2.2.2⟩
  rw[EF (rules:=rules) hN hr.conds au r.conds.length 0 N 0 0 au au au au,o'];obtain⟨q,x,y⟩:=Gn types r.conds 0 0;cases q with
  |false=>exact⟨x,y,by simp only[e',if_false];rw[B5];rfl⟩
  | true=>
    refine⟨x,y,?_⟩;simp only[if_true];rw[lH];simp only[d'];by_cases c1:r.vars=x
    ·rw [cg c1];by_cases c2:x<=16
     ·rw [cg c2];unfold Q3U Q4Q
      rw [SR (l:=r.acts) (p:=λz=>!Kx types x y z) (λi hi=>by
       unfold Ψ Q5u;rw[cg hi,a' hi,Q1,Ve hN (hr.acts _ (w' hi)),Q1,Q1];by_cases hb:(!Kx types x y r.acts[i])=true;· rw[if_pos hb,if_pos hb]
       · rw[if_neg hb,if_neg hb,QC au]) (by
       unfold Ψ;rw[if_neg bh]) r.acts.length 0 N au au,Q1,Q1,o',UN,sY]
      rw[decide_eq_true ⟨c1,c2⟩,d']
     · rw[ct c2,decide_eq_false (λh=>c2 h.2),i']
    · rw[ct c1,decide_eq_false (λh=>c1 h.1),i']
 ·have hgf:(lZ r.name&&decide (-1000<=r.salience/\r.salience<=1000/\r.conds.length<=8/\r.acts.length<=8))=false:=by simpa only[c!]using U
  rw[hgf,if_pos Ev,i'];exact⟨0,0,rfl⟩
end
section
open Go Go.RowKit
theorem PS {N N':Nat} {op:Int} {l:aq V} (hN:9223372036854775808<=N)(hN':9223372036854775808<=N'):DB N op l=DB N' op l:=by
 by_cases h2:l.length<=2
 ·have e:fp (DA N l) N (0,false)=fp (DA N' l) N' (0,false):=by
   have e1:DA N l=DA N' l:=rfl;rcases Nat.le_total N N' with h|h
   ·rcases ov hN h2 with⟨b,U⟩|U;· rw[U];exact(QbG (by rw[e1]at U;exact U) h).symm
    · rw[U];exact(QbG (by rw[e1]at U;exact U) h).symm
   ·rcases ov hN' h2 with⟨b,U⟩|U;· rw[U];exact QbG (by rw[<-e1]at U;exact U) h
    · rw[U];exact QbG (by rw[<-e1]at U;exact U) h
  unfold DB;rw[e];rfl
 ·unfold DB;rw[(GG N op).1,(GG N' op).1,Q1,Q1,Ey];have U:op<1\/op>11\/l.length≠(if op=4\/op=11 then 1 else 2):=.inr (.inr (by split<;>omega));rw[Q1,Q1,cg U,cg U]
theorem Tk:∀(m N U:Nat) (e:Q3) (vars:aq V),db e->nodes e<=m->m<=1000->9223372036854775808+m<=N->9223372036854775808+m<=U->(∀v∈vars,qv v)->vars.length<=1000000->
   at_ (w5 N) vars e=at_ (w5 U) vars e:=by
 intro m;induction m with
 | zero=>
   intro N U e vars _ hn;rw[Oj]at hn;omega
 | succ m ih=>
   intro N U e vars dh hn hm hN hN' hv Mj;obtain⟨N,rfl⟩:∃k,N=k+1:=⟨N-1,au⟩
   obtain⟨U,rfl⟩:∃k,U=k+1:=⟨U-1,au⟩
   obtain⟨k,v,x,o,kids⟩:=e;have F1:9223372036854775808<=N:=au
   have R8:9223372036854775808<=U:=au
   rw[Oj]at hn;simp only at hn;show SN N (w5 N) k v.k v.n v.s x o kids vars=SN U (w5 U) k v.k v.n v.s x o kids vars;unfold SN;by_cases k3:k=3
   ·subst k3;simp only[show((3:Int)==3)=true from rfl,if_true,show((3:Int)==1)=false from rfl,show((3:Int)==2)=false from rfl,e',if_false];unfold Z' Q7S;have kZ:kids.length<=1000000:=by have:=Zj kids;omega
    rw[XA F1 kZ,XA R8 kZ];obtain⟨h4,g4⟩:=zW dh
    have eZ:nT (at_ (w5 N) vars) kids []=nT (at_ (w5 U) vars) kids []:=by
     have:∀(l:aq Q3) (acc:aq V),(∀y∈l,y∈kids)->nT (at_ (w5 N) vars) l acc=nT (at_ (w5 U) vars) l acc:=by
      intro l;induction l with
      |nil=>intro acc _;rfl
      | cons y l ihl=>
        intro acc hy;have hyk:=hy y bh;unfold nT;rw[ih N U y vars (g4 y hyk) (by have:=UL hyk;omega) au au au hv Mj];congr 1;funext ⟨a,b,c,e⟩;simp only;rw[ihl _ (λz hz=>hy z (by simp[hz]))]
     exact this kids [] (λy hy=>hy)
    rw[eZ];congr 1;congr 1;funext ⟨a,b⟩;simp only;split;· rfl
    · rw[PS F1 R8]
   ·have b3:(k==3)=false:=by simpa using k3
    simp only[b3,e',if_false];rfl
end
section
open Go Go.RowKit
variable {hs:aq Bool}{vs:aq V}{N:Nat}
theorem Xv {z:Int} {h:aq Bool}:(if decide (z>=0)=true then some (decide (z<((h.length:Nat):Int)))else some false)=some (decide (0<=z/\z<((h.length:Nat):Int))):=by
 by_cases h0:0<=z;· rw[cg h0];simp[h0]
 · rw[ct h0];simp[h0]
theorem VH (N:Nat) {a:fK} {x:V} (hl:hs.length=vs.length):
  ∃h' v',ν N hs vs a.k a.var a.v.k a.v.n a.v.s x.k x.n x.s=some ((JI a x hs vs).isSome,h',v')/\∀p,JI a x hs vs=some p->p=(h',v'):=by
 unfold ν JI;rw[Xv,Q1];have ev:(⟨a.v.k,a.v.n,a.v.s⟩:V)=a.v:=rfl;have ex:(⟨x.k,x.n,x.s⟩:V)=x:=rfl;rw[ev,ex];by_cases k1:a.k=1
 ·rw[cg k1,if_pos k1];exact⟨hs,vs,rfl,λp h=>(Option.some.inj h).symm⟩
 rw[ct k1,if_neg k1];by_cases k4:a.k=4
 ·rw[cg k4,if_pos k4];by_cases hv:a.v=x
  ·rw[if_pos hv,decide_eq_true hv];exact⟨hs,vs,rfl,λp h=>(Option.some.inj h).symm⟩
  ·rw[if_neg hv,decide_eq_false hv];exact⟨hs,vs,rfl,λp h=>by cases h⟩
 rw[ct k4,if_neg k4];by_cases U:0<=a.var/\a.var<((hs.length:Nat):Int)
 ·have g1:a.var.toNat<hs.length:=au
  have g2:a.var.toNat<vs.length:=au
  rw[decide_eq_true U];by_cases k3:a.k=3
  ·rw [cg k3,if_pos k3,if_pos rfl,QC U.1,a' g1,Q1,a' g2];by_cases hb:hs[a.var.toNat]=true
   ·rw[if_pos hb,QC U.1,Q1];by_cases hv:vs[a.var.toNat]=x
    ·rw[if_pos ⟨U.1,U.2,by rw[hb],by rw[hv]⟩,decide_eq_true hv];exact⟨hs,vs,rfl,λp h=>(Option.some.inj h).symm⟩
    ·rw[if_neg (λh=>hv (Option.some.inj h.2.2.2)),decide_eq_false hv];exact⟨hs,vs,rfl,λp h=>by cases h⟩
   ·rw[if_neg hb,if_neg (λh=>hb (Option.some.inj h.2.2.1))];exact⟨hs,vs,rfl,λp h=>by cases h⟩
  ·rw[ct k3,if_neg k3];by_cases k2:a.k=2
   ·unfold Q4j;rw[cg k2,if_pos k2,if_pos rfl,QC U.1,a' g1,Q1,QC U.1,a' g2,Q1,Q1,if_pos U];exact⟨_,_,rfl,λp h=>(Option.some.inj h).symm⟩
   ·rw[ct k2,if_neg k2];exact⟨hs,vs,rfl,λp h=>by cases h⟩
 ·rw [decide_eq_false U];by_cases k3:a.k=3
  ·rw[cg k3,if_pos k3,if_neg bh,if_neg (λh=>U ⟨h.1,h.2.1⟩)];exact⟨hs,vs,rfl,λp h=>by cases h⟩
  ·rw[ct k3,if_neg k3];by_cases k2:a.k=2
   ·unfold Q4j;rw[cg k2,if_pos k2,if_neg bh,Q1,if_neg U];exact⟨hs,vs,rfl,λp h=>by cases h⟩
   ·rw[ct k2,if_neg k2];exact⟨hs,vs,rfl,λp h=>by cases h⟩
def I6:aq fK->aq V->aq Bool->aq V->bf (aq Bool×aq V)
 |[],_,hs,vs=>some (hs,vs)
 |_::_,[],_,_=>none
 | a::al,x::xs,hs,vs=>match JI a x hs vs with
   |some p=>I6 al xs p.1 p.2
   |none=>none
theorem tX:∀{al:aq fK} {xs:aq V} {hs:aq Bool} {vs:aq V} {p:aq Bool×aq V},I6 al xs hs vs=some p->p.1.length=hs.length/\p.2.length=vs.length
 |[],_,hs,vs,p,h=>by cases h;exact⟨rfl,rfl⟩
 |_::_,[],_,_,_,h=>by cases h
 | a::al,x::xs,hs,vs,p,h=>by
   unfold I6 at h;split at h
   ·rename_i q hq;have h1:=uv (h':=q.1) (vs':=q.2) hq;have U:=tX h;exact⟨U.1.trans h1.1,U.2.trans h1.2⟩
   · cases h
theorem Ie {al:aq fK} {xs:aq V} (hlen:al.length=xs.length)(GU:al.length<=1000000):∀(m i fuel:Nat)(hs:aq Bool)(vs:aq V),i+m=al.length->m<fuel->hs.length=vs.length->
   ∃a b,fp (Uy N al xs) fuel (i,hs,vs)=some (if(I6 (al.drop i) (xs.drop i) hs vs).isSome=true then .inl (a,b)else .inr ([],[],false))/\∀p,I6 (al.drop i) (xs.drop i) hs vs=some p->p=(a,b):=by
 intro m;induction m with
 | zero=>
   intro i fuel hs vs hi hf hl;obtain⟨fuel,rfl⟩:∃q,fuel=q+1:=⟨fuel-1,au⟩
   obtain rfl:i=al.length:=au
   refine⟨hs,vs,?_,λp h=>?_⟩
   · rw[pJ (o:=.inl (hs,vs)) (by unfold Uy;simp only;rw[if_neg bh]),K'];simp[I6]
   · rw[K']at h;cases h;rfl
 | succ m ih=>
   intro i fuel hs vs hi hf hl;obtain⟨fuel,rfl⟩:∃q,fuel=q+1:=⟨fuel-1,au⟩
   have h1:i<al.length:=au
   have h2:i<xs.length:=au
   obtain⟨h',v',M1,hp⟩:=VH N (a:=al[i]) (x:=xs[i]) hl;rw[l' h1,l' h2]
   have U:Uy N al xs (i,hs,vs)=if(JI al[i] xs[i] hs vs).isSome=true then some (.inl (i+1,h',v'))else some (.inr (.inr ([],[],false))):=by
     unfold Uy;simp only;rw[cg h1,a' h1,Q1,a' h2,Q1,M1,Q1];cases(JI al[i] xs[i] hs vs).isSome with
     |true=>simp only[n!,e',if_false,if_true];rw[QC au]
     |false=>simp only[k!,if_true,e',if_false]
   unfold I6;cases hq:JI al[i] xs[i] hs vs with
   | some q=>
     have hq2:=hp q hq;subst hq2;have TK:=uv hq;rw[hq]at U;rw[Gh U];exact ih (i+1) fuel h' v' au au au
   | none=>
     rw[hq]at U;refine⟨[],[],?_,λp h=>by cases h⟩;rw[pJ U];simp
def ye (hs:aq Bool)(vs:aq V):Bool:=hs.length==vs.length&&(hs.zip vs).all λp=>p.1||decide (p.2=zg)
theorem RJ (hN:1000001<=N) (hh:hs.length<=1000000):V' N hs vs=some (ye hs vs):=by
 unfold V' ye;by_cases hl:hs.length=vs.length
 ·rw [if_neg (by simp[hl]),show(hs.length==vs.length)=true from by simpa using hl,d']
  have key:∀(m i fuel:Nat),i+m=hs.length->m<fuel->fp (Uv N hs vs) fuel i=some (if((hs.drop i).zip (vs.drop i)).all (λp=>p.1||decide (p.2=zg))=true then .inl ()else .inr false):=by
   intro m;induction m with
   | zero=>
     intro i fuel hi hf;obtain⟨fuel,rfl⟩:∃q,fuel=q+1:=⟨fuel-1,au⟩
     obtain rfl:i=hs.length:=au
     rw[pJ (o:=.inl ()) (by unfold Uv;rw[if_neg bh]),K'];simp
   | succ m ih=>
     intro i fuel hi hf;obtain⟨fuel,rfl⟩:∃q,fuel=q+1:=⟨fuel-1,au⟩
     have h1:i<hs.length:=au
     have h2:i<vs.length:=au
     have U:Uv N hs vs i=if(hs[i]||decide (vs[i]=zg))=true then some (.inl (i+1))else some (.inr (.inr false)):=by
      unfold Uv;rw[cg h1,a' h1,Q1];cases hb:hs[i]with
      |true=>simp only[n!,e',if_false,A!,if_true];rw[Q1,if_neg bh,QC au]
      | false=>
        simp only[k!,if_true,z!];rw[a' h2,Q1,Q1];by_cases hz:vs[i]=zg
        ·have Ml:vs[i]=(⟨0,0,(⟨#[]⟩:cq)⟩:V):=hz;rw[if_neg (show¬(!decide (vs[i]=(⟨0,0,(⟨#[]⟩:cq)⟩:V)))=true from by simp[Ml]),QC au,cg hz]
        ·have Ml:¬vs[i]=(⟨0,0,(⟨#[]⟩:cq)⟩:V):=hz;rw[if_pos (show(!decide (vs[i]=(⟨0,0,(⟨#[]⟩:cq)⟩:V)))=true from by simpa using Ml),ct hz]
     rw[l' h1,l' h2,List.zip_cons_cons,o!];by_cases hb:(hs[i]||decide (vs[i]=zg))=true
     ·rw[if_pos hb]at U;rw[Gh U,ih (i+1) fuel au au];simp only[hb,d']
     ·rw[if_neg hb]at U;rw[pJ U];simp only[hb,i',e',if_false]
  rw[key hs.length 0 N au au,o',o'];cases((hs.zip vs).all λp=>p.1||decide (p.2=zg))with
  |true=>rfl
  |false=>rfl
 · rw[cg hl,show(hs.length==vs.length)=false from by simpa using hl,i']
def Gl (c:Qq)(f:Qg)(hs:aq Bool)(vs:aq V):bf (aq Bool×aq V):=
 if(c.kind=1\/c.kind=2)/\c.type=f.ty/\c.args.length=f.args.length/\ye hs vs=true then I6 c.args f.args hs vs else none
theorem uX (hN:9223372036854775808<=N) {c:Qq} {f:Qg} (hh:hs.length<=1000)(hv:vs.length<=1000)(ha:c.args.length<=1000000):
  ∃a b,Jy N c.kind c.type c.args c.test.kind c.test.value.k c.test.value.n c.test.value.s c.test.var c.test.op c.test.kids f.id f.ty f.args hs vs=some (a,b,(Gl c f hs vs).isSome)/\∀p,Gl c f hs vs=some p->p=(a,b)/\a.length=hs.length/\b.length=vs.length:=by
 unfold Jy
 have e12:(if(c.kind==1)=true then some true else some (c.kind==2))=some (decide (c.kind=1\/c.kind=2)):=by
  by_cases h:c.kind=1;· simp[h]
  · rw[ct h];congr 1;rw[u'];simp[h]
 rw[e12,Q1]
 have Rf:Q6f N (decide (c.kind=1\/c.kind=2)) c.type f.ty c.args f.args hs vs=some (!(decide ((c.kind=1\/c.kind=2)/\c.type=f.ty/\c.args.length=f.args.length/\ye hs vs=true))):=by
  unfold Q6f;by_cases h1:c.kind=1\/c.kind=2
  · rw[decide_eq_true h1,if_neg bh];by_cases U:c.type=f.ty
    ·rw[ct U];by_cases h3:c.args.length=f.args.length
     ·rw[ct h3,RJ au au,Q1];congr 2;rw[u'];simp[h1,U,h3]
     · rw[cg h3,decide_eq_false (λh=>h3 h.2.2.1)];rfl
    · rw[cg U,decide_eq_false (λh=>U h.2.1)];rfl
  · rw[decide_eq_false h1,if_pos (show(!false)=true from rfl),decide_eq_false (λh=>h1 h.1)];rfl
 rw[Rf,Q1];unfold Gl;by_cases hg:(c.kind=1\/c.kind=2)/\c.type=f.ty/\c.args.length=f.args.length/\ye hs vs=true
 ·have hl:hs.length=vs.length:=by
    have:=hg.2.2.2;unfold ye at this;simp only[b',beq_iff_eq]at this;exact this.1
  rw[decide_eq_true hg,if_neg bh,if_pos hg];unfold Qa8;rw[QC au,QC au,Q1];obtain⟨a,b,h1,U⟩:=Ie (N:=N) hg.2.2.1 ha c.args.length 0 N hs vs au au hl;rw[o',o']at h1 U;rw[h1];cases hq:I6 c.args f.args hs vs with
  | some p=>
    have hp:=U p hq;have hlen:=tX hq;refine⟨a,b,by simp only[Option.isSome_some,if_true];rw[lH],λp' h=>?_⟩;cases h;refine⟨hp,?_,?_⟩;· rw[hp]at hlen;exact hlen.1
    · rw[hp]at hlen;exact hlen.2
  | none=>
    refine⟨[],[],by simp only[Option.isSome_none,e',if_false];rw[B5],λp h=>by cases h⟩
 ·rw[decide_eq_false hg,if_pos (show(!false)=true from rfl),if_neg hg];exact⟨[],[],rfl,λp h=>by cases h⟩
end
section
open Go Go.RowKit
abbrev N0:Nat:=9223372036855775808
variable {hs:aq Bool}{vs:aq V}{p:aq Bool×aq V}
def zH:bf Kt->Bool
 |some (k,n,_,e)=>e==0&&(k==1&&n !=0)
 |none=>false
def NP (facts:aq Qg):lO:=⟨λc hs vs f=>Gl c f hs vs,λc vs=>zH (at_ (w5 N0) vs c.test),λc hs vs=>facts.any λf=>(Gl c f hs vs).isSome⟩
def OU (hs:aq Bool)(vs:aq V):Prop:=hs.length=vs.length/\vs.length<=16/\∀v∈vs,qv v
theorem Iq {a:fK} {x:V} (hx:qv x)(U:∀v∈vs,qv v)(h:JI a x hs vs=some p):∀v∈p.2,qv v:=by
 unfold JI at h;split at h;· cases h;exact U
 ·split at h
  ·split at h;· cases h;exact U
   · cases h
  ·split at h
   ·split at h;· cases h;exact U
    · cases h
   ·split at h
    ·split at h
     ·cases h;intro v hm;rcases List.mem_or_eq_of_mem_set hm with hm|rfl;· exact U v hm
      · exact hx
     · cases h
    · cases h
theorem xw:∀{al:aq fK} {xs:aq V} {hs:aq Bool} {vs:aq V} {p:aq Bool×aq V},(∀x∈xs,qv x)->(∀v∈vs,qv v)->I6 al xs hs vs=some p->∀v∈p.2,qv v
 |[],_,hs,vs,p,_,U,h=>by cases h;exact U
 |_::_,[],_,_,_,_,_,h=>by cases h
 | a::al,x::xs,hs,vs,p,hx,U,h=>by
   unfold I6 at h;split at h
   ·rename_i q hq;exact xw (λy hy=>hx y (t' _ hy)) (Iq (hx x j') U hq) h
   · cases h
theorem yg {c:Qq} {f:Qg} (U:∀x∈f.args,qv x)(hv:∀v∈vs,qv v)(h:Gl c f hs vs=some p):∀v∈p.2,qv v:=by
 unfold Gl at h;split at h;· exact xw U hv h
 · cases h
structure yX (conds:List Qq) (facts:List Qg):Prop where
 args:∀c∈conds,c.args.length<=1000
 test:∀c∈conds,nodes c.test<=1000/\db c.test
 few:facts.length<=1000
 vals:∀f∈facts,∀x∈f.args,qv x
theorem Sh {N:Nat} (hN:9223372036855775808<=N) {c:Qq} {facts:aq Qg} {hs:aq Bool} {vs:aq V} (hh:hs.length<=1000)(hv:vs.length<=1000)(ha:c.args.length<=1000000)(hf:facts.length<=1000):
  Z9 N c.kind c.type c.args c.test.kind c.test.value.k c.test.value.n c.test.value.s c.test.var c.test.op c.test.kids hs vs facts=some (facts.any λf=>(Gl c f hs vs).isSome):=by
 unfold Z9 Q3F Q4E
 rw [SR (l:=facts) (p:=λf=>(Gl c f hs vs).isSome) (λi hi=>by
  unfold Ρ Q7k;obtain⟨a,b,hm,_⟩:=uX (N:=N) au (c:=c) (f:=facts[i]) hh hv ha;rw[cg hi,a' hi,Q1,hm,Q1,Q1];by_cases U:(Gl c facts[i] hs vs).isSome=true;· rw[if_pos U,if_pos U]
  · rw[if_neg U,if_neg U,QC au]) (by
  unfold Ρ;rw[if_neg bh]) facts.length 0 N au au,Q1,Q1,o',UN]
theorem RX {conds:aq Qq} {facts:aq Qg} (h:yX conds facts):OkS (NP facts) OU conds facts:={
 mt:=λN hN c U _ _ f hf hs vs hI=>by
  obtain⟨a,b,hm,hp⟩:=uX (N:=N) au (c:=c) (f:=f) (hs:=hs) (vs:=vs) (by have:=hI.1;have:=hI.2.1;omega) (by have:=hI.2.1;omega) (by have:=h.args c U;omega);refine⟨a,b,hm,λp hq=>?_⟩;obtain⟨h1,h2,h3⟩:=hp p hq;have h4:=yg (h.vals f hf) hI.2.2 hq;rw[h1]at h4;exact⟨h1,by rw[h2,h3];exact hI.1,by rw[h3];exact hI.2.1,h4⟩
 ev:=λN hN c U _ hs vs hI=>by
  obtain⟨t1,t2⟩:=h.test c U;have hlen:vs.length<=1000000:=by have:=hI.2.1;omega
  obtain⟨⟨k,n,s,e⟩,hr,_⟩:=both 1000 N c.test vs t2 t1 au au hI.2.2 hlen;have iX:=Tk 1000 N N0 c.test vs t2 t1 au au (by unfold N0;omega) hI.2.2 hlen;refine⟨k,n,s,e,hr,?_⟩;show zH (at_ (w5 N0) vs c.test)=_;rw[<-iX,hr];rfl
 sm:=λN hN c U _ hs vs hI=>Sh hN (by have:=hI.1;have:=hI.2.1;omega) (by have:=hI.2.1;omega) (by have:=h.args c U;omega) h.few
 len:=λhs vs hI=>by have:=hI.2.1;omega}
end
section
open Go Go.RowKit
variable {types:aq Q9}{N n:Nat}{rules:aq Q8}{p:Nat->Bool}{a b:Int}{s:cq}{l:aq Qg}
theorem KB {σ:Type} {f:Nat×σ->bf ((Nat×σ)⊕(Unit⊕Bool))} (step:∀i s,i<n->∃s',f (i,s)=if p i=true then some (.inl (i+1,s'))else some (.inr (.inr false)))(stop:∀s,f (n,s)=some (.inr (.inl ()))):
   ∀(m i fuel:Nat) (s:σ),i+m=n->m<fuel->fp f fuel (i,s)=some (if(i! i m).all p=true then .inl ()else .inr false):=by
 intro m;induction m with
 | zero=>
   intro i fuel s hi U;obtain⟨fuel,rfl⟩:∃q,fuel=q+1:=⟨fuel-1,au⟩
   obtain rfl:i=n:=au
   rw[pJ (stop s)];rfl
 | succ m ih=>
   intro i fuel s hi U;obtain⟨fuel,rfl⟩:∃q,fuel=q+1:=⟨fuel-1,au⟩
   obtain⟨s',hs⟩:=step i s au;rw[F!,o!];by_cases hp:p i=true
   ·rw[if_pos hp]at hs;rw[Gh hs,ih (i+1) fuel s' au au,hp,d']
   ·rw[if_neg hp]at hs;rw[pJ hs,if_neg (by simp[hp])]
theorem Ib {f:Nat->bf (Nat⊕(Unit⊕Bool))} (step:∀i,i<n->f i=if p i=true then some (.inl (i+1))else some (.inr (.inr false)))(stop:f n=some (.inr (.inl ()))):
   ∀(m i fuel:Nat),i+m=n->m<fuel->fp f fuel i=some (if(i! i m).all p=true then .inl ()else .inr false):=by
 intro m;induction m with
 | zero=>
   intro i fuel hi U;obtain⟨fuel,rfl⟩:∃q,fuel=q+1:=⟨fuel-1,au⟩
   obtain rfl:i=n:=au
   rw[pJ stop];rfl
 | succ m ih=>
   intro i fuel hi U;obtain⟨fuel,rfl⟩:∃q,fuel=q+1:=⟨fuel-1,au⟩
   have hs:=step i au;rw[F!,o!];by_cases hp:p i=true
   ·rw[if_pos hp]at hs;rw[Gh hs,ih (i+1) fuel au au,hp,d']
   ·rw[if_neg hp]at hs;rw[pJ hs,if_neg (by simp[hp])]
theorem RF (hN:9223372036854775808<=N)(hl:types.length<=1000000):
  O' N types rules a b s=some (DI (λt=>t.name.toList==s.toList) types 0):=by
 unfold O' Q4G
 rw [SR (l:=types) (p:=λt=>t.name.toList==s.toList) (λi hi=>by
  unfold Υ Q5o;rw[cg hi,a' hi,Q1,Q1];by_cases U:(types[i].name.toList==s.toList)=true;· rw[if_pos U,if_pos U]
  · rw[if_neg U,if_neg U,QC au]) (by
  unfold Υ;rw[if_neg bh]) types.length 0 N au au,Q1,o']
theorem Sc (hN:9223372036854775808<=N)(hl:rules.length<=1000000):
  P' N types rules a b s=some (DI (λt=>t.name.toList==s.toList) rules 0):=by
 unfold P' Q4F
 rw [SR (l:=rules) (p:=λt=>t.name.toList==s.toList) (λi hi=>by
  unfold Τ Q5p;rw[cg hi,a' hi,Q1,Q1];by_cases U:(rules[i].name.toList==s.toList)=true;· rw[if_pos U,if_pos U]
  · rw[if_neg U,if_neg U,QC au]) (by
  unfold Τ;rw[if_neg bh]) rules.length 0 N au au,Q1,o']
noncomputable def HH (types:aq Q9)(i:Nat):Bool:=match types[i]? with
 |some t=>lZ t.name&&(decide (0<=t.fields/\t.fields<=6)&&DI (λx=>x.name.toList==t.name.toList) types 0==((i:Nat):Int))
 |none=>false
noncomputable def yy (types:aq Q9)(rules:aq Q8)(i:Nat):Bool:=match rules[i]? with
 |some r=>DI (λx=>x.name.toList==r.name.toList) rules 0==((i:Nat):Int)&&qW types r
 |none=>false
noncomputable def DC (types:aq Q9)(rules:aq Q8):Bool:=
 decide (types.length<=32/\rules.length<=64)&&((i! 0 types.length).all (HH types)&&(i! 0 rules.length).all (yy types rules))
theorem Q9t (hN:9223372036854775808+1000000<=N) (hr:∀r∈rules,Eb r):P5 N types rules=some (DC types rules):=by
  unfold P5 DC;by_cases h1:32<types.length;· rw[cg h1,Q1,if_pos rfl,decide_eq_false au];rfl
  · rw [ct h1,Q1];by_cases h2:64<rules.length;· rw[cg h2,decide_eq_false au];rfl
    · rw [ct h2,decide_eq_true ⟨au,au⟩,d']
      rw [Ib (f:=YY N types rules) (n:=types.length) (p:=HH types) (λi hi=>by
        unfold YY HH;rw[cg hi,a' hi,Q1]
        have hc:Q7h N types[i] types rules i=some (!(lZ types[i].name&&(decide (0<=types[i].fields/\types[i].fields<=6)&&DI (λx=>x.name.toList==types[i].name.toList) types 0==((i:Nat):Int)))):=by
          unfold Q7h;rw[Cp,Q1];cases lZ types[i].name with
          |false=>rfl
          | true=>
            rw[if_neg bh,d'];by_cases c1:types[i].fields<0;· rw[cg c1,decide_eq_false au];rfl
            · rw[ct c1];by_cases c2:types[i].fields>6;· rw[cg c2,decide_eq_false au];rfl
              · rw[ct c2,RF au au,Q1,decide_eq_true ⟨au,au⟩,d'];rfl
        rw[hc,Q1];by_cases U:(lZ types[i].name&&(decide (0<=types[i].fields/\types[i].fields<=6)&&DI (λx=>x.name.toList==types[i].name.toList) types 0==((i:Nat):Int)))=true;· rw[if_neg (by rw[U];simp),if_pos U,QC au]
        · rw[if_pos (by simpa only[B!,c!]using U),if_neg U]) (by
        unfold YY;rw[if_neg bh]) types.length 0 N au au]
      cases(i! 0 types.length).all (HH types)with
      |false=>rfl
      | true=>
        rw[if_pos rfl,lH,d']
        rw [KB (f:=Z4 N rules types) (n:=rules.length) (p:=yy types rules) (λi s hi=>by
          obtain⟨s1,s2⟩:=s;unfold Z4 yy;simp only;rw[cg hi,a' hi,Q1,Sc au au,Q1];by_cases U:(DI (λx=>x.name.toList==rules[i].name.toList) rules 0==((i:Nat):Int))=true
          · have uG:(DI (λx=>x.name.toList==rules[i].name.toList) rules 0 != ((i:Nat):Int))=false:=by unfold bne;rw[U];rfl
            simp only[uG,e',if_false,U,d'];obtain⟨x,y,hw⟩:=NZ (rules:=rules) (types:=types) (a:=s1) (b:=s2) hN (hr _ (w' hi));rw[hw,Q1];rw[Q1];cases qW types rules[i]with
            |true=>exact⟨(x,y),by rw[if_neg bh,if_pos rfl,QC au]⟩
            |false=>exact⟨(x,y),by rw[if_pos Ev,if_neg bh]⟩
          · have OG:(DI (λx=>x.name.toList==rules[i].name.toList) rules 0==((i:Nat):Int))=false:=by simpa only[c!]using U
            have uG:(DI (λx=>x.name.toList==rules[i].name.toList) rules 0 !=((i:Nat):Int))=true:=by unfold bne;rw[OG];rfl
            simp only[uG,if_true,OG,i',Q1,e',if_false];exact⟨(s1,s2),trivial⟩) (λs=>by
          unfold Z4;obtain⟨s1,s2⟩:=s;simp only;rw[if_neg bh]) rules.length 0 N (0,0) au au]
        cases(i! 0 rules.length).all (yy types rules)<;>rfl
theorem Qda (h:DC types rules=true):rules.length<=64/\∀r∈rules,r.conds.length<=8:=by
 unfold DC at h;simp only[b',decide_eq_true_eq]at h;refine⟨h.1.2,λr hr=>?_⟩;obtain⟨i,hi,rfl⟩:=y! hr;have U:=q!.1 h.2.2 i (by simp[C!];exact hi);unfold yy at U;rw[a' hi]at U;simp only[b']at U;have h6:=U.2;unfold qW at h6;simp only[b',decide_eq_true_eq]at h6;exact h6.1.2.2.2.1
noncomputable def AM (types:aq Q9)(last:Int)(f:Qg):Bool:=
 decide (last<f.id/\f.id<=1099511627776)&&(wb types f.ty ((f.args.length:Nat):Int)&&f.args.all r8)
noncomputable def sT (types:aq Q9):Int->aq Qg->Bool
 |_,[]=>true
 |last,f::l=>AM types last f&&sT types f.id l
theorem L5 {f:Qg} {last:Int} (hN:9223372036854775808<=N)(hf:f.args.length<=4398046510976):Q7j N f last types=some (!AM types last f):=by
 unfold Q7j AM;by_cases c1:f.id<=last;· rw[cg c1,decide_eq_false au];rfl
 ·rw [ct c1];by_cases c2:f.id>1099511627776;· rw[cg c2,decide_eq_false au];rfl
  ·rw [ct c2,decide_eq_true (show last<f.id/\f.id<=1099511627776 from⟨au,au⟩),d'];unfold wb;by_cases c3:f.ty<0
   ·rw[cg c3];have:decide (0<=f.ty)=false:=decide_eq_false au;rw[this];cases types[f.ty.toNat]? <;>rfl
   ·rw [ct c3];by_cases c4:f.ty>=((types.length:Nat):Int);· rw[cg c4,T' au];rfl
    ·have h4:f.ty.toNat<types.length:=au
     rw[ct c4,QC au,a' h4,Q1];simp only;rw[decide_eq_true (show 0<=f.ty by omega),d'];by_cases U:types[f.ty.toNat].fields=((f.args.length:Nat):Int)
     ·rw [if_neg (by simp[U]),show(types[f.ty.toNat].fields==((f.args.length:Nat):Int))=true from by simpa using U,d'];unfold Q3r Q4l
      rw [SR (l:=f.args) (p:=λv=>!r8 v) (λi hi=>by
       unfold Ξ Q83;rw[cg hi,a' hi,Q1,QbK,Q1,Q1];by_cases hb:(!r8 f.args[i])=true;· rw[if_pos hb,if_pos hb]
       · rw[if_neg hb,if_neg hb,QC au]) (by
       unfold Ξ;rw[if_neg bh]) f.args.length 0 N au au,Q1,Q1,o',UN]
      rw[<-sY,O!]
     ·have c6:(types[f.ty.toNat].fields==((f.args.length:Nat):Int))=false:=by simpa using U
      rw[if_pos (by simp;exactλh=>U h.symm),c6];rfl
theorem EL (hN:9223372036854775808<=N)(hl:l.length<=1000000000)(hf:∀f∈l,f.args.length<=4398046510976):
   ∀(m i fuel:Nat) (last:Int),i+m=l.length->m<fuel->fp (UB N l types) fuel (i,last)=some (if sT types last (l.drop i)=true then .inl ()else .inr false):=by
 intro m;induction m with
 | zero=>
   intro i fuel last hi ZO;obtain⟨fuel,rfl⟩:∃q,fuel=q+1:=⟨fuel-1,au⟩
   obtain rfl:i=l.length:=au
   rw[pJ (o:=.inl ()) (by unfold UB;simp only;rw[if_neg bh]),K'];rfl
 | succ m ih=>
   intro i fuel last hi ZO;obtain⟨fuel,rfl⟩:∃q,fuel=q+1:=⟨fuel-1,au⟩
   have h:i<l.length:=au
   rw[l' h,sT]
   have hs:UB N l types (i,last)=if AM types last l[i]=true then some (.inl (i+1,l[i].id))else some (.inr (.inr false)):=by
    unfold UB;simp only;rw[cg h,a' h,Q1,L5 hN (hf _ (w' h)),Q1];cases AM types last l[i]with
    |true=>rw[if_neg bh,if_pos rfl,QC au]
    |false=>rw[if_pos Ev,if_neg bh]
   by_cases U:AM types last l[i]=true
   ·rw[if_pos U]at hs;rw[Gh hs,ih (i+1) fuel l[i].id au au,U,d']
   ·rw[if_neg U]at hs;rw[pJ hs,if_neg (by simp[U])]
theorem L6 (U:9223372036854775808<=N)(hl:l.length<=1000000000)(hf:∀f∈l,f.args.length<=4398046510976):Q7T N types rules l=some (sT types 0 l):=by
 unfold Q7T;rw[EL U hl hf l.length 0 N 0 au au,o'];cases sT types 0 l<;>rfl
theorem XF (N:Nat)(a:Int):∃hs vs,P6 N a=some (hs,vs)/\OU hs vs:=by
 unfold P6;by_cases c1:a<0
 ·rw[cg c1,Q1,if_pos rfl];exact⟨[],[],rfl,rfl,bh,bh⟩
 ·rw[ct c1,Q1];by_cases c2:a>16
  ·rw[cg c2];exact⟨[],[],rfl,rfl,bh,bh⟩
  ·rw[ct c2,QC au,QC au,QC au,QC au];refine⟨_,_,rfl,bh,by simp;omega,λv U=>?_⟩;rw[(List.mem_replicate.1 U).2];exact⟨⟨bh,bh⟩,W' _⟩
end
section
open Go Go.RowKit
variable {N:Nat}{r:Q8}{n0:Int}
theorem MF {v:V} (h:wZ v):qv v:=⟨H9 h.2.1,h.2.2⟩
def Ec (c:Qq):Prop:=c.args.length<=400/\nodes c.test<=400
def pQ (a:kW):Prop:=pM a.exprs<=400
theorem Bp (hN:9223372036854775808+1000000<=N) (hr:SQ r) (h0:0<=n0/\n0<=100000000000000):
  ∃o,fp (YP N r) N (0,n0)=some o/\0<=o/\o<=100000000000000/\(o<300->n0<300/\∀c∈r.conds,Ec c):=by
 have hlen:=hr.2.2.2.1.1;refine HY (f:=YP N r) (λs=>s.1<=r.conds.length/\0<=s.2/\s.2<=100000000000000/\(s.2<300->n0<300/\∀c∈r.conds.take s.1,Ec c)) (λs=>r.conds.length-s.1) _ (λs hs=>?_) N (0,n0) ⟨W' _,h0.1,h0.2,λh=>⟨h,bh⟩⟩ (by simp only;omega);obtain⟨i,n⟩:=s;obtain⟨g1,g2,g3,g4⟩:=hs;unfold YP;simp only;by_cases hi:i<r.conds.length
 ·rw [cg hi,Q1];by_cases hn:n<300
  ·have hc:=hr.2.2.2.1.2 _ (w' hi);have GU:=hc.2.2.1.1;obtain⟨v,v1,v2,v3,v4⟩:=uq 401 N [r.conds[i].test] 300 (by intro y hy;rw[g'.1 hy];exact hc.2.2.2) bh au au au au;rw[cg hn,a' hi,Q1,QC au,Q1,v1,Q1,QC au,QC au];left;refine⟨_,rfl,⟨by simp only;omega,by simp only;omega,by simp only;omega,λcj=>?_⟩,by simp only;omega⟩;obtain⟨k1,k2⟩:=g4 hn;refine⟨k1,λc U=>?_⟩;rw[E',a' hi]at U;rcases y'.1 U with U|U;· exact k2 c U
   ·have JT:c=r.conds[i]:=by simpa using U
    have hv:=v4 au;simp only[pM,Nat.add_zero]at hv;rw[JT];exact⟨au,au⟩
  ·rw[ct hn];right;exact⟨n,rfl,g2,g3,λh=>absurd h hn⟩
 ·rw[ct hi,Q1,if_neg bh];right;refine⟨n,rfl,g2,g3,λh=>?_⟩;have:=g4 h;rwa [H' au]at this
theorem Et (hN:9223372036854775808+1000000<=N) (hr:SQ r) (h0:0<=n0/\n0<=100000000000000):
  ∃o,fp (YQ N r) N (0,n0)=some o/\0<=o/\o<=100000000000000/\(o<300->n0<300/\∀c∈r.acts,pQ c):=by
 have hlen:=hr.2.2.2.2.1;refine HY (f:=YQ N r) (λs=>s.1<=r.acts.length/\0<=s.2/\s.2<=100000000000000/\(s.2<300->n0<300/\∀c∈r.acts.take s.1,pQ c)) (λs=>r.acts.length-s.1) _ (λs hs=>?_) N (0,n0) ⟨W' _,h0.1,h0.2,λh=>⟨h,bh⟩⟩ (by simp only;omega);obtain⟨i,n⟩:=s;obtain⟨g1,g2,g3,g4⟩:=hs;unfold YQ;simp only;by_cases hi:i<r.acts.length
 ·rw [cg hi,Q1];by_cases hn:n<300
  ·have hc:=hr.2.2.2.2.2 _ (w' hi);obtain⟨v,v1,v2,v3,v4⟩:=uq 401 N r.acts[i].exprs 300 hc.2.2.2.2 hc.2.2.2.1 au au au au;rw[cg hn,a' hi,Q1,v1,Q1,QC au,QC au];left;refine⟨_,rfl,⟨by simp only;omega,by simp only;omega,by simp only;omega,λcj=>?_⟩,by simp only;omega⟩;obtain⟨k1,k2⟩:=g4 hn;refine⟨k1,λc U=>?_⟩;rw[E',a' hi]at U;rcases y'.1 U with U|U;· exact k2 c U
   ·have JT:c=r.acts[i]:=by simpa using U
    rw[JT];unfold pQ;omega
  ·rw[ct hn];right;exact⟨n,rfl,g2,g3,λh=>absurd h hn⟩
 ·rw[ct hi,Q1,if_neg bh];right;refine⟨n,rfl,g2,g3,λh=>?_⟩;have:=g4 h;rwa [H' au]at this
def ki (r:Q8):Prop:=(∀c∈r.conds,Ec c)/\∀a∈r.acts,pQ a
theorem CJ (hN:9223372036854775808+1000000<=N) {rules:aq Q8} (hr:∀r∈rules,SQ r)(hl:rules.length<=1759218604390) (h0:0<=n0/\n0<=50000000000000):
  ∃o,fp (YO N rules) N (0,n0)=some o/\0<=o/\(o<300->∀r∈rules,ki r):=by
 refine HY (f:=YO N rules) (λs=>s.1<=rules.length/\0<=s.2/\(s.2<300->∀c∈rules.take s.1,ki c)) (λs=>rules.length-s.1) _ (λs hs=>?_) N (0,n0) ⟨W' _,h0.1,λh=>bh⟩ (by simp only;omega);obtain⟨i,n⟩:=s;obtain⟨g1,g2,g4⟩:=hs;unfold YO;simp only;by_cases hi:i<rules.length
 ·rw [cg hi,Q1];by_cases hn:n<300
  ·have hc:=hr _ (w' hi);have c1:=hc.2.2.2.1.1;have c2:=hc.2.2.2.2.1;obtain⟨v,v1,v2,v3,v4⟩:=Bp hN hc (n0:=n+((rules[i].conds.length:Nat):Int)+((rules[i].acts.length:Nat):Int)) au;obtain⟨w,w1,w2,w3,w4⟩:=Et hN hc (n0:=v) ⟨v2,v3⟩;unfold Q5K;rw[cg hn,a' hi,Q1,QC au,QC au,v1,Q1,w1,Q1,QC au];left;refine⟨_,rfl,⟨by simp only;omega,by simp only;omega,λcj=>?_⟩,by simp only;omega⟩;intro c U;rw[E',a' hi]at U;rcases y'.1 U with U|U;· exact g4 hn c U
   ·have JT:c=rules[i]:=by simpa using U
    rw[JT];obtain⟨x1,x2⟩:=w4 cj;exact⟨(v4 x1).2,x2⟩
  ·rw[ct hn];right;exact⟨n,rfl,g2,λh=>absurd h hn⟩
 ·rw[ct hi,Q1,if_neg bh];right;refine⟨n,rfl,g2,λh=>?_⟩;have:=g4 h;rwa [H' au]at this
theorem Mu (hN:9223372036854775808+1000000<=N) {R:P9} (U:Q7V R):
  ∃b,υ N R.types R.rules=some b/\(b=true->∀r∈R.rules,ki r):=by
 unfold υ;have t1:=U.1.1;have t2:=U.2.1;obtain⟨o,o1,o2,o3⟩:=CJ hN U.2.2 t2 (n0:=((R.types.length+R.rules.length:Nat):Int)) au;rw[QC au,o1,Q1];exact⟨_,rfl,λhb=>o3 (du hb)⟩
theorem J0 (h:ki r):Eb r:=⟨λc U=>⟨by have:=(h.1 c U).1;omega,by have:=(h.1 c U).2;omega⟩,λa ha=>by have:=h.2 a ha;unfold pQ at this;omega⟩
theorem IZ (h:ki r)(hr:SQ r) {l:aq Qg} (hl:l.length<=40)(hf:∀f∈l,oy f):yX r.conds l:={
 args:=λc U=>by have:=(h.1 c U).1;omega
 test:=λc U=>⟨by have:=(h.1 c U).2;omega,(hr.2.2.2.1.2 c U).2.2.2⟩
 few:=au
 vals:=λf hfm x hx=>MF ((hf f hfm).2.2.2 x hx)}
end
section
open Go Go.RowKit
def j9 (a:Int):aq Bool×aq V:=if 0<=a/\a<=16 then(M! a.toNat false,M! a.toNat ⟨0,0,⟨#[]⟩⟩)else([],[])
theorem zT (N:Nat)(a:Int):P6 N a=some (j9 a)/\OU (j9 a).1 (j9 a).2:=by
 have h1:P6 N a=some (j9 a):=by
  unfold P6 j9;by_cases c1:a<0;· rw[cg c1,Q1,if_pos rfl,if_neg au]
  ·rw[ct c1,Q1];by_cases c2:a>16;· rw[cg c2,if_neg au]
   · rw[ct c2,QC au,QC au,QC au,QC au,if_pos au]
 refine⟨h1,?_⟩;obtain⟨hs,vs,U,h3⟩:=XF N a;rw[h1]at U;rw[Option.some.inj U];exact h3
noncomputable section
def lR (facts:aq Qg)(r:Q8):Nat:=jk (NP facts) facts r.conds (j9 r.vars).1 (j9 r.vars).2
def TD (facts:aq Qg)(r:Q8):aq (aq Int×aq V):=goN (NP facts) facts r.conds (j9 r.vars).1 (j9 r.vars).2 []
def wc (facts:aq Qg):aq Q8->Nat->aq Qb
 |[],_=>[]
 |r::l,i=>(TD facts r).map (kS ((i:Nat):Int))++wc facts l (i+1)
def nN (facts:aq Qg):aq Q8->Nat
 |[]=>0
 |r::l=>lR facts r+nN facts l
end
theorem GS (facts:aq Qg)(r:Q8):(TD facts r).length<=lR facts r+1:=uD _ _ _ _
theorem xJ (facts:aq Qg):∀(l:aq Q8)(i:Nat),(wc facts l i).length<=nN facts l+l.length
 |[],_=>by simp[wc]
 | r::l,i=>by
   have:=xJ facts l (i+1);have:=GS facts r;simp only[wc,nN,M',z',B'];omega
noncomputable def A9 (types:aq Q9)(rules:aq Q8)(facts:aq Qg):Bool:=DC types rules&&sT types 0 facts
theorem tg {S:lO} {facts:aq Qg}:∀{cs:aq Qq} {hs:aq Bool} {vs:aq V} {ids:aq Int} {x:aq Int×aq V},x∈goN S facts cs hs vs ids->x.1.length<=ids.length+cs.length/\(∀i∈ids,i∈x.1)/\∀i∈x.1,i∈ids\/∃f∈facts,f.id=i
 | [],hs,vs,ids,x,h=>by
   rw[goN,g']at h;subst h;exact⟨bh,λ_ h=>h,λ_ h=>.inl h⟩
 | c ::cs,hs,vs,ids,x,h=>by
   by_cases h3:c.kind=3
   ·rw[go3 h3]at h;split at h
    ·obtain⟨a,b⟩:=tg h;exact⟨by simp;omega,b⟩
    · cases h
   ·by_cases h2:c.kind=2
    ·rw[go2 h3 h2]at h;split at h;· cases h
     ·obtain⟨a,b⟩:=tg h;exact⟨by simp;omega,b⟩
    ·rw [go1 h3 h2]at h;obtain⟨f,hf,U⟩:=List.mem_flatMap.1 h;unfold CD at U;split at U
     ·obtain ⟨a,b,d⟩:=tg U;refine⟨by simp at a⊢;omega,λi hi=>b i (a! _ hi),λi hi=>?_⟩;rcases d i hi with hi|hi
      ·rcases y'.1 hi with hi|hi;· exact .inl hi
       · exact .inr ⟨f,hf,(g'.1 hi).symm⟩
      · exact .inr hi
     · cases U
theorem xK {facts:aq Qg}:∀{l:aq Q8} {i:Nat} {t:Qb},t∈wc facts l i↔∃k r,l[k]? =some r/\t.rule=((i+k:Nat):Int)/\∃x∈TD facts r,t.ids=x.1
 |[],i,t=>by simp[wc]
 | r::l,i,t=>by
   rw[wc,y',xK (l:=l)];constructor
   ·rintro(h|⟨k,q,h1,U,h3⟩)
    · obtain⟨x,hx,rfl⟩:=Q'.1 h;exact⟨0,r,rfl,rfl,x,hx,rfl⟩
    · exact⟨k+1,q,by simpa using h1,by rw[U];omega,h3⟩
   ·rintro⟨k,q,h1,U,x,hx,h3⟩;cases k with
    | zero=>
      left;simp only[r!,Option.some.injEq]at h1;subst h1;refine Q'.2 ⟨x,hx,?_⟩;cases t;simp only at U h3;rw[U,h3];rfl
    | succ k=>
      right;exact⟨k,q,by simpa using h1,by rw[U];omega,x,hx,h3⟩
theorem Ir {facts:aq Qg} {l:aq Q8} (hl:∀r∈l,r.conds.length<=8) {i:Nat} {t:Qb} (h:t∈wc facts l i):t.ids.length<=8:=by
 obtain⟨k,r,h1,_,x,hx,U⟩:=xK.1 h;have:=(tg hx).1;have:=hl r (j! h1);rw[U];simp at*;omega
end
section
open Go Go.RowKit Classical
theorem CK {N:Nat} {l:aq Q3} {rc:Int->Int->Int->cq->Int->Int->(aq Q3)->bf (aq Q3)} (hl:l.length<=1759218604390)(U:∀x∈l,rc x.kind x.value.k x.value.n x.value.s x.var x.op x.kids=some x.kids):
   ∀(k i fuel:Nat),i+k=l.length->k<fuel->fp (Z6 N l rc) fuel (i,l)=some l:=by
 intro k;induction k with
 | zero=>
   intro i fuel hi hf;obtain⟨fuel,rfl⟩:∃q,fuel=q+1:=⟨fuel-1,au⟩
   rw[pJ];unfold Z6;simp only;rw[if_neg fh]
 | succ k ih=>
   intro i fuel hi hf;obtain⟨fuel,rfl⟩:∃q,fuel=q+1:=⟨fuel-1,au⟩
   have h1:i<l.length:=au
   rw[Gh (s':=(i+1,l))];· exact ih (i+1) fuel au au
   ·unfold Z6;simp only;rw[cg h1,a' h1,Q1,U _ (w' h1),Q1,Q1,QC au];congr 2;have e:(⟨l[i].kind,l[i].value,l[i].var,l[i].op,l[i].kids⟩:Q3)=l[i]:=by cases l[i];rfl
    rw[e,List.set_getElem_self]
theorem Je:∀(m N:Nat)(e:Q3),nodes e<=m->9223372036854775808+m<=N->nodes e<=1759218604390->Ze N e.kind e.value.k e.value.n e.value.s e.var e.op e.kids=some e.kids:=by
 intro m;induction m with
 |zero=>intro N e h;rw[Oj]at h;omega
 | succ m ih=>
   intro N e hn hN hb;obtain⟨N,rfl⟩:∃k,N=k+1:=⟨N-1,au⟩
   rw[Oj]at hn hb;have hk:=Zj e.kids;show Q71 N (Ze N) e.kind e.value.k e.value.n e.value.s e.var e.op e.kids=some e.kids;unfold Q71;rw[QC au,CK au (λx U=>ih N x (by have:=UL U;omega) au (by have:=UL U;omega)) e.kids.length 0 N au au,Q1]
theorem Ij {N:Nat} {c:Qq} (U:9223372036854775808+1000000<=N)(ha:c.args.length<=1000000)(ht:nodes c.test<=1000000):Zb N c.kind c.type c.args c.test.kind c.test.value.k c.test.value.n c.test.value.s c.test.var c.test.op c.test.kids=some c.test.kids:=by
 unfold Zb;rw[QC au,Je 1000000 N c.test ht U au,Q1]
section
variable {S:fY} {I:fb->Prop} {P:Qg->Prop} {C:gA} {loc:Loc} {s s':Qe} {facts:aq Qg} {T:dc} {Ta:Nat->dc} {B:Nat->aq Int->dc×dc} {Zo:Nat->Prop} {di:bf Nat}
theorem Inv.frame (h:Inv S C T Ta B Zo di loc s)(hs:∀b o,s b=some o->s' b=some o):Inv S C T Ta B Zo di loc s':=by
 refine⟨?_,λr R hr=>?_,λr R k sc hr hk hz=>?_,λA hA=>?_,λp r π hp=>?_,h.inj,h.root,h.le⟩;· obtain⟨x,h1,U⟩:=h.net;exact⟨x,hs _ _ h1,U⟩
 · obtain⟨x,h1,U⟩:=h.row r R hr;exact⟨x,hs _ _ h1,U⟩
 ·have h0:=h.step r R k sc hr hk hz;unfold jg at h0⊢;split at h0;· obtain⟨x,h1,U⟩:=h0;exact⟨x,hs _ _ h1,U⟩
  · obtain⟨x,h1,U⟩:=h0;exact⟨x,hs _ _ h1,U⟩
  · obtain⟨x,h1,U⟩:=h0;exact⟨x,hs _ _ h1,U⟩
 · obtain⟨x,h1,U⟩:=h.al A hA;exact⟨x,hs _ _ h1,U⟩
 · obtain⟨R,x,h1,U,h3⟩:=h.part p r π hp;exact⟨R,x,h1,hs _ _ U,h3⟩
def setAl (C:gA)(m:MS cq Nat)(az:aq K3):gA:={C with alphas:=m,als:=az}
theorem Inv.setAl {x:gP} {m:MS cq Nat} {az:aq K3} (h:Inv S C T Ta B Zo di loc s)(hx:s C.g=some (.net x))(ha:∀A∈az,K4 (Ta A.b) A (s A.b)):
  Inv S (setAl C m az) T Ta B Zo di loc (dp s C.g (.net {x with alphas:=m})):=by
 have ne:∀b o,s b=some o->(∀z,o≠.net z)->(dp s C.g (.net {x with alphas:=m})) b=some o:=λb o h1 U=>by
  rw[QI (λe=>by rw[e,hx]at h1;cases h1;exact U _ rfl)];exact h1
 refine⟨?_,λr R hr=>?_,λr R k sc hr hk hz=>?_,λA hA=>?_,λp r π hp=>?_,h.inj,h.root,h.le⟩
 ·obtain⟨y,h1,a2,a3,a4,a5,a6,a7,a8⟩:=h.net;rw[hx]at h1;cases h1;exact⟨_,jH _ _ _,a2,a3,a4,a5,rfl,a7,a8⟩
 · obtain⟨y,h1,U⟩:=h.row r R hr;exact⟨y,ne _ _ h1 cr,U⟩
 ·have h0:=h.step r R k sc hr hk hz;unfold jg at h0⊢;split at h0;· obtain⟨y,h1,U⟩:=h0;exact⟨y,ne _ _ h1 cr,U⟩
  · obtain⟨y,h1,U⟩:=h0;exact⟨y,ne _ _ h1 cr,U⟩
  · obtain⟨y,h1,U⟩:=h0;exact⟨y,ne _ _ h1 cr,U⟩
 · obtain⟨y,h1,U⟩:=ha A hA;exact⟨y,ne _ _ h1 cr,U⟩
 · obtain⟨R,y,h1,U,h3⟩:=h.part p r π hp;exact⟨R,y,h1,ne _ _ U cr,h3⟩
structure Uh (C:gA) (n:Nat):Prop where
 A:ZH C
 keyed:∀k a,C.alphas.look k=some a->∃A∈C.als,A.b=a/\k.data.toList=Ck A.kind A.args
 good:∀A∈C.als,eM A.kind/\(∀a∈A.args,tL a)/\A.args.length<=1000/\wb C.types A.kind ((A.args.length:Nat):Int)=true
 few:C.alphas.keys.length<=n
theorem G3 {a:fK} {l:aq fK}:jQ (l++[a])=jQ l++44::(zd a.v).data.toList:=by
 unfold jQ;rw[List.flatMap_append];simp
theorem ME {l:aq fK} (h:∀a∈l,qv a.v):∀a∈jW l,qv a.v:=λa U=>by
 obtain⟨b,hb,rfl⟩:=Q'.1 U;split;· exact h b hb
 · exact⟨by show eM 0;unfold eM;omega,by show 0<=_;omega⟩
theorem GB {N n:Nat} {c:Qq} {Q:bf Nat×Qe->Prop} (hN:9223372036854775808<=N)(h:Inv S C (fo []) (λ_=>fo []) B Zo di loc s)(hK:Uh C n)(Fh:eM c.type)(GU:c.args.length<=1000)(TJ:∀a∈jW c.args,tL a)(iR:∀a∈c.args,qv a.v)(Xm:wb C.types c.type ((c.args.length:Nat):Int)=true)
  (hQ:∀m az A s',Inv S (setAl C m az) (fo []) (λ_=>fo []) B Zo di loc s'->Uh (setAl C m az) (n+1)->A∈az->A.kind=c.type->A.args=jW c.args->(∀A'∈C.als,A'∈az)->(∀b o,b≠C.g->s b=some o->s' b=some o)->Q (some A.b,s')):
  UC N C.g c.kind c.type c.args c.test.kind c.test.value.k c.test.value.n c.test.value.s c.test.var c.test.op c.test.kids s Q:=by
 have hml:(jW c.args).length=c.args.length:=z' _;obtain⟨xn,n1,n2,n3,n4,n5,n55,n6,n8,_⟩:=h.gNet;refine wq λga=>kI λg hg=>?_;have hgn:g≠C.g:=λe=>by rw[e,n2]at hg;cases hg
 refine mT λkj1 IE=>?_
 have fin:∀p cc,kj1 (dp s g (.alpha ⟨c.type,jW c.args,p,cc,MS.nil,ga⟩)) Q:=λp cc=>by
  subst IE
  have gN:Go.Proofs.YtocfkfhdcnjklaaGreatDoor.gNet (dp s g (.alpha ⟨c.type,jW c.args,p,cc,MS.nil,ga⟩)) C.g=some xn:=by
   unfold Go.Proofs.YtocfkfhdcnjklaaGreatDoor.gNet;rw[QI (Ne.symm hgn),n2]
  have sN:(dp s g (.alpha ⟨c.type,jW c.args,p,cc,MS.nil,ga⟩)) C.g=some (.net xn):=by rw[QI (Ne.symm hgn),n2]
  have keep:∀b o,s b=some o->(dp s g (.alpha ⟨c.type,jW c.args,p,cc,MS.nil,ga⟩)) b=some o:=λb o hb=>by
   rw[QI (λe=>by rw[e,hg]at hb;cases hb)];exact hb
  refine Qo (a:=⟨c.type,jW c.args,p,cc,MS.nil,ga⟩) (by unfold wa;rw[jH]) ?_;refine gY Fh ?_;refine mT λkj2 Rm=>?_
  have a2p:∀key:cq,key.data.toList=Ck c.type (jW c.args)->kj2 key Q:=λkey sk=>by
   subst Rm;refine mT λkj3 hk3=>?_
   refine mT λkj4 hk4=>?_;refine Qo gN ?_;refine A7 (λog=>?_) (λa ha=>?_)
   ·subst hk4;refine kE rfl ?_;refine Qo gN ?_;refine nF ?_;subst hk3;refine Qo (a:={xn with alphas:=MS.put xn.alphas key g}) (by unfold Go.Proofs.YtocfkfhdcnjklaaGreatDoor.gNet;rw[jH]) ?_;refine FF (a:=g) (by rw[MS.look_put,if_pos rfl]) ?_;have a38:C.alphas.look key=none:=by rw[<-n6];exact og
    have a0B:K4 (fo []) ⟨g,c.type,jW c.args⟩ (dp s g (.alpha ⟨c.type,jW c.args,p,cc,MS.nil,ga⟩) g):=⟨_,jH _ _ _,rfl,rfl,g!,λi=>rfl⟩
    have hinv:=(h.frame keep).setAl (m:=C.alphas.put key g) (az:=C.als++[⟨g,c.type,jW c.args⟩]) sN (λA U=>by
     rcases y'.1 U with U|U;· obtain⟨y,h1,h2⟩:=h.al A U;exact⟨y,keep _ _ h1,h2⟩
     · rw[g'.1 U];exact a0B)
    have e6:(({xn with alphas:=MS.put xn.alphas key g}:gP))={xn with alphas:=C.alphas.put key g}:=by rw[n6]
    rw[e6];refine hQ _ _ ⟨g,c.type,jW c.args⟩ _ hinv ?_ (h! _ (g'.2 rfl)) rfl rfl (λA' wK=>a! _ wK) (λb o hb ho=>by rw[QI hb];exact keep b o ho);refine⟨⟨λk a ha=>?_,λA U=>?_⟩,λk a ha=>?_,λA U=>?_,?_⟩
    ·have F2:(C.alphas.put key g).look k=some a:=ha;rw[MS.look_put]at F2;split at F2;· cases F2;exact⟨_,h! _ (g'.2 rfl),rfl⟩
     · obtain⟨A,h1,h2⟩:=hK.A.ofKey k a F2;exact⟨A,a! _ h1,h2⟩
    ·rcases y'.1 U with U|U
     ·obtain⟨k,hk⟩:=hK.A.key A U;exact⟨k,by show(C.alphas.put key g).look k=_;rw[MS.look_put,if_neg (λe=>by rw[e,a38]at hk;cases hk)];exact hk⟩
     ·rw[g'.1 U];exact⟨key,by show(C.alphas.put key g).look key=_;rw[MS.look_put,if_pos rfl]⟩
    ·have F2:(C.alphas.put key g).look k=some a:=ha;rw[MS.look_put]at F2;split at F2
     ·rename_i e;cases F2;exact⟨_,h! _ (g'.2 rfl),rfl,by rw[e];exact sk⟩
     · obtain⟨A,h1,h2⟩:=hK.keyed k a F2;exact⟨A,a! _ h1,h2⟩
    ·rcases y'.1 U with U|U;· exact hK.good A U
     ·rw[g'.1 U];exact⟨Fh,TJ,by show(jW c.args).length<=_;omega,by show wb C.types c.type (((jW c.args).length:Nat):Int)=true;rw[hml];exact Xm⟩
    ·show(C.alphas.put key g).keys.length<=n+1;rw[MS.keys_put_eq];have:=hK.few;split;· omega
     · rw[M',S'];omega
   ·subst hk4;refine B9 rfl ?_;subst hk3;refine Qo gN ?_;refine FF ha ?_;rw[n6]at ha;obtain⟨A,rv,rfl,OE⟩:=hK.keyed key a ha;rw[sk]at OE;obtain⟨g1,g2,g3,g4⟩:=hK.good A rv;obtain⟨e1,e2⟩:=key_inj Fh g1 TJ g2 OE;have hinv:Inv S (Go.Proofs.YtocfkfhdcnjklaaGreatDoor.setAl C C.alphas C.als) (fo []) (λ_=>fo []) B Zo di loc (dp s g (.alpha ⟨c.type,jW c.args,p,cc,MS.nil,ga⟩)):=h.frame keep;exact hQ C.alphas C.als A _ hinv ⟨⟨hK.A.ofKey,hK.A.key⟩,hK.keyed,hK.good,D! hK.few⟩ rv e1.symm e2.symm (λ_ h=>h) (λb o _ ho=>keep b o ho)
  refine z7 (λ(u,acc)=>u<=c.args.length/\acc.data.toList=Ck c.type ((jW c.args).take u)/\acc.size<=21+u*140737488351234) (λ(u,_)=>c.args.length-u) ?_ N (0,wy c.type) ⟨W' _,?_,?_⟩ (by dsimp only;omega)
  ·rintro⟨u,acc⟩ ag ⟨hu,WQ,has⟩ gQ;refine jj (λhb=>?_) (λhb=>?_)
   ·have cj:u<(jW c.args).length:=of_decide_eq_true hb;have lN:=a' cj;have hao:qv (jW c.args)[u].v:=ME iR _ (w' cj);have ZU:=Jl hao.2;have e1:(⟨#[44]⟩:cq).size=1:=rfl;have e2:((⟨#[44]⟩:cq)++zd (jW c.args)[u].v).size=1+(zd (jW c.args)[u].v).size:=by rw[ByteArray.size_append,e1]
    refine Qo lN (Qo (Su N hao.1 hao.2) (gY (by rw[e1];omega) (gY (by rw[e2];omega) (gY au ?_))));refine gQ (u+1,_) ⟨au,?_,?_⟩ (by dsimp only;omega)
    ·rw[E',lN];show _=Ck c.type ((jW c.args).take u++[(jW c.args)[u]]);unfold Ck;rw[G3,<-List.append_assoc];have:acc.data.toList=(wy c.type).data.toList++jQ ((jW c.args).take u):=WQ;rw[<-this];simp[ByteArray.data_append]
    · rw[ByteArray.size_append,e2,Nat.add_mul];omega
   ·have pN:¬u<(jW c.args).length:=of_decide_eq_false hb;rw[H' au]at WQ;exact a2p acc WQ
  · rw[v!];unfold Ck jQ;simp
  · have:=y8 (n:=c.type);omega
 refine z7 (λ(u,σ)=>u<=c.args.length/\∃p cc,σ=dp s g (.alpha ⟨c.type,jW (c.args.take u),p,cc,MS.nil,ga⟩)) (λ(u,_)=>c.args.length-u) ?_ N (0,_) ⟨W' _,none,0,rfl⟩ (by dsimp only;omega);rintro⟨u,σ⟩ ag ⟨hu,p,cc,H6⟩ gQ;refine jj (λhb=>?_) (λhb=>?_)
 ·have cj:u<c.args.length:=of_decide_eq_true hb;have lN:=a' cj;refine Qo lN ?_;refine mT λkj5 hk5=>?_
  have hk:∀(a1 a2 a3 a4:Int) (a5:cq),(⟨a1,a2,⟨a3,a4,a5⟩⟩:fK)=(if c.args[u].k=4 then c.args[u]else Dx)->kj5 (a1,a2,a3,a4,a5) Q:=λa1 a2 a3 a4 a5 he=>by
   subst hk5;refine Qo (a:=⟨c.type,jW (c.args.take u),p,cc,MS.nil,ga⟩) (by unfold wa;rw[H6,jH]) ?_;have IF:(jW (c.args.take u)).length<=u:=by unfold jW;rw[z',G!];omega
   refine gY (by show(jW (c.args.take u)).length+1<=_;omega) ?_;refine gY au ?_;refine wq λp'=>wq λc'=>nF ?_;refine gQ (u+1,_) ⟨au,p',c',?_⟩ (by dsimp only;omega);rw[H6,tC,he];congr 4;rw[E',lN];unfold jW;rw[F'];rfl
  refine jj (λhb=>?_) (λhb=>?_)
  ·have h4:c.args[u].k≠4:=by simpa using hb
   exact hk 1 0 0 0 ⟨#[]⟩ (by rw[if_neg h4];rfl)
  ·have h4:c.args[u].k=4:=by simpa using hb
   exact hk _ _ _ _ _ (by rw[if_pos h4])
 ·have pN:¬u<c.args.length:=of_decide_eq_false hb;rw[H' au]at H6;rw[H6];exact fin p cc
end
end
section
open Go Go.RowKit Classical
theorem jd.top {loc:Loc} {n p r:Nat} (h:jd loc n)(hp:loc p=none):jd (j8 loc p (r,[])) n:=by
 obtain⟨L,U,a2,rfl⟩:=h;refine⟨L,U,λq=>?_,rfl⟩;rw[a2];unfold j8;by_cases hq:q=p
 ·subst hq;rw[hp,if_pos rfl];constructor;· rintro⟨_,_,h,_⟩;cases h
  · rintro⟨_,_,h,h2⟩;cases h;exact absurd rfl h2
 · rw[if_neg hq]
theorem jd.untop {loc:Loc} {n p r:Nat} (h:jd (j8 loc p (r,[])) n)(hp:loc p=none):jd loc n:=by
 obtain⟨L,U,a2,rfl⟩:=h;refine⟨L,U,λq=>?_,rfl⟩;rw[a2];unfold j8;by_cases hq:q=p
 ·subst hq;rw[hp,if_pos rfl];constructor;· rintro⟨_,_,h,h2⟩;cases h;exact absurd rfl h2
  · rintro⟨_,_,h,_⟩;cases h
 · rw[if_neg hq]
def kV (b k:Nat)(sc:fz)(o:bf PO):Prop:=match sc.st with
 | .join _=>∃pA,o=some (.join ⟨sc.al,b,((k:Nat):Int),sc.c,MS.nil,pA⟩)
 | .nt _=>∃pA,o=some (.nt ⟨sc.al,b,((k:Nat):Int),sc.c,MS.nil,pA⟩)
 | .test _=>∃pA,o=some (.test ⟨b,((k:Nat):Int),sc.c,MS.nil,pA⟩)
theorem kV.some {b k:Nat} {sc:fz} {o:bf PO} (h:kV b k sc o):∃y,o=some y/\(∀z,y≠.row z)/\(∀z,y≠.net z)/\(∀z,y≠.part z)/\∀z,y≠.alpha z:=by
 unfold kV at h;split at h;· obtain⟨pA,h⟩:=h;exact⟨_,h,cr,cr,cr,λ_ e=>by cases e⟩
 · obtain⟨pA,h⟩:=h;exact⟨_,h,cr,cr,cr,λ_ e=>by cases e⟩
 · obtain⟨pA,h⟩:=h;exact⟨_,h,cr,cr,cr,λ_ e=>by cases e⟩
theorem jg.some {U:bf Nat} {loc:Loc} {r:Nat} {R:fH} {k:Nat} {sc:fz} {o:bf PO} (h:jg U loc r R k sc o):∃y,o=some y/\(∀z,y≠.row z)/\(∀z,y≠.net z)/\(∀z,y≠.part z)/\∀z,y≠.alpha z:=by
 unfold jg at h;split at h;· obtain⟨z,h,_⟩:=h;exact⟨_,h,cr,cr,cr,λ_ e=>by cases e⟩
 · obtain⟨z,h,_⟩:=h;exact⟨_,h,cr,cr,cr,λ_ e=>by cases e⟩
 · obtain⟨z,h,_⟩:=h;exact⟨_,h,cr,cr,cr,λ_ e=>by cases e⟩
def pU (C:gA)(sc:fz):Prop:=(∀a,sc.st≠.test a)->∃A∈C.als,A.b=sc.al/\A.kind=sc.c.type/\A.args=jW sc.c.args
abbrev Ge (S:fY) (C:gA) (loc:Loc) (s:Qe):Prop:=Inv S C (fo []) (λ_=>fo []) (λ_ _=>(fo [],fo [])) (λ_=>False) none loc s
structure nP (S:fY) (C:gA) (n b j:Nat) (conds:List Qq) (steps:List fz) (loc:Loc) (s:Qe):Prop where
 inv:Ge S C loc (del s b)
 al:Uh C n
 row:∃sP sC wA,s b=some (.row ⟨C.g,steps.map (·.st),sP,sC,MS.nil,wA⟩)
 len:steps.length=j
 conds:steps.map (·.c)=conds.take j
 obj:∀k sc,steps[k]? =some sc->I5 sc/\kV b k sc (s sc.st.adr)/\pU C sc
 inj:∀(k k':Nat) (sc ez:fz),steps[k]? =some sc->steps[k']? =some ez->sc.st.adr=ez.st.adr->k=k'
 old:∀(r:Nat) (R:fH) (k k':Nat) (sc ez:fz),C.rows[r]? =some R->R.steps[k]? =some sc->steps[k']? =some ez->sc.st.adr≠ez.st.adr
section
variable {S:fY} {I:fb->Prop} {P:Qg->Prop} {C:gA} {loc:Loc} {s s1:Qe} {n b j ga:Nat} {conds:aq Qq} {steps:aq fz}
theorem GH {O:Type} {s:Nat->bf O} {b:Nat} {o:O} (h:s b=none):del (dp s b o) b=s:=by
 funext c;unfold del dp;by_cases U:c=b;· rw[if_pos U,U,h]
 · rw[if_neg U,if_neg U]
theorem nP.push (h:nP S C n b j conds steps loc s) {m:MS cq Nat} {az:aq K3} {n':Nat} (hinv:Ge S (setAl C m az) loc s1)(GU:Uh (setAl C m az) n')(a0N:∀bb o,bb≠C.g->del s b bb=some o->s1 bb=some o)(has:∀A∈C.als,A∈az)(hga:s1 ga=none) {sc:fz} (fT:sc.st.adr=ga)(a0Q:I5 sc)(hc:conds[j]? =some sc.c) {o:PO} (ho:kV b j sc (some o))
  (Xj:pU (setAl C m az) sc) (hb:dp s1 ga o b=none) {sP:bf Addr} {sC wA:Nat}:nP S (setAl C m az) n' b (j+1) conds (steps++[sc]) loc (dp (dp s1 ga o) b (.row ⟨C.g,(steps++[sc]).map (·.st),sP,sC,MS.nil,wA⟩)):=by
 obtain⟨_,_,_,fl⟩:=h.row;obtain⟨xn,hn1,_⟩:=h.inv.net;have fC:∀bb y,s1 bb=some y->(dp s1 ga o) bb=some y:=λbb y hy=>by rw[QI (λe=>by rw[e,hga]at hy;cases hy)];exact hy
 have a2P:ga≠b:=λe=>by rw[e,jH]at hb;cases hb
 have gC:∀(k:Nat) (ez:fz),steps[k]? =some ez->ez.st.adr≠b/\∃y,s1 ez.st.adr=some y/\s ez.st.adr=some y:=λk ez hk=>by
  obtain⟨_,h2,_⟩:=h.obj k ez hk;obtain⟨y,h3,h4,h5,_⟩:=h2.some;have ep:ez.st.adr≠b:=λe=>by rw[e,fl]at h3;cases h3;exact h4 _ rfl
  have lD:del s b ez.st.adr=some y:=by rw[mE s ep];exact h3
  exact⟨ep,y,a0N _ _ (λe=>by rw[e,hn1]at lD;cases lD;exact h5 _ rfl) lD,h3⟩
 have Ma:∀k,(steps++[sc])[k]? =if k<j then steps[k]? else if k=j then some sc else none:=λk=>by
  rw[w!];rw[h.len];by_cases h1:k<j;· rw[if_pos h1,if_pos h1]
  ·rw[if_neg h1,if_neg h1];by_cases h2:k=j;· rw[if_pos h2,h2,u!];rfl
   · rw[if_neg h2,T' (by rw[S'];omega)]
 refine⟨?_,GU,⟨sP,sC,wA,by rw[jH];rfl⟩,by rw[M',h.len];rfl,?_,λk ez hk=>?_,λk k' x x' hk U he=>?_,λr R k k' x x' hr hk U he=>?_⟩
 ·rw[GH hb];exact hinv.frame fC
 · rw[F',h.conds,E',hc];rfl
 ·rw [Ma]at hk;split at hk
  ·obtain⟨h1,h2,h3⟩:=h.obj k ez hk;obtain⟨g1,y,g2,g3⟩:=gC k ez hk;refine⟨h1,?_,λht=>?_⟩;· rw[QI g1,fC _ _ g2,<-g3];exact h2
   ·obtain⟨A,q1,q2⟩:=h3 ht;exact⟨A,has A q1,q2⟩
  ·split at hk
   ·rename_i e;cases hk;subst e;refine⟨a0Q,?_,Xj⟩;rw[fT,QI a2P,jH];exact ho
   · cases hk
 ·rw [Ma]at hk U;split at hk
  ·split at U;· exact h.inj k k' x x' hk U he
   ·split at U
    ·cases U;obtain⟨_,y,g2,_⟩:=gC k x hk;rw[he,fT,hga]at g2;cases g2
    · cases U
  ·split at hk
   ·cases hk;split at U
    ·obtain⟨_,y,g2,_⟩:=gC k' x' U;rw[<-he,fT,hga]at g2;cases g2
    ·split at U
     ·rename_i e1 _ e2;rw[e1,e2]
     · cases U
   · cases hk
 ·rw [Ma]at U;split at U;· exact h.old r R k k' x x' hr hk U he
  ·split at U
   ·cases U;obtain⟨y,g1,_⟩:=(hinv.step r R k x hr hk (λhz=>hz)).some;rw[he,fT,hga]at g1;cases g1
   · cases U
def JH (C:gA)(R:fH)(p:bf Addr)(c:Nat):gA:={C with rows:=C.rows++[R],rP:=p,rC:=c}
theorem Pu {l:aq fH} {R U:fH} {r:Nat} (h:(l++[R])[r]? =some U):(r<l.length/\l[r]? =some U)\/(r=l.length/\U=R):=by
 rw[w!]at h;split at h;· rename_i cj;exact .inl ⟨cj,h⟩
 ·right;by_cases e:r=l.length
  ·rw[e,u!]at h;simp at h;exact⟨e,h.symm⟩
  · rw[T' (by rw[S'];omega)]at h;cases h
theorem nP.whole (h:nP S C n b j conds steps loc s) {xn:gP} {p:bf Addr} {c g ka:Nat} {hs:aq Bool} {vs:aq V} (hx:s C.g=some (.net xn))(hg:(dp s C.g (.net {xn with rows:=xn.rows++[b],rowsP:=p,rowsC:=c})) g=none) {sP:bf Addr} {sC wA:Nat} (fl:s b=some (.row ⟨C.g,steps.map (·.st),sP,sC,MS.nil,wA⟩)):
  Inv S (JH C ⟨b,steps,sP,sC,g,hs,vs⟩ p c) (fo []) (λ_=>fo []) (λ_ _=>(fo [],fo [])) (λ_=>False) (some g) (j8 loc g (C.rows.length,[])) (dp (dp s C.g (.net {xn with rows:=xn.rows++[b],rowsP:=p,rowsC:=c})) g (.part ⟨hs,vs,none,0,MS.nil,ka,none⟩)):=by
 have hI:=h.inv;have hgn:g≠C.g:=λe=>by rw[e,jH]at hg;cases hg
 have hsg:s g=none:=by rw[QI hgn]at hg;exact hg
 have hgb:g≠b:=λe=>by rw[e,fl]at hsg;cases hsg
 have Re:b≠C.g:=λe=>by rw[e,hx]at fl;cases fl
 have ZQ:loc g=none:=hI.none_loc (by rw[mE s hgb];exact hsg)
 have keep:∀bb o,bb≠C.g->s bb=some o->(dp (dp s C.g (.net {xn with rows:=xn.rows++[b],rowsP:=p,rowsC:=c})) g (.part ⟨hs,vs,none,0,MS.nil,ka,none⟩)) bb=some o:=λbb o h1 h2=>by
  rw[QI (λe=>by rw[e,hsg]at h2;cases h2),QI h1];exact h2
 have Hb:∀bb o,bb≠C.g->del s b bb=some o->(dp (dp s C.g (.net {xn with rows:=xn.rows++[b],rowsP:=p,rowsC:=c})) g (.part ⟨hs,vs,none,0,MS.nil,ka,none⟩)) bb=some o:=λbb o h1 h2=>keep bb o h1 (by
  unfold del at h2;split at h2;· cases h2
  · exact h2)
 have Me:del s b C.g=some (.net xn):=by rw[mE s (Ne.symm Re)];exact hx
 have YA:∀y l,loc y=some l->j8 loc g (C.rows.length,[]) y=some l:=λy l hl=>by
  unfold j8;rw[if_neg (λe=>by rw[e,ZQ]at hl;cases hl)];exact hl
 have cj:∀y r π,loc y=some (r,π)->r<C.rows.length:=λy r π hy=>by
  obtain⟨R,x,a1,_⟩:=hI.part y r π hy;exact(d!.1 a1).1
 have dn:∀y r π,j8 loc g (C.rows.length,[]) y=some (r,π)->(y=g/\r=C.rows.length/\π=[])\/loc y=some (r,π):=λy r π hy=>by
  unfold j8 at hy;split at hy;· rename_i e;cases hy;exact .inl ⟨e,rfl,rfl⟩
  · exact .inr hy
 refine⟨?_,λr R hr=>?_,λr R k sc hr hk _=>?_,λA hA=>?_,λq r π hq=>?_,λq q' l hq eR=>?_,λr R hr=>?_,λm hm=>?_⟩
 ·obtain⟨x,a1,a2,a3,a4,a5,a6,a7,a8,m,a9,iU⟩:=hI.net;rw[Me]at a1;cases a1;refine⟨{xn with rows:=xn.rows++[b],rowsP:=p,rowsC:=c},?_,a2,?_,rfl,rfl,a6,a7,a8,m,a9,iU.top ZQ⟩
  ·show(dp (dp s C.g _) g _) C.g=_;rw[QI (Ne.symm hgn),jH]
  ·show xn.rows++[b]=(C.rows++[(⟨b,steps,sP,sC,g,hs,vs⟩:fH)]).map λR=>R.b;rw[F',a3];rfl
 ·rcases Pu hr with⟨h1,h2⟩|⟨h1,rfl⟩
  ·obtain⟨y,b1,b2,b3,b4,b5,b6⟩:=hI.row r R h2;exact⟨y,Hb _ _ (λe=>by rw[e,Me]at b1;cases b1) b1,b2,b3,b4,b5,b6.fresh ZQ⟩
  ·refine ⟨_,keep _ _ Re fl,rfl,rfl,rfl,rfl,λy=>?_⟩;constructor;· intro hy;exact absurd hy MS.keys_nil
   ·rintro⟨⟨π,q1,_⟩,q2⟩;rcases dn y r π q1 with⟨e,_⟩|e;· exact absurd (by rw[e]) q2
    · have:=cj y r π e;omega
 ·rcases Pu hr with⟨h1,h2⟩|⟨h1,rfl⟩
  ·have U:=hI.step r R k sc h2 hk (λhz=>hz);obtain⟨y,g1,_,g3,_⟩:=U.some;have g4:=Hb _ _ (λe=>by rw[e,Me]at g1;cases g1;exact g3 _ rfl) g1;rw[g4,<-g1];unfold jg at U⊢;split at U;· obtain⟨z,b1,b2,b3,b4,b5,b6⟩:=U;exact⟨z,b1,b2,b3,b4,b5,b6.fresh ZQ⟩
   · obtain⟨z,b1,b2,b3,b4,b5,b6⟩:=U;exact⟨z,b1,b2,b3,b4,b5,b6.fresh ZQ⟩
   · exact U
  ·obtain ⟨_,U,_⟩:=h.obj k sc hk;obtain⟨y,g1,_,g3,_⟩:=U.some;have g4:=keep _ _ (λe=>by rw[e,hx]at g1;cases g1;exact g3 _ rfl) g1;rw[g4,<-g1]
   have Ma:LK (some g) (j8 loc g (C.rows.length,[])) r k (MS.nil:MS Nat Bool):=λy=>by
    constructor;· intro hy;exact absurd hy MS.keys_nil
    ·rintro⟨⟨π,q1,_⟩,q2⟩;rcases dn y r π q1 with⟨e,_⟩|e;· exact absurd (by rw[e]) q2
     · have:=cj y r π e;omega
   revert U;generalize s sc.st.adr=o;intro U;unfold kV at U;unfold jg;cases cx:sc.st with
   |join a=>rw[cx]at U;obtain⟨pA,U⟩:=U;exact⟨_,U,rfl,rfl,rfl,rfl,Ma⟩
   |nt a=>rw[cx]at U;obtain⟨pA,U⟩:=U;exact⟨_,U,rfl,rfl,rfl,rfl,Ma⟩
   |test a=>rw[cx]at U;obtain⟨pA,U⟩:=U;exact⟨_,U,rfl,rfl,rfl,λy=>MS.keys_nil⟩
 ·obtain⟨z,b1,b2⟩:=hI.al A hA;exact⟨z,Hb _ _ (λe=>by rw[e,Me]at b1;cases b1) b1,b2⟩
 ·rcases dn q r π hq with⟨rfl,rfl,rfl⟩|hq0
  ·refine ⟨⟨b,steps,sP,sC,q,hs,vs⟩,⟨hs,vs,none,0,MS.nil,ka,none⟩,by show(C.rows++[_])[C.rows.length]? =_;rw[l! (x! _),u!];rfl,jH _ _ _,⟨by cases steps<;>rfl,λ_=>⟨rfl,rfl,rfl⟩,(λρ i e=>by simp at e),λy=>?_,λe=>absurd rfl e,λsc a _ _ hk=>?_,g!⟩⟩
   ·constructor;· intro hy;exact absurd hy MS.keys_nil
    ·rintro⟨i,hi⟩;rcases dn y _ _ hi with⟨_,_,e⟩|e;· simp at e
     · have:=cj y _ _ e;omega
   ·obtain⟨y,i,hi⟩:=hk;rcases dn y _ _ hi with⟨_,_,e⟩|e;· simp at e
    · have:=cj y _ _ e;omega
  ·obtain ⟨R,x,c1,c2,c3⟩:=hI.part q r π hq0
   have ei:(JH C ⟨b,steps,sP,sC,g,hs,vs⟩ p c).rows[r]? =some R:=by
    show(C.rows++[_])[r]? =_;rw[List.getElem?_append_left (d!.1 c1).1];exact c1
   have a0O:∀y i,j8 loc g (C.rows.length,[]) y=some (r,π++[i])->loc y=some (r,π++[i]):=λy i hy=>by
    rcases dn y _ _ hy with⟨_,_,e⟩|e;· simp at e
    · exact e
   refine⟨R,x,ei,Hb _ _ (λe=>by rw[e,Me]at c2;cases c2) c2,⟨c3.env,c3.top,λρ i e=>?_,λy=>?_,λ_=>c3.blocks bh,λsc a e1 e2 hk=>?_,c3.kn⟩⟩
   ·obtain⟨d1,q2,d2,d3⟩:=c3.up ρ i e;exact⟨d1,q2,d2,YA _ _ d3⟩
   ·rw[c3.kids];constructor;· rintro⟨i,hi⟩;exact⟨i,YA _ _ hi⟩
    · rintro⟨i,hi⟩;exact⟨i,a0O y i hi⟩
   ·obtain⟨y,i,hi⟩:=hk;exact c3.free sc a e1 e2 ⟨y,i,a0O y i hi⟩
 ·obtain⟨r,π⟩:=l;rcases dn q r π hq with⟨e1,e2,e3⟩|h1<;>rcases dn q' r π eR with⟨f1,f2,f3⟩|h2;· rw[e1,f1]
  · have:=cj _ _ _ h2;omega
  · have:=cj _ _ _ h1;omega
  · exact hI.inj _ _ _ h1 h2
 ·rcases Pu hr with⟨h1,h2⟩|⟨h1,rfl⟩
  · exact YA _ _ (hI.root r R h2)
  · rw[h1];exact if_pos rfl
 · exact hI.le m (hm.untop ZQ)
theorem nP.wfc (h:nP S C n b j conds steps loc s)(hW:pV C) {g c:Nat} {p sP:bf Addr} {sC:Nat} {hs:aq Bool} {vs:aq V}:pV (JH C ⟨b,steps,sP,sC,g,hs,vs⟩ p c):=by
 have hb:∀(r:Nat) (R:fH),C.rows[r]? =some R->R.b≠b:=λr R hr e=>by
  obtain⟨y,h1,_⟩:=h.inv.row r R hr;rw[e,uf]at h1;cases h1
 refine⟨λr r' R R' hr ei e=>?_,λr r' R R' k k' sc ez hr ei hk eO e=>?_,λr R k sc hr hk=>?_⟩
 ·rcases Pu hr with⟨h1,U⟩|⟨h1,rfl⟩<;>rcases Pu ei with⟨h3,h4⟩|⟨h3,rfl⟩
  · exact hW.rows r r' R R' U h4 e
  · exact absurd e (hb r R U)
  · exact absurd e.symm (hb r' R' h4)
  · rw[h1,h3]
 ·rcases Pu hr with⟨h1,U⟩|⟨h1,rfl⟩<;>rcases Pu ei with⟨h3,h4⟩|⟨h3,rfl⟩
  · exact hW.steps r r' R R' k k' sc ez U h4 hk eO e
  · exact absurd e (h.old r R k k' sc ez U hk eO)
  · exact absurd e.symm (h.old r' R' k' k ez sc h4 eO hk)
  · exact⟨by rw[h1,h3],h.inj k k' sc ez hk eO e⟩
 ·rcases Pu hr with⟨h1,U⟩|⟨h1,rfl⟩
  · exact hW.kind r R k sc U hk
  · exact(h.obj k sc hk).1
end
end
section
open Go Go.RowKit Classical
theorem PX (e:Q3):(⟨e.kind,e.value,e.var,e.op,e.kids⟩:Q3)=e:=by cases e;rfl
theorem PL (c:Qq):(⟨c.kind,c.type,c.args,(⟨c.test.kind,c.test.value,c.test.var,c.test.op,c.test.kids⟩:Q3)⟩:Qq)=c:=by rw[PX]
structure pP (ts:List Q9) (c:Qq):Prop where
 kind:c.kind=1\/c.kind=2\/c.kind=3
 nodes:nodes c.test<=1000000
 args:c.args.length<=1000
 fact:c.kind=1\/c.kind=2->eM c.type/\(∀a∈jW c.args,tL a)/\(∀a∈c.args,qv a.v)/\wb ts c.type ((c.args.length:Nat):Int)=true
def FJ (R:fH):aq Qq×fb:=(R.steps.map (·.c),(R.hs,R.vs))
section
variable {S:fY} {I:fb->Prop} {P:Qg->Prop} {C:gA} {loc:Loc} {s s1:Qe} {n b j ga N:Nat} {conds:aq Qq} {steps:aq fz} {ts:aq Q9}
theorem nP.start (hI:Ge S C loc s)(hA:Uh C n)(hb:s b=none) {wA:Nat}:nP S C n b 0 conds [] loc (dp s b (.row ⟨C.g,[],none,0,MS.nil,wA⟩)):=
 ⟨by rw[GH hb];exact hI,hA,⟨none,0,wA,jH _ _ _⟩,rfl,by rw[v!];rfl,(λk sc h=>by simp at h),(λk k' sc U h=>by simp at h),λr R k k' sc U _ _ h=>by simp at h⟩
theorem H8:∀{l:aq fz} {e:fb},(uP S [] l e).length<=l.length
 |[],e=>by simp[uP]
 | sc::l,e=>by
   have ih:=λU=>H8 (l:=l) (e:=U);unfold uP Gp;rw[B'];cases cx:sc.st with
   |join a=>simp
   | nt a=>
     simp only[E!,H!,K!];split
     ·rename_i U _;have:=ih U;rw[B',z'];omega
     · simp
   | test a=>
     simp only[E!,H!,K!];split
     ·rename_i U _;have:=ih U;rw[B',z'];omega
     · simp
theorem vL:∀{l:aq fH},(∀R∈l,R.steps.length<=8)->ia S [] l<=8*l.length
 |[],_=>by simp[ia]
 | R::l,h=>by
   have h1:=vL (l:=l) λU Ra=>h U (t' _ Ra);have h2:=H8 (S:=S) (l:=R.steps) (e:=(R.hs,R.vs));have h3:=h R j';have h4:ia S [] (R::l)=(uP S [] R.steps (R.hs,R.vs)).length+ia S [] l:=rfl;rw[h4,B'];omega
theorem Jo {k n m:Int} (h:wb ts k n=true)(h':wb ts k m=true):n=m:=by
 unfold wb at h h';split at h
 ·rename_i t e;rw[e]at h';simp only[b',beq_iff_eq]at h h';rw[<-h.2,<-h'.2]
 · cases h
structure rl (S:fY) (ts:List Q9) (rd:List (List Qq×fb)) (u:Nat) (C:gA) (loc:Loc) (s:Qe):Prop where
 types:C.types=ts
 inv:Ge S C loc s
 al:Uh C (u*8)
 W:pV C
 comp:yR S C (fo []) loc
 rows:C.rows.map FJ=rd
 sal:∀R∈C.rows,∀sc∈R.steps,pU C sc
 rP:C.rP.isNone=false
theorem rl.mem {rd:aq (aq Qq×fb)} {u:Nat} (h:rl S ts rd u C loc s) {R:fH} (U:R∈C.rows):(R.steps.map (·.c),(R.hs,R.vs))∈rd:=by
 rw[<-h.rows];exact Q'.2 ⟨R,U,rfl⟩
theorem a1F {x:Q8} {jZ u:Nat} {C0:gA} {s93:Qe} {K:Qe->WM (bf Nat×Qe)} {Q:bf Nat×Qe->Prop} (hN:B0+4000000<=N)(h8:x.conds.length<=8)(hc:∀c∈x.conds,pP C0.types c)(h:nP S C0 (u*8) jZ 0 x.conds [] loc s93)
   (hK:∀m az steps s',nP S (setAl C0 m az) (u*8+x.conds.length) jZ x.conds.length x.conds steps loc s'->(∀A∈C0.als,A∈az)->K s' Q):
   jR (λ(a2e:(Nat×Qe)->WM ((bf Nat)×Qe)) ((ab,aa))=>
  fZ ((decide (ab<x.conds.length))) (
   lA (λae=>(
    fN (ab+1<=9223372036854775807)<|
    a2e (ab+1,ae)
  )) λah=>
  QA (x.conds[ab]?) λU=>
  QA (Zb N U.kind U.type U.args U.test.kind U.test.value.k U.test.value.n U.test.value.s U.test.var U.test.op U.test.kids) λv43=>
  fZ ((U.kind==1)) (
   QA (gRow aa jZ) λOa=>
   fu (UC N C0.g U.kind U.type U.args U.test.kind U.test.value.k U.test.value.n U.test.value.s U.test.var U.test.op U.test.kids (del aa jZ)) λ(v70,a3w)=>
   QA (v70) λa73=>
   lM λ(GQ:Nat)=>
   so a3w (λ_=>PO.join ⟨a73,jZ,((ab:Nat):Int),(⟨U.kind,U.type,U.args,(⟨U.test.kind,U.test.value,U.test.var,U.test.op,v43⟩:Q3)⟩:Qq),(MS.nil:MS Nat Bool),GQ⟩) λOD a1G=>
   fN (Oa.steps.length+([(.join OD:cz)]).length<=8796093022208)<|
   lM λ(XN:bf Addr)=>
   lM λ(Vn:Nat)=>
   j4 (dp a1G jZ (PO.row ({Oa with steps:=Oa.steps++([(.join OD:cz)]),stepsP:=XN,stepsC:=Vn}))) λa3x=>
   jL a1G jZ<|
   ah a3x
  ) (
   fZ ((U.kind==2)) (
    QA (gRow aa jZ) λOb=>
    fu (UC N C0.g U.kind U.type U.args U.test.kind U.test.value.k U.test.value.n U.test.value.s U.test.var U.test.op U.test.kids (del aa jZ)) λ(v88,a3y)=>
    QA (v88) λa91=>
    lM λ(GQ:Nat)=>
    so a3y (λ_=>PO.nt ⟨a91,jZ,((ab:Nat):Int),(⟨U.kind,U.type,U.args,(⟨U.test.kind,U.test.value,U.test.var,U.test.op,v43⟩:Q3)⟩:Qq),(MS.nil:MS Nat Bool),GQ⟩) λg91 a1H=>
    fN (Ob.steps.length+([(.nt g91:cz)]).length<=8796093022208)<|
    lM λ(p94:bf Addr)=>
    lM λ(c94:Nat)=>
    j4 (dp a1H jZ (PO.row ({Ob with steps:=Ob.steps++([(.nt g91:cz)]),stepsP:=p94,stepsC:=c94}))) λa3z=>
    jL a1H jZ<|
    ah a3z
   ) (
    QA (gRow aa jZ) λOc=>
    lM λ(GQ:Nat)=>
    so (del aa jZ) (λ_=>PO.test ⟨jZ,((ab:Nat):Int),(⟨U.kind,U.type,U.args,(⟨U.test.kind,U.test.value,U.test.var,U.test.op,v43⟩:Q3)⟩:Qq),(MS.nil:MS Nat Bool),GQ⟩) λg55 a1I=>
    fN (Oc.steps.length+([(.test g55:cz)]).length<=8796093022208)<|
    lM λ(p58:bf Addr)=>
    lM λ(c58:Nat)=>
    j4 (dp a1I jZ (PO.row ({Oc with steps:=Oc.steps++([(.test g55:cz)]),stepsP:=p58,stepsC:=c58}))) λa3A=>
    jL a1I jZ<|
    ah a3A
   )
  )
  ) (
   K aa
  )
 ) N (0,s93) Q:=by
 have F1:9223372036854775808+4000000<=N:=by have h':=hN;unfold B0 at h';omega
 refine z7 (λ(j,σ)=>j<=x.conds.length/\∃m az steps,nP S (setAl C0 m az) (u*8+j) jZ j x.conds steps loc σ/\∀A∈C0.als,A∈az) (λ(j,_)=>x.conds.length-j) ?_ N (0,s93) ⟨W' _,C0.alphas,C0.als,[],h,λ_ h=>h⟩ (by dsimp only;omega);rintro⟨j,σ⟩ ag ⟨hj,m,az,steps,hB,has⟩ gQ;refine jj (λhb=>?_) (λhb=>?_)
 · have cj:j<x.conds.length:=of_decide_eq_true hb;obtain⟨c,lN⟩:∃c,x.conds[j]? =some c:=⟨_,a' cj⟩
   have IA:=hc c (j! lN);refine mT λkj3 hk3=>?_
   have X1:∀m' Tj FR HT,nP S (setAl C0 m' Tj) (u*8+(j+1)) jZ (j+1) x.conds FR loc HT->(∀A∈C0.als,A∈Tj)->kj3 HT Q:=λm' Tj FR HT h1 h2=>by
     subst hk3;refine gY au ?_;exact gQ (j+1,HT) ⟨au,m',Tj,FR,h1,h2⟩ (by dsimp only;omega)
   refine Qo lN ?_;refine Qo (Ij au (by have:=IA.args;omega) IA.nodes) ?_;rw[PL];obtain⟨sP,sC,wA,fl⟩:=hB.row;have hsl:(steps.map (·.st)).length=j:=by rw[z',hB.len]
   refine jj (λh1=>?_) (λh1=>jj (λh2=>?_) (λh2=>?_))
   · have IE:c.kind=1:=by simpa using h1
     refine Qo (tf fl) ?_;refine gV ?_;refine GB (C:=setAl C0 m az) (n:=u*8+j) au hB.inv hB.al (IA.fact (.inl IE)).1 IA.args (IA.fact (.inl IE)).2.1 (IA.fact (.inl IE)).2.2.1 (IA.fact (.inl IE)).2.2.2 λm' Tj A s' g1 g2 g3 g4 g5 g6 g7=>?_;refine Qo rfl (wq λGQ=>kI λOD M3=>gY (by show(steps.map (·.st)).length+1<=_;omega) (wq λXN=>wq λVn=>nF (kX λOH=>?_)));have hp:=hB.push (sP:=XN) (sC:=Vn) (wA:=wA) (sc:=⟨.join OD,A.b,c⟩) (o:=PO.join ⟨A.b,jZ,((j:Nat):Int),c,MS.nil,GQ⟩) g1 g2 g7 g6 M3 rfl IE lN ⟨GQ,rfl⟩ (λ_=>⟨A,g3,rfl,g4,g5⟩) OH;rw[F']at hp;exact X1 m' Tj _ _ hp λA' wK=>g6 A' (has A' wK)
   · have Rm:c.kind=2:=by simpa using h2
     refine Qo (tf fl) ?_;refine gV ?_;refine GB (C:=setAl C0 m az) (n:=u*8+j) au hB.inv hB.al (IA.fact (.inr Rm)).1 IA.args (IA.fact (.inr Rm)).2.1 (IA.fact (.inr Rm)).2.2.1 (IA.fact (.inr Rm)).2.2.2 λm' Tj A s' g1 g2 g3 g4 g5 g6 g7=>?_;refine Qo rfl (wq λGQ=>kI λOD M3=>gY (by show(steps.map (·.st)).length+1<=_;omega) (wq λXN=>wq λVn=>nF (kX λOH=>?_)));have hp:=hB.push (sP:=XN) (sC:=Vn) (wA:=wA) (sc:=⟨.nt OD,A.b,c⟩) (o:=PO.nt ⟨A.b,jZ,((j:Nat):Int),c,MS.nil,GQ⟩) g1 g2 g7 g6 M3 rfl Rm lN ⟨GQ,rfl⟩ (λ_=>⟨A,g3,rfl,g4,g5⟩) OH;rw[F']at hp;exact X1 m' Tj _ _ hp λA' wK=>g6 A' (has A' wK)
   · have a2T:c.kind=3:=by
      have e1:¬c.kind=1:=by simpa using h1
      have e2:¬c.kind=2:=by simpa using h2
      rcases IA.kind with e|e|e;· exact absurd e e1
      · exact absurd e e2
      · exact e
     refine Qo (tf fl) ?_;refine wq λGQ=>kI λOD M3=>gY (by show(steps.map (·.st)).length+1<=_;omega) (wq λXN=>wq λVn=>nF (kX λOH=>?_));have hp:=hB.push (m:=m) (az:=az) (n':=u*8+(j+1)) (s1:=del σ jZ) (sP:=XN) (sC:=Vn) (wA:=wA) (sc:=⟨.test OD,0,c⟩) (o:=PO.test ⟨jZ,((j:Nat):Int),c,MS.nil,GQ⟩) hB.inv ⟨hB.al.A,hB.al.keyed,hB.al.good,D! hB.al.few⟩ (λbb o _ ho=>ho) (λ_ h=>h) M3 rfl a2T lN ⟨GQ,rfl⟩ (λht=>absurd rfl (ht OD)) OH;rw[F']at hp;exact X1 m az _ _ hp has
 · have pN:¬j<x.conds.length:=of_decide_eq_false hb;obtain rfl:j=x.conds.length:=au
   exact hK m az steps σ hB has
end
end
section
open Go Go.RowKit Classical
def mf (x:Q8):aq Qq×fb:=(x.conds,j9 x.vars)
section
variable {S:fY} {I:fb->Prop} {P:Qg->Prop} {N:Nat} {ts:aq Q9} {rules:aq Q8} {s:Qe}
theorem Dh {g:Nat} {a:Addr} {b c:Nat} (_:s g=none):rl S ts [] 0 ⟨g,ts,[],some a,0,MS.nil,b,[]⟩ (λ_=>none) (dp s g (.net ⟨ts,[],some a,0,MS.nil,b,MS.nil,c,0⟩)) where
 types:=rfl
 inv:=by
  refine⟨⟨_,jH _ _ _,rfl,rfl,rfl,rfl,rfl,rfl,⟨g!,λi=>rfl⟩,0,rfl,[],g!,λp=>?_,rfl⟩,λr R U=>?_,λr R k sc U=>?_,λA hA=>?_,λp r π hp=>?_,λp q l hp=>?_,λr R U=>?_,λn hn=>?_⟩
  ·constructor;· intro h;cases h
   · rintro⟨_,_,h,_⟩;cases h
  · simp at U
  · simp at U
  · cases hA
  · cases hp
  · cases hp
  · simp at U
  ·obtain⟨L,a1,a2,rfl⟩:=hn;cases L with
   |nil=>simp
   | cons x L=>
     obtain⟨_,_,h,_⟩:=(a2 x).1 j';cases h
 al:=⟨⟨(λk a h=>by cases h),λA hA=>by cases hA⟩,(λk a h=>by cases h),(λA hA=>by cases hA),x! _⟩
 W:=⟨(λr r' R R' U=>by simp at U),(λr r' R R' k k' sc ez U=>by simp at U),λr R k sc U=>by simp at U⟩
 comp:=λr R U=>by simp at U
 rows:=rfl
 sal:=λR hR=>by cases hR
 rP:=rfl
theorem Κ {Q:bf Nat×Qe->Prop} (hN:B0+4000000<=N) (ZU:ts.length<=1000) (h64:rules.length<=64) (h8:∀x∈rules,x.conds.length<=8) (hc:∀x∈rules,∀c∈x.conds,pP ts c) (kY:P5 N ts rules=some true)
  (hOk:∀(C:gA) (sc:fz) (T:dc),pP ts sc.c->(∃x∈rules,sc.c∈x.conds)->I5 sc->pU C sc->(∀i f,T i=some f->P f)->yY S I C T sc) (hI:∀x∈rules,I (j9 x.vars)) (hP:∀f,P f->wb ts f.ty ((f.args.length:Nat):Int)=true)
  (hQ:∀C loc s',tN S I P C->rU S P C [] loc s'->C.types=ts->C.rows.map FJ=rules.map mf->(∀R∈C.rows,∀sc∈R.steps,I5 sc)->Q (some C.g,s')):Qaz N ts rules s Q:=by
 refine Qo kY ?_;refine B9 rfl ?_;refine gY au ?_;refine wq λg16=>wq λg17=>wq λg18=>kI λg hg=>?_;refine mT λkj1 IE=>?_
 have Mw:∀{u:Nat} {C:gA} {loc:Loc} {σ:Qe},rl S ts ((rules.take u).map mf) u C loc σ->∀R∈C.rows,∃x∈rules,R.steps.map (·.c)=x.conds/\(R.hs,R.vs)=j9 x.vars:=λh R hR=>by
  obtain⟨x,hx,he⟩:=Q'.1 (h.mem hR);exact⟨x,List.mem_of_mem_take hx,(Prod.mk.inj he).1.symm,(Prod.mk.inj he).2.symm⟩
 have XY:∀{u:Nat} {C:gA} {loc:Loc} {σ:Qe},rl S ts ((rules.take u).map mf) u C loc σ->∀R∈C.rows,R.steps.length<=8:=λh R hR=>by
  obtain⟨x,hx,e1,_⟩:=Mw h R hR;have:=congrArg List.length e1;rw[z']at this;have:=h8 x hx;omega
 have a1E:∀{u:Nat} {C:gA} {loc:Loc} {σ:Qe},u<=rules.length->rl S ts ((rules.take u).map mf) u C loc σ->C.rows.length=u:=λhu h=>by
  have:=congrArg List.length h.rows;rw[z',z',G!]at this;omega
 have fin:∀C loc σ,C.g=g->rl S ts ((rules.take rules.length).map mf) rules.length C loc σ->kj1 σ Q:=λC loc σ hCg h=>by
  subst IE;rw[<-hCg];have Xh:=a1E (x! _) h
  have Fh:∀R∈C.rows,∀sc∈R.steps,I5 sc:=λR hR sc fj=>by
   obtain⟨r,hr⟩:=b! hR;obtain⟨k,hk⟩:=b! fj;exact h.W.kind r R k sc hr hk
  refine hQ C loc σ ⟨h.W,h.al.A,h.rP,au,λR hR=>by have:=XY h R hR;omega,by have:=h.al.few;omega,λT hT R hR sc fj=>?_,λR hR=>?_,λA hA=>?_⟩ ⟨h.inv,h.comp,List.Pairwise.nil,(λf hf=>by cases hf),?_⟩ h.types (by rw[h.rows,I!]) Fh
  ·obtain⟨x,hx,e1,_⟩:=Mw h R hR;have hm:sc.c∈x.conds:=by rw[<-e1];exact Q'.2 ⟨sc,fj,rfl⟩
   exact hOk C sc T (hc x hx sc.c hm) ⟨x,hx,hm⟩ (Fh R hR sc fj) (h.sal R hR sc fj) hT
  ·obtain⟨x,hx,_,e2⟩:=Mw h R hR;rw[e2];exact hI x hx
  ·obtain⟨_,_,g3,g4⟩:=h.al.good A hA;refine⟨au,λf hf Xm=>?_⟩;have h1:=hP f hf;rw[h.types,<-Xm]at g4;have:=Jo h1 g4;omega
  ·have:=vL (S:=S) (XY h);omega
 refine z7 (λ(u,σ)=>u<=rules.length/\∃C loc,C.g=g/\rl S ts ((rules.take u).map mf) u C loc σ) (λ(u,_)=>rules.length-u) ?_ N (0,_) ⟨W' _,_,_,rfl,by rw[v!];exact Dh hg⟩ (by dsimp only;omega);rintro⟨u,σ⟩ ag ⟨hu,C,loc,hCg,h⟩ gQ;refine jj (λhb=>?_) (λhb=>?_)
 ·have cj:u<rules.length:=of_decide_eq_true hb;obtain⟨x,lN⟩:∃x,rules[u]? =some x:=⟨_,a' cj⟩
  have Xq:=j! lN;have Xh:=a1E hu h;refine Qo lN ?_;refine wq λg29=>kI λjZ a2N=>?_;refine mT λkj2 Rm=>?_;have cx:=nP.start (wA:=g29) (conds:=x.conds) h.inv h.al a2N;subst hCg;refine a1F (u:=u) hN (h8 x Xq) (by rw[h.types];exact hc x Xq) cx λm az steps s' U has=>?_;subst Rm;obtain⟨sP,sC,wA,fl⟩:=U.row;obtain⟨xn,n1,n2,n3,n4,_⟩:=U.inv.net
  have ep:C.g≠jZ:=λe=>by
   have:del s' jZ C.g=none:=by rw[e];exact uf _ _
   rw[show(setAl C m az).g=C.g from rfl,this]at n1;cases n1
  have JZ:s' C.g=some (.net xn):=by rw[<-mE s' ep];exact n1
  refine Qo (R1 JZ) ?_;refine gY (by rw[n3,z'];show C.rows.length+1<=_;omega) ?_;refine Qo (zT N x.vars).1 ?_;refine wq λqy=>wq λu5=>Vk λa0X=>nF (wq λa2s=>kI λqc BP=>?_);have hw:=U.whole (xn:=xn) (p:=qy) (c:=u5) (g:=qc) (ka:=a2s) (hs:=(j9 x.vars).1) (vs:=(j9 x.vars).2) JZ BP fl;have a1d:=U.wfc (g:=qc) (c:=u5) (p:=qy) (sP:=sP) (sC:=sC) (hs:=(j9 x.vars).1) (vs:=(j9 x.vars).2) ⟨h.W.rows,h.W.steps,h.W.kind⟩;refine gV ?_;have TM:steps.map (·.c)=x.conds:=by rw[U.conds,I!]
  have hR:(JH (setAl C m az) ⟨jZ,steps,sP,sC,qc,(j9 x.vars).1,(j9 x.vars).2⟩ qy u5).rows[C.rows.length]? =some ⟨jZ,steps,sP,sC,qc,(j9 x.vars).1,(j9 x.vars).2⟩:=by
   show(C.rows++[_])[C.rows.length]? =_;rw[l! (x! _),u!];rfl
  have a3h:steps.length<=8:=by have:=h8 x Xq;rw[U.len];omega
  have dh:∀sc∈steps,yY S I (JH (setAl C m az) ⟨jZ,steps,sP,sC,qc,(j9 x.vars).1,(j9 x.vars).2⟩ qy u5) (fo []) sc:=λsc fj=>by
   obtain⟨k,hk⟩:=b! fj;obtain⟨q1,_,q3⟩:=U.obj k sc hk;have hm:sc.c∈x.conds:=by rw[<-TM];exact Q'.2 ⟨sc,fj,rfl⟩
   exact hOk _ sc _ (hc x Xq sc.c hm) ⟨x,Xq,hm⟩ q1 q3 λi f hf=>by cases hf
  refine RY (I:=I) (D:=[]) a1d (by show steps.length<_;omega) ⟨λi f hf=>(by cases hf),bh⟩ bh hR dh steps.length 0 bh (λ_ _=>rfl) N (by show B0+0+steps.length+1<N;omega) (λ_=>False) _ _ qc [] ((j9 x.vars).1,(j9 x.vars).2) _ hw (if_pos rfl) rfl (by show gE S (fo []) steps _ []=_;cases steps<;>rfl) (hI x Xq) (λy i hy=>?_) (λ_ _ _ _ hz=>hz) λbq s'' g1 g2 g3=>?_
  ·unfold j8 at hy;split at hy;· simp at hy
   ·obtain⟨R',x',a1,_⟩:=U.inv.part _ _ _ hy;have:=(d!.1 a1).1;exact absurd this (by show¬C.rows.length<C.rows.length;omega)
  ·refine gY au ?_;refine gQ (u+1,s'') ⟨au,JH (setAl C m az) ⟨jZ,steps,sP,sC,qc,(j9 x.vars).1,(j9 x.vars).2⟩ qy u5,bq,rfl,?_⟩ (by dsimp only;omega)
   have TR:((JH (setAl C m az) ⟨jZ,steps,sP,sC,qc,(j9 x.vars).1,(j9 x.vars).2⟩ qy u5).rows).map FJ=(rules.take (u+1)).map mf:=by
    show(C.rows++[_]).map FJ=_;rw[F',h.rows,E',lN];rw[Option.toList_some,F'];congr 1;show[(steps.map (·.c),((j9 x.vars).1,(j9 x.vars).2))]=[(x.conds,j9 x.vars)]
    rw[TM]
   have GU:Uh (JH (setAl C m az) ⟨jZ,steps,sP,sC,qc,(j9 x.vars).1,(j9 x.vars).2⟩ qy u5) ((u+1)*8):=⟨⟨U.al.A.ofKey,U.al.A.key⟩,U.al.keyed,U.al.good,by
    have h1:=U.al.few;have h2:=h8 x Xq;show(setAl C m az).alphas.keys.length<=_;omega⟩
   have Xj:∀R∈(JH (setAl C m az) ⟨jZ,steps,sP,sC,qc,(j9 x.vars).1,(j9 x.vars).2⟩ qy u5).rows,∀sc∈R.steps,pU (JH (setAl C m az) ⟨jZ,steps,sP,sC,qc,(j9 x.vars).1,(j9 x.vars).2⟩ qy u5) sc:=λR qh sc fj=>by
    rcases y'.1 qh with qh|qh
    ·intro ht;obtain⟨A,q1,q2⟩:=h.sal R qh sc fj ht;exact⟨A,has A q1,q2⟩
    ·rw[g'.1 qh]at fj;obtain⟨k,hk⟩:=b! fj;exact(U.obj k sc hk).2.2
   have hX:rY bq:=λq hq=>by
    have h1:=g1.cnt_le (facts:=[]) g! hq
    have h2:=vL (S:=S) (l:=(JH (setAl C m az) ⟨jZ,steps,sP,sC,qc,(j9 x.vars).1,(j9 x.vars).2⟩ qy u5).rows) λR qh=>by
     rcases y'.1 qh with qh|qh;· exact XY h R qh
     · rw[g'.1 qh];exact a3h
    have h3:(JH (setAl C m az) ⟨jZ,steps,sP,sC,qc,(j9 x.vars).1,(j9 x.vars).2⟩ qy u5).rows.length=C.rows.length+1:=by
     show(C.rows++[_]).length=_;rw[M'];rfl
    omega
   refine⟨h.types,g1,GU,a1d,λr R hr=>?_,TR,Xj,?_⟩
   ·rcases Pu hr with⟨h1,h2⟩|⟨h1,h2⟩
    ·intro τ iD;obtain⟨y,hy⟩:=h.comp r R h2 τ iD;have h5:loc y=some (r,[]++τ):=hy;refine⟨y,g2.1 y _ ?_⟩;unfold j8;rw[if_neg ?_];· exact h5
     ·intro e
      have hg0:=U.inv.none_loc (p:=y) (by
       rw[e];unfold del;split;· rfl
       ·rw[QI (λe2=>by rw[e2,jH]at BP;cases BP)]at BP;exact BP)
      rw[hg0]at h5;cases h5
    ·have h3:=g3 hX;subst h2;rw[h1];exact h3
   ·show qy.isNone=false;cases qy with
    |none=>cases a0X
    |some a=>rfl
 ·have pN:¬u<rules.length:=of_decide_eq_false hb;obtain rfl:u=rules.length:=au
  exact fin C loc σ hCg h
end
end
section
open Go Go.RowKit Classical
def S0:fY:=⟨λc hs vs f=>Gl c f hs vs,λc vs=>zH (at_ (w5 N0) vs c.test)⟩
def I0 (e:fb):Prop:=OU e.1 e.2
def P0 (ts:aq Q9)(f:Qg):Prop:=wb ts f.ty ((f.args.length:Nat):Int)=true/\∀v∈f.args,qv v
theorem nU:∀{al:aq fK} {xs:aq V} {hs:aq Bool} {vs:aq V} {p:aq Bool×aq V},I6 al xs hs vs=some p->∀(j:Nat)(a:fK),al[j]? =some a->a.k=4->xs[j]? =some a.v
 |[],_,_,_,_,_,j,a,U,_=>by simp at U
 |_::_,[],_,_,_,h,_,_,_,_=>by cases h
 | b::al,x::xs,hs,vs,p,h,j,a,U,h4=>by
   unfold I6 at h;split at h
   ·rename_i q hq;cases j with
    | zero=>
      simp only[r!,Option.some.injEq]at U⊢;subst U;unfold JI at hq;rw[if_neg au,if_pos h4]at hq;split at hq;· rename_i e;exact e.symm
      · cases hq
    | succ j=>
      exact nU h j a U h4
   · cases h
theorem RL {l:aq fK} {j:Nat} {a:fK} (h:(jW l)[j]? =some a)(U:a.k=4):l[j]? =some a:=by
 unfold jW at h;rw[List.getElem?_map]at h;cases hl:l[j]? with
 |none=>rw[hl]at h;cases h
 | some b=>
   rw[hl]at h;simp only[Option.map_some,Option.some.injEq]at h;split at h;· rw[h]
   · subst h;exact absurd U bp
def Up (c:Qq):Prop:=nodes c.test<=1000/\db c.test
theorem a3u {ts:aq Q9} {C:gA} {sc:fz} {T:dc} (hc:pP ts sc.c)(ht:Up sc.c)(_:I5 sc)(hs:pU C sc)(hT:∀i f,T i=some f->P0 ts f):yY S0 I0 C T sc where
 mt:=λU N hN f hf e hI=>by
  have F1:9223372036854775808<=N:=by have h':=hN;unfold B0 at h';omega
  obtain⟨a,b,hm,hp⟩:=uX (N:=N) F1 (c:=sc.c) (f:=f) (hs:=e.1) (vs:=e.2) (by have:=hI.1;have:=hI.2.1;omega) (by have:=hI.2.1;omega) (by have:=hc.args;omega);refine⟨a,b,hm,λp hq=>?_⟩;have eR:Gl sc.c f e.1 e.2=some p:=hq;obtain⟨h1,h2,h3⟩:=hp p eR;have h4:=yg (hT _ f hf).2 hI.2.2 eR;rw[h1]at h4⊢;exact⟨rfl,by show a.length=b.length;rw[h2,h3];exact hI.1,by show b.length<=16;rw[h3];exact hI.2.1,h4⟩
 ev:=λa cx N hN e hI=>by
  have F1:9223372036854775808+1000<=N:=by have h':=hN;unfold B0 at h';omega
  have hlen:e.2.length<=1000000:=by have:=hI.2.1;omega
  obtain⟨⟨k,n,s,z⟩,hr,_⟩:=both 1000 N sc.c.test e.2 ht.2 ht.1 au au hI.2.2 hlen;have iX:=Tk 1000 N N0 sc.c.test e.2 ht.2 ht.1 au au (by unfold N0;omega) hI.2.2 hlen;refine⟨k,n,s,z,hr,?_⟩;show zH (at_ (w5 N0) e.2 sc.c.test)=_;rw[<-iX,hr];rfl
 al:=λU=>by
  obtain⟨A,h1,h2,h3,h4⟩:=hs U;refine⟨A,h1,h2,λf e p hp=>?_⟩;have ew:Gl sc.c f e.1 e.2=some p:=hp;unfold Gl at ew;split at ew
  ·rename_i hh;unfold hasB;rw[b',decide_eq_true_eq,q!];refine⟨by rw[h3];exact hh.2.1.symm,λj _=>?_⟩;cases ha:A.args[j]? with
   |none=>rfl
   | some a=>
     simp only;by_cases h5:a.k=4
     ·rw[if_pos h5];rw[h4]at ha;exact decide_eq_true (nU ew j a (RL ha h5) h5)
     · rw[if_neg h5]
  · cases ew
theorem xv {b:Bool}:∀{l:aq fK} {v:Int},(DN b l v).1=true->∀a∈l,∃w,(lC b w a).1=true
 |[],_,_,a,U=>by cases U
 | x::l,v,h,a,U=>by
   unfold DN at h;split at h
   ·rename_i hx;rcases e!.1 U with rfl|U;· exact⟨v,hx⟩
    · exact xv h a U
   · cases h
theorem ub {ts:aq Q9}:∀{l:aq Qq} {v f:Int},(Gn ts l v f).1=true->∀c∈l,∃v' f',(tP ts v' f' c).1=true
 |[],_,_,_,c,U=>by cases U
 | x::l,v,f,h,c,U=>by
   unfold Gn at h;split at h
   ·rename_i hx;rcases e!.1 U with rfl|U;· exact⟨v,f,hx⟩
    · exact ub h c U
   · cases h
theorem TX {x:Int} (h:ql .i64 x):eM x:=by
 have U:IntKind.min .i64=-9223372036854775808:=bp
 have e2:IntKind.max .i64=9223372036854775807:=bp
 unfold ql at h;rw[U,e2]at h;exact h
theorem Ih {ts:aq Q9} {c:Qq} {v f:Int} (h:(tP ts v f c).1=true)(dh:Qa9 c)(hn:nodes c.test<=1000)(ha:c.args.length<=1000):pP ts c:=by
 have U:∀a∈c.args,qv a.v:=λa hm=>by
  have:=(dh.2.2.1.2 a hm).2.2;exact⟨TX this.2.1,this.2.2⟩
 unfold tP at h;by_cases R7:c.kind=1\/c.kind=2
 ·rw [if_pos R7]at h;split at h
  ·rename_i ht;simp only[b']at ht;split at h
   ·rename_i fO;refine⟨by rcases R7 with e|e;exact .inl e;exact .inr (.inl e),au,ha,λ_=>⟨TX dh.2.1,λa hm=>?_,U,ht.1⟩⟩;obtain⟨b,hb,rfl⟩:=Q'.1 hm;split
    ·rename_i h4;obtain⟨w,hw⟩:=xv fO b hb;unfold lC at hw;rw[if_neg au,if_neg au,if_neg au,if_pos h4]at hw;simp only[b',decide_eq_true_eq]at hw;exact .inr ⟨h4,hw.1,hw.2,(U b hb).1⟩
    · exact .inl rfl
   · cases h
  · cases h
 ·rw[if_neg R7]at h;split at h
  ·rename_i h3;exact⟨.inr (.inr h3),au,ha,λhh=>absurd hh R7⟩
  · cases h
structure sX (ts:List Q9) (rules:List Q8):Prop where
 right:DC ts rules=true
 ok:∀r∈rules,SQ r
 light:∀r∈rules,(∀c∈r.conds,c.args.length<=1000/\nodes c.test<=1000)/\∀a∈r.acts,pM a.exprs<=1000000
variable {ts:aq Q9}{rules:aq Q8}
theorem CG (h:DC ts rules=true):ts.length<=32:=by
 unfold DC at h;simp only[b',decide_eq_true_eq]at h;exact h.1.1
theorem Aa (h:sX ts rules):∀r∈rules,∀c∈r.conds,pP ts c:=λr hr c hc=>by
 have h1:=h.right;unfold DC at h1;simp only[b',decide_eq_true_eq]at h1;obtain⟨i,hi,rfl⟩:=y! hr;have U:=q!.1 h1.2.2 i (by simp[C!];exact hi);unfold yy at U;rw[a' hi]at U;simp only[b']at U;have h6:=U.2;unfold qW at h6;simp only[b']at h6;obtain⟨v,f,hv⟩:=ub h6.2.1 c hc;obtain⟨g1,g2⟩:=(h.light _ hr).1 c hc;exact Ih hv ((h.ok _ hr).2.2.2.1.2 c hc) g2 g1
theorem G7 {f:Qg}:(DJ r8 ts f=true↔AM ts 0 f=true):=by
 unfold DJ AM wb
 have e:decide (1<=f.id/\f.id<=1099511627776)=decide (0<f.id/\f.id<=1099511627776):=by
  by_cases h:0<f.id/\f.id<=1099511627776;· rw[decide_eq_true h,decide_eq_true ⟨au,h.2⟩]
  · rw[decide_eq_false h,decide_eq_false (λh'=>h ⟨au,h'.2⟩)]
 rw[e];cases ts[f.ty.toNat]? with
 |none=>simp
 |some t=>simp only[Bool.and_assoc]
end
section
open Go Go.RowKit Classical
section
variable {ts:aq Q9} {rules:aq Q8} {facts:aq Qg} {f:Qg} {C:gA} {loc:Loc} {s:Qe} {N:Nat}
variable {a:Nat}{id:Int}{Q:Nat×Qe->Prop}
theorem td:∀{l:aq Qg} {last:Int},sT ts last l=true->(∀f∈l,last<f.id/\f.id<=1099511627776)/\tR l
 |[],_,_=>⟨λf hf=>(by cases hf),List.Pairwise.nil⟩
 | g::l,last,h=>by
   rw[sT]at h;simp only[b']at h
   have hg:last<g.id/\g.id<=1099511627776:=by
    have h1:=h.1;unfold AM at h1;simp only[b',decide_eq_true_eq]at h1;exact h1.1
   obtain⟨a,b⟩:=td h.2;refine⟨λx U=>?_,List.Pairwise.cons (λx U=>(a x U).1) b⟩;rcases e!.1 U with rfl|U;· exact hg
   · have:=a x U;omega
theorem xE {a b:Int} (h:AM ts a f=true)(U:b<f.id):AM ts b f=true:=by
 unfold AM at h⊢;simp only[b',decide_eq_true_eq]at h⊢;exact⟨⟨U,h.1.2⟩,h.2⟩
theorem ur:∀{l:aq Qg} {a b:Int},sT ts a l=true->(∀f∈l,b<f.id)->sT ts b l=true
 |[],_,_,_,_=>rfl
 | g::l,a,b,h,U=>by
   rw[sT,b']at h⊢;exact⟨xE h.1 (U g j'),h.2⟩
theorem mI:∀{l:aq Qg} {last:Int},sT ts last l=true->AM ts last f=true->(∀g∈l,g.id≠f.id)->sT ts last (mz f l)=true
 |[],last,_,hf,_=>by rw[mz,sT,hf];rfl
 | g::l,last,h,hf,hn=>by
   rw[mz];have h':=h;rw[sT,b']at h';split
   ·rename_i cj;rw[sT,hf,d'];refine ur h λx U=>?_
    rcases e!.1 U with rfl|U;· exact cj
    · have:=(List.pairwise_cons.1 (td h).2).1 x U;omega
   ·rename_i cj;have ep:=hn g j';rw[sT,h'.1,d'];exact mI h'.2 (xE hf au) λx U=>hn x (t' _ U)
theorem mH {id:Int}:∀{l:aq Qg} {last:Int},sT ts last l=true->sT ts last (jm id l)=true
 |[],_,_=>rfl
 | g::l,last,h=>by
   have h':=h;rw[sT,b']at h';have U:=mH (id:=id) h'.2;unfold jm at U⊢;by_cases hg:g.id=id
   ·rw[List.filter_cons_of_neg (du hg)];refine ur U λx hx=>?_
    have h1:=((td h'.2).1 x (List.mem_filter.1 hx).1).1;have h2:=((td h).1 g j').1;omega
   · rw[List.filter_cons_of_pos (du hg),sT,h'.1,U];rfl
def ze (ts:aq Q9)(rules:aq Q8)(facts:aq Qg)(a:Nat)(s:Qe):Prop:=∃C loc,C.g=a/\tN S0 I0 (P0 ts) C/\rU S0 (P0 ts) C facts loc s/\C.types=ts/\C.rows.map FJ=rules.map mf/\(∀R∈C.rows,∀sc∈R.steps,I5 sc)/\sT ts 0 facts=true
theorem G6 (U:(facts.map (·.id)).Nodup):∀{l:aq fH} {rs:aq Q8},l.map FJ=rs.map mf->(∀R∈l,∀sc∈R.steps,I5 sc)->ia S0 facts l=nN facts rs
 |[],[],_,_=>rfl
 |[],r::rs,h,_=>by cases h
 |R::l,[],h,_=>by cases h
 | R::l,r::rs,h,hk=>by
   rw[p!,p!]at h;obtain⟨h1,h2⟩:=List.cons.inj h;have ih:=G6 U h2 λR' Ra=>hk R' (t' _ Ra)
   have e:ia S0 facts (R::l)=(uP S0 facts R.steps (R.hs,R.vs)).length+ia S0 facts l:=rfl;rw[e,ih,nN,H7 U (hk R j')];obtain⟨e1,e2⟩:=Prod.mk.inj h1;unfold lR;rw[e1,<-e2];rfl
theorem GL (hn:(facts.map (·.id)).Nodup)(iM:∀f∈facts,0<f.id):∀{l:aq fH} {rs:aq Q8} {k:Nat},l.map FJ=rs.map mf->(∀R∈l,∀sc∈R.steps,I5 sc)->Gs S0 facts l k=wc facts rs k
 |[],[],_,_,_=>rfl
 |[],r::rs,_,h,_=>by cases h
 |R::l,[],_,h,_=>by cases h
 | R::l,r::rs,k,h,hk=>by
   rw[p!,p!]at h;obtain⟨h1,h2⟩:=List.cons.inj h;have ih:=GL hn iM (k:=k+1) h2 λR' Ra=>hk R' (t' _ Ra)
   rw[Gs,wc,ih];congr 1;obtain⟨e1,e2⟩:=Prod.mk.inj h1;have U:=GR (S:=S0) hn iM (e:=(R.hs,R.vs)) (ids:=[]) (hk R j')
   have eg:TD facts r=goN (pn S0 facts) facts (R.steps.map (·.c)) (R.hs,R.vs).1 (R.hs,R.vs).2 []:=by
    rw[e1,e2];rfl
   rw[<-eg]at U;have:(TD facts r).map (kS ((k:Nat):Int))=((TD facts r).map (·.1)).map λids=>(⟨((k:Nat):Int),ids⟩:Qb):=by rw[P!];rfl
   rw[this,U,P!];rfl
theorem XE {Q:bf Nat×Qe->Prop} (hN:B0+4000000<=N)(h:sX ts rules)(hQ:∀a s',ze ts rules [] a s'->Q (some a,s')):Qaz N ts rules s Q:=by
 have F1:9223372036854775808+4000000<=N:=by have h':=hN;unfold B0 at h';omega
 have ht:=CG h.right;obtain⟨h64,h8⟩:=Qda h.right;refine Κ (S:=S0) (I:=I0) (P:=P0 ts) hN au h64 h8 (Aa h) ?_ (λC sc T U ⟨x,hx,hm⟩ hk hs hT=>a3u U ⟨((h.light x hx).1 _ hm).2,((h.ok x hx).2.2.2.1.2 _ hm).2.2.2⟩ hk hs hT) (λx _=>(zT N x.vars).2) (λf hf=>hf.1) λC loc s' g1 g2 g3 g4 g5=>hQ _ _ ⟨C,loc,rfl,g1,g2,g3,g4,g5,rfl⟩;rw[Q9t au λr hr=>⟨λc U=>⟨((h.light r hr).1 c U).1,by have:=((h.light r hr).1 c U).2;omega⟩,(h.light r hr).2⟩,h.right]
noncomputable def nR (ts:aq Q9)(rules:aq Q8)(facts:aq Qg)(f:Qg):aq Qg×Nat:=
 if AM ts 0 f=true then(if(facts.any λg=>decide (g.id=f.id))=true then(facts,7)else if nN (mz f facts) rules<=4096 then(mz f facts,0)else(facts,204))else(facts,2)
noncomputable def Gq (rules:aq Q8)(facts:aq Qg)(id:Int):aq Qg×Nat:=
 if(facts.any λg=>decide (g.id=id))=true then(if nN (jm id facts) rules<=4096 then(jm id facts,0)else(facts,204))else(facts,6)
theorem HE:(fo facts id).isSome=facts.any λg=>decide (g.id=id):=by
 unfold fo;rw[u',List.find?_isSome,t!]
theorem zq {N:Nat} {l:aq V} (hN:9223372036854775808<=N)(hl:l.length<=4398046511104):YL N l=some (!(l.all r8)):=by
 unfold YL Q3s
 rw [SR (l:=l) (p:=λv=>!r8 v) (λi hi=>by
  unfold Ω Q7l;rw[cg hi,a' hi,Q1,QbK,Q1,Q1];by_cases U:(!r8 l[i])=true;· rw[if_pos U,if_pos U]
  · rw[if_neg U,if_neg U,QC au]) (by
  unfold Ω;rw[if_neg bh]) l.length 0 N au au,Q1,o',UN]
 rw[<-sY,O!]
theorem Vf (hN:B0+4000000<=N)(h:ze ts rules facts a s)(hl:facts.length<=1000000)(GU:f.args.length<=4398046511104)(hv:∀v∈f.args,qv v)
  (hQ:∀s',ze ts rules (nR ts rules facts f).1 a s'->Q ((nR ts rules facts f).2,s')):Q8B N a f.id f.ty f.args s Q:=by
 have F1:9223372036854775808+4000000<=N:=by have h':=hN;unfold B0 at h';omega
 obtain⟨C,loc,rfl,hG,hP,e1,e2,e3,e4⟩:=h;refine Β (vb:=r8) hN hG hP hl (zq au GU) (λhr=>?_) GU λbq s' hp=>?_
 ·rw[e1]at hr;have:=G7.1 hr;unfold AM at this;simp only[b']at this;exact⟨this.2.1,hv⟩
 ·rw [e1]at hp⊢;have IG:∀l,tR l->ia S0 l C.rows=nN l rules:=λl hl=>G6 hl.nodup e2 e3
  have e:addN S0 (DJ r8 ts) C facts f=nR ts rules facts f:=by
   unfold addN nR;rw[HE];by_cases hr:DJ r8 ts f=true
   ·rw[if_pos hr,if_pos (G7.1 hr)];by_cases U:(facts.any λg=>decide (g.id=f.id))=true;· rw[if_pos U,if_pos U]
    · rw[if_neg U,if_neg U,IG _ (hP.ris.ins λg hg hid=>U (t!.2 ⟨g,hg,by simpa using hid⟩))]
   · rw[if_neg hr,if_neg (λh=>hr (G7.2 h))]
  rw[e]at hp⊢;refine hQ s' ⟨C,bq,rfl,hG,hp,e1,e2,e3,?_⟩;unfold nR;split
  ·rename_i hf;split;· exact e4
   ·rename_i U;split;· exact mI e4 hf λg hg hid=>U (t!.2 ⟨g,hg,by simpa using hid⟩)
    · exact e4
  · exact e4
theorem PT (hN:B0+4000000<=N)(h:ze ts rules facts a s)(hl:facts.length<=1000000)(hQ:∀s',ze ts rules (Gq rules facts id).1 a s'->Q ((Gq rules facts id).2,s')):Q84 N a id s Q:=by
 obtain⟨C,loc,rfl,hG,hP,e1,e2,e3,U⟩:=h;refine Un hN hG hP hl λbq s' hp=>?_
 have e:ui S0 C facts id=Gq rules facts id:=by
  unfold ui Gq;rw[HE,G6 hP.ris.del.nodup e2 e3]
 rw[e]at hp⊢;refine hQ s' ⟨C,bq,rfl,hG,hp,e1,e2,e3,?_⟩;unfold Gq;split
 ·split;· exact mH U
  · exact U
 · exact U
theorem Yz {Q:aq Qb->Prop} (hN:B0+4000000<=N)(h:ze ts rules facts a s)(hQ:Q (wc facts rules 0)):Q6M N a s Q:=by
 obtain⟨C,loc,rfl,hG,U,e1,e2,e3,e4⟩:=h;refine Kw hN hG U ?_;rw[GL U.ris.nodup (λf hf=>by have:=(U.fr f hf).2;omega) e2 e3];exact hQ
theorem Xz {Q:Nat->Prop} (h:ze ts rules facts a s)(hQ:Q facts.length):Q8C N a s Q:=by
 obtain⟨C,loc,rfl,U,hP,_⟩:=h;exact Η U hP hQ
end
end
end Go.Proofs.YtocfkfhdcnjklaaGreatDoor
