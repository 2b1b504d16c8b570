import Derived.Test.YtocfkfhdcnjklaaGreatDoorReteQ
open List renaming getElem?_eq_getElem->a',mem_singleton->g',mem_cons_self->j',mem_cons_of_mem->l',drop_eq_getElem_cons->o',drop_zero->u',mem_append->w',getElem_mem->y',length_map->z',length_cons->B',take_add_one->C',map_append->D',take_of_length_le->E',drop_length->F',length_append->H',mem_map->I',length_singleton->J',mem_append_left->L',getElem?_of_mem->M',getElem?_eq_some_iff->O',mem_cons->P',nodup_nil->Q',getElem?_eq_none->S',mem_append_right->T',range'->U',mem_of_getElem?->V',getElem?_append_right->X',all_cons->a!,map_cons->b!,all_eq_true->c!,getElem?_cons_zero->d!,any_eq_true->e!,take_zero->i!,getElem?_append->j!,getElem_of_mem->l!,mem_range'_1->q!,flatMap_cons->t!,range'_succ->u!,length_take->v!,flatMap_nil->w!,take_length->x!,foldl_cons->y!,append_nil->z!,foldl_nil->A!,replicate->B!,any_cons->C!,map_map->D!
open Bool renaming and_eq_true->b',false_eq_true->d',true_and->e',false_and->i',eq_iff_iff->t',not_eq_true->G',not_false->W',false_or->Y',not_true->Z',true_or->g!,not_eq_true'->p!
open Nat renaming zero_le->K',sub_self->h!,le_refl->k!,le_succ_of_le->r!
open Option renaming isSome_some->n!,isSome_none->o!
namespace Go.Proofs.YtocfkfhdcnjklaaGreatDoor
section
open Go Go.RowKit
def DG {α:Type} (p:α->Bool):List α->Nat->Int
 |[],_=>-1
 |x::l,i=>if p x then((i:Nat):Int)else DG p l (i+1)
theorem QaT {α:Type} {p:α->Bool}:∀(l:List α)(i:Nat),decide (DG p l i>=0)=l.any p
 |[],_=>by simp[DG]
 | x::l,i=>by
   unfold DG;cases h:p x with
   |true=>simp[h]
   |false=>simp[h];exact(QaT l (i+1))
theorem Yc {α:Type} {l:List α} {f:Nat->Option (Nat⊕(Unit⊕Int))} {p:α->Bool} (step:∀i (h:i<l.length),f i=if p l[i]=true then some (.inr (.inr ((i:Nat):Int)))else some (.inl (i+1)))(stop:f l.length=some (.inr (.inl ()))):
   ∀(m i fuel:Nat),i+m=l.length->m<fuel->jw (fz f fuel i) (λ_=>some (-1))=some (DG p (l.drop i) i):=by
 intro m;induction m with
 | zero=>
   intro i fuel hi U;obtain⟨fuel,rfl⟩:∃q,fuel=q+1:=⟨fuel-1,an⟩
   obtain rfl:i=l.length:=an
   rw[vM stop,lX,F'];rfl
 | succ m ih=>
   intro i fuel hi U;obtain⟨fuel,rfl⟩:∃q,fuel=q+1:=⟨fuel-1,an⟩
   have h:i<l.length:=an
   rw[o' h];unfold DG;by_cases hp:p l[i]=true;· rw[if_pos hp,vM (by rw[step i h,if_pos hp]),Jh]
   ·rw[if_neg hp,NW (by rw[step i h,if_neg hp])];exact ih (i+1) fuel an an
noncomputable def rQ (v:V):Bool:=@decide (Jp v) (Classical.propDecidable _)
noncomputable def mr (s:ByteArray):Bool:=@decide (P9 s.data.toList) (Classical.propDecidable _)
theorem CM {m:Option Bool} {p:Prop} (h:lQ m p):m=some (@decide p (Classical.propDecidable _)):=by
 obtain⟨b,h1,U⟩:=h;rw[h1];congr 1;rw[t',U,@decide_eq_true_iff _ (Classical.propDecidable _)]
theorem QcM (N:Nat)(v:V):AB N v.k v.n v.s=some (rQ v):=CM (oR N v)
theorem Cq (N:Nat)(s:ByteArray):Y6 N s=some (mr s):=by
 unfold Y6;have h:=oR N (⟨2,0,s⟩:V);have U:lQ (AB N 2 0 s) (P9 s.data.toList):=h.iff (by unfold Jp;simp);rw[CM U,Q1];rfl
def ze:V:=⟨0,0,⟨#[]⟩⟩
mutual
noncomputable def mh (vars:Int):Q4->Bool
 | ⟨k,v,x,op,kids⟩=>
   if k=1 then decide (x=0/\op=0/\kids.length=0)&&rQ v
   else if k=2 then decide (v=ze/\op=0/\kids.length=0/\0<=x/\x<vars)
   else if k=3 then decide (v=ze/\x=0/\1<=op/\op<=11/\kids.length=(if op=4\/op=11 then 1 else 2))&&P7 vars kids
   else false
noncomputable def P7 (vars:Int):List Q4->Bool
 |[]=>true
 |x::l=>mh vars x&&P7 vars l
end
theorem mL (vars:Int):∀l:List Q4,P7 vars l=!(l.any λx=> !mh vars x)
 |[]=>by simp[P7]
 |x::l=>by rw[P7,mL vars l,C!];cases mh vars x<;>simp
theorem oL (N:Nat)(k a b:Int)(s:ByteArray)(x op:Int)(kids:List Q4)(p q r:Bool):
  Se N k a b s x op kids p q r=some ((p||decide ((⟨a,b,s⟩:V)=ze))&&((q||decide (x=0))&&(r||(decide (op=0)&&decide (kids.length=0))))):=by
 unfold Se Q8D ze;have U:(x==0)=decide (x=0):=by rw[t'];simp
 have e2:(op==0)=decide (op=0):=by rw[t'];simp
 have e3:(kids.length==0)=decide (kids.length=0):=by rw[t'];simp
 rw[U,e2,e3];cases p<;>cases q<;>cases r<;>cases decide ((⟨a,b,s⟩:V)=⟨0,0,⟨#[]⟩⟩)<;>cases decide (x=0)<;>cases decide (op=0)<;>cases decide (kids.length=0)<;>rfl
theorem Gy {types:List Qa} {rules:List Q9} {vars facts:Int}:∀(m N:Nat) (e:Q4),nodes e<=m->m<=1000000->9223372036854775808+m<=N->
    S9 N types rules vars facts e.kind e.value.k e.value.n e.value.s e.var e.op e.kids=some (mh vars e):=by
  intro m;induction m with
  |zero=>intro N e h;rw[NZ]at h;omega
  | succ m ih =>
    intro N e h hm hN;obtain⟨N,rfl⟩:∃q,N=q+1:=⟨N-1,an⟩
    obtain⟨k,v,x,op,kids⟩:=e;have hk:pK kids<=m:=by rw[NZ]at h;simp only at h;omega
    show Zx N (S9 N) types rules vars facts k v.k v.n v.s x op kids=_;unfold Zx;rw[mh];by_cases h1:k=1
    · rw[bq h1,if_pos h1,oL,Q1];simp only[g!,e',Y'];by_cases U:(decide (x=0)&&(decide (op=0)&&decide (kids.length=0)))=true
      · rw[if_pos U,QcM,Q1];congr 1;simp at U;simp[U]
      · rw[if_neg U];congr 1;simp at U;symm;rw[Bool.and_eq_false_iff];left;simpa using U
    · rw [br h1,if_neg h1];by_cases U:k=2
      · rw[bq U,if_pos U,oL,Q1];simp only[g!,e',Y'];have ev:(⟨v.k,v.n,v.s⟩:V)=v:=rfl;rw[ev];by_cases h3:(decide (v=ze)&&(decide (op=0)&&decide (kids.length=0)))=true
        · rw[if_pos h3];simp at h3;by_cases h4:0<=x
          · rw[bq h4];congr 1;simp[h3,h4]
          · rw[br h4];congr 1;simp[h4]
        · rw[if_neg h3];congr 1;simp at h3;simp;intro a b c;exact absurd c (h3 a b)
      · rw [br U,if_neg U];by_cases h3:k=3
        · rw [bq h3,if_pos h3]
          have hw:Q5a N op=some (if op=4\/op=11 then 1 else 2):=by
            unfold Q5a;by_cases a:op=4;· rw[bq a,Q1,if_pos rfl,if_pos (.inl a)]
            · rw[br a,Q1];by_cases b:op=11;· rw[bq b,if_pos (.inr b)]
              · rw[br b,if_neg an]
          have hex:Zc N (S9 N) types rules vars facts kids=some (P7 vars kids):=by
            unfold Zc Q2M Q3p;have hl:=Ye kids;rw[Yc (l:=kids) (p:=λy=>!mh vars y) (λi hi=>by
              unfold Z7 Q45;have hn:=U3 (y' hi);rw[bq hi,a' hi,Q1,ih N kids[i] an an an,Q1,Q1];by_cases hb:(!mh vars kids[i])=true;· rw[if_pos hb,if_pos hb]
              · rw[if_neg hb,if_neg hb,QC an]) (by
              unfold Z7;rw[if_neg ax]) kids.length 0 N an an,Q1,Q1,u',QaT,mL]
          rw[hw,Q1];unfold Q6t;rw[oL,Q1];simp only[g!,Y',Bool.and_true];have ev:(⟨v.k,v.n,v.s⟩:V)=v:=rfl;rw[ev];by_cases c1:v=ze/\x=0
          · rw [if_pos (by simp[c1])];by_cases c2:1<=op
            · rw[bq c2];by_cases c3:op<=11
              · rw[bq c3];by_cases c4:kids.length=(if op=4\/op=11 then 1 else 2)
                · rw[bq c4,hex,Q1,Q1];congr 1;rw[decide_eq_true ⟨c1.1,c1.2,c2,c3,c4⟩,e']
                · rw[br c4,Q1,decide_eq_false (λh=>c4 h.2.2.2.2),i']
              · rw[br c3,Q1,decide_eq_false (λh=>c3 h.2.2.2.1),i']
            · rw[br c2,Q1,decide_eq_false (λh=>c2 h.2.2.1),i']
          · rw[br c1,Q1,decide_eq_false (λh=>c1 ⟨h.1,h.2.1⟩),i']
        · rw[br h3,if_neg h3]
end
section
open Go Go.RowKit Classical
variable {v:V}{n:Int}
theorem Qcy:(if n<0 then 45::kQ 20 n.natAbs else kQ 20 n.toNat)=(wb n).data.toList:=by
 unfold wb;simp
def Ny (l:List UInt8):Nat:=l.foldl (λa b=>a*10+(b.toNat-48)) 0
theorem sI (u:Nat)(h:u<10):(UInt8.ofNat (48+u)).toNat=48+u:=by
 rw[UInt8.toNat_ofNat'];omega
theorem nY:∀(f u:Nat),u<10^(f+1)->Ny (kQ (f+1) u)=u
 | f,u,hu=>by
   unfold kQ;by_cases h:u<10
   ·rw[if_pos h];simp only[Ny,y!,A!,sI u h];omega
   ·rw[if_neg h];cases f with
    |zero=>simp at hu;omega
    | succ f=>
      have U:=nY f (u/10) (by rw[Nat.pow_succ]at hu;omega);unfold Ny at U⊢;rw[List.foldl_append,U];simp only[y!,A!,sI _ (Nat.mod_lt u (by omega:0<10))];omega
theorem nX:∀(f u:Nat),∀b∈kQ f u,48<=b.toNat/\b.toNat<=57
 |0,_,b,h=>by simp[kQ]at h
 | f+1,u,b,h=>by
   unfold kQ at h;split at h
   ·rename_i hu;rw[g']at h;subst h;have:=sI u hu;rw[this];omega
   ·rcases w'.1 h with h|h;· exact nX f _ b h
    ·rw[g']at h;subst h;have:=sI (u%10) (Nat.mod_lt u an);rw[this];omega
theorem UG (f u:Nat):kQ (f+1) u≠[]:=by
 unfold kQ;split<;>simp
theorem Ch {m:Int} (hn:-9223372036854775808<=n/\n<=9223372036854775807)(hm:-9223372036854775808<=m/\m<=9223372036854775807)(h:(wb n).data.toList=(wb m).data.toList):n=m:=by
 have hp:(10:Nat)^20=100000000000000000000:=bf
 rw[<-Qcy,<-Qcy]at h;by_cases h1:n<0<;>by_cases U:m<0
 ·rw[if_pos h1,if_pos U]at h;have h3:=congrArg Ny (List.cons.inj h).2;rw[nY 19 _ (by rw[hp];omega),nY 19 _ (by rw[hp];omega)]at h3;omega
 ·rw[if_pos h1,if_neg U]at h;have:=nX 20 m.toNat 45 (by rw[<-h];simp);exact absurd this.1 bf
 ·rw[if_neg h1,if_pos U]at h;have:=nX 20 n.toNat 45 (by rw[h];simp);exact absurd this.1 bf
 ·rw[if_neg h1,if_neg U]at h;have h3:=congrArg Ny h;rw[nY 19 _ (by rw[hp];omega),nY 19 _ (by rw[hp];omega)]at h3;omega
theorem oy:∀b∈(wb n).data.toList,b≠44/\b≠39:=by
 rw[<-Qcy];intro b U;split at U
 ·rcases P'.1 U with rfl|U;· exact⟨bf,bf⟩
  ·have:=nX _ _ b U;exact⟨λe=>by subst e;exact absurd this.1 bf,λe=>by subst e;exact absurd this.1 bf⟩
 ·have:=nX _ _ b U;exact⟨λe=>by subst e;exact absurd this.1 bf,λe=>by subst e;exact absurd this.1 bf⟩
theorem Ra:(wb n).data.toList≠[]:=by
 rw[<-Qcy];split;· simp
 · exact UG 19 _
theorem zu:∀(f u:Nat),(kQ f u).length<=f
 |0,_=>by simp[kQ]
 | f+1,u=>by
   unfold kQ;split;· simp
   ·have:=zu f (u/10);rw[H',J'];omega
theorem xJ:(wb n).size<=21:=by
 have h:(wb n).size=(wb n).data.toList.length:=rfl;rw[h,<-Qcy];split
 ·have:=zu 20 n.natAbs;rw[B'];omega
 ·have:=zu 20 n.toNat
  omega
def Du:gS:=⟨1,0,⟨0,0,⟨#[]⟩⟩⟩
def ki (l:List gS):List gS:=l.map λa=>if a.k=4 then a else Du
theorem uZ (h:rQ v=true):Jp v:=@of_decide_eq_true _ (Classical.propDecidable _) h
noncomputable def zc (v:V):ByteArray:=if rQ v=true then(if v.k=2 then(⟨#[39]⟩:ByteArray)++v.s else wb v.n)else⟨#[]⟩
theorem RS (N:Nat) (h:dv v.n)(hs:v.s.size<=140737488351232):ZT N v.k v.n v.s=some (zc v):=by
 unfold ZT zc;rw[QcM,Q1];cases hr:rQ v with
 |false=>rfl
 | true=>
   rw[if_neg ax,if_pos rfl];by_cases U:v.k=2
   ·have e1:(⟨#[39]⟩:ByteArray).size=1:=rfl;rw[bq U,if_pos U,QC (by rw[e1];omega)]
   · rw[br U,if_neg U,QC (show-9223372036854775808<=v.n/\v.n<=9223372036854775807 from h)]
theorem J1 (hs:v.s.size<=140737488351232):(zc v).size<=140737488351233:=by
 unfold zc;split
 ·split
  ·have U:(⟨#[39]⟩:ByteArray).size=1:=rfl;rw[ByteArray.size_append,U];omega
  · have:=xJ (n:=v.n);omega
 · show 0<=_;omega
theorem QcP (U:rQ v=true):(zc v).data.toList=if v.k=2 then 39::v.s.data.toList else(wb v.n).data.toList:=by
 unfold zc;rw[if_pos U];split;· simp[ByteArray.data_append]
 · rfl
theorem Hs:∀b∈(zc v).data.toList,b≠44:=by
 intro b U;cases hr:rQ v with
 |false=>unfold zc at U;rw[hr]at U;cases U
 | true=>
   rw[QcP hr]at U;split at U
   ·rename_i h2;rcases P'.1 U with rfl|U;· decide
    ·have hp:Jp v:=uZ hr;rcases hp with⟨h1,_⟩|⟨_,_,_,_,_,h3⟩
     · omega
     ·have:=h3 b U;intro e;subst e;unfold Fm wG at this;revert this;decide
   · exact(oy b U).1
theorem Nt {w:V} (hv:rQ v=true)(hw:rQ w=true)(iv:dv v.n)(iw:dv w.n)(h:(zc v).data.toList=(zc w).data.toList):v=w:=by
 rw[QcP hv,QcP hw]at h;have pv:Jp v:=uZ hv;have pw:Jp w:=uZ hw;obtain⟨k1,n1,⟨⟨s1⟩⟩⟩:=v;obtain⟨k2,n2,⟨⟨s2⟩⟩⟩:=w;unfold Jp at pv pw;simp only at pv pw h iv iw;rcases pv with⟨U,a2⟩|⟨U,a2,a3⟩<;>rcases pw with⟨b1,b2⟩|⟨b1,b2,b3⟩
 ·rw[if_neg an,if_neg an]at h;have:=Ch iv iw h;rw[U,b1,a2,b2,this]
 ·rw[if_neg an,if_pos b1]at h;exact absurd rfl (oy 39 (by rw[h];simp)).2
 ·rw[if_pos U,if_neg an]at h;exact absurd rfl (oy 39 (by rw[<-h];simp)).2
 ·rw[if_pos U,if_pos b1]at h;rw[U,b1,a2,b2,(List.cons.inj h).2]
theorem Dc (U:rQ v=true):(zc v).data.toList≠[]:=by
 rw[QcP U];split;· simp
 · exact Ra
theorem yA:(zc Du.v).data.toList=[]:=by
 unfold zc
 have:rQ Du.v=false:=by
  unfold rQ;refine @decide_eq_false _ (Classical.propDecidable _) λh=>?_
  rcases h with⟨h,_⟩|⟨h,_⟩
  · exact absurd h bf
  · exact absurd h bf
 rw[this];rfl
theorem Ad:∀{a b r U:List UInt8},(∀x∈a,x≠44)->(∀x∈b,x≠44)->(r=[]\/∃t,r=44::t)->(U=[]\/∃t,U=44::t)->a++r=b++U->a=b/\r=U
 |[],[],_,_,_,_,_,_,h=>⟨rfl,h⟩
 | [],y::b,r,U,_,hb,hr,_,h=>by
   rcases hr with rfl|⟨t,rfl⟩
   · cases h
   · exact absurd (List.cons.inj h).1.symm (hb y j')
 | x::a,[],r,U,ha,_,_,cz,h=>by
   rcases cz with rfl|⟨t,rfl⟩
   · cases h
   · exact absurd (List.cons.inj h).1 (ha x j')
 | x::a,y::b,r,U,ha,hb,hr,cz,h=>by
   obtain⟨h1,h2⟩:=List.cons.inj h;obtain⟨h3,h4⟩:=Ad (λz hz=>ha z (l' _ hz)) (λz hz=>hb z (l' _ hz)) hr cz h2;exact⟨by rw[h1,h3],h4⟩
def tu (a:gS):Prop:=a=Du\/(a.k=4/\a.var=0/\rQ a.v=true/\dv a.v.n)
noncomputable def kB (l:List gS):List UInt8:=l.flatMap λa=>44::(zc a.v).data.toList
noncomputable def Cm (kind:Int)(l:List gS):List UInt8:=(wb kind).data.toList++kB l
theorem QbG:∀l:List gS,kB l=[]\/∃t,kB l=44::t
 |[]=>.inl rfl
 |a::l=>.inr ⟨_,rfl⟩
theorem Db:∀{l m:List gS},(∀a∈l,tu a)->(∀a∈m,tu a)->kB l=kB m->l=m
 |[],[],_,_,_=>rfl
 |[],b::m,_,_,h=>by cases h
 |a::l,[],_,_,h=>by cases h
 | a::l,b::m,ha,hb,h=>by
   have h1:=(List.cons.inj (show 44::((zc a.v).data.toList++kB l)=44::((zc b.v).data.toList++kB m)from h)).2;obtain⟨U,h3⟩:=Ad Hs Hs (QbG l) (QbG m) h1;rw[Db (λx hx=>ha x (l' _ hx)) (λx hx=>hb x (l' _ hx)) h3];congr 1;rcases ha a j' with e1|⟨p1,p2,p3,p4⟩<;>rcases hb b j' with e2|⟨q1,q2,q3,q4⟩
   · rw[e1,e2]
   ·subst e1;rw[yA]at U;exact absurd U.symm (Dc q3)
   ·subst e2;rw[yA]at U;exact absurd U (Dc p3)
   ·have h4:=Nt p3 q3 p4 q4 U;obtain⟨k1,v1,x1⟩:=a;obtain⟨k2,v2,x2⟩:=b;simp only at p1 p2 q1 q2 h4;rw[p1,p2,q1,q2,h4]
theorem key_inj {k k':Int} {l m:List gS} (hk:dv k)(ec:dv k')(hl:∀a∈l,tu a)(hm:∀a∈m,tu a)(h:Cm k l=Cm k' m):k=k'/\l=m:=by
 obtain⟨h1,h2⟩:=Ad (λb U=>(oy b U).1) (λb U=>(oy b U).1) (QbG l) (QbG m) h;exact⟨Ch hk ec h1,Db hl hm h2⟩
end
section
open Go Go.RowKit
variable {vars facts:Int}{N:Nat}{types:List Qa}{rules:List Q9}
def wa (types:List Qa)(kind fields:Int):Bool:=match types[kind.toNat]? with
 |some t=>decide (0<=kind)&&t.fields==fields
 |none=>false
theorem De (N:Nat)(types:List Qa)(rules:List Q9)(a b kind fields:Int):XT N types rules a b kind fields=some (wa types kind fields):=by
 unfold XT wa;by_cases h:0<=kind
 ·rw [bq h];by_cases h2:kind<((types.length:Nat):Int)
  ·have U:kind.toNat<types.length:=an
   rw[bq h2,QC h,a' U,Q1];simp[h]
  · rw[br h2,S' an]
 ·rw[br h];split;· simp[h]
  · rfl
noncomputable def lR (binds:Bool)(vars:Int)(a:gS):Bool×Int:=
 if a.k=1 then(decide (a.var=0/\a.v=ze),vars)
 else if a.k=2 then(binds&&decide (a.var=vars/\a.v=ze),vars+1)
 else if a.k=3 then(decide (0<=a.var/\a.var<vars/\a.v=ze),vars)
 else if a.k=4 then(decide (a.var=0)&&rQ a.v,vars)
 else(false,vars)
theorem Uv (N:Nat)(types:List Qa)(rules:List Q9) (hv:0<=vars/\vars<=1000000000)(b:Int)(a:gS)(binds:Bool):ZD N types rules vars b a.k a.var a.v.k a.v.n a.v.s binds=some (lR binds vars a):=by
 unfold ZD lR;have ev:(⟨a.v.k,a.v.n,a.v.s⟩:V)=a.v:=rfl;rw[ev];by_cases h1:a.k=1
 ·rw[bq h1,if_pos h1];by_cases h:a.var=0;· rw[bq h];simp[h,ze]
  · rw[br h];simp[h]
 ·rw [br h1,if_neg h1];by_cases U:a.k=2
  ·rw[bq U,if_pos U,QC an];cases binds with
   |false=>rw[if_neg ax];simp
   | true=>
     rw[if_pos rfl,QC an,show vars+1-1=vars from by omega];by_cases h:a.var=vars;· rw[bq h];simp[h,ze]
     · rw[br h];simp[h]
  ·rw [br U,if_neg U];by_cases h3:a.k=3
   · rw[bq h3,if_pos h3];by_cases h:0<=a.var
     ·rw[bq h];by_cases h':a.var<vars;· rw[bq h'];simp[h,h',ze]
      · rw[br h'];simp[h']
     · rw[br h];simp[h]
   · rw[br h3,if_neg h3];by_cases h4:a.k=4
     ·rw[bq h4,if_pos h4];by_cases h:a.var=0;· rw[bq h,QcM,Q1];simp[h]
      · rw[br h];simp[h]
     · rw[br h4,if_neg h4]
theorem Bh (binds:Bool)(vars:Int)(a:gS):(lR binds vars a).2=vars\/(lR binds vars a).2=vars+1:=by
 unfold lR;split;· exact .inl rfl
 ·split;· exact .inr rfl
  ·split;· exact .inl rfl
   · split<;>exact .inl rfl
noncomputable def DL (binds:Bool):List gS->Int->Bool×Int
 |[],vars=>(true,vars)
 |a::l,vars=>if(lR binds vars a).1=true then DL binds l (lR binds vars a).2 else(false,(lR binds vars a).2)
theorem xh (binds:Bool):∀(l:List gS)(vars:Int),vars<=(DL binds l vars).2/\(DL binds l vars).2<=vars+((l.length:Nat):Int)
 |[],vars=>by simp[DL]
 | a::l,vars=>by
   unfold DL;have h:=Bh binds vars a;split
   ·have:=xh binds l (lR binds vars a).2;simp only[B'];omega
   · simp only[B'];omega
theorem HY {kind:Int} {l:List gS} (hl:l.length<=1000000):
   ∀ (m i fuel:Nat) (vars:Int),i+m=l.length->m<fuel->0<=vars->vars+((m:Nat):Int)<=1000000000->
     fz (TM N l types rules facts kind) fuel (i,vars)=some (if(DL (kind==1) (l.drop i) vars).1=true then .inl (DL (kind==1) (l.drop i) vars).2 else .inr (false,(DL (kind==1) (l.drop i) vars).2,facts)):=by
 intro m;induction m with
 | zero=>
   intro i fuel vars hi hf U hv;obtain⟨fuel,rfl⟩:∃q,fuel=q+1:=⟨fuel-1,an⟩
   obtain rfl:i=l.length:=an
   rw[vM (o:=.inl vars) (by unfold TM;simp only;rw[if_neg ax]),F'];simp[DL]
 | succ m ih=>
   intro i fuel vars hi hf U hv;obtain⟨fuel,rfl⟩:∃q,fuel=q+1:=⟨fuel-1,an⟩
   have h:i<l.length:=an
   have hs:TM N l types rules facts kind (i,vars)=if(lR (kind==1) vars l[i]).1=true then some (.inl (i+1,(lR (kind==1) vars l[i]).2))else some (.inr (.inr (false,(lR (kind==1) vars l[i]).2,facts))):=by
     unfold TM;simp only;rw[bq h,a' h,Q1,Uv N types rules an facts l[i] (kind==1),Q1];by_cases hb:(lR (kind==1) vars l[i]).1=true
     ·simp only[hb,Z',d',if_false,if_true];rw[QC an]
     ·simp only[G']at hb;simp only[hb,W',if_true,d',if_false]
   rw[o' h];rw[DL];have hv2:=Bh (kind==1) vars l[i];by_cases hb:(lR (kind==1) vars l[i]).1=true
   · rw[if_pos hb]at hs⊢;rw[NW hs];exact ih (i+1) fuel _ an an an an
   · rw[if_neg hb]at hs⊢;rw[vM hs];simp
def yJ (e:Q4):Bool:=decide (e.kind=0/\e.value=ze/\e.var=0/\e.op=0/\e.kids.length=0)
noncomputable def tB (types:List Qa)(vars facts:Int)(c:Qv):Bool×Int×Int:=
 if c.kind=1\/c.kind=2 then
  if wa types c.type ((c.args.length:Nat):Int)&&yJ c.test then
   (if(DL (c.kind==1) c.args vars).1=true then(true,(DL (c.kind==1) c.args vars).2,if c.kind=1 then facts+1 else facts)else(false,(DL (c.kind==1) c.args vars).2,facts))
  else(false,vars,facts)
 else if c.kind=3 then(decide (c.type=0/\c.args.length=0)&&mh vars c.test,vars,facts)
 else(false,vars,facts)
theorem Pk {c:Qv} (hN:9223372036854775808+1000000<=N)(ha:c.args.length<=1000000)(ht:nodes c.test<=1000000)(hv:0<=vars/\vars<=1000000)(hf:0<=facts/\facts<=1000000):
  Zz N types rules vars facts c.kind c.type c.args c.test.kind c.test.value.k c.test.value.n c.test.value.s c.test.var c.test.op c.test.kids=some (tB types vars facts c):=by
 unfold Zz tB
 have e12:(if(c.kind==1)=true then some (c.kind==1)else some (c.kind==2))=some (decide (c.kind=1\/c.kind=2)):=by
  by_cases h:c.kind=1;· simp[h]
  · rw[br h];congr 1;rw[t'];simp[h]
 rw[e12,Q1];by_cases U:c.kind=1\/c.kind=2
 ·rw [bq U,if_pos U]
  have PK:Q59 N types rules vars facts c.type c.args c.test.kind c.test.value.k c.test.value.n c.test.value.s c.test.var c.test.op c.test.kids=some (!(wa types c.type ((c.args.length:Nat):Int)&&yJ c.test)):=by
   unfold Q59;rw[De,Q1];cases ht:wa types c.type ((c.args.length:Nat):Int)with
   |false=>simp
   | true=>
     rw[if_neg ax];by_cases hk:c.test.kind=0
     ·rw[br hk,oL,Q1];congr 1;unfold yJ;have ev:(⟨c.test.value.k,c.test.value.n,c.test.value.s⟩:V)=c.test.value:=rfl;rw[ev,t'];simp[hk]
     ·rw[bq hk];congr 1;unfold yJ;simp[hk]
  rw[PK,Q1];by_cases hg:(wa types c.type ((c.args.length:Nat):Int)&&yJ c.test)=true
  ·rw[if_neg (by rw[hg];simp),if_pos hg,HY ha c.args.length 0 N vars an an hv.1 an,u'];by_cases hb:(DL (c.kind==1) c.args vars).1=true
   · rw[if_pos hb,if_pos hb,lX];by_cases h1:c.kind=1;· rw[bq h1,QC an,Q1,if_pos h1]
     · rw[br h1,Q1,if_neg h1]
   · rw[if_neg hb,if_neg hb,Jh]
  ·have hgf:(wa types c.type ((c.args.length:Nat):Int)&&yJ c.test)=false:=by simpa only[G']using hg
   rw[hgf,if_pos Kk,if_neg ax]
 ·rw [br U,if_neg U];by_cases h3:c.kind=3
  ·rw[bq h3,if_pos h3];by_cases h4:c.type=0
   · rw[bq h4];by_cases h5:c.args.length=0
     ·rw[bq h5,Gy 1000000 N c.test ht an an,Q1];congr 1;rw[decide_eq_true ⟨h4,h5⟩,e']
     · rw[br h5,decide_eq_false (λh=>h5 h.2),i']
   · rw[br h4,decide_eq_false (λh=>h4 h.1),i']
  · rw[br h3,if_neg h3]
end
section
open Go Go.RowKit
variable {N:Nat}{types:List Qa}{rules:List Q9}{vars facts:Int}
theorem Bw {l:List Q4} (hN:9223372036854775808+1000000<=N)(hl:pK l<=1000000):XS N types rules vars facts l=some (P7 vars l):=by
 unfold XS Q3o Q4c;have hll:=Ye l
 rw [Yc (l:=l) (p:=λy=>!mh vars y) (λi hi=>by
  unfold Z9 Q5b;have hn:=U3 (y' hi);rw[bq hi,a' hi,Q1,Gy 1000000 N l[i] an an an,Q1,Q1];by_cases U:(!mh vars l[i])=true;· rw[if_pos U,if_pos U]
  · rw[if_neg U,if_neg U,QC an]) (by
  unfold Z9;rw[if_neg ax]) l.length 0 N an an,Q1,Q1,u',QaT,mL]
noncomputable def Ke (types:List Qa)(vars facts:Int)(a:vZ):Bool:=
 if a.kind=1 then decide (a.which=0)&&(wa types a.type ((a.exprs.length:Nat):Int)&&P7 vars a.exprs)
 else if a.kind=2 then decide (a.type=0/\a.exprs.length=0/\0<=a.which/\a.which<facts)
 else if a.kind=3 then decide (a.type=0/\a.which=0/\0<a.exprs.length)&&P7 vars a.exprs
 else decide (a.kind=4/\a.type=0/\a.which=0/\a.exprs.length=0)
theorem Ut {a:vZ} (hN:9223372036854775808+1000000<=N)(ha:pK a.exprs<=1000000):ZC N types rules vars facts a.kind a.type a.which a.exprs=some (Ke types vars facts a):=by
 unfold ZC Ke;by_cases h1:a.kind=1
 ·rw [bq h1,if_pos h1];by_cases h2:a.which=0
  ·rw[bq h2,De,Q1,decide_eq_true h2,e'];cases ht:wa types a.type ((a.exprs.length:Nat):Int)with
   |true=>rw[if_pos rfl,Bw hN ha,Q1,e']
   |false=>rw[if_neg ax,i']
  · rw[br h2,decide_eq_false h2,i']
 ·rw [br h1,if_neg h1];by_cases h2:a.kind=2
  ·rw [bq h2,if_pos h2];unfold Q78;by_cases c1:a.type=0
   ·rw [bq c1];by_cases c2:a.exprs.length=0
    ·rw[bq c2];by_cases U:0<=a.which
     ·rw[bq U,Q1];congr 1;rw[t'];simp only[decide_eq_true_eq];exact⟨λh=>⟨c1,c2,U,h⟩,λh=>h.2.2.2⟩
     · rw[br U,Q1,decide_eq_false (λh=>U h.2.2.1)]
    · rw[br c2,Q1,decide_eq_false (λh=>c2 h.2.1)]
   · rw[br c1,Q1,decide_eq_false (λh=>c1 h.1)]
  ·rw [br h2,if_neg h2];by_cases h3:a.kind=3
   ·rw [bq h3,if_pos h3];unfold Q79;by_cases c1:a.type=0
    ·rw [bq c1];by_cases c2:a.which=0
     ·rw[bq c2];by_cases U:0<a.exprs.length;· rw[bq U,Bw hN ha,Q1,Q1,decide_eq_true ⟨c1,c2,U⟩,e']
      · rw[br U,Q1,decide_eq_false (λh=>U h.2.2),i']
     · rw[br c2,Q1,decide_eq_false (λh=>c2 h.2.1),i']
    · rw[br c1,Q1,decide_eq_false (λh=>c1 h.1),i']
   ·rw [br h3,if_neg h3];unfold Q7a;by_cases c0:a.kind=4
    ·rw [bq c0];by_cases c1:a.type=0
     ·rw[bq c1];by_cases c2:a.which=0
      ·rw[bq c2,Q1];congr 1;rw[t'];simp only[decide_eq_true_eq,beq_iff_eq];exact⟨λh=>⟨c0,c1,c2,h⟩,λh=>h.2.2.2⟩
      · rw[br c2,Q1,decide_eq_false (λh=>c2 h.2.2.1)]
     · rw[br c1,Q1,decide_eq_false (λh=>c1 h.2.1)]
    · rw[br c0,Q1,decide_eq_false (λh=>c0 h.1)]
theorem I3 (types:List Qa)(vars facts:Int)(c:Qv):vars<=(tB types vars facts c).2.1/\(tB types vars facts c).2.1<=vars+((c.args.length:Nat):Int)/\facts<=(tB types vars facts c).2.2/\(tB types vars facts c).2.2<=facts+1:=by
 unfold tB;have h:=xh (c.kind==1) c.args vars;split
 ·split
  ·split;· simp only;split<;>omega
   · simp only;omega
  · simp only;omega
 · split<;>(simp only;omega)
noncomputable def Gf (types:List Qa):List Qv->Int->Int->Bool×Int×Int
 |[],vars,facts=>(true,vars,facts)
 |c::l,vars,facts=>if(tB types vars facts c).1=true then Gf types l (tB types vars facts c).2.1 (tB types vars facts c).2.2 else(false,(tB types vars facts c).2.1,(tB types vars facts c).2.2)
theorem EA {l:List Qv} (hN:9223372036854775808+1000000<=N)(hl:∀c∈l,c.args.length<=1000/\nodes c.test<=1000000)(hll:l.length<=100):
   ∀ (m i fuel:Nat) (vars facts:Int),i+m=l.length->m<fuel->0<=vars/\vars+((m:Nat):Int)*1000<=1000000->0<=facts/\facts+((m:Nat):Int)<=1000000->
     fz (TJ N l types rules) fuel (i,vars,facts)=some (if(Gf types (l.drop i) vars facts).1=true then .inl (Gf types (l.drop i) vars facts).2 else .inr (Gf types (l.drop i) vars facts)):=by
 intro m;induction m with
 | zero=>
   intro i fuel vars facts hi hf hv U;obtain⟨fuel,rfl⟩:∃q,fuel=q+1:=⟨fuel-1,an⟩
   obtain rfl:i=l.length:=an
   rw[vM (o:=.inl (vars,facts)) (by unfold TJ;simp only;rw[if_neg ax]),F'];simp[Gf]
 | succ m ih=>
   intro i fuel vars facts hi hf hv U;obtain⟨fuel,rfl⟩:∃q,fuel=q+1:=⟨fuel-1,an⟩
   have h:i<l.length:=an
   obtain⟨k1,k2⟩:=hl l[i] (y' h);have hc:=Pk (rules:=rules) (types:=types) (vars:=vars) (facts:=facts) (c:=l[i]) hN an k2 an an;have hcv:=I3 types vars facts l[i]
   have hs:TJ N l types rules (i,vars,facts)=if(tB types vars facts l[i]).1=true then some (.inl (i+1,(tB types vars facts l[i]).2))else some (.inr (.inr (tB types vars facts l[i]))):=by
     unfold TJ;simp only;rw[bq h,a' h,Q1,hc,Q1];obtain⟨b,x,y⟩:=tB types vars facts l[i];cases b with
     |true=>simp only[Z',d',if_false,if_true];rw[QC an]
     |false=>simp only[W',d',if_false,if_true]
   rw[o' h,Gf];by_cases hb:(tB types vars facts l[i]).1=true
   · rw[if_pos hb]at hs⊢;rw[NW hs];exact ih (i+1) fuel (tB types vars facts l[i]).2.1 (tB types vars facts l[i]).2.2 an an an an
   · rw[if_neg hb]at hs⊢;rw[vM hs];have ur:(tB types vars facts l[i]).1=false:=by simpa using hb
     simp only[d',if_false];rw[<-ur]
noncomputable def qO (types:List Qa)(r:Q9):Bool:=
 (mr r.name&&decide (-1000<=r.salience/\r.salience<=1000/\r.conds.length<=8/\r.acts.length<=8))&&
  ((Gf types r.conds 0 0).1&&(decide (r.vars=(Gf types r.conds 0 0).2.1/\(Gf types r.conds 0 0).2.1<=16)&&r.acts.all (Ke types (Gf types r.conds 0 0).2.1 (Gf types r.conds 0 0).2.2)))
structure JQ (r:Q9):Prop where
 conds:∀c∈r.conds,c.args.length<=1000/\nodes c.test<=1000000
 acts:∀a∈r.acts,pK a.exprs<=1000000
theorem zm {α:Type} {p:α->Bool}:∀l:List α,(!(l.any λx=> !p x))=l.all p
 |[]=>rfl
 |x::l=>by rw[C!,a!,<-zm l];cases p x<;>simp
theorem NA {N:Nat} {types:List Qa} {rules:List Q9} {a b:Int} {r:Q9} (hN:9223372036854775808+1000000<=N)(hr:JQ r):∃x y,Zr N types rules a b r.name r.salience r.vars r.conds r.acts=some (qO types r,x,y):=by
 unfold Zr
 have Jw:Q4V N r.name r.salience r.conds r.acts=some (!(mr r.name&&decide (-1000<=r.salience/\r.salience<=1000/\r.conds.length<=8/\r.acts.length<=8))):=by
  unfold Q4V;rw[Cq,Q1];cases mr r.name with
  |false=>simp
  | true=>
    rw[if_neg ax,e'];by_cases c1:r.salience< -1000;· rw[bq c1,decide_eq_false an];rfl
    ·rw [br c1];by_cases c2:r.salience>1000;· rw[bq c2,decide_eq_false an];rfl
     ·rw[br c2];by_cases c3:8<r.conds.length;· rw[bq c3,decide_eq_false an];rfl
      ·rw[br c3];congr 1;rw[t'];simp only[decide_eq_true_eq,p!,decide_eq_false_iff_not];omega
 rw[Jw,Q1];unfold qO;by_cases U:(mr r.name&&decide (-1000<=r.salience/\r.salience<=1000/\r.conds.length<=8/\r.acts.length<=8))=true
 ·rw [U,if_neg ax]
  have h8:r.conds.length<=8/\r.acts.length<=8:=by
    simp only[b',decide_eq_true_eq]at U;exact⟨U.2.2.2.1,U.2.2.2.2⟩
  rw[EA (rules:=rules) hN hr.conds an r.conds.length 0 N 0 0 an an an an,u'];obtain⟨q,x,y⟩:=Gf types r.conds 0 0;cases q with
  |false=>exact⟨x,y,by simp only[d',if_false];rw[Jh];rfl⟩
  | true=>
    refine⟨x,y,?_⟩;simp only[if_true];rw[lX];simp only[e'];by_cases c1:r.vars=x
    ·rw [bq c1];by_cases c2:x<=16
     ·rw [bq c2];unfold Q3z Q4v
      rw [Yc (l:=r.acts) (p:=λz=>!Ke types x y z) (λi hi=>by
       unfold Z5 Q5c;rw[bq hi,a' hi,Q1,Ut hN (hr.acts _ (y' hi)),Q1,Q1];by_cases hb:(!Ke types x y r.acts[i])=true;· rw[if_pos hb,if_pos hb]
       · rw[if_neg hb,if_neg hb,QC an]) (by
       unfold Z5;rw[if_neg ax]) r.acts.length 0 N an an,Q1,Q1,u',QaT,zm]
      rw[decide_eq_true ⟨c1,c2⟩,e']
     · rw[br c2,decide_eq_false (λh=>c2 h.2),i']
    · rw[br c1,decide_eq_false (λh=>c1 h.1),i']
 ·have hgf:(mr r.name&&decide (-1000<=r.salience/\r.salience<=1000/\r.conds.length<=8/\r.acts.length<=8))=false:=by simpa only[G']using U
  rw[hgf,if_pos Kk,i'];exact⟨0,0,rfl⟩
end
section
open Go Go.RowKit
theorem Pp {N N':Nat} {op:Int} {l:List V} (hN:9223372036854775808<=N)(hN':9223372036854775808<=N'):DB N op l=DB N' op l:=by
 by_cases h2:l.length<=2
 ·have e:fz (Dy N l) N (0,false)=fz (Dy N' l) N' (0,false):=by
   have e1:Dy N l=Dy N' l:=rfl;rcases Nat.le_total N N' with h|h
   ·rcases oD hN h2 with⟨b,U⟩|U;· rw[U];exact(QaV (by rw[e1]at U;exact U) h).symm
    · rw[U];exact(QaV (by rw[e1]at U;exact U) h).symm
   ·rcases oD hN' h2 with⟨b,U⟩|U;· rw[U];exact QaV (by rw[<-e1]at U;exact U) h
    · rw[U];exact QaV (by rw[<-e1]at U;exact U) h
  unfold DB;rw[e];rfl
 ·unfold DB;rw[(Gt N op).1,(Gt N' op).1,Q1,Q1,Et];have U:op<1\/op>11\/l.length≠(if op=4\/op=11 then 1 else 2):=.inr (.inr (by split<;>omega));rw[Q1,Q1,bq U,bq U]
theorem a04:∀(m N U:Nat) (e:Q4) (vars:List V),cj e->nodes e<=m->m<=1000->9223372036854775808+m<=N->9223372036854775808+m<=U->(∀v∈vars,qp v)->vars.length<=1000000->
   at_ (yV N) vars e=at_ (yV U) vars e:=by
 intro m;induction m with
 | zero=>
   intro N U e vars _ hn;rw[NZ]at hn;omega
 | succ m ih=>
   intro N U e vars cr hn hm hN hN' hv LU;obtain⟨N,rfl⟩:∃k,N=k+1:=⟨N-1,an⟩
   obtain⟨U,rfl⟩:∃k,U=k+1:=⟨U-1,an⟩
   obtain⟨k,v,x,o,kids⟩:=e;have DQ:9223372036854775808<=N:=an
   have PE:9223372036854775808<=U:=an
   rw[NZ]at hn;simp only at hn;show Sf N (yV N) k v.k v.n v.s x o kids vars=Sf U (yV U) k v.k v.n v.s x o kids vars;unfold Sf;by_cases k3:k=3
   ·subst k3;simp only[show((3:Int)==3)=true from rfl,if_true,show((3:Int)==1)=false from rfl,show((3:Int)==2)=false from rfl,d',if_false];unfold ZE ZQ;have ly:kids.length<=1000000:=by have:=Ye kids;omega
    rw[WA DQ ly,WA PE ly];obtain⟨h4,g4⟩:=zW cr;simp only at h4 g4
    have fe:nU (at_ (yV N) vars) kids []=nU (at_ (yV U) vars) kids []:=by
     have:∀(l:List Q4) (acc:List V),(∀y∈l,y∈kids)->nU (at_ (yV N) vars) l acc=nU (at_ (yV U) vars) l acc:=by
      intro l;induction l with
      |nil=>intro acc _;rfl
      | cons y l ihl=>
        intro acc hy;have hyk:=hy y ax;unfold nU;rw[ih N U y vars (g4 y hyk) (by have:=U3 hyk;omega) an an an hv LU];congr 1;funext ⟨a,b,c,e⟩;simp only;rw[ihl _ (λz hz=>hy z (by simp[hz]))]
     exact this kids [] (λy hy=>hy)
    rw[fe];congr 1;congr 1;funext ⟨a,b⟩;simp only;split;· rfl
    · rw[Pp DQ PE]
   ·have b3:(k==3)=false:=by simpa using k3
    simp only[b3,d',if_false];rfl
end
section
open Go Go.RowKit
variable {hs:List Bool}{vs:List V}{N:Nat}
theorem Wv {z:Int} {h:List Bool}:(if decide (z>=0)=true then some (decide (z<((h.length:Nat):Int)))else some false)=some (decide (0<=z/\z<((h.length:Nat):Int))):=by
 by_cases h0:0<=z;· rw[bq h0];simp[h0]
 · rw[br h0];simp[h0]
theorem US (N:Nat) {a:gS} {x:V} (hl:hs.length=vs.length):
  ∃h' v',Zd N hs vs a.k a.var a.v.k a.v.n a.v.s x.k x.n x.s=some ((Jo a x hs vs).isSome,h',v')/\∀p,Jo a x hs vs=some p->p=(h',v'):=by
 unfold Zd Jo;rw[Wv,Q1];have ev:(⟨a.v.k,a.v.n,a.v.s⟩:V)=a.v:=rfl;have ex:(⟨x.k,x.n,x.s⟩:V)=x:=rfl;rw[ev,ex];by_cases k1:a.k=1
 ·rw[bq k1,if_pos k1];exact⟨hs,vs,rfl,λp h=>(Option.some.inj h).symm⟩
 rw[br k1,if_neg k1];by_cases k4:a.k=4
 ·rw[bq k4,if_pos k4];by_cases hv:a.v=x
  ·rw[if_pos hv,decide_eq_true hv];exact⟨hs,vs,rfl,λp h=>(Option.some.inj h).symm⟩
  ·rw[if_neg hv,decide_eq_false hv];exact⟨hs,vs,rfl,λp h=>by cases h⟩
 rw[br k4,if_neg k4];by_cases U:0<=a.var/\a.var<((hs.length:Nat):Int)
 ·have g1:a.var.toNat<hs.length:=an
  have g2:a.var.toNat<vs.length:=an
  rw[decide_eq_true U];by_cases k3:a.k=3
  ·rw [bq k3,if_pos k3,if_pos rfl,QC U.1,a' g1,Q1,a' g2];by_cases hb:hs[a.var.toNat]=true
   ·rw[if_pos hb,QC U.1,Q1];by_cases hv:vs[a.var.toNat]=x
    ·rw[if_pos ⟨U.1,U.2,by rw[hb],by rw[hv]⟩,decide_eq_true hv];exact⟨hs,vs,rfl,λp h=>(Option.some.inj h).symm⟩
    ·rw[if_neg (λh=>hv (Option.some.inj h.2.2.2)),decide_eq_false hv];exact⟨hs,vs,rfl,λp h=>by cases h⟩
   ·rw[if_neg hb,if_neg (λh=>hb (Option.some.inj h.2.2.1))];exact⟨hs,vs,rfl,λp h=>by cases h⟩
  ·rw[br k3,if_neg k3];by_cases k2:a.k=2
   ·unfold Q3U;rw[bq k2,if_pos k2,if_pos rfl,QC U.1,a' g1,Q1,QC U.1,a' g2,Q1,Q1,if_pos U];exact⟨_,_,rfl,λp h=>(Option.some.inj h).symm⟩
   ·rw[br k2,if_neg k2];exact⟨hs,vs,rfl,λp h=>by cases h⟩
 ·rw [decide_eq_false U];by_cases k3:a.k=3
  ·rw[bq k3,if_pos k3,if_neg ax,if_neg (λh=>U ⟨h.1,h.2.1⟩)];exact⟨hs,vs,rfl,λp h=>by cases h⟩
  ·rw[br k3,if_neg k3];by_cases k2:a.k=2
   ·unfold Q3U;rw[bq k2,if_pos k2,if_neg ax,Q1,if_neg U];exact⟨hs,vs,rfl,λp h=>by cases h⟩
   ·rw[br k2,if_neg k2];exact⟨hs,vs,rfl,λp h=>by cases h⟩
def HP:List gS->List V->List Bool->List V->Option (List Bool×List V)
 |[],_,hs,vs=>some (hs,vs)
 |_::_,[],_,_=>none
 | a::al,x::xs,hs,vs=>match Jo a x hs vs with
   |some p=>HP al xs p.1 p.2
   |none=>none
theorem tL:∀{al:List gS} {xs:List V} {hs:List Bool} {vs:List V} {p:List Bool×List V},HP al xs hs vs=some p->p.1.length=hs.length/\p.2.length=vs.length
 |[],_,hs,vs,p,h=>by cases h;exact⟨rfl,rfl⟩
 |_::_,[],_,_,_,h=>by cases h
 | a::al,x::xs,hs,vs,p,h=>by
   unfold HP at h;split at h
   ·rename_i q hq;have h1:=ud (h':=q.1) (vs':=q.2) hq;have U:=tL h;exact⟨U.1.trans h1.1,U.2.trans h1.2⟩
   · cases h
theorem HZ {al:List gS} {xs:List V} (hlen:al.length=xs.length)(GH:al.length<=1000000):∀(m i fuel:Nat)(hs:List Bool)(vs:List V),i+m=al.length->m<fuel->hs.length=vs.length->
   ∃a b,fz (TO N al xs) fuel (i,hs,vs)=some (if(HP (al.drop i) (xs.drop i) hs vs).isSome=true then .inl (a,b)else .inr ([],[],false))/\∀p,HP (al.drop i) (xs.drop i) hs vs=some p->p=(a,b):=by
 intro m;induction m with
 | zero=>
   intro i fuel hs vs hi hf hl;obtain⟨fuel,rfl⟩:∃q,fuel=q+1:=⟨fuel-1,an⟩
   obtain rfl:i=al.length:=an
   refine⟨hs,vs,?_,λp h=>?_⟩
   · rw[vM (o:=.inl (hs,vs)) (by unfold TO;simp only;rw[if_neg ax]),F'];simp[HP]
   · rw[F']at h;cases h;rfl
 | succ m ih=>
   intro i fuel hs vs hi hf hl;obtain⟨fuel,rfl⟩:∃q,fuel=q+1:=⟨fuel-1,an⟩
   have h1:i<al.length:=an
   have h2:i<xs.length:=an
   obtain⟨h',v',Lz,hp⟩:=US N (a:=al[i]) (x:=xs[i]) hl;rw[o' h1,o' h2]
   have U:TO N al xs (i,hs,vs)=if(Jo al[i] xs[i] hs vs).isSome=true then some (.inl (i+1,h',v'))else some (.inr (.inr ([],[],false))):=by
     unfold TO;simp only;rw[bq h1,a' h1,Q1,a' h2,Q1,Lz,Q1];cases(Jo al[i] xs[i] hs vs).isSome with
     |true=>simp only[Z',d',if_false,if_true];rw[QC an]
     |false=>simp only[W',if_true,d',if_false]
   unfold HP;cases hq:Jo al[i] xs[i] hs vs with
   | some q=>
     have hq2:=hp q hq;subst hq2;have SZ:=ud hq;rw[hq]at U;simp only[n!,if_true]at U;rw[NW U];exact ih (i+1) fuel h' v' an an an
   | none=>
     rw[hq]at U;simp only[o!,d',if_false]at U;refine⟨[],[],?_,λp h=>by cases h⟩;rw[vM U];simp
def xV (hs:List Bool)(vs:List V):Bool:=hs.length==vs.length&&(hs.zip vs).all λp=>p.1||decide (p.2=ze)
theorem Rg (hN:1000001<=N) (hh:hs.length<=1000000):Zs N hs vs=some (xV hs vs):=by
 unfold Zs xV;by_cases hl:hs.length=vs.length
 ·rw [if_neg (by simp[hl]),show(hs.length==vs.length)=true from by simpa using hl,e']
  have key:∀(m i fuel:Nat),i+m=hs.length->m<fuel->fz (TK N hs vs) fuel i=some (if((hs.drop i).zip (vs.drop i)).all (λp=>p.1||decide (p.2=ze))=true then .inl ()else .inr false):=by
   intro m;induction m with
   | zero=>
     intro i fuel hi hf;obtain⟨fuel,rfl⟩:∃q,fuel=q+1:=⟨fuel-1,an⟩
     obtain rfl:i=hs.length:=an
     rw[vM (o:=.inl ()) (by unfold TK;rw[if_neg ax]),F'];simp
   | succ m ih=>
     intro i fuel hi hf;obtain⟨fuel,rfl⟩:∃q,fuel=q+1:=⟨fuel-1,an⟩
     have h1:i<hs.length:=an
     have h2:i<vs.length:=an
     have U:TK N hs vs i=if(hs[i]||decide (vs[i]=ze))=true then some (.inl (i+1))else some (.inr (.inr false)):=by
      unfold TK;rw[bq h1,a' h1,Q1];cases hb:hs[i]with
      |true=>simp only[Z',d',if_false,g!,if_true];rw[Q1,if_neg ax,QC an]
      | false=>
        simp only[W',if_true,Y'];rw[a' h2,Q1,Q1];by_cases hz:vs[i]=ze
        ·have R5:vs[i]=(⟨0,0,(⟨#[]⟩:ByteArray)⟩:V):=hz;rw[if_neg (show¬(!decide (vs[i]=(⟨0,0,(⟨#[]⟩:ByteArray)⟩:V)))=true from by simp[R5]),QC an,bq hz]
        ·have R5:¬vs[i]=(⟨0,0,(⟨#[]⟩:ByteArray)⟩:V):=hz;rw[if_pos (show(!decide (vs[i]=(⟨0,0,(⟨#[]⟩:ByteArray)⟩:V)))=true from by simpa using R5),br hz]
     rw[o' h1,o' h2,List.zip_cons_cons,a!];by_cases hb:(hs[i]||decide (vs[i]=ze))=true
     ·rw[if_pos hb]at U;rw[NW U,ih (i+1) fuel an an];simp only[hb,e']
     ·rw[if_neg hb]at U;rw[vM U];simp only[G']at hb;simp only[hb,i',d',if_false]
  rw[key hs.length 0 N an an,u',u'];cases((hs.zip vs).all λp=>p.1||decide (p.2=ze))with
  |true=>rfl
  |false=>rfl
 · rw[bq hl,show(hs.length==vs.length)=false from by simpa using hl,i']
def K5 (c:Qv)(f:Qo)(hs:List Bool)(vs:List V):Option (List Bool×List V):=
 if(c.kind=1\/c.kind=2)/\c.type=f.ty/\c.args.length=f.args.length/\xV hs vs=true then HP c.args f.args hs vs else none
theorem Mc (hN:9223372036854775808<=N) {c:Qv} {f:Qo} (hh:hs.length<=1000)(hv:vs.length<=1000)(ha:c.args.length<=1000000):
  ∃a b,NR N c.kind c.type c.args c.test.kind c.test.value.k c.test.value.n c.test.value.s c.test.var c.test.op c.test.kids f.id f.ty f.args hs vs=some (a,b,(K5 c f hs vs).isSome)/\∀p,K5 c f hs vs=some p->p=(a,b)/\a.length=hs.length/\b.length=vs.length:=by
 unfold NR
 have e12:(if(c.kind==1)=true then some true else some (c.kind==2))=some (decide (c.kind=1\/c.kind=2)):=by
  by_cases h:c.kind=1;· simp[h]
  · rw[br h];congr 1;rw[t'];simp[h]
 rw[e12,Q1]
 have PK:Q5Q N (decide (c.kind=1\/c.kind=2)) c.type f.ty c.args f.args hs vs=some (!(decide ((c.kind=1\/c.kind=2)/\c.type=f.ty/\c.args.length=f.args.length/\xV hs vs=true))):=by
  unfold Q5Q;by_cases h1:c.kind=1\/c.kind=2
  · rw[decide_eq_true h1,if_neg ax];by_cases U:c.type=f.ty
    ·rw[br U];by_cases h3:c.args.length=f.args.length
     ·rw[br h3,Rg an an,Q1];congr 2;rw[t'];simp[h1,U,h3]
     · rw[bq h3,decide_eq_false (λh=>h3 h.2.2.1)];rfl
    · rw[bq U,decide_eq_false (λh=>U h.2.1)];rfl
  · rw[decide_eq_false h1,if_pos (show(!false)=true from rfl),decide_eq_false (λh=>h1 h.1)];rfl
 rw[PK,Q1];unfold K5;by_cases hg:(c.kind=1\/c.kind=2)/\c.type=f.ty/\c.args.length=f.args.length/\xV hs vs=true
 ·have hl:hs.length=vs.length:=by
    have:=hg.2.2.2;unfold xV at this;simp only[b',beq_iff_eq]at this;exact this.1
  rw[decide_eq_true hg,if_neg ax,if_pos hg];unfold Q9A;rw[QC an,QC an,Q1];obtain⟨a,b,h1,U⟩:=HZ (N:=N) hg.2.2.1 ha c.args.length 0 N hs vs an an hl;rw[u',u']at h1 U;rw[h1];cases hq:HP c.args f.args hs vs with
  | some p=>
    have hp:=U p hq;have hlen:=tL hq;refine⟨a,b,by simp only[n!,if_true];rw[lX],λp' h=>?_⟩;cases h;refine⟨hp,?_,?_⟩;· rw[hp]at hlen;exact hlen.1
    · rw[hp]at hlen;exact hlen.2
  | none=>
    refine⟨[],[],by simp only[o!,d',if_false];rw[Jh],λp h=>by cases h⟩
 ·rw[decide_eq_false hg,if_pos (show(!false)=true from rfl),if_neg hg];exact⟨[],[],rfl,λp h=>by cases h⟩
end
section
open Go Go.RowKit
abbrev N0:Nat:=9223372036855775808
variable {hs:List Bool}{vs:List V}{p:List Bool×List V}
def Fb:Option Kb->Bool
 |some (k,n,_,e)=>e==0&&(k==1&&n !=0)
 |none=>false
def Tu (facts:List Qo):tG:=⟨λc hs vs f=>K5 c f hs vs,λc vs=>Fb (at_ (yV N0) vs c.test),λc hs vs=>facts.any λf=>(K5 c f hs vs).isSome⟩
def TE (hs:List Bool)(vs:List V):Prop:=hs.length=vs.length/\vs.length<=16/\∀v∈vs,qp v
theorem Ia {a:gS} {x:V} (hx:qp x)(U:∀v∈vs,qp v)(h:Jo a x hs vs=some p):∀v∈p.2,qp v:=by
 unfold Jo at h;split at h;· cases h;exact U
 ·split at h
  ·split at h;· cases h;exact U
   · cases h
  ·split at h
   ·split at h;· cases h;exact U
    · cases h
   ·split at h
    ·split at h
     ·cases h;intro v hm;rcases List.mem_or_eq_of_mem_set hm with hm|rfl;· exact U v hm
      · exact hx
     · cases h
    · cases h
theorem xg:∀{al:List gS} {xs:List V} {hs:List Bool} {vs:List V} {p:List Bool×List V},(∀x∈xs,qp x)->(∀v∈vs,qp v)->HP al xs hs vs=some p->∀v∈p.2,qp v
 |[],_,hs,vs,p,_,U,h=>by cases h;exact U
 |_::_,[],_,_,_,_,_,h=>by cases h
 | a::al,x::xs,hs,vs,p,hx,U,h=>by
   unfold HP at h;split at h
   ·rename_i q hq;exact xg (λy hy=>hx y (l' _ hy)) (Ia (hx x j') U hq) h
   · cases h
theorem ID {c:Qv} {f:Qo} (U:∀x∈f.args,qp x)(hv:∀v∈vs,qp v)(h:K5 c f hs vs=some p):∀v∈p.2,qp v:=by
 unfold K5 at h;split at h;· exact xg U hv h
 · cases h
end
section
open Go Go.RowKit
variable {types:List Qa}{rules:List Q9}{N n:Nat}{p:Nat->Bool}{a b:Int}{s:ByteArray}
theorem Ki {σ:Type} {f:Nat×σ->Option ((Nat×σ)⊕(Unit⊕Bool))} (step:∀i s,i<n->∃s',f (i,s)=if p i=true then some (.inl (i+1,s'))else some (.inr (.inr false)))(stop:∀s,f (n,s)=some (.inr (.inl ()))):
   ∀(m i fuel:Nat) (s:σ),i+m=n->m<fuel->fz f fuel (i,s)=some (if(U' i m).all p=true then .inl ()else .inr false):=by
 intro m;induction m with
 | zero=>
   intro i fuel s hi U;obtain⟨fuel,rfl⟩:∃q,fuel=q+1:=⟨fuel-1,an⟩
   obtain rfl:i=n:=an
   rw[vM (stop s)];rfl
 | succ m ih=>
   intro i fuel s hi U;obtain⟨fuel,rfl⟩:∃q,fuel=q+1:=⟨fuel-1,an⟩
   obtain⟨s',hs⟩:=step i s an;rw[u!,a!];by_cases hp:p i=true
   ·rw[if_pos hp]at hs;rw[NW hs,ih (i+1) fuel s' an an,hp,e']
   ·rw[if_neg hp]at hs;rw[vM hs,if_neg (by simp[hp])]
theorem HX {f:Nat->Option (Nat⊕(Unit⊕Bool))} (step:∀i,i<n->f i=if p i=true then some (.inl (i+1))else some (.inr (.inr false)))(stop:f n=some (.inr (.inl ()))):
   ∀(m i fuel:Nat),i+m=n->m<fuel->fz f fuel i=some (if(U' i m).all p=true then .inl ()else .inr false):=by
 intro m;induction m with
 | zero=>
   intro i fuel hi U;obtain⟨fuel,rfl⟩:∃q,fuel=q+1:=⟨fuel-1,an⟩
   obtain rfl:i=n:=an
   rw[vM stop];rfl
 | succ m ih=>
   intro i fuel hi U;obtain⟨fuel,rfl⟩:∃q,fuel=q+1:=⟨fuel-1,an⟩
   have hs:=step i an;rw[u!,a!];by_cases hp:p i=true
   ·rw[if_pos hp]at hs;rw[NW hs,ih (i+1) fuel an an,hp,e']
   ·rw[if_neg hp]at hs;rw[vM hs,if_neg (by simp[hp])]
theorem Rb (hN:9223372036854775808<=N)(hl:types.length<=1000000):
  Zn N types rules a b s=some (DG (λt=>t.name.toList==s.toList) types 0):=by
 unfold Zn Q4e
 rw [Yc (l:=types) (p:=λt=>t.name.toList==s.toList) (λi hi=>by
  unfold Zb Q56;rw[bq hi,a' hi,Q1,Q1];by_cases U:(types[i].name.toList==s.toList)=true;· rw[if_pos U,if_pos U]
  · rw[if_neg U,if_neg U,QC an]) (by
  unfold Zb;rw[if_neg ax]) types.length 0 N an an,Q1,u']
theorem RC (hN:9223372036854775808<=N)(hl:rules.length<=1000000):
  Zp N types rules a b s=some (DG (λt=>t.name.toList==s.toList) rules 0):=by
 unfold Zp Q4d
 rw [Yc (l:=rules) (p:=λt=>t.name.toList==s.toList) (λi hi=>by
  unfold Za Q57;rw[bq hi,a' hi,Q1,Q1];by_cases U:(rules[i].name.toList==s.toList)=true;· rw[if_pos U,if_pos U]
  · rw[if_neg U,if_neg U,QC an]) (by
  unfold Za;rw[if_neg ax]) rules.length 0 N an an,Q1,u']
noncomputable def Ht (types:List Qa)(i:Nat):Bool:=match types[i]? with
 |some t=>mr t.name&&(decide (0<=t.fields/\t.fields<=6)&&DG (λx=>x.name.toList==t.name.toList) types 0==((i:Nat):Int))
 |none=>false
noncomputable def yn (types:List Qa)(rules:List Q9)(i:Nat):Bool:=match rules[i]? with
 |some r=>DG (λx=>x.name.toList==r.name.toList) rules 0==((i:Nat):Int)&&qO types r
 |none=>false
noncomputable def HE (types:List Qa)(rules:List Q9):Bool:=
 decide (types.length<=32/\rules.length<=64)&&((U' 0 types.length).all (Ht types)&&(U' 0 rules.length).all (yn types rules))
theorem QaH (hN:9223372036854775808+1000000<=N) (hr:∀r∈rules,JQ r):Si N types rules=some (HE types rules):=by
  unfold Si HE;by_cases h1:32<types.length;· rw[bq h1,Q1,if_pos rfl,decide_eq_false an];rfl
  · rw [br h1,Q1];by_cases h2:64<rules.length;· rw[bq h2,decide_eq_false an];rfl
    · rw [br h2,decide_eq_true ⟨an,an⟩,e']
      rw [HX (f:=XZ N types rules) (n:=types.length) (p:=Ht types) (λi hi=>by
        unfold XZ Ht;rw[bq hi,a' hi,Q1]
        have hc:Q6N N types[i] types rules i=some (!(mr types[i].name&&(decide (0<=types[i].fields/\types[i].fields<=6)&&DG (λx=>x.name.toList==types[i].name.toList) types 0==((i:Nat):Int)))):=by
          unfold Q6N;rw[Cq,Q1];cases mr types[i].name with
          |false=>rfl
          | true=>
            rw[if_neg ax,e'];by_cases c1:types[i].fields<0;· rw[bq c1,decide_eq_false an];rfl
            · rw[br c1];by_cases c2:types[i].fields>6;· rw[bq c2,decide_eq_false an];rfl
              · rw[br c2,Rb an an,Q1,decide_eq_true ⟨an,an⟩,e'];rfl
        rw[hc,Q1];simp only;by_cases U:(mr types[i].name&&(decide (0<=types[i].fields/\types[i].fields<=6)&&DG (λx=>x.name.toList==types[i].name.toList) types 0==((i:Nat):Int)))=true;· rw[if_neg (by rw[U];simp),if_pos U,QC an]
        · rw[if_pos (by simpa only[p!,G']using U),if_neg U]) (by
        unfold XZ;rw[if_neg ax]) types.length 0 N an an]
      cases(U' 0 types.length).all (Ht types)with
      |false=>rfl
      | true=>
        rw[if_pos rfl,lX,e']
        rw [Ki (f:=Y0 N rules types) (n:=rules.length) (p:=yn types rules) (λi s hi=>by
          obtain⟨s1,s2⟩:=s;unfold Y0 yn;simp only;rw[bq hi,a' hi,Q1,RC an an,Q1];simp only;by_cases U:(DG (λx=>x.name.toList==rules[i].name.toList) rules 0==((i:Nat):Int))=true
          · have ur:(DG (λx=>x.name.toList==rules[i].name.toList) rules 0 != ((i:Nat):Int))=false:=by unfold bne;rw[U];rfl
            simp only[ur,d',if_false,U,e'];obtain⟨x,y,hw⟩:=NA (rules:=rules) (types:=types) (a:=s1) (b:=s2) hN (hr _ (y' hi));rw[hw,Q1];simp only;rw[Q1];simp only;cases qO types rules[i]with
            |true=>exact⟨(x,y),by rw[if_neg ax,if_pos rfl,QC an]⟩
            |false=>exact⟨(x,y),by rw[if_pos Kk,if_neg ax]⟩
          · have Of:(DG (λx=>x.name.toList==rules[i].name.toList) rules 0==((i:Nat):Int))=false:=by simpa only[G']using U
            have ur:(DG (λx=>x.name.toList==rules[i].name.toList) rules 0 !=((i:Nat):Int))=true:=by unfold bne;rw[Of];rfl
            simp only[ur,if_true,Of,i',Q1,d',if_false];exact⟨(s1,s2),trivial⟩) (λs=>by
          unfold Y0;obtain⟨s1,s2⟩:=s;simp only;rw[if_neg ax]) rules.length 0 N (0,0) an an]
        cases(U' 0 rules.length).all (yn types rules)<;>rfl
theorem ry (h:HE types rules=true):rules.length<=64/\∀r∈rules,r.conds.length<=8:=by
 unfold HE at h;simp only[b',decide_eq_true_eq]at h;refine⟨h.1.2,λr hr=>?_⟩;obtain⟨i,hi,rfl⟩:=l! hr;have U:=c!.1 h.2.2 i (by simp[q!];exact hi);unfold yn at U;rw[a' hi]at U;simp only[b']at U;have h6:=U.2;unfold qO at h6;simp only[b',decide_eq_true_eq]at h6;exact h6.1.2.2.2.1
noncomputable def ko (types:List Qa)(last:Int)(f:Qo):Bool:=
 decide (last<f.id/\f.id<=1099511627776)&&(wa types f.ty ((f.args.length:Nat):Int)&&f.args.all rQ)
noncomputable def B9 (types:List Qa):Int->List Qo->Bool
 |_,[]=>true
 |last,f::l=>ko types last f&&B9 types f.id l
theorem WH (N:Nat)(a:Int):∃hs vs,Sg N a=some (hs,vs)/\TE hs vs:=by
 unfold Sg;by_cases c1:a<0
 ·rw[bq c1,Q1,if_pos rfl];exact⟨[],[],rfl,rfl,ax,ax⟩
 ·rw[br c1,Q1];by_cases c2:a>16
  ·rw[bq c2];exact⟨[],[],rfl,rfl,ax,ax⟩
  ·rw[br c2,QC an,QC an,QC an,QC an];refine⟨_,_,rfl,ax,by simp;omega,λv U=>?_⟩;rw[(List.mem_replicate.1 U).2];unfold qp dv;exact⟨⟨ax,ax⟩,K' _⟩
end
section
open Go Go.RowKit
variable {N:Nat}{n0:Int}{r:Q9}
theorem WO {v:V} (h:wJ v):qp v:=⟨GQ h.2.1,h.2.2⟩
def E9 (c:Qv):Prop:=c.args.length<=400/\nodes c.test<=400
def tw (a:vZ):Prop:=pK a.exprs<=400
theorem Bp (hN:9223372036854775808+1000000<=N) (hr:TX r) (h0:0<=n0/\n0<=100000000000000):
  ∃o,fz (XO N r) N (0,n0)=some o/\0<=o/\o<=100000000000000/\(o<300->n0<300/\∀c∈r.conds,E9 c):=by
 have hlen:=hr.2.2.2.1.1;refine Ec (f:=XO N r) (λs=>s.1<=r.conds.length/\0<=s.2/\s.2<=100000000000000/\(s.2<300->n0<300/\∀c∈r.conds.take s.1,E9 c)) (λs=>r.conds.length-s.1) _ (λs hs=>?_) N (0,n0) ⟨K' _,h0.1,h0.2,λh=>⟨h,ax⟩⟩ (by simp only;omega);obtain⟨i,n⟩:=s;obtain⟨g1,g2,g3,g4⟩:=hs;simp only at g1 g2 g3 g4;unfold XO;simp only;by_cases hi:i<r.conds.length
 ·rw [bq hi,Q1];by_cases hn:n<300
  ·have hc:=hr.2.2.2.1.2 _ (y' hi);have GH:=hc.2.2.1.1;obtain⟨v,v1,v2,v3,v4⟩:=u7 401 N [r.conds[i].test] 300 (by intro y hy;rw[g'.1 hy];exact hc.2.2.2) ax an an an an;rw[bq hn,a' hi,Q1,QC an,Q1,v1,Q1,QC an,QC an];left;refine⟨_,rfl,⟨by simp only;omega,by simp only;omega,by simp only;omega,λbp=>?_⟩,by simp only;omega⟩;simp only at bp⊢;obtain⟨k1,k2⟩:=g4 hn;refine⟨k1,λc U=>?_⟩;rw[C',a' hi]at U;rcases w'.1 U with U|U;· exact k2 c U
   ·have Jw:c=r.conds[i]:=by simpa using U
    have hv:=v4 an;simp only[pK,Nat.add_zero]at hv;rw[Jw];exact⟨an,an⟩
  ·rw[br hn];right;exact⟨n,rfl,g2,g3,λh=>absurd h hn⟩
 ·rw[br hi,Q1,if_neg ax];right;refine⟨n,rfl,g2,g3,λh=>?_⟩;have:=g4 h;rwa [E' an]at this
theorem Eo (hN:9223372036854775808+1000000<=N) (hr:TX r) (h0:0<=n0/\n0<=100000000000000):
  ∃o,fz (XP N r) N (0,n0)=some o/\0<=o/\o<=100000000000000/\(o<300->n0<300/\∀c∈r.acts,tw c):=by
 have hlen:=hr.2.2.2.2.1;refine Ec (f:=XP N r) (λs=>s.1<=r.acts.length/\0<=s.2/\s.2<=100000000000000/\(s.2<300->n0<300/\∀c∈r.acts.take s.1,tw c)) (λs=>r.acts.length-s.1) _ (λs hs=>?_) N (0,n0) ⟨K' _,h0.1,h0.2,λh=>⟨h,ax⟩⟩ (by simp only;omega);obtain⟨i,n⟩:=s;obtain⟨g1,g2,g3,g4⟩:=hs;simp only at g1 g2 g3 g4;unfold XP;simp only;by_cases hi:i<r.acts.length
 ·rw [bq hi,Q1];by_cases hn:n<300
  ·have hc:=hr.2.2.2.2.2 _ (y' hi);obtain⟨v,v1,v2,v3,v4⟩:=u7 401 N r.acts[i].exprs 300 hc.2.2.2.2 hc.2.2.2.1 an an an an;rw[bq hn,a' hi,Q1,v1,Q1,QC an,QC an];left;refine⟨_,rfl,⟨by simp only;omega,by simp only;omega,by simp only;omega,λbp=>?_⟩,by simp only;omega⟩;simp only at bp⊢;obtain⟨k1,k2⟩:=g4 hn;refine⟨k1,λc U=>?_⟩;rw[C',a' hi]at U;rcases w'.1 U with U|U;· exact k2 c U
   ·have Jw:c=r.acts[i]:=by simpa using U
    have hv:=v4 an;rw[Jw];unfold tw;omega
  ·rw[br hn];right;exact⟨n,rfl,g2,g3,λh=>absurd h hn⟩
 ·rw[br hi,Q1,if_neg ax];right;refine⟨n,rfl,g2,g3,λh=>?_⟩;have:=g4 h;rwa [E' an]at this
def yS (r:Q9):Prop:=(∀c∈r.conds,E9 c)/\∀a∈r.acts,tw a
theorem CK (hN:9223372036854775808+1000000<=N) {rules:List Q9} (hr:∀r∈rules,TX r)(hl:rules.length<=1759218604390) (h0:0<=n0/\n0<=50000000000000):
  ∃o,fz (XN N rules) N (0,n0)=some o/\0<=o/\(o<300->∀r∈rules,yS r):=by
 refine Ec (f:=XN N rules) (λs=>s.1<=rules.length/\0<=s.2/\(s.2<300->∀c∈rules.take s.1,yS c)) (λs=>rules.length-s.1) _ (λs hs=>?_) N (0,n0) ⟨K' _,h0.1,λh=>ax⟩ (by simp only;omega);obtain⟨i,n⟩:=s;obtain⟨g1,g2,g4⟩:=hs;simp only at g1 g2 g4;unfold XN;simp only;by_cases hi:i<rules.length
 ·rw [bq hi,Q1];by_cases hn:n<300
  ·have hc:=hr _ (y' hi);have c1:=hc.2.2.2.1.1;have c2:=hc.2.2.2.2.1;obtain⟨v,v1,v2,v3,v4⟩:=Bp hN hc (n0:=n+((rules[i].conds.length:Nat):Int)+((rules[i].acts.length:Nat):Int)) an;obtain⟨w,w1,w2,w3,w4⟩:=Eo hN hc (n0:=v) ⟨v2,v3⟩;unfold Q5o;rw[bq hn,a' hi,Q1,QC an,QC an,v1,Q1,w1,Q1,QC an];left;refine⟨_,rfl,⟨by simp only;omega,by simp only;omega,λbp=>?_⟩,by simp only;omega⟩;simp only at bp⊢;intro c U;rw[C',a' hi]at U;rcases w'.1 U with U|U;· exact g4 hn c U
   ·have Jw:c=rules[i]:=by simpa using U
    rw[Jw];obtain⟨x1,x2⟩:=w4 bp;exact⟨(v4 x1).2,x2⟩
  ·rw[br hn];right;exact⟨n,rfl,g2,λh=>absurd h hn⟩
 ·rw[br hi,Q1,if_neg ax];right;refine⟨n,rfl,g2,λh=>?_⟩;have:=g4 h;rwa [E' an]at this
theorem Ma (hN:9223372036854775808+1000000<=N) {R:Sm} (U:Q8W R):
  ∃b,Zf N R.types R.rules=some b/\(b=true->∀r∈R.rules,yS r):=by
 unfold Zf;have t1:=U.1.1;have t2:=U.2.1;obtain⟨o,o1,o2,o3⟩:=CK hN U.2.2 t2 (n0:=((R.types.length+R.rules.length:Nat):Int)) an;rw[QC an,o1,Q1];exact⟨_,rfl,λhb=>o3 (cx hb)⟩
end
section
open Go Go.RowKit
def jB (a:Int):List Bool×List V:=if 0<=a/\a<=16 then(B! a.toNat false,B! a.toNat ⟨0,0,⟨#[]⟩⟩)else([],[])
theorem H4 (N:Nat)(a:Int):Sg N a=some (jB a)/\TE (jB a).1 (jB a).2:=by
 have h1:Sg N a=some (jB a):=by
  unfold Sg jB;by_cases c1:a<0;· rw[bq c1,Q1,if_pos rfl,if_neg an]
  ·rw[br c1,Q1];by_cases c2:a>16;· rw[bq c2,if_neg an]
   · rw[br c2,QC an,QC an,QC an,QC an,if_pos an]
 refine⟨h1,?_⟩;obtain⟨hs,vs,U,h3⟩:=WH N a;rw[h1]at U;rw[Option.some.inj U];exact h3
noncomputable section
def Gu (facts:List Qo)(r:Q9):Nat:=xa (Tu facts) facts r.conds (jB r.vars).1 (jB r.vars).2
def VQ (facts:List Qo)(r:Q9):List (List Int×List V):=goN (Tu facts) facts r.conds (jB r.vars).1 (jB r.vars).2 []
def Bb (facts:List Qo):List Q9->Nat->List Qy
 |[],_=>[]
 |r::l,i=>(VQ facts r).map (Nu ((i:Nat):Int))++Bb facts l (i+1)
def jK (facts:List Qo):List Q9->Nat
 |[]=>0
 |r::l=>Gu facts r+jK facts l
end
theorem Pz (facts:List Qo)(r:Q9):(VQ facts r).length<=Gu facts r+1:=zC _ _ _ _
theorem xu (facts:List Qo):∀(l:List Q9)(i:Nat),(Bb facts l i).length<=jK facts l+l.length
 |[],_=>by simp[Bb]
 | r::l,i=>by
   have:=xu facts l (i+1);have:=Pz facts r;simp only[Bb,jK,H',z',B'];omega
theorem sO {S:tG} {facts:List Qo}:∀{cs:List Qv} {hs:List Bool} {vs:List V} {ids:List Int} {x:List Int×List V},x∈goN S facts cs hs vs ids->x.1.length<=ids.length+cs.length/\(∀i∈ids,i∈x.1)/\∀i∈x.1,i∈ids\/∃f∈facts,f.id=i
 | [],hs,vs,ids,x,h=>by
   rw[goN,g']at h;subst h;exact⟨ax,λ_ h=>h,λ_ h=>.inl h⟩
 | c ::cs,hs,vs,ids,x,h=>by
   by_cases h3:c.kind=3
   ·rw[go3 h3]at h;split at h
    ·obtain⟨a,b⟩:=sO h;exact⟨by simp;omega,b⟩
    · cases h
   ·by_cases h2:c.kind=2
    ·rw[go2 h3 h2]at h;split at h;· cases h
     ·obtain⟨a,b⟩:=sO h;exact⟨by simp;omega,b⟩
    ·rw [go1 h3 h2]at h;obtain⟨f,hf,U⟩:=List.mem_flatMap.1 h;unfold WW at U;split at U
     ·obtain ⟨a,b,d⟩:=sO U;refine⟨by simp at a⊢;omega,λi hi=>b i (L' _ hi),λi hi=>?_⟩;rcases d i hi with hi|hi
      ·rcases w'.1 hi with hi|hi;· exact .inl hi
       · exact .inr ⟨f,hf,(g'.1 hi).symm⟩
      · exact .inr hi
     · cases U
theorem xv {facts:List Qo}:∀{l:List Q9} {i:Nat} {t:Qy},t∈Bb facts l i↔∃k r,l[k]? =some r/\t.rule=((i+k:Nat):Int)/\∃x∈VQ facts r,t.ids=x.1
 |[],i,t=>by simp[Bb]
 | r::l,i,t=>by
   rw[Bb,w',xv (l:=l)];constructor
   ·rintro(h|⟨k,q,h1,U,h3⟩)
    · obtain⟨x,hx,rfl⟩:=I'.1 h;exact⟨0,r,rfl,rfl,x,hx,rfl⟩
    · exact⟨k+1,q,by simpa using h1,by rw[U];omega,h3⟩
   ·rintro⟨k,q,h1,U,x,hx,h3⟩;cases k with
    | zero=>
      left;simp only[d!,Option.some.injEq]at h1;subst h1;refine I'.2 ⟨x,hx,?_⟩;cases t;simp only at U h3;unfold Nu;rw[U,h3];rfl
    | succ k=>
      right;exact⟨k,q,by simpa using h1,by rw[U];omega,x,hx,h3⟩
theorem Ib {facts:List Qo} {l:List Q9} (hl:∀r∈l,r.conds.length<=8) {i:Nat} {t:Qy} (h:t∈Bb facts l i):t.ids.length<=8:=by
 obtain⟨k,r,h1,_,x,hx,U⟩:=xv.1 h;have:=(sO hx).1;have:=hl r (V' h1);rw[U];simp at*;omega
end
section
open Go Go.RowKit Classical
theorem CL {N:Nat} {l:List Q4} {rc:Int->Int->Int->ByteArray->Int->Int->(List Q4)->Option (List Q4)} (hl:l.length<=1759218604390)(U:∀x∈l,rc x.kind x.value.k x.value.n x.value.s x.var x.op x.kids=some x.kids):
   ∀(k i fuel:Nat),i+k=l.length->k<fuel->fz (Y4 N l rc) fuel (i,l)=some l:=by
 intro k;induction k with
 | zero=>
   intro i fuel hi hf;obtain⟨fuel,rfl⟩:∃q,fuel=q+1:=⟨fuel-1,an⟩
   rw[vM];unfold Y4;simp only;rw[if_neg (by simp;omega)]
 | succ k ih=>
   intro i fuel hi hf;obtain⟨fuel,rfl⟩:∃q,fuel=q+1:=⟨fuel-1,an⟩
   have h1:i<l.length:=an
   rw[NW (s':=(i+1,l))];· exact ih (i+1) fuel an an
   ·unfold Y4;simp only;rw[bq h1,a' h1,Q1,U _ (y' h1),Q1,Q1,QC an];congr 2;have e:(⟨l[i].kind,l[i].value,l[i].var,l[i].op,l[i].kids⟩:Q4)=l[i]:=by cases l[i];rfl
    rw[e,List.set_getElem_self]
theorem IU:∀(m N:Nat)(e:Q4),nodes e<=m->9223372036854775808+m<=N->nodes e<=1759218604390->Y7 N e.kind e.value.k e.value.n e.value.s e.var e.op e.kids=some e.kids:=by
 intro m;induction m with
 |zero=>intro N e h;rw[NZ]at h;omega
 | succ m ih=>
   intro N e hn hN hb;obtain⟨N,rfl⟩:∃k,N=k+1:=⟨N-1,an⟩
   rw[NZ]at hn hb;have hk:=Ye e.kids;show ZM N (Y7 N) e.kind e.value.k e.value.n e.value.s e.var e.op e.kids=some e.kids;unfold ZM;rw[QC an,CL an (λx U=>ih N x (by have:=U3 U;omega) an (by have:=U3 U;omega)) e.kids.length 0 N an an,Q1]
theorem I4 {N:Nat} {c:Qv} (U:9223372036854775808+1000000<=N)(ha:c.args.length<=1000000)(ht:nodes c.test<=1000000):Y8 N c.kind c.type c.args c.test.kind c.test.value.k c.test.value.n c.test.value.s c.test.var c.test.op c.test.kids=some c.test.kids:=by
 unfold Y8;rw[QC an,IU 1000000 N c.test ht U an,Q1]
section
variable {S:gO} {I:fg->Prop} {P:Qo->Prop} {C:ic} {loc:Loc} {s s':Qc} {facts:List Qo} {T:cg} {Ta:Nat->cg} {B:Nat->List Int->cg×cg} {Zo:Nat->Prop} {cq:Option Nat}
theorem Inv.frame (h:Inv S C T Ta B Zo cq loc s)(hs:∀b o,s b=some o->s' b=some o):Inv S C T Ta B Zo cq loc s':=by
 refine⟨?_,λr R hr=>?_,λr R k sc hr hk hz=>?_,λA hA=>?_,λp r π hp=>?_,h.inj,h.root,h.le⟩;· obtain⟨x,h1,U⟩:=h.net;exact⟨x,hs _ _ h1,U⟩
 · obtain⟨x,h1,U⟩:=h.row r R hr;exact⟨x,hs _ _ h1,U⟩
 ·have h0:=h.step r R k sc hr hk hz;unfold ju at h0⊢;split at h0;· obtain⟨x,h1,U⟩:=h0;exact⟨x,hs _ _ h1,U⟩
  · obtain⟨x,h1,U⟩:=h0;exact⟨x,hs _ _ h1,U⟩
  · obtain⟨x,h1,U⟩:=h0;exact⟨x,hs _ _ h1,U⟩
 · obtain⟨x,h1,U⟩:=h.al A hA;exact⟨x,hs _ _ h1,U⟩
 · obtain⟨R,x,h1,U,h3⟩:=h.part p r π hp;exact⟨R,x,h1,hs _ _ U,h3⟩
def setAl (C:ic)(m:MS ByteArray Nat)(az:List JI):ic:={C with alphas:=m,als:=az}
theorem Inv.setAl {x:gT} {m:MS ByteArray Nat} {az:List JI} (h:Inv S C T Ta B Zo cq loc s)(hx:s C.g=some (.net x))(ha:∀A∈az,JJ (Ta A.b) A (s A.b)):
  Inv S (setAl C m az) T Ta B Zo cq loc (cu s C.g (.net {x with alphas:=m})):=by
 have ne:∀b o,s b=some o->(∀z,o≠.net z)->(cu s C.g (.net {x with alphas:=m})) b=some o:=λb o h1 U=>by
  rw[QG (λe=>by rw[e,hx]at h1;cases h1;exact U _ rfl)];exact h1
 refine⟨?_,λr R hr=>?_,λr R k sc hr hk hz=>?_,λA hA=>?_,λp r π hp=>?_,h.inj,h.root,h.le⟩
 ·obtain⟨y,h1,a2,a3,a4,a5,a6,a7,a8⟩:=h.net;rw[hx]at h1;cases h1;exact⟨_,kf _ _ _,a2,a3,a4,a5,rfl,a7,a8⟩
 · obtain⟨y,h1,U⟩:=h.row r R hr;exact⟨y,ne _ _ h1 (λ_ e=>by cases e),U⟩
 ·have h0:=h.step r R k sc hr hk hz;unfold ju at h0⊢;split at h0;· obtain⟨y,h1,U⟩:=h0;exact⟨y,ne _ _ h1 (λ_ e=>by cases e),U⟩
  · obtain⟨y,h1,U⟩:=h0;exact⟨y,ne _ _ h1 (λ_ e=>by cases e),U⟩
  · obtain⟨y,h1,U⟩:=h0;exact⟨y,ne _ _ h1 (λ_ e=>by cases e),U⟩
 · obtain⟨y,h1,U⟩:=ha A hA;exact⟨y,ne _ _ h1 (λ_ e=>by cases e),U⟩
 · obtain⟨R,y,h1,U,h3⟩:=h.part p r π hp;exact⟨R,y,h1,ne _ _ U (λ_ e=>by cases e),h3⟩
structure Ty (C:ic) (n:Nat):Prop where
 A:Yv C
 keyed:∀k a,C.alphas.look k=some a->∃A∈C.als,A.b=a/\k.data.toList=Cm A.kind A.args
 good:∀A∈C.als,dv A.kind/\(∀a∈A.args,tu a)/\A.args.length<=1000/\wa C.types A.kind ((A.args.length:Nat):Int)=true
 few:C.alphas.keys.length<=n
theorem FW {a:gS} {l:List gS}:kB (l++[a])=kB l++44::(zc a.v).data.toList:=by
 unfold kB;rw[List.flatMap_append];simp
theorem Ml {l:List gS} (h:∀a∈l,qp a.v):∀a∈ki l,qp a.v:=λa U=>by
 unfold ki at U;obtain⟨b,hb,rfl⟩:=I'.1 U;split;· exact h b hb
 · exact⟨by show dv 0;unfold dv;omega,by show 0<=_;omega⟩
theorem Gp {N n:Nat} {c:Qv} {Q:Option Nat×Qc->Prop} (hN:9223372036854775808<=N)(h:Inv S C (fl []) (λ_=>fl []) B Zo cq loc s)(hK:Ty C n)(F9:dv c.type)(GH:c.args.length<=1000)(SY:∀a∈ki c.args,tu a)(j9:∀a∈c.args,qp a.v)(Wp:wa C.types c.type ((c.args.length:Nat):Int)=true)
  (hQ:∀m az A s',Inv S (setAl C m az) (fl []) (λ_=>fl []) B Zo cq loc s'->Ty (setAl C m az) (n+1)->A∈az->A.kind=c.type->A.args=ki c.args->(∀A'∈C.als,A'∈az)->(∀b o,b≠C.g->s b=some o->s' b=some o)->Q (some A.b,s')):
  Sb N C.g c.kind c.type c.args c.test.kind c.test.value.k c.test.value.n c.test.value.s c.test.var c.test.op c.test.kids s Q:=by
 have hml:(ki c.args).length=c.args.length:=z' _;obtain⟨xn,n1,n2,n3,n4,n5,n55,n6,n8,_⟩:=h.gNet;unfold Sb;refine w8 λga=>kY λg hg=>?_;have hgn:g≠C.g:=λe=>by rw[e,n2]at hg;cases hg
 refine mW λkj1 Ol=>?_
 have fin:∀p cc,kj1 (cu s g (.alpha ⟨c.type,ki c.args,p,cc,MS.nil,ga⟩)) Q:=λp cc=>by
  subst Ol
  have gN:Go.Proofs.YtocfkfhdcnjklaaGreatDoor.gNet (cu s g (.alpha ⟨c.type,ki c.args,p,cc,MS.nil,ga⟩)) C.g=some xn:=by
   unfold Go.Proofs.YtocfkfhdcnjklaaGreatDoor.gNet;rw[QG (Ne.symm hgn),n2]
  have sN:(cu s g (.alpha ⟨c.type,ki c.args,p,cc,MS.nil,ga⟩)) C.g=some (.net xn):=by rw[QG (Ne.symm hgn),n2]
  have keep:∀b o,s b=some o->(cu s g (.alpha ⟨c.type,ki c.args,p,cc,MS.nil,ga⟩)) b=some o:=λb o hb=>by
   rw[QG (λe=>by rw[e,hg]at hb;cases hb)];exact hb
  refine Qk (a:=⟨c.type,ki c.args,p,cc,MS.nil,ga⟩) (by unfold vQ;rw[kf]) ?_;refine iE F9 ?_;refine mW λkj2 LD=>?_
  have a2k:∀key:ByteArray,key.data.toList=Cm c.type (ki c.args)->kj2 key Q:=λkey kT=>by
   subst LD;refine mW λkj3 YC=>?_
   refine mW λkj4 hk4=>?_;refine Qk gN ?_;refine zZ (λou=>?_) (λa ha=>?_)
   ·subst hk4;refine kU rfl ?_;refine Qk gN ?_;refine nG ?_;subst YC;refine Qk (a:={xn with alphas:=MS.put xn.alphas key g}) (by unfold Go.Proofs.YtocfkfhdcnjklaaGreatDoor.gNet;rw[kf]) ?_;refine FE (a:=g) (by rw[MS.look_put,if_pos rfl]) ?_;have a2K:C.alphas.look key=none:=by rw[<-n6];exact ou
    have a0H:JJ (fl []) ⟨g,c.type,ki c.args⟩ (cu s g (.alpha ⟨c.type,ki c.args,p,cc,MS.nil,ga⟩) g):=⟨_,kf _ _ _,rfl,rfl,Q',λi=>rfl⟩
    have hinv:=(h.frame keep).setAl (m:=C.alphas.put key g) (az:=C.als++[⟨g,c.type,ki c.args⟩]) sN (λA U=>by
     rcases w'.1 U with U|U;· obtain⟨y,h1,h2⟩:=h.al A U;exact⟨y,keep _ _ h1,h2⟩
     · rw[g'.1 U];exact a0H)
    have e6:(({xn with alphas:=MS.put xn.alphas key g}:gT))={xn with alphas:=C.alphas.put key g}:=by rw[n6]
    rw[e6];refine hQ _ _ ⟨g,c.type,ki c.args⟩ _ hinv ?_ (T' _ (g'.2 rfl)) rfl rfl (λA' wq=>L' _ wq) (λb o hb ho=>by rw[QG hb];exact keep b o ho);refine⟨⟨λk a ha=>?_,λA U=>?_⟩,λk a ha=>?_,λA U=>?_,?_⟩
    ·have EW:(C.alphas.put key g).look k=some a:=ha;rw[MS.look_put]at EW;split at EW;· cases EW;exact⟨_,T' _ (g'.2 rfl),rfl⟩
     · obtain⟨A,h1,h2⟩:=hK.A.ofKey k a EW;exact⟨A,L' _ h1,h2⟩
    ·rcases w'.1 U with U|U
     ·obtain⟨k,hk⟩:=hK.A.key A U;exact⟨k,by show(C.alphas.put key g).look k=_;rw[MS.look_put,if_neg (λe=>by rw[e,a2K]at hk;cases hk)];exact hk⟩
     ·rw[g'.1 U];exact⟨key,by show(C.alphas.put key g).look key=_;rw[MS.look_put,if_pos rfl]⟩
    ·have EW:(C.alphas.put key g).look k=some a:=ha;rw[MS.look_put]at EW;split at EW
     ·rename_i e;cases EW;exact⟨_,T' _ (g'.2 rfl),rfl,by rw[e];exact kT⟩
     · obtain⟨A,h1,h2⟩:=hK.keyed k a EW;exact⟨A,L' _ h1,h2⟩
    ·rcases w'.1 U with U|U;· exact hK.good A U
     ·rw[g'.1 U];exact⟨F9,SY,by show(ki c.args).length<=_;omega,by show wa C.types c.type (((ki c.args).length:Nat):Int)=true;rw[hml];exact Wp⟩
    ·show(C.alphas.put key g).keys.length<=n+1;rw[MS.keys_put_eq];have:=hK.few;split;· omega
     · rw[H',J'];omega
   ·subst hk4;refine Ba rfl ?_;subst YC;refine Qk gN ?_;refine FE ha ?_;rw[n6]at ha;obtain⟨A,rh,rfl,Oe⟩:=hK.keyed key a ha;rw[kT]at Oe;obtain⟨g1,g2,g3,g4⟩:=hK.good A rh;obtain⟨e1,e2⟩:=key_inj F9 g1 SY g2 Oe;have hinv:Inv S (Go.Proofs.YtocfkfhdcnjklaaGreatDoor.setAl C C.alphas C.als) (fl []) (λ_=>fl []) B Zo cq loc (cu s g (.alpha ⟨c.type,ki c.args,p,cc,MS.nil,ga⟩)):=h.frame keep;exact hQ C.alphas C.als A _ hinv ⟨⟨hK.A.ofKey,hK.A.key⟩,hK.keyed,hK.good,r! hK.few⟩ rh e1.symm e2.symm (λ_ h=>h) (λb o _ ho=>keep b o ho)
  refine yX (λ(u,acc)=>u<=c.args.length/\acc.data.toList=Cm c.type ((ki c.args).take u)/\acc.size<=21+u*140737488351234) (λ(u,_)=>c.args.length-u) ?_ N (0,wb c.type) ⟨K' _,?_,?_⟩ (by dsimp only;omega)
  ·rintro⟨u,acc⟩ ag ⟨hu,PH,has⟩ gH;dsimp only at hu PH has gH⊢;refine jA (λhb=>?_) (λhb=>?_)
   ·have bp:u<(ki c.args).length:=of_decide_eq_true hb;have mc:=a' bp;have a0V:u<c.args.length:=an
    have hao:qp (ki c.args)[u].v:=Ml j9 _ (y' bp);have YI:=J1 hao.2;have e1:(⟨#[44]⟩:ByteArray).size=1:=rfl;have e2:((⟨#[44]⟩:ByteArray)++zc (ki c.args)[u].v).size=1+(zc (ki c.args)[u].v).size:=by rw[ByteArray.size_append,e1]
    refine Qk mc (Qk (RS N hao.1 hao.2) (iE (by rw[e1];omega) (iE (by rw[e2];omega) (iE an ?_))));refine gH (u+1,_) ⟨an,?_,?_⟩ (by dsimp only;omega)
    ·rw[C',mc];show _=Cm c.type ((ki c.args).take u++[(ki c.args)[u]]);unfold Cm;rw[FW,<-List.append_assoc];have:acc.data.toList=(wb c.type).data.toList++kB ((ki c.args).take u):=PH;rw[<-this];simp[ByteArray.data_append]
    · rw[ByteArray.size_append,e2,Nat.add_mul];omega
   ·have ri:¬u<(ki c.args).length:=of_decide_eq_false hb;rw[E' an]at PH;exact a2k acc PH
  · rw[i!];unfold Cm kB;simp
  · have:=xJ (n:=c.type);omega
 refine yX (λ(u,σ)=>u<=c.args.length/\∃p cc,σ=cu s g (.alpha ⟨c.type,ki (c.args.take u),p,cc,MS.nil,ga⟩)) (λ(u,_)=>c.args.length-u) ?_ N (0,_) ⟨K' _,none,0,rfl⟩ (by dsimp only;omega);rintro⟨u,σ⟩ ag ⟨hu,p,cc,Ff⟩ gH;dsimp only at hu Ff gH⊢;refine jA (λhb=>?_) (λhb=>?_)
 ·have bp:u<c.args.length:=of_decide_eq_true hb;have mc:=a' bp;refine Qk mc ?_;refine mW λkj5 hk5=>?_
  have hk:∀(a1 a2 a3 a4:Int) (a5:ByteArray),(⟨a1,a2,⟨a3,a4,a5⟩⟩:gS)=(if c.args[u].k=4 then c.args[u]else Du)->kj5 (a1,a2,a3,a4,a5) Q:=λa1 a2 a3 a4 a5 he=>by
   subst hk5;dsimp only;refine Qk (a:=⟨c.type,ki (c.args.take u),p,cc,MS.nil,ga⟩) (by unfold vQ;rw[Ff,kf]) ?_;have hmt:(ki (c.args.take u)).length<=u:=by unfold ki;rw[z',v!];omega
   refine iE (by show(ki (c.args.take u)).length+1<=_;omega) ?_;refine iE an ?_;refine w8 λp'=>w8 λc'=>nG ?_;refine gH (u+1,_) ⟨an,p',c',?_⟩ (by dsimp only;omega);rw[Ff,ti,he];congr 4;rw[C',mc];unfold ki;rw[D'];rfl
  refine jA (λhb=>?_) (λhb=>?_)
  ·have h4:c.args[u].k≠4:=by simpa using hb
   exact hk 1 0 0 0 ⟨#[]⟩ (by rw[if_neg h4];rfl)
  ·have h4:c.args[u].k=4:=by simpa using hb
   exact hk _ _ _ _ _ (by rw[if_pos h4])
 ·have ri:¬u<c.args.length:=of_decide_eq_false hb;rw[E' an]at Ff;rw[Ff];exact fin p cc
end
end
section
open Go Go.RowKit Classical
theorem jl.top {loc:Loc} {n p r:Nat} (h:jl loc n)(hp:loc p=none):jl (jf loc p (r,[])) n:=by
 obtain⟨L,U,a2,rfl⟩:=h;refine⟨L,U,λq=>?_,rfl⟩;rw[a2];unfold jf;by_cases hq:q=p
 ·subst hq;rw[hp,if_pos rfl];constructor;· rintro⟨_,_,h,_⟩;cases h
  · rintro⟨_,_,h,h2⟩;cases h;exact absurd rfl h2
 · rw[if_neg hq]
theorem jl.untop {loc:Loc} {n p r:Nat} (h:jl (jf loc p (r,[])) n)(hp:loc p=none):jl loc n:=by
 obtain⟨L,U,a2,rfl⟩:=h;refine⟨L,U,λq=>?_,rfl⟩;rw[a2];unfold jf;by_cases hq:q=p
 ·subst hq;rw[hp,if_pos rfl];constructor;· rintro⟨_,_,h,h2⟩;cases h;exact absurd rfl h2
  · rintro⟨_,_,h,_⟩;cases h
 · rw[if_neg hq]
def lr (b k:Nat)(sc:gh)(o:Option PO):Prop:=match sc.st with
 | .join _=>∃pA,o=some (.join ⟨sc.al,b,((k:Nat):Int),sc.c,MS.nil,pA⟩)
 | .nt _=>∃pA,o=some (.nt ⟨sc.al,b,((k:Nat):Int),sc.c,MS.nil,pA⟩)
 | .test _=>∃pA,o=some (.test ⟨b,((k:Nat):Int),sc.c,MS.nil,pA⟩)
theorem lr.some {b k:Nat} {sc:gh} {o:Option PO} (h:lr b k sc o):∃y,o=some y/\(∀z,y≠.row z)/\(∀z,y≠.net z)/\(∀z,y≠.part z)/\∀z,y≠.alpha z:=by
 unfold lr at h;split at h;· obtain⟨pA,h⟩:=h;exact⟨_,h,(λ_ e=>by cases e),(λ_ e=>by cases e),(λ_ e=>by cases e),λ_ e=>by cases e⟩
 · obtain⟨pA,h⟩:=h;exact⟨_,h,(λ_ e=>by cases e),(λ_ e=>by cases e),(λ_ e=>by cases e),λ_ e=>by cases e⟩
 · obtain⟨pA,h⟩:=h;exact⟨_,h,(λ_ e=>by cases e),(λ_ e=>by cases e),(λ_ e=>by cases e),λ_ e=>by cases e⟩
theorem ju.some {U:Option Nat} {loc:Loc} {r:Nat} {R:gp} {k:Nat} {sc:gh} {o:Option PO} (h:ju U loc r R k sc o):∃y,o=some y/\(∀z,y≠.row z)/\(∀z,y≠.net z)/\(∀z,y≠.part z)/\∀z,y≠.alpha z:=by
 unfold ju at h;split at h;· obtain⟨z,h,_⟩:=h;exact⟨_,h,(λ_ e=>by cases e),(λ_ e=>by cases e),(λ_ e=>by cases e),λ_ e=>by cases e⟩
 · obtain⟨z,h,_⟩:=h;exact⟨_,h,(λ_ e=>by cases e),(λ_ e=>by cases e),(λ_ e=>by cases e),λ_ e=>by cases e⟩
 · obtain⟨z,h,_⟩:=h;exact⟨_,h,(λ_ e=>by cases e),(λ_ e=>by cases e),(λ_ e=>by cases e),λ_ e=>by cases e⟩
def pR (C:ic)(sc:gh):Prop:=(∀a,sc.st≠.test a)->∃A∈C.als,A.b=sc.al/\A.kind=sc.c.type/\A.args=ki sc.c.args
abbrev Gb (S:gO) (C:ic) (loc:Loc) (s:Qc):Prop:=Inv S C (fl []) (λ_=>fl []) (λ_ _=>(fl [],fl [])) (λ_=>False) none loc s
structure nP (S:gO) (C:ic) (n b j:Nat) (conds:List Qv) (steps:List gh) (loc:Loc) (s:Qc):Prop where
 inv:Gb S C loc (del s b)
 al:Ty C n
 row:∃sP sC wA,s b=some (.row ⟨C.g,steps.map (·.st),sP,sC,MS.nil,wA⟩)
 len:steps.length=j
 conds:steps.map (·.c)=conds.take j
 obj:∀k sc,steps[k]? =some sc->HN sc/\lr b k sc (s sc.st.adr)/\pR C sc
 inj:∀(k k':Nat) (sc di:gh),steps[k]? =some sc->steps[k']? =some di->sc.st.adr=di.st.adr->k=k'
 old:∀(r:Nat) (R:gp) (k k':Nat) (sc di:gh),C.rows[r]? =some R->R.steps[k]? =some sc->steps[k']? =some di->sc.st.adr≠di.st.adr
section
variable {S:gO} {I:fg->Prop} {P:Qo->Prop} {C:ic} {loc:Loc} {s s1:Qc} {n b j ga:Nat} {conds:List Qv} {steps:List gh}
theorem Gv {O:Type} {s:Nat->Option O} {b:Nat} {o:O} (h:s b=none):del (cu s b o) b=s:=by
 funext c;unfold del cu;by_cases U:c=b;· rw[if_pos U,U,h]
 · rw[if_neg U,if_neg U]
theorem nP.push (h:nP S C n b j conds steps loc s) {m:MS ByteArray Nat} {az:List JI} {n':Nat} (hinv:Gb S (setAl C m az) loc s1)(GH:Ty (setAl C m az) n')(a0Q:∀bb o,bb≠C.g->del s b bb=some o->s1 bb=some o)(has:∀A∈C.als,A∈az)(hga:s1 ga=none) {sc:gh} (gy:sc.st.adr=ga)(a0T:HN sc)(hc:conds[j]? =some sc.c) {o:PO} (ho:lr b j sc (some o))
  (Wm:pR (setAl C m az) sc) (hb:cu s1 ga o b=none) {sP:Option Addr} {sC wA:Nat}:nP S (setAl C m az) n' b (j+1) conds (steps++[sc]) loc (cu (cu s1 ga o) b (.row ⟨C.g,(steps++[sc]).map (·.st),sP,sC,MS.nil,wA⟩)):=by
 obtain⟨_,_,_,gm⟩:=h.row;obtain⟨xn,hn1,_⟩:=h.inv.net;have gj:∀bb y,s1 bb=some y->(cu s1 ga o) bb=some y:=λbb y hy=>by rw[QG (λe=>by rw[e,hga]at hy;cases hy)];exact hy
 have a2A:ga≠b:=λe=>by rw[e,kf]at hb;cases hb
 have gJ:∀(k:Nat) (di:gh),steps[k]? =some di->di.st.adr≠b/\∃y,s1 di.st.adr=some y/\s di.st.adr=some y:=λk di hk=>by
  obtain⟨_,h2,_⟩:=h.obj k di hk;obtain⟨y,h3,h4,h5,_⟩:=h2.some;have de:di.st.adr≠b:=λe=>by rw[e,gm]at h3;cases h3;exact h4 _ rfl
  have oi:del s b di.st.adr=some y:=by rw[mJ s de];exact h3
  exact⟨de,y,a0Q _ _ (λe=>by rw[e,hn1]at oi;cases oi;exact h5 _ rfl) oi,h3⟩
 have LI:∀k,(steps++[sc])[k]? =if k<j then steps[k]? else if k=j then some sc else none:=λk=>by
  rw[j!];rw[h.len];by_cases h1:k<j;· rw[if_pos h1,if_pos h1]
  ·rw[if_neg h1,if_neg h1];by_cases h2:k=j;· rw[if_pos h2,h2,h!];rfl
   · rw[if_neg h2,S' (by rw[J'];omega)]
 refine⟨?_,GH,⟨sP,sC,wA,by rw[kf];rfl⟩,by rw[H',h.len];rfl,?_,λk di hk=>?_,λk k' x x' hk U he=>?_,λr R k k' x x' hr hk U he=>?_⟩
 ·rw[Gv hb];exact hinv.frame gj
 · rw[D',h.conds,C',hc];rfl
 ·rw [LI]at hk;split at hk
  ·obtain⟨h1,h2,h3⟩:=h.obj k di hk;obtain⟨g1,y,g2,g3⟩:=gJ k di hk;refine⟨h1,?_,λht=>?_⟩;· rw[QG g1,gj _ _ g2,<-g3];exact h2
   ·obtain⟨A,q1,q2⟩:=h3 ht;exact⟨A,has A q1,q2⟩
  ·split at hk
   ·rename_i e;cases hk;subst e;refine⟨a0T,?_,Wm⟩;rw[gy,QG a2A,kf];exact ho
   · cases hk
 ·rw [LI]at hk U;split at hk
  ·split at U;· exact h.inj k k' x x' hk U he
   ·split at U
    ·cases U;obtain⟨_,y,g2,_⟩:=gJ k x hk;rw[he,gy,hga]at g2;cases g2
    · cases U
  ·split at hk
   ·cases hk;split at U
    ·obtain⟨_,y,g2,_⟩:=gJ k' x' U;rw[<-he,gy,hga]at g2;cases g2
    ·split at U
     ·rename_i e1 _ e2;rw[e1,e2]
     · cases U
   · cases hk
 ·rw [LI]at U;split at U;· exact h.old r R k k' x x' hr hk U he
  ·split at U
   ·cases U;obtain⟨y,g1,_⟩:=(hinv.step r R k x hr hk (λhz=>hz)).some;rw[he,gy,hga]at g1;cases g1
   · cases U
def Jm (C:ic)(R:gp)(p:Option Addr)(c:Nat):ic:={C with rows:=C.rows++[R],rP:=p,rC:=c}
theorem OZ {l:List gp} {R U:gp} {r:Nat} (h:(l++[R])[r]? =some U):(r<l.length/\l[r]? =some U)\/(r=l.length/\U=R):=by
 rw[j!]at h;split at h;· rename_i bp;exact .inl ⟨bp,h⟩
 ·right;by_cases e:r=l.length
  ·rw[e,h!]at h;simp at h;exact⟨e,h.symm⟩
  · rw[S' (by rw[J'];omega)]at h;cases h
theorem nP.whole (h:nP S C n b j conds steps loc s) {xn:gT} {p:Option Addr} {c g ka:Nat} {hs:List Bool} {vs:List V} (hx:s C.g=some (.net xn))(hg:(cu s C.g (.net {xn with rows:=xn.rows++[b],rowsP:=p,rowsC:=c})) g=none) {sP:Option Addr} {sC wA:Nat} (gm:s b=some (.row ⟨C.g,steps.map (·.st),sP,sC,MS.nil,wA⟩)):
  Inv S (Jm C ⟨b,steps,sP,sC,g,hs,vs⟩ p c) (fl []) (λ_=>fl []) (λ_ _=>(fl [],fl [])) (λ_=>False) (some g) (jf loc g (C.rows.length,[])) (cu (cu s C.g (.net {xn with rows:=xn.rows++[b],rowsP:=p,rowsC:=c})) g (.part ⟨hs,vs,none,0,MS.nil,ka,none⟩)):=by
 have hI:=h.inv;have hgn:g≠C.g:=λe=>by rw[e,kf]at hg;cases hg
 have hsg:s g=none:=by rw[QG hgn]at hg;exact hg
 have hgb:g≠b:=λe=>by rw[e,gm]at hsg;cases hsg
 have PJ:b≠C.g:=λe=>by rw[e,hx]at gm;cases gm
 have YD:loc g=none:=hI.none_loc (by rw[mJ s hgb];exact hsg)
 have keep:∀bb o,bb≠C.g->s bb=some o->(cu (cu s C.g (.net {xn with rows:=xn.rows++[b],rowsP:=p,rowsC:=c})) g (.part ⟨hs,vs,none,0,MS.nil,ka,none⟩)) bb=some o:=λbb o h1 h2=>by
  rw[QG (λe=>by rw[e,hsg]at h2;cases h2),QG h1];exact h2
 have GR:∀bb o,bb≠C.g->del s b bb=some o->(cu (cu s C.g (.net {xn with rows:=xn.rows++[b],rowsP:=p,rowsC:=c})) g (.part ⟨hs,vs,none,0,MS.nil,ka,none⟩)) bb=some o:=λbb o h1 h2=>keep bb o h1 (by
  unfold del at h2;split at h2;· cases h2
  · exact h2)
 have LM:del s b C.g=some (.net xn):=by rw[mJ s (Ne.symm PJ)];exact hx
 have Xz:∀y l,loc y=some l->jf loc g (C.rows.length,[]) y=some l:=λy l hl=>by
  unfold jf;rw[if_neg (λe=>by rw[e,YD]at hl;cases hl)];exact hl
 have bp:∀y r π,loc y=some (r,π)->r<C.rows.length:=λy r π hy=>by
  obtain⟨R,x,a1,_⟩:=hI.part y r π hy;exact(O'.1 a1).1
 have dn:∀y r π,jf loc g (C.rows.length,[]) y=some (r,π)->(y=g/\r=C.rows.length/\π=[])\/loc y=some (r,π):=λy r π hy=>by
  unfold jf at hy;split at hy;· rename_i e;cases hy;exact .inl ⟨e,rfl,rfl⟩
  · exact .inr hy
 refine⟨?_,λr R hr=>?_,λr R k sc hr hk _=>?_,λA hA=>?_,λq r π hq=>?_,λq q' l hq ef=>?_,λr R hr=>?_,λm hm=>?_⟩
 ·obtain⟨x,a1,a2,a3,a4,a5,a6,a7,a8,m,a9,js⟩:=hI.net;rw[LM]at a1;cases a1;refine⟨{xn with rows:=xn.rows++[b],rowsP:=p,rowsC:=c},?_,a2,?_,rfl,rfl,a6,a7,a8,m,a9,js.top YD⟩
  ·show(cu (cu s C.g _) g _) C.g=_;rw[QG (Ne.symm hgn),kf]
  ·show xn.rows++[b]=(C.rows++[(⟨b,steps,sP,sC,g,hs,vs⟩:gp)]).map λR=>R.b;rw[D',a3];rfl
 ·rcases OZ hr with⟨h1,h2⟩|⟨h1,rfl⟩
  ·obtain⟨y,b1,b2,b3,b4,b5,b6⟩:=hI.row r R h2;exact⟨y,GR _ _ (λe=>by rw[e,LM]at b1;cases b1) b1,b2,b3,b4,b5,b6.fresh YD⟩
  ·refine ⟨_,keep _ _ PJ gm,rfl,rfl,rfl,rfl,λy=>?_⟩;constructor;· intro hy;exact absurd hy MS.keys_nil
   ·rintro⟨⟨π,q1,_⟩,q2⟩;rcases dn y r π q1 with⟨e,_⟩|e;· exact absurd (by rw[e]) q2
    · have:=bp y r π e;omega
 ·rcases OZ hr with⟨h1,h2⟩|⟨h1,rfl⟩
  ·have U:=hI.step r R k sc h2 hk (λhz=>hz);obtain⟨y,g1,_,g3,_⟩:=U.some;have g4:=GR _ _ (λe=>by rw[e,LM]at g1;cases g1;exact g3 _ rfl) g1;rw[g4,<-g1];unfold ju at U⊢;split at U;· obtain⟨z,b1,b2,b3,b4,b5,b6⟩:=U;exact⟨z,b1,b2,b3,b4,b5,b6.fresh YD⟩
   · obtain⟨z,b1,b2,b3,b4,b5,b6⟩:=U;exact⟨z,b1,b2,b3,b4,b5,b6.fresh YD⟩
   · exact U
  ·obtain ⟨_,U,_⟩:=h.obj k sc hk;obtain⟨y,g1,_,g3,_⟩:=U.some;have g4:=keep _ _ (λe=>by rw[e,hx]at g1;cases g1;exact g3 _ rfl) g1;rw[g4,<-g1]
   have LI:LK (some g) (jf loc g (C.rows.length,[])) r k (MS.nil:MS Nat Bool):=λy=>by
    constructor;· intro hy;exact absurd hy MS.keys_nil
    ·rintro⟨⟨π,q1,_⟩,q2⟩;rcases dn y r π q1 with⟨e,_⟩|e;· exact absurd (by rw[e]) q2
     · have:=bp y r π e;omega
   clear g4 g1;revert U;generalize s sc.st.adr=o;intro U;unfold lr at U;unfold ju;cases ca:sc.st with
   |join a=>rw[ca]at U;obtain⟨pA,U⟩:=U;exact⟨_,U,rfl,rfl,rfl,rfl,LI⟩
   |nt a=>rw[ca]at U;obtain⟨pA,U⟩:=U;exact⟨_,U,rfl,rfl,rfl,rfl,LI⟩
   |test a=>rw[ca]at U;obtain⟨pA,U⟩:=U;exact⟨_,U,rfl,rfl,rfl,λy=>MS.keys_nil⟩
 ·obtain⟨z,b1,b2⟩:=hI.al A hA;exact⟨z,GR _ _ (λe=>by rw[e,LM]at b1;cases b1) b1,b2⟩
 ·rcases dn q r π hq with⟨rfl,rfl,rfl⟩|hq0
  ·refine ⟨⟨b,steps,sP,sC,q,hs,vs⟩,⟨hs,vs,none,0,MS.nil,ka,none⟩,by show(C.rows++[_])[C.rows.length]? =_;rw[X' (k! _),h!];rfl,kf _ _ _,⟨by cases steps<;>rfl,λ_=>⟨rfl,rfl,rfl⟩,(λρ i e=>by simp at e),λy=>?_,λe=>absurd rfl e,λsc a _ _ hk=>?_,Q'⟩⟩
   ·constructor;· intro hy;exact absurd hy MS.keys_nil
    ·rintro⟨i,hi⟩;rcases dn y _ _ hi with⟨_,_,e⟩|e;· simp at e
     · have:=bp y _ _ e;omega
   ·obtain⟨y,i,hi⟩:=hk;rcases dn y _ _ hi with⟨_,_,e⟩|e;· simp at e
    · have:=bp y _ _ e;omega
  ·obtain ⟨R,x,c1,c2,c3⟩:=hI.part q r π hq0
   have cz:(Jm C ⟨b,steps,sP,sC,g,hs,vs⟩ p c).rows[r]? =some R:=by
    show(C.rows++[_])[r]? =_;rw[List.getElem?_append_left (O'.1 c1).1];exact c1
   have a0R:∀y i,jf loc g (C.rows.length,[]) y=some (r,π++[i])->loc y=some (r,π++[i]):=λy i hy=>by
    rcases dn y _ _ hy with⟨_,_,e⟩|e;· simp at e
    · exact e
   refine⟨R,x,cz,GR _ _ (λe=>by rw[e,LM]at c2;cases c2) c2,⟨c3.env,c3.top,λρ i e=>?_,λy=>?_,λ_=>c3.blocks ax,λsc a e1 e2 hk=>?_,c3.kn⟩⟩
   ·obtain⟨d1,q2,d2,d3⟩:=c3.up ρ i e;exact⟨d1,q2,d2,Xz _ _ d3⟩
   ·rw[c3.kids];constructor;· rintro⟨i,hi⟩;exact⟨i,Xz _ _ hi⟩
    · rintro⟨i,hi⟩;exact⟨i,a0R y i hi⟩
   ·obtain⟨y,i,hi⟩:=hk;exact c3.free sc a e1 e2 ⟨y,i,a0R y i hi⟩
 ·obtain⟨r,π⟩:=l;rcases dn q r π hq with⟨e1,e2,e3⟩|h1<;>rcases dn q' r π ef with⟨f1,f2,f3⟩|h2;· rw[e1,f1]
  · have:=bp _ _ _ h2;omega
  · have:=bp _ _ _ h1;omega
  · exact hI.inj _ _ _ h1 h2
 ·rcases OZ hr with⟨h1,h2⟩|⟨h1,rfl⟩
  · exact Xz _ _ (hI.root r R h2)
  · rw[h1];exact if_pos rfl
 · exact hI.le m (hm.untop YD)
theorem nP.wfc (h:nP S C n b j conds steps loc s)(hW:pS C) {g c:Nat} {p sP:Option Addr} {sC:Nat} {hs:List Bool} {vs:List V}:pS (Jm C ⟨b,steps,sP,sC,g,hs,vs⟩ p c):=by
 have hb:∀(r:Nat) (R:gp),C.rows[r]? =some R->R.b≠b:=λr R hr e=>by
  obtain⟨y,h1,_⟩:=h.inv.row r R hr;rw[e,tW]at h1;cases h1
 refine⟨λr r' R R' hr cz e=>?_,λr r' R R' k k' sc di hr cz hk ec e=>?_,λr R k sc hr hk=>?_⟩
 ·rcases OZ hr with⟨h1,U⟩|⟨h1,rfl⟩<;>rcases OZ cz with⟨h3,h4⟩|⟨h3,rfl⟩
  · exact hW.rows r r' R R' U h4 e
  · exact absurd e (hb r R U)
  · exact absurd e.symm (hb r' R' h4)
  · rw[h1,h3]
 ·rcases OZ hr with⟨h1,U⟩|⟨h1,rfl⟩<;>rcases OZ cz with⟨h3,h4⟩|⟨h3,rfl⟩
  · exact hW.steps r r' R R' k k' sc di U h4 hk ec e
  · exact absurd e (h.old r R k k' sc di U hk ec)
  · exact absurd e.symm (h.old r' R' k' k di sc h4 ec hk)
  · exact⟨by rw[h1,h3],h.inj k k' sc di hk ec e⟩
 ·rcases OZ hr with⟨h1,U⟩|⟨h1,rfl⟩
  · exact hW.kind r R k sc U hk
  · exact(h.obj k sc hk).1
end
end
section
open Go Go.RowKit Classical
theorem Pu (e:Q4):(⟨e.kind,e.value,e.var,e.op,e.kids⟩:Q4)=e:=by cases e;rfl
theorem Ph (c:Qv):(⟨c.kind,c.type,c.args,(⟨c.test.kind,c.test.value,c.test.var,c.test.op,c.test.kids⟩:Q4)⟩:Qv)=c:=by rw[Pu]
structure pO (ts:List Qa) (c:Qv):Prop where
 kind:c.kind=1\/c.kind=2\/c.kind=3
 nodes:nodes c.test<=1000000
 args:c.args.length<=1000
 fact:c.kind=1\/c.kind=2->dv c.type/\(∀a∈ki c.args,tu a)/\(∀a∈c.args,qp a.v)/\wa ts c.type ((c.args.length:Nat):Int)=true
def wR (R:gp):List Qv×fg:=(R.steps.map (·.c),(R.hs,R.vs))
section
variable {S:gO} {I:fg->Prop} {P:Qo->Prop} {C:ic} {loc:Loc} {s s1:Qc} {n b j ga N:Nat} {conds:List Qv} {steps:List gh} {ts:List Qa}
theorem nP.start (hI:Gb S C loc s)(hA:Ty C n)(hb:s b=none) {wA:Nat}:nP S C n b 0 conds [] loc (cu s b (.row ⟨C.g,[],none,0,MS.nil,wA⟩)):=
 ⟨by rw[Gv hb];exact hI,hA,⟨none,0,wA,kf _ _ _⟩,rfl,by rw[i!];rfl,(λk sc h=>by simp at h),(λk k' sc U h=>by simp at h),λr R k k' sc U _ _ h=>by simp at h⟩
theorem GP:∀{l:List gh} {e:fg},(sS S [] l e).length<=l.length
 |[],e=>by simp[sS]
 | sc::l,e=>by
   have ih:=λU=>GP (l:=l) (e:=U);unfold sS Gj;rw[B'];cases ca:sc.st with
   |join a=>simp
   | nt a=>
     simp only[t!,w!,z!];split
     ·rename_i U _;have:=ih U;rw[B',z'];omega
     · simp
   | test a=>
     simp only[t!,w!,z!];split
     ·rename_i U _;have:=ih U;rw[B',z'];omega
     · simp
theorem vy:∀{l:List gp},(∀R∈l,R.steps.length<=8)->iJ S [] l<=8*l.length
 |[],_=>by simp[iJ]
 | R::l,h=>by
   have h1:=vy (l:=l) λR' U=>h R' (l' _ U);have h2:=GP (S:=S) (l:=R.steps) (e:=(R.hs,R.vs));have h3:=h R j';have h4:iJ S [] (R::l)=(sS S [] R.steps (R.hs,R.vs)).length+iJ S [] l:=rfl;rw[h4,B'];omega
theorem J3 {k n m:Int} (h:wa ts k n=true)(h':wa ts k m=true):n=m:=by
 unfold wa at h h';split at h
 ·rename_i t e;rw[e]at h';simp only[b',beq_iff_eq]at h h';rw[<-h.2,<-h'.2]
 · cases h
structure r5 (S:gO) (ts:List Qa) (rd:List (List Qv×fg)) (u:Nat) (C:ic) (loc:Loc) (s:Qc):Prop where
 types:C.types=ts
 inv:Gb S C loc s
 al:Ty C (u*8)
 W:pS C
 comp:yM S C (fl []) loc
 rows:C.rows.map wR=rd
 sal:∀R∈C.rows,∀sc∈R.steps,pR C sc
 rP:C.rP.isNone=false
theorem r5.mem {rd:List (List Qv×fg)} {u:Nat} (h:r5 S ts rd u C loc s) {R:gp} (U:R∈C.rows):(R.steps.map (·.c),(R.hs,R.vs))∈rd:=by
 rw[<-h.rows];exact I'.2 ⟨R,U,rfl⟩
theorem a1B {x:Q9} {kI u:Nat} {C0:ic} {s93:Qc} {K:Qc->WM (Option Nat×Qc)} {Q:Option Nat×Qc->Prop} (hN:B0+4000000<=N)(h8:x.conds.length<=8)(hc:∀c∈x.conds,pO C0.types c)(h:nP S C0 (u*8) kI 0 x.conds [] loc s93)
   (hK:∀m az steps s',nP S (setAl C0 m az) (u*8+x.conds.length) kI x.conds.length x.conds steps loc s'->(∀A∈C0.als,A∈az)->K s' Q):
   kC (λ(a2b:(Nat×Qc)->WM ((Option Nat)×Qc)) ((ab,aa))=>
  gP ((decide (ab<x.conds.length))) (
   lO (λae=>(
    gv (ab+1<=9223372036854775807)<|
    a2b (ab+1,ae)
  )) λah=>
  Qu (x.conds[ab]?) λU=>
  Qu (Y8 N U.kind U.type U.args U.test.kind U.test.value.k U.test.value.n U.test.value.s U.test.var U.test.op U.test.kids) λv43=>
  gP ((U.kind==1)) (
   Qu (gRow aa kI) λNM=>
   fu (Sb N C0.g U.kind U.type U.args U.test.kind U.test.value.k U.test.value.n U.test.value.s U.test.var U.test.op U.test.kids (del aa kI)) λ(v70,a3e)=>
   Qu (v70) λa73=>
   ma λ(GD:Nat)=>
   rW a3e (λOd=>PO.join ⟨a73,kI,((ab:Nat):Int),(⟨U.kind,U.type,U.args,(⟨U.test.kind,U.test.value,U.test.var,U.test.op,v43⟩:Q4)⟩:Qv),(MS.nil:MS Nat Bool),GD⟩) λOd a1C=>
   gv (NM.steps.length+([(.join Od:bz)]).length<=8796093022208)<|
   ma λ(WU:Option Addr)=>
   ma λ(UB:Nat)=>
   jc (cu a1C kI (PO.row ({NM with steps:=NM.steps++([(.join Od:bz)]),stepsP:=WU,stepsC:=UB}))) λa3f=>
   kl a1C kI<|
   ah a3f
  ) (
   gP ((U.kind==2)) (
    Qu (gRow aa kI) λNN=>
    fu (Sb N C0.g U.kind U.type U.args U.test.kind U.test.value.k U.test.value.n U.test.value.s U.test.var U.test.op U.test.kids (del aa kI)) λ(v88,a3g)=>
    Qu (v88) λa91=>
    ma λ(GD:Nat)=>
    rW a3g (λg91=>PO.nt ⟨a91,kI,((ab:Nat):Int),(⟨U.kind,U.type,U.args,(⟨U.test.kind,U.test.value,U.test.var,U.test.op,v43⟩:Q4)⟩:Qv),(MS.nil:MS Nat Bool),GD⟩) λg91 a1D=>
    gv (NN.steps.length+([(.nt g91:bz)]).length<=8796093022208)<|
    ma λ(p94:Option Addr)=>
    ma λ(c94:Nat)=>
    jc (cu a1D kI (PO.row ({NN with steps:=NN.steps++([(.nt g91:bz)]),stepsP:=p94,stepsC:=c94}))) λa3h=>
    kl a1D kI<|
    ah a3h
   ) (
    Qu (gRow aa kI) λNO=>
    ma λ(GD:Nat)=>
    rW (del aa kI) (λg55=>PO.test ⟨kI,((ab:Nat):Int),(⟨U.kind,U.type,U.args,(⟨U.test.kind,U.test.value,U.test.var,U.test.op,v43⟩:Q4)⟩:Qv),(MS.nil:MS Nat Bool),GD⟩) λg55 a1E=>
    gv (NO.steps.length+([(.test g55:bz)]).length<=8796093022208)<|
    ma λ(p58:Option Addr)=>
    ma λ(c58:Nat)=>
    jc (cu a1E kI (PO.row ({NO with steps:=NO.steps++([(.test g55:bz)]),stepsP:=p58,stepsC:=c58}))) λa3i=>
    kl a1E kI<|
    ah a3i
   )
  )
  ) (
   K aa
  )
 ) N (0,s93) Q:=by
 have DQ:9223372036854775808+4000000<=N:=by have h':=hN;unfold B0 at h';omega
 refine yX (λ(j,σ)=>j<=x.conds.length/\∃m az steps,nP S (setAl C0 m az) (u*8+j) kI j x.conds steps loc σ/\∀A∈C0.als,A∈az) (λ(j,_)=>x.conds.length-j) ?_ N (0,s93) ⟨K' _,C0.alphas,C0.als,[],h,λ_ h=>h⟩ (by dsimp only;omega);rintro⟨j,σ⟩ ag ⟨hj,m,az,steps,hB,has⟩ gH;dsimp only at hj hB has gH⊢;refine jA (λhb=>?_) (λhb=>?_)
 · have bp:j<x.conds.length:=of_decide_eq_true hb;obtain⟨c,mc⟩:∃c,x.conds[j]? =some c:=⟨_,a' bp⟩
   have Il:=hc c (V' mc);refine mW λkj3 YC=>?_
   have W6:∀m' SD FO G9,nP S (setAl C0 m' SD) (u*8+(j+1)) kI (j+1) x.conds FO loc G9->(∀A∈C0.als,A∈SD)->kj3 G9 Q:=λm' SD FO G9 h1 h2=>by
     subst YC;refine iE an ?_;exact gH (j+1,G9) ⟨an,m',SD,FO,h1,h2⟩ (by dsimp only;omega)
   refine Qk mc ?_;refine Qk (I4 an (by have:=Il.args;omega) Il.nodes) ?_;rw[Ph];obtain⟨sP,sC,wA,gm⟩:=hB.row;have hsl:(steps.map (·.st)).length=j:=by rw[z',hB.len]
   refine jA (λh1=>?_) (λh1=>jA (λh2=>?_) (λh2=>?_))
   · have Ol:c.kind=1:=by simpa using h1
     refine Qk (sM gm) ?_;refine QZ ?_;refine Gp (C:=setAl C0 m az) (n:=u*8+j) an hB.inv hB.al (Il.fact (.inl Ol)).1 Il.args (Il.fact (.inl Ol)).2.1 (Il.fact (.inl Ol)).2.2.1 (Il.fact (.inl Ol)).2.2.2 λm' SD A s' g1 g2 g3 g4 g5 g6 g7=>?_;refine Qk rfl (w8 λGD=>kY λOd LB=>iE (by show(steps.map (·.st)).length+1<=_;omega) (w8 λWU=>w8 λUB=>nG (lx λOg=>?_)));have hp:=hB.push (sP:=WU) (sC:=UB) (wA:=wA) (sc:=⟨.join Od,A.b,c⟩) (o:=PO.join ⟨A.b,kI,((j:Nat):Int),c,MS.nil,GD⟩) g1 g2 g7 g6 LB rfl Ol mc ⟨GD,rfl⟩ (λ_=>⟨A,g3,rfl,g4,g5⟩) Og;rw[D']at hp;exact W6 m' SD _ _ hp λA' wq=>g6 A' (has A' wq)
   · have LD:c.kind=2:=by simpa using h2
     refine Qk (sM gm) ?_;refine QZ ?_;refine Gp (C:=setAl C0 m az) (n:=u*8+j) an hB.inv hB.al (Il.fact (.inr LD)).1 Il.args (Il.fact (.inr LD)).2.1 (Il.fact (.inr LD)).2.2.1 (Il.fact (.inr LD)).2.2.2 λm' SD A s' g1 g2 g3 g4 g5 g6 g7=>?_;refine Qk rfl (w8 λGD=>kY λOd LB=>iE (by show(steps.map (·.st)).length+1<=_;omega) (w8 λWU=>w8 λUB=>nG (lx λOg=>?_)));have hp:=hB.push (sP:=WU) (sC:=UB) (wA:=wA) (sc:=⟨.nt Od,A.b,c⟩) (o:=PO.nt ⟨A.b,kI,((j:Nat):Int),c,MS.nil,GD⟩) g1 g2 g7 g6 LB rfl LD mc ⟨GD,rfl⟩ (λ_=>⟨A,g3,rfl,g4,g5⟩) Og;rw[D']at hp;exact W6 m' SD _ _ hp λA' wq=>g6 A' (has A' wq)
   · have a2E:c.kind=3:=by
      have e1:¬c.kind=1:=by simpa using h1
      have e2:¬c.kind=2:=by simpa using h2
      rcases Il.kind with e|e|e;· exact absurd e e1
      · exact absurd e e2
      · exact e
     refine Qk (sM gm) ?_;refine w8 λGD=>kY λOd LB=>iE (by show(steps.map (·.st)).length+1<=_;omega) (w8 λWU=>w8 λUB=>nG (lx λOg=>?_));have hp:=hB.push (m:=m) (az:=az) (n':=u*8+(j+1)) (s1:=del σ kI) (sP:=WU) (sC:=UB) (wA:=wA) (sc:=⟨.test Od,0,c⟩) (o:=PO.test ⟨kI,((j:Nat):Int),c,MS.nil,GD⟩) hB.inv ⟨hB.al.A,hB.al.keyed,hB.al.good,r! hB.al.few⟩ (λbb o _ ho=>ho) (λ_ h=>h) LB rfl a2E mc ⟨GD,rfl⟩ (λht=>absurd rfl (ht Od)) Og;rw[D']at hp;exact W6 m az _ _ hp has
 · have ri:¬j<x.conds.length:=of_decide_eq_false hb;obtain rfl:j=x.conds.length:=an
   exact hK m az steps σ hB has
end
end
section
open Go Go.RowKit Classical
def jI (x:Q9):List Qv×fg:=(x.conds,jB x.vars)
section
variable {S:gO} {I:fg->Prop} {P:Qo->Prop} {N:Nat} {ts:List Qa} {rules:List Q9} {s:Qc}
theorem Df {g:Nat} {a:Addr} {b c:Nat} (hg:s g=none):r5 S ts [] 0 ⟨g,ts,[],some a,0,MS.nil,b,[]⟩ (λ_=>none) (cu s g (.net ⟨ts,[],some a,0,MS.nil,b,MS.nil,c,0⟩)) where
 types:=rfl
 inv:=by
  refine⟨⟨_,kf _ _ _,rfl,rfl,rfl,rfl,rfl,rfl,⟨Q',λi=>rfl⟩,0,rfl,[],Q',λp=>?_,rfl⟩,λr R U=>?_,λr R k sc U=>?_,λA hA=>?_,λp r π hp=>?_,λp q l hp=>?_,λr R U=>?_,λn hn=>?_⟩
  ·constructor;· intro h;cases h
   · rintro⟨_,_,h,_⟩;cases h
  · simp at U
  · simp at U
  · cases hA
  · cases hp
  · cases hp
  · simp at U
  ·obtain⟨L,a1,a2,rfl⟩:=hn;cases L with
   |nil=>simp
   | cons x L=>
     obtain⟨_,_,h,_⟩:=(a2 x).1 j';cases h
 al:=⟨⟨(λk a h=>by cases h),λA hA=>by cases hA⟩,(λk a h=>by cases h),(λA hA=>by cases hA),k! _⟩
 W:=⟨(λr r' R R' U=>by simp at U),(λr r' R R' k k' sc di U=>by simp at U),λr R k sc U=>by simp at U⟩
 comp:=λr R U=>by simp at U
 rows:=rfl
 sal:=λR hR=>by cases hR
 rP:=rfl
theorem Z1 {Q:Option Nat×Qc->Prop} (hN:B0+4000000<=N) (YI:ts.length<=1000) (SQ:rules.length<=64) (h8:∀x∈rules,x.conds.length<=8) (hc:∀x∈rules,∀c∈x.conds,pO ts c) (ml:Si N ts rules=some true)
  (hOk:∀(C:ic) (sc:gh) (T:cg),pO ts sc.c->(∃x∈rules,sc.c∈x.conds)->HN sc->pR C sc->(∀i f,T i=some f->P f)->yT S I C T sc) (hI:∀x∈rules,I (jB x.vars)) (hP:∀f,P f->wa ts f.ty ((f.args.length:Nat):Int)=true)
  (hQ:∀C loc s',tx S I P C->rL S P C [] loc s'->C.types=ts->C.rows.map wR=rules.map jI->(∀R∈C.rows,∀sc∈R.steps,HN sc)->Q (some C.g,s')):Yd N ts rules s Q:=by
 have DQ:9223372036854775808+4000000<=N:=by have h':=hN;unfold B0 at h';omega
 unfold Yd;refine Qk ml ?_;refine Ba rfl ?_;refine iE an ?_;refine w8 λg16=>w8 λg17=>w8 λg18=>kY λg hg=>?_
 refine mW λkj1 Ol=>?_
 have Md:∀{u:Nat} {C:ic} {loc:Loc} {σ:Qc},r5 S ts ((rules.take u).map jI) u C loc σ->∀R∈C.rows,∃x∈rules,R.steps.map (·.c)=x.conds/\(R.hs,R.vs)=jB x.vars:=λh R hR=>by
  obtain⟨x,hx,he⟩:=I'.1 (h.mem hR);unfold jI at he;exact⟨x,List.mem_of_mem_take hx,(Prod.mk.inj he).1.symm,(Prod.mk.inj he).2.symm⟩
 have X0:∀{u:Nat} {C:ic} {loc:Loc} {σ:Qc},r5 S ts ((rules.take u).map jI) u C loc σ->∀R∈C.rows,R.steps.length<=8:=λh R hR=>by
  obtain⟨x,hx,e1,_⟩:=Md h R hR;have:=congrArg List.length e1;rw[z']at this;have:=h8 x hx;omega
 have a1A:∀{u:Nat} {C:ic} {loc:Loc} {σ:Qc},u<=rules.length->r5 S ts ((rules.take u).map jI) u C loc σ->C.rows.length=u:=λhu h=>by
  have:=congrArg List.length h.rows;rw[z',z',v!]at this;omega
 have fin:∀C loc σ,C.g=g->r5 S ts ((rules.take rules.length).map jI) rules.length C loc σ->kj1 σ Q:=λC loc σ hCg h=>by
  subst Ol;show Q (some g,σ);rw[<-hCg];have YF:=a1A (k! _) h
  have F9:∀R∈C.rows,∀sc∈R.steps,HN sc:=λR hR sc fj=>by
   obtain⟨r,hr⟩:=M' hR;obtain⟨k,hk⟩:=M' fj;exact h.W.kind r R k sc hr hk
  refine hQ C loc σ ⟨h.W,h.al.A,h.rP,an,λR hR=>by have:=X0 h R hR;omega,by have:=h.al.few;omega,λT hT R hR sc fj=>?_,λR hR=>?_,λA hA=>?_⟩ ⟨h.inv,h.comp,List.Pairwise.nil,(λf hf=>by cases hf),?_⟩ h.types (by rw[h.rows,x!]) F9
  ·obtain⟨x,hx,e1,_⟩:=Md h R hR;have hm:sc.c∈x.conds:=by rw[<-e1];exact I'.2 ⟨sc,fj,rfl⟩
   exact hOk C sc T (hc x hx sc.c hm) ⟨x,hx,hm⟩ (F9 R hR sc fj) (h.sal R hR sc fj) hT
  ·obtain⟨x,hx,_,e2⟩:=Md h R hR;rw[e2];exact hI x hx
  ·obtain⟨_,_,g3,g4⟩:=h.al.good A hA;refine⟨an,λf hf Wp=>?_⟩;have h1:=hP f hf;rw[h.types,<-Wp]at g4;have:=J3 h1 g4;omega
  ·have:=vy (S:=S) (X0 h);omega
 refine yX (λ(u,σ)=>u<=rules.length/\∃C loc,C.g=g/\r5 S ts ((rules.take u).map jI) u C loc σ) (λ(u,_)=>rules.length-u) ?_ N (0,_) ⟨K' _,_,_,rfl,by rw[i!];exact Df hg⟩ (by dsimp only;omega);rintro⟨u,σ⟩ ag ⟨hu,C,loc,hCg,h⟩ gH;dsimp only at hu h gH⊢;refine jA (λhb=>?_) (λhb=>?_)
 ·have bp:u<rules.length:=of_decide_eq_true hb;obtain⟨x,mc⟩:∃x,rules[u]? =some x:=⟨_,a' bp⟩
  have Wq:=V' mc;have YF:=a1A hu h;refine Qk mc ?_;refine w8 λg29=>kY λkI a2z=>?_;refine mW λkj2 LD=>?_;have ca:=nP.start (wA:=g29) (conds:=x.conds) h.inv h.al a2z;subst hCg;refine a1B (u:=u) hN (h8 x Wq) (by rw[h.types];exact hc x Wq) ca λm az steps s' U has=>?_;subst LD;obtain⟨sP,sC,wA,gm⟩:=U.row;obtain⟨xn,n1,n2,n3,n4,_⟩:=U.inv.net
  have de:C.g≠kI:=λe=>by
   have:del s' kI C.g=none:=by rw[e];exact tW _ _
   rw[show(setAl C m az).g=C.g from rfl,this]at n1;cases n1
  have JC:s' C.g=some (.net xn):=by rw[<-mJ s' de];exact n1
  refine Qk (Px JC) ?_;refine iE (by rw[n3,z'];show C.rows.length+1<=_;omega) ?_;refine Qk (H4 N x.vars).1 ?_;refine w8 λqt=>w8 λtP=>Uy λa0Z=>nG (w8 λa2n=>kY λqa BP=>?_);have hw:=U.whole (xn:=xn) (p:=qt) (c:=tP) (g:=qa) (ka:=a2n) (hs:=(jB x.vars).1) (vs:=(jB x.vars).2) JC BP gm;have a1d:=U.wfc (g:=qa) (c:=tP) (p:=qt) (sP:=sP) (sC:=sC) (hs:=(jB x.vars).1) (vs:=(jB x.vars).2) ⟨h.W.rows,h.W.steps,h.W.kind⟩;refine QZ ?_;have T3:steps.map (·.c)=x.conds:=by rw[U.conds,x!]
  have hR:(Jm (setAl C m az) ⟨kI,steps,sP,sC,qa,(jB x.vars).1,(jB x.vars).2⟩ qt tP).rows[C.rows.length]? =some ⟨kI,steps,sP,sC,qa,(jB x.vars).1,(jB x.vars).2⟩:=by
   show(C.rows++[_])[C.rows.length]? =_;rw[X' (k! _),h!];rfl
  have a2Q:steps.length<=8:=by have:=h8 x Wq;rw[U.len];omega
  have cr:∀sc∈steps,yT S I (Jm (setAl C m az) ⟨kI,steps,sP,sC,qa,(jB x.vars).1,(jB x.vars).2⟩ qt tP) (fl []) sc:=λsc fj=>by
   obtain⟨k,hk⟩:=M' fj;obtain⟨q1,_,q3⟩:=U.obj k sc hk;have hm:sc.c∈x.conds:=by rw[<-T3];exact I'.2 ⟨sc,fj,rfl⟩
   exact hOk _ sc _ (hc x Wq sc.c hm) ⟨x,Wq,hm⟩ q1 q3 λi f hf=>by cases hf
  refine Rr (I:=I) (D:=[]) a1d (by show steps.length<_;omega) ⟨λi f hf=>(by cases hf),ax⟩ ax hR cr steps.length 0 ax (λ_ _=>rfl) N (by show B0+0+steps.length+1<N;omega) (λ_=>False) _ _ qa [] ((jB x.vars).1,(jB x.vars).2) _ hw (if_pos rfl) rfl (by show ij S (fl []) steps _ []=_;cases steps<;>rfl) (hI x Wq) (λy i hy=>?_) (λ_ _ _ _ hz=>hz) λbg s'' g1 g2 g3=>?_
  ·unfold jf at hy;split at hy;· simp at hy
   ·obtain⟨R',x',a1,_⟩:=U.inv.part _ _ _ hy;have:=(O'.1 a1).1;exact absurd this (by show¬C.rows.length<C.rows.length;omega)
  ·refine iE an ?_;refine gH (u+1,s'') ⟨an,Jm (setAl C m az) ⟨kI,steps,sP,sC,qa,(jB x.vars).1,(jB x.vars).2⟩ qt tP,bg,rfl,?_⟩ (by dsimp only;omega)
   have T7:((Jm (setAl C m az) ⟨kI,steps,sP,sC,qa,(jB x.vars).1,(jB x.vars).2⟩ qt tP).rows).map wR=(rules.take (u+1)).map jI:=by
    show(C.rows++[_]).map wR=_;rw[D',h.rows,C',mc];show _++[wR _]=_;rw[Option.toList_some,D'];congr 1;show[(steps.map (·.c),((jB x.vars).1,(jB x.vars).2))]=[(x.conds,jB x.vars)]
    rw[T3]
   have GH:Ty (Jm (setAl C m az) ⟨kI,steps,sP,sC,qa,(jB x.vars).1,(jB x.vars).2⟩ qt tP) ((u+1)*8):=⟨⟨U.al.A.ofKey,U.al.A.key⟩,U.al.keyed,U.al.good,by
    have h1:=U.al.few;have h2:=h8 x Wq;show(setAl C m az).alphas.keys.length<=_;omega⟩
   have Wm:∀R∈(Jm (setAl C m az) ⟨kI,steps,sP,sC,qa,(jB x.vars).1,(jB x.vars).2⟩ qt tP).rows,∀sc∈R.steps,pR (Jm (setAl C m az) ⟨kI,steps,sP,sC,qa,(jB x.vars).1,(jB x.vars).2⟩ qt tP) sc:=λR qe sc fj=>by
    rcases w'.1 qe with qe|qe
    ·intro ht;obtain⟨A,q1,q2⟩:=h.sal R qe sc fj ht;exact⟨A,has A q1,q2⟩
    ·rw[g'.1 qe]at fj;obtain⟨k,hk⟩:=M' fj;exact(U.obj k sc hk).2.2
   have iF:rN bg:=λq hq=>by
    have h1:=g1.cnt_le (facts:=[]) Q' hq
    have h2:=vy (S:=S) (l:=(Jm (setAl C m az) ⟨kI,steps,sP,sC,qa,(jB x.vars).1,(jB x.vars).2⟩ qt tP).rows) λR qe=>by
     rcases w'.1 qe with qe|qe;· exact X0 h R qe
     · rw[g'.1 qe];exact a2Q
    have h3:(Jm (setAl C m az) ⟨kI,steps,sP,sC,qa,(jB x.vars).1,(jB x.vars).2⟩ qt tP).rows.length=C.rows.length+1:=by
     show(C.rows++[_]).length=_;rw[H'];rfl
    omega
   refine⟨h.types,g1,GH,a1d,λr R hr=>?_,T7,Wm,?_⟩
   ·rcases OZ hr with⟨h1,h2⟩|⟨h1,h2⟩
    ·intro τ iG;obtain⟨y,hy⟩:=h.comp r R h2 τ iG;have h5:loc y=some (r,[]++τ):=hy;refine⟨y,g2.1 y _ ?_⟩;unfold jf;rw[if_neg ?_];· exact h5
     ·intro e
      have hg0:=U.inv.none_loc (p:=y) (by
       rw[e];unfold del;split;· rfl
       ·rw[QG (λe2=>by rw[e2,kf]at BP;cases BP)]at BP;exact BP)
      rw[hg0]at h5;cases h5
    ·have h3:=g3 iF;subst h2;rw[h1];exact h3
   ·show qt.isNone=false;cases qt with
    |none=>cases a0Z
    |some a=>rfl
 ·have ri:¬u<rules.length:=of_decide_eq_false hb;obtain rfl:u=rules.length:=an
  exact fin C loc σ hCg h
end
end
section
open Go Go.RowKit Classical
def S0:gO:=⟨λc hs vs f=>K5 c f hs vs,λc vs=>Fb (at_ (yV N0) vs c.test)⟩
def I0 (e:fg):Prop:=TE e.1 e.2
def P0 (ts:List Qa)(f:Qo):Prop:=wa ts f.ty ((f.args.length:Nat):Int)=true/\∀v∈f.args,qp v
theorem nV:∀{al:List gS} {xs:List V} {hs:List Bool} {vs:List V} {p:List Bool×List V},HP al xs hs vs=some p->∀(j:Nat)(a:gS),al[j]? =some a->a.k=4->xs[j]? =some a.v
 |[],_,_,_,_,_,j,a,U,_=>by simp at U
 |_::_,[],_,_,_,h,_,_,_,_=>by cases h
 | b::al,x::xs,hs,vs,p,h,j,a,U,h4=>by
   unfold HP at h;split at h
   ·rename_i q hq;cases j with
    | zero=>
      simp only[d!,Option.some.injEq]at U⊢;subst U;unfold Jo at hq;rw[if_neg an,if_pos h4]at hq;split at hq;· rename_i e;exact e.symm
      · cases hq
    | succ j=>
      simp only[List.getElem?_cons_succ]at U⊢;exact nV h j a U h4
   · cases h
theorem Rh {l:List gS} {j:Nat} {a:gS} (h:(ki l)[j]? =some a)(U:a.k=4):l[j]? =some a:=by
 unfold ki at h;rw[List.getElem?_map]at h;cases hl:l[j]? with
 |none=>rw[hl]at h;cases h
 | some b=>
   rw[hl]at h;simp only[Option.map_some,Option.some.injEq]at h;split at h;· rw[h]
   · subst h;exact absurd U bf
def TG (c:Qv):Prop:=nodes c.test<=1000/\cj c.test
theorem a38 {ts:List Qa} {C:ic} {sc:gh} {T:cg} (hc:pO ts sc.c)(ht:TG sc.c)(hk:HN sc)(hs:pR C sc)(hT:∀i f,T i=some f->P0 ts f):yT S0 I0 C T sc where
 mt:=λU N hN f hf e hI=>by
  have DQ:9223372036854775808<=N:=by have h':=hN;unfold B0 at h';omega
  obtain⟨a,b,hm,hp⟩:=Mc (N:=N) DQ (c:=sc.c) (f:=f) (hs:=e.1) (vs:=e.2) (by have:=hI.1;have:=hI.2.1;omega) (by have:=hI.2.1;omega) (by have:=hc.args;omega);refine⟨a,b,hm,λp hq=>?_⟩;have ef:K5 sc.c f e.1 e.2=some p:=hq;obtain⟨h1,h2,h3⟩:=hp p ef;have h4:=ID (hT _ f hf).2 hI.2.2 ef;rw[h1]at h4⊢;exact⟨rfl,by show a.length=b.length;rw[h2,h3];exact hI.1,by show b.length<=16;rw[h3];exact hI.2.1,h4⟩
 ev:=λa ca N hN e hI=>by
  have DQ:9223372036854775808+1000<=N:=by have h':=hN;unfold B0 at h';omega
  have hlen:e.2.length<=1000000:=by have:=hI.2.1;omega
  obtain⟨⟨k,n,s,z⟩,hr,_⟩:=both 1000 N sc.c.test e.2 ht.2 ht.1 an an hI.2.2 hlen;have jF:=a04 1000 N N0 sc.c.test e.2 ht.2 ht.1 an an (by unfold N0;omega) hI.2.2 hlen;refine⟨k,n,s,z,hr,?_⟩;show Fb (at_ (yV N0) e.2 sc.c.test)=_;rw[<-jF,hr];rfl
 al:=λU=>by
  obtain⟨A,h1,h2,h3,h4⟩:=hs U;refine⟨A,h1,h2,λf e p hp=>?_⟩;have df:K5 sc.c f e.1 e.2=some p:=hp;unfold K5 at df;split at df
  ·rename_i hh;unfold hasB;rw[b',decide_eq_true_eq,c!];refine⟨by rw[h3];exact hh.2.1.symm,λj _=>?_⟩;cases ha:A.args[j]? with
   |none=>rfl
   | some a=>
     simp only;by_cases h5:a.k=4
     ·rw[if_pos h5];rw[h4]at ha;exact decide_eq_true (nV df j a (Rh ha h5) h5)
     · rw[if_neg h5]
  · cases df
theorem xf {b:Bool}:∀{l:List gS} {v:Int},(DL b l v).1=true->∀a∈l,∃w,(lR b w a).1=true
 |[],_,_,a,U=>by cases U
 | x::l,v,h,a,U=>by
   unfold DL at h;split at h
   ·rename_i hx;rcases P'.1 U with rfl|U;· exact⟨v,hx⟩
    · exact xf h a U
   · cases h
theorem tU {ts:List Qa}:∀{l:List Qv} {v f:Int},(Gf ts l v f).1=true->∀c∈l,∃v' f',(tB ts v' f' c).1=true
 |[],_,_,_,c,U=>by cases U
 | x::l,v,f,h,c,U=>by
   unfold Gf at h;split at h
   ·rename_i hx;rcases P'.1 U with rfl|U;· exact⟨v,f,hx⟩
    · exact tU h c U
   · cases h
theorem Cc {x:Int} (h:lA .i64 x):dv x:=by
 have U:IntKind.min .i64=-9223372036854775808:=bf
 have e2:IntKind.max .i64=9223372036854775807:=bf
 unfold lA at h;rw[U,e2]at h;exact h
theorem I2 {ts:List Qa} {c:Qv} {v f:Int} (h:(tB ts v f c).1=true)(cr:Q9B c)(hn:nodes c.test<=1000)(ha:c.args.length<=1000):pO ts c:=by
 have U:∀a∈c.args,qp a.v:=λa hm=>by
  have:=(cr.2.2.1.2 a hm).2.2;exact⟨Cc this.2.1,this.2.2⟩
 unfold tB at h;by_cases PD:c.kind=1\/c.kind=2
 ·rw [if_pos PD]at h;split at h
  ·rename_i ht;simp only[b']at ht;split at h
   ·rename_i gY;refine⟨by rcases PD with e|e;exact .inl e;exact .inr (.inl e),an,ha,λ_=>⟨Cc cr.2.1,λa hm=>?_,U,ht.1⟩⟩;unfold ki at hm;obtain⟨b,hb,rfl⟩:=I'.1 hm;split
    ·rename_i h4;obtain⟨w,hw⟩:=xf gY b hb;unfold lR at hw;rw[if_neg an,if_neg an,if_neg an,if_pos h4]at hw;simp only[b',decide_eq_true_eq]at hw;exact .inr ⟨h4,hw.1,hw.2,(U b hb).1⟩
    · exact .inl rfl
   · cases h
  · cases h
 ·rw[if_neg PD]at h;split at h
  ·rename_i h3;exact⟨.inr (.inr h3),an,ha,λhh=>absurd hh PD⟩
  · cases h
structure sG (ts:List Qa) (rules:List Q9):Prop where
 right:HE ts rules=true
 ok:∀r∈rules,TX r
 light:∀r∈rules,(∀c∈r.conds,c.args.length<=1000/\nodes c.test<=1000)/\∀a∈r.acts,pK a.exprs<=1000000
variable {ts:List Qa}{rules:List Q9}
theorem CH (h:HE ts rules=true):ts.length<=32:=by
 unfold HE at h;simp only[b',decide_eq_true_eq]at h;exact h.1.1
theorem A5 (h:sG ts rules):∀r∈rules,∀c∈r.conds,pO ts c:=λr hr c hc=>by
 have h1:=h.right;unfold HE at h1;simp only[b',decide_eq_true_eq]at h1;obtain⟨i,hi,rfl⟩:=l! hr;have U:=c!.1 h1.2.2 i (by simp[q!];exact hi);unfold yn at U;rw[a' hi]at U;simp only[b']at U;have h6:=U.2;unfold qO at h6;simp only[b']at h6;obtain⟨v,f,hv⟩:=tU h6.2.1 c hc;obtain⟨g1,g2⟩:=(h.light _ hr).1 c hc;exact I2 hv ((h.ok _ hr).2.2.2.1.2 c hc) g2 g1
theorem G1 {f:Qo}:(DH rQ ts f=true↔ko ts 0 f=true):=by
 unfold DH ko wa
 have e:decide (1<=f.id/\f.id<=1099511627776)=decide (0<f.id/\f.id<=1099511627776):=by
  by_cases h:0<f.id/\f.id<=1099511627776;· rw[decide_eq_true h,decide_eq_true ⟨an,h.2⟩]
  · rw[decide_eq_false h,decide_eq_false (λh'=>h ⟨an,h'.2⟩)]
 rw[e];cases ts[f.ty.toNat]? with
 |none=>simp
 |some t=>simp only[Bool.and_assoc]
end
section
open Go Go.RowKit Classical
section
variable {ts:List Qa} {rules:List Q9} {facts:List Qo} {f:Qo} {C:ic} {loc:Loc} {s:Qc} {N:Nat}
variable {a:Nat}{id:Int}{Q:Nat×Qc->Prop}
theorem sK:∀{l:List Qo} {last:Int},B9 ts last l=true->(∀f∈l,last<f.id/\f.id<=1099511627776)/\kO l
 |[],_,_=>⟨λf hf=>(by cases hf),List.Pairwise.nil⟩
 | g::l,last,h=>by
   rw[B9]at h;simp only[b']at h
   have hg:last<g.id/\g.id<=1099511627776:=by
    have h1:=h.1;unfold ko at h1;simp only[b',decide_eq_true_eq]at h1;exact h1.1
   obtain⟨a,b⟩:=sK h.2;refine⟨λx U=>?_,List.Pairwise.cons (λx U=>(a x U).1) b⟩;rcases P'.1 U with rfl|U;· exact hg
   · have:=a x U;omega
theorem xo {a b:Int} (h:ko ts a f=true)(U:b<f.id):ko ts b f=true:=by
 unfold ko at h⊢;simp only[b',decide_eq_true_eq]at h⊢;exact⟨⟨U,h.1.2⟩,h.2⟩
theorem ub:∀{l:List Qo} {a b:Int},B9 ts a l=true->(∀f∈l,b<f.id)->B9 ts b l=true
 |[],_,_,_,_=>rfl
 | g::l,a,b,h,U=>by
   rw[B9,b']at h⊢;exact⟨xo h.1 (U g j'),h.2⟩
theorem ua:∀{l:List Qo} {last:Int},B9 ts last l=true->ko ts last f=true->(∀g∈l,g.id≠f.id)->B9 ts last (iH f l)=true
 |[],last,_,hf,_=>by rw[iH,B9,hf];rfl
 | g::l,last,h,hf,hn=>by
   rw[iH];have h':=h;rw[B9,b']at h';split
   ·rename_i bp;rw[B9,hf,e'];refine ub h λx U=>?_
    rcases P'.1 U with rfl|U;· exact bp
    · have:=(List.pairwise_cons.1 (sK h).2).1 x U;omega
   ·rename_i bp;have de:=hn g j';rw[B9,h'.1,e'];exact ua h'.2 (xo hf an) λx U=>hn x (l' _ U)
theorem u9 {id:Int}:∀{l:List Qo} {last:Int},B9 ts last l=true->B9 ts last (jW id l)=true
 |[],_,_=>rfl
 | g::l,last,h=>by
   have h':=h;rw[B9,b']at h';have U:=u9 (id:=id) h'.2;unfold jW at U⊢;by_cases hg:g.id=id
   ·rw[List.filter_cons_of_neg (cx hg)];refine ub U λx hx=>?_
    have h1:=((sK h'.2).1 x (List.mem_filter.1 hx).1).1;have h2:=((sK h).1 g j').1;omega
   · rw[List.filter_cons_of_pos (cx hg),B9,h'.1,U];rfl
def z6 (ts:List Qa)(rules:List Q9)(facts:List Qo)(a:Nat)(s:Qc):Prop:=∃C loc,C.g=a/\tx S0 I0 (P0 ts) C/\rL S0 (P0 ts) C facts loc s/\C.types=ts/\C.rows.map wR=rules.map jI/\(∀R∈C.rows,∀sc∈R.steps,HN sc)/\B9 ts 0 facts=true
theorem FZ (U:(facts.map (·.id)).Nodup):∀{l:List gp} {rs:List Q9},l.map wR=rs.map jI->(∀R∈l,∀sc∈R.steps,HN sc)->iJ S0 facts l=jK facts rs
 |[],[],_,_=>rfl
 |[],r::rs,h,_=>by cases h
 |R::l,[],h,_=>by cases h
 | R::l,r::rs,h,hk=>by
   rw[b!,b!]at h;obtain⟨h1,h2⟩:=List.cons.inj h;have ih:=FZ U h2 λR' PF=>hk R' (l' _ PF)
   have e:iJ S0 facts (R::l)=(sS S0 facts R.steps (R.hs,R.vs)).length+iJ S0 facts l:=rfl;rw[e,ih,jK,GO U (hk R j')];unfold wR jI at h1;obtain⟨e1,e2⟩:=Prod.mk.inj h1;unfold Gu;rw[e1,<-e2];rfl
theorem Gz (hn:(facts.map (·.id)).Nodup)(j5:∀f∈facts,0<f.id):∀{l:List gp} {rs:List Q9} {k:Nat},l.map wR=rs.map jI->(∀R∈l,∀sc∈R.steps,HN sc)->Gl S0 facts l k=Bb facts rs k
 |[],[],_,_,_=>rfl
 |[],r::rs,_,h,_=>by cases h
 |R::l,[],_,h,_=>by cases h
 | R::l,r::rs,k,h,hk=>by
   rw[b!,b!]at h;obtain⟨h1,h2⟩:=List.cons.inj h;have ih:=Gz hn j5 (k:=k+1) h2 λR' PF=>hk R' (l' _ PF)
   rw[Gl,Bb,ih];congr 1;unfold wR jI at h1;obtain⟨e1,e2⟩:=Prod.mk.inj h1;have U:=GF (S:=S0) hn j5 (e:=(R.hs,R.vs)) (ids:=[]) (hk R j')
   have eg:VQ facts r=goN (po S0 facts) facts (R.steps.map (·.c)) (R.hs,R.vs).1 (R.hs,R.vs).2 []:=by
    unfold VQ;rw[e1,e2];rfl
   rw[<-eg]at U;have:(VQ facts r).map (Nu ((k:Nat):Int))=((VQ facts r).map (·.1)).map λids=>(⟨((k:Nat):Int),ids⟩:Qy):=by rw[D!];rfl
   rw[this,U,D!];rfl
theorem WG {Q:Option Nat×Qc->Prop} (hN:B0+4000000<=N)(h:sG ts rules)(hQ:∀a s',z6 ts rules [] a s'->Q (some a,s')):Yd N ts rules s Q:=by
 have DQ:9223372036854775808+4000000<=N:=by have h':=hN;unfold B0 at h';omega
 have ht:=CH h.right;obtain⟨SQ,h8⟩:=ry h.right;refine Z1 (S:=S0) (I:=I0) (P:=P0 ts) hN an SQ h8 (A5 h) ?_ (λC sc T U ⟨x,hx,hm⟩ hk hs hT=>a38 U ⟨((h.light x hx).1 _ hm).2,((h.ok x hx).2.2.2.1.2 _ hm).2.2.2⟩ hk hs hT) (λx _=>(H4 N x.vars).2) (λf hf=>hf.1) λC loc s' g1 g2 g3 g4 g5=>hQ _ _ ⟨C,loc,rfl,g1,g2,g3,g4,g5,rfl⟩;rw[QaH an λr hr=>⟨λc U=>⟨((h.light r hr).1 c U).1,by have:=((h.light r hr).1 c U).2;omega⟩,(h.light r hr).2⟩,h.right]
noncomputable def kE (ts:List Qa)(rules:List Q9)(facts:List Qo)(f:Qo):List Qo×Nat:=
 if ko ts 0 f=true then(if(facts.any λg=>decide (g.id=f.id))=true then(facts,7)else if jK (iH f facts) rules<=4096 then(iH f facts,0)else(facts,204))else(facts,2)
noncomputable def AJ (rules:List Q9)(facts:List Qo)(id:Int):List Qo×Nat:=
 if(facts.any λg=>decide (g.id=id))=true then(if jK (jW id facts) rules<=4096 then(jW id facts,0)else(facts,204))else(facts,6)
theorem Hq:(fl facts id).isSome=facts.any λg=>decide (g.id=id):=by
 unfold fl;rw[t',List.find?_isSome,e!]
theorem zr {N:Nat} {l:List V} (hN:9223372036854775808<=N)(hl:l.length<=4398046511104):XI N l=some (!(l.all rQ)):=by
 unfold XI Q3d
 rw [Yc (l:=l) (p:=λv=>!rQ v) (λi hi=>by
  unfold Z3 Q6O;rw[bq hi,a' hi,Q1,QcM,Q1,Q1];by_cases U:(!rQ l[i])=true;· rw[if_pos U,if_pos U]
  · rw[if_neg U,if_neg U,QC an]) (by
  unfold Z3;rw[if_neg ax]) l.length 0 N an an,Q1,u',QaT]
 rw[<-zm,Bool.not_not]
theorem Uu (hN:B0+4000000<=N)(h:z6 ts rules facts a s)(hl:facts.length<=1000000)(GH:f.args.length<=4398046511104)(hv:∀v∈f.args,qp v)
  (hQ:∀s',z6 ts rules (kE ts rules facts f).1 a s'->Q ((kE ts rules facts f).2,s')):ZK N a f.id f.ty f.args s Q:=by
 have DQ:9223372036854775808+4000000<=N:=by have h':=hN;unfold B0 at h';omega
 obtain⟨C,loc,rfl,hG,hP,e1,e2,e3,e4⟩:=h;refine YS (vb:=rQ) hN hG hP hl (zr an GH) (λhr=>?_) GH λbg s' hp=>?_
 ·rw[e1]at hr;have:=G1.1 hr;unfold ko at this;simp only[b']at this;exact⟨this.2.1,hv⟩
 ·rw [e1]at hp⊢;have Iq:∀l,kO l->iJ S0 l C.rows=jK l rules:=λl hl=>FZ hl.nodup e2 e3
  have e:addN S0 (DH rQ ts) C facts f=kE ts rules facts f:=by
   unfold addN kE;rw[Hq];by_cases hr:DH rQ ts f=true
   ·rw[if_pos hr,if_pos (G1.1 hr)];by_cases U:(facts.any λg=>decide (g.id=f.id))=true;· rw[if_pos U,if_pos U]
    · rw[if_neg U,if_neg U,Iq _ (hP.ris.ins λg hg hid=>U (e!.2 ⟨g,hg,by simpa using hid⟩))]
   · rw[if_neg hr,if_neg (λh=>hr (G1.2 h))]
  rw[e]at hp⊢;refine hQ s' ⟨C,bg,rfl,hG,hp,e1,e2,e3,?_⟩;unfold kE;split
  ·rename_i hf;split;· exact e4
   ·rename_i U;split;· exact ua e4 hf λg hg hid=>U (e!.2 ⟨g,hg,by simpa using hid⟩)
    · exact e4
  · exact e4
theorem Pq (hN:B0+4000000<=N)(h:z6 ts rules facts a s)(hl:facts.length<=1000000)(hQ:∀s',z6 ts rules (AJ rules facts id).1 a s'->Q ((AJ rules facts id).2,s')):ZG N a id s Q:=by
 obtain⟨C,loc,rfl,hG,hP,e1,e2,e3,U⟩:=h;refine TD hN hG hP hl λbg s' hp=>?_
 have e:tZ S0 C facts id=AJ rules facts id:=by
  unfold tZ AJ;rw[Hq,FZ hP.ris.del.nodup e2 e3]
 rw[e]at hp⊢;refine hQ s' ⟨C,bg,rfl,hG,hp,e1,e2,e3,?_⟩;unfold AJ;split
 ·split;· exact u9 U
  · exact U
 · exact U
theorem Xy {Q:List Qy->Prop} (hN:B0+4000000<=N)(h:z6 ts rules facts a s)(hQ:Q (Bb facts rules 0)):ZB N a s Q:=by
 obtain⟨C,loc,rfl,hG,U,e1,e2,e3,e4⟩:=h;refine Kd hN hG U ?_;rw[Gz U.ris.nodup (λf hf=>by have:=(U.fr f hf).2;omega) e2 e3];exact hQ
theorem Wz {Q:Nat->Prop} (h:z6 ts rules facts a s)(hQ:Q facts.length):ZL N a s Q:=by
 obtain⟨C,loc,rfl,U,hP,_⟩:=h;exact YY U hP hQ
end
end
end Go.Proofs.YtocfkfhdcnjklaaGreatDoor
