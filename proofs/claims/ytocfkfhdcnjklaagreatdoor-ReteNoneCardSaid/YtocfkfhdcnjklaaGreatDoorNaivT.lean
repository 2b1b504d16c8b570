import Derived.Test.YtocfkfhdcnjklaaGreatDoorReteX
namespace Go.Proofs.YtocfkfhdcnjklaaGreatDoor
section
open Go Go.RowKit
theorem zq {N:Nat} {types:List Q9} {rules:List Qb} {vars facts:Int} {l:List Q4} (hN:9223372036854775808+1000000<=N)(hl:Ha l<=1000000):Vj N types rules vars facts l=some (MA vars l):=by
 unfold Vj Q30 Q3L;have hll:=Vz l
 rw [Vx (l:=l) (p:=λy=>!kp vars y) (λi hi=>by
  unfold Ww Q4H;have hn:=RC (List.getElem_mem hi);rw[br hi,List.getElem?_eq_getElem hi,Q1,Ei 1000000 N l[i] an an an,Q1,Q1];by_cases U:(!kp vars l[i])=true;· rw[if_pos U,if_pos U]
  · rw[if_neg U,if_neg U,QY an]) (by
  unfold Ww;rw[if_neg ax]) l.length 0 N an an,Q1,Q1,List.drop_zero,Xs,kU]
noncomputable def I6 (types:List Q9)(vars facts:Int)(a:wJ):Bool:=
 if a.kind=1 then decide (a.which=0)&&(ug types a.type ((a.exprs.length:Nat):Int)&&MA vars a.exprs)
 else if a.kind=2 then decide (a.type=0/\a.exprs.length=0/\0<=a.which/\a.which<facts)
 else if a.kind=3 then decide (a.type=0/\a.which=0/\0<a.exprs.length)&&MA vars a.exprs
 else decide (a.kind=4/\a.type=0/\a.which=0/\a.exprs.length=0)
theorem RX {N:Nat} {types:List Q9} {rules:List Qb} {vars facts:Int} {a:wJ} (hN:9223372036854775808+1000000<=N)(ha:Ha a.exprs<=1000000):X2 N types rules vars facts a.kind a.type a.which a.exprs=some (I6 types vars facts a):=by
 unfold X2 I6;by_cases h1:a.kind=1
 ·rw [br h1,if_pos h1];by_cases h2:a.which=0
  ·rw[br h2,Bg,Q1,decide_eq_true h2,Bool.true_and];cases ht:ug types a.type ((a.exprs.length:Nat):Int)with
   |true=>rw[if_pos rfl,zq hN ha,Q1,Bool.true_and]
   |false=>rw[if_neg ax,Bool.false_and]
  · rw[bs h2,decide_eq_false h2,Bool.false_and]
 ·rw [bs h1,if_neg h1];by_cases h2:a.kind=2
  ·rw [br h2,if_pos h2];unfold Q6v;by_cases c1:a.type=0
   ·rw [br c1];by_cases c2:a.exprs.length=0
    ·rw[br c2];by_cases U:0<=a.which
     ·rw[br U,Q1];congr 1;rw[Bool.eq_iff_iff];simp only[decide_eq_true_eq];exact⟨λh=>⟨c1,c2,U,h⟩,λh=>h.2.2.2⟩
     · rw[bs U,Q1,decide_eq_false (λh=>U h.2.2.1)]
    · rw[bs c2,Q1,decide_eq_false (λh=>c2 h.2.1)]
   · rw[bs c1,Q1,decide_eq_false (λh=>c1 h.1)]
  ·rw [bs h2,if_neg h2];by_cases h3:a.kind=3
   ·rw [br h3,if_pos h3];unfold Q6w;by_cases c1:a.type=0
    ·rw [br c1];by_cases c2:a.which=0
     ·rw[br c2];by_cases U:0<a.exprs.length;· rw[br U,zq hN ha,Q1,Q1,decide_eq_true ⟨c1,c2,U⟩,Bool.true_and]
      · rw[bs U,Q1,decide_eq_false (λh=>U h.2.2),Bool.false_and]
     · rw[bs c2,Q1,decide_eq_false (λh=>c2 h.2.1),Bool.false_and]
    · rw[bs c1,Q1,decide_eq_false (λh=>c1 h.1),Bool.false_and]
   ·rw [bs h3,if_neg h3];unfold Q6x;by_cases c0:a.kind=4
    ·rw [br c0];by_cases c1:a.type=0
     ·rw[br c1];by_cases c2:a.which=0
      ·rw[br c2,Q1];congr 1;rw[Bool.eq_iff_iff];simp only[decide_eq_true_eq,beq_iff_eq];exact⟨λh=>⟨c0,c1,c2,h⟩,λh=>h.2.2.2⟩
      · rw[bs c2,Q1,decide_eq_false (λh=>c2 h.2.2.1)]
     · rw[bs c1,Q1,decide_eq_false (λh=>c1 h.2.1)]
    · rw[bs c0,Q1,decide_eq_false (λh=>c0 h.1)]
theorem FO (types:List Q9)(vars facts:Int)(c:Qv):vars<=(rz types vars facts c).2.1/\(rz types vars facts c).2.1<=vars+((c.args.length:Nat):Int)/\facts<=(rz types vars facts c).2.2/\(rz types vars facts c).2.2<=facts+1:=by
 unfold rz;have h:=vd (c.kind==1) c.args vars;split
 ·split
  ·split;· simp only;split<;>omega
   · simp only;omega
  · simp only;omega
 · split<;>(simp only;omega)
noncomputable def E2 (types:List Q9):List Qv->Int->Int->Bool×Int×Int
 |[],vars,facts=>(true,vars,facts)
 |c::l,vars,facts=>if(rz types vars facts c).1=true then E2 types l (rz types vars facts c).2.1 (rz types vars facts c).2.2 else(false,(rz types vars facts c).2.1,(rz types vars facts c).2.2)
theorem Cx {N:Nat} {types:List Q9} {rules:List Qb} {l:List Qv} (hN:9223372036854775808+1000000<=N)(hl:∀c∈l,c.args.length<=1000/\nodes c.test<=1000000)(hll:l.length<=100):
   ∀ (m i fuel:Nat) (vars facts:Int),i+m=l.length->m<fuel->0<=vars/\vars+((m:Nat):Int)*1000<=1000000->0<=facts/\facts+((m:Nat):Int)<=1000000->
     fF (Rj N l types rules) fuel (i,vars,facts)=some (if(E2 types (l.drop i) vars facts).1=true then .inl (E2 types (l.drop i) vars facts).2 else .inr (E2 types (l.drop i) vars facts)):=by
 intro m;induction m with
 | zero=>
   intro i fuel vars facts hi hf hv U;obtain⟨fuel,rfl⟩:∃q,fuel=q+1:=⟨fuel-1,an⟩
   obtain rfl:i=l.length:=an
   rw[ua (o:=.inl (vars,facts)) (by unfold Rj;simp only;rw[if_neg ax]),List.drop_length];simp[E2]
 | succ m ih=>
   intro i fuel vars facts hi hf hv U;obtain⟨fuel,rfl⟩:∃q,fuel=q+1:=⟨fuel-1,an⟩
   have h:i<l.length:=an
   obtain⟨k1,k2⟩:=hl l[i] (List.getElem_mem h);have hc:=MO (rules:=rules) (types:=types) (vars:=vars) (facts:=facts) (c:=l[i]) hN an k2 an an;have hcv:=FO types vars facts l[i]
   have hs:Rj N l types rules (i,vars,facts)=if(rz types vars facts l[i]).1=true then some (.inl (i+1,(rz types vars facts l[i]).2))else some (.inr (.inr (rz types vars facts l[i]))):=by
     unfold Rj;simp only;rw[br h,List.getElem?_eq_getElem h,Q1,hc,Q1];obtain⟨b,x,y⟩:=rz types vars facts l[i];cases b with
     |true=>simp only[Bool.not_true,Bool.false_eq_true,if_false,if_true];rw[QY an]
     |false=>simp only[Bool.not_false,Bool.false_eq_true,if_false,if_true]
   rw[List.drop_eq_getElem_cons h,E2];by_cases hb:(rz types vars facts l[i]).1=true
   · rw[if_pos hb]at hs⊢;rw[Lz hs];exact ih (i+1) fuel (rz types vars facts l[i]).2.1 (rz types vars facts l[i]).2.2 an an an an
   · rw[if_neg hb]at hs⊢;rw[ua hs];have sB:(rz types vars facts l[i]).1=false:=by simpa using hb
     simp only[Bool.false_eq_true,if_false];rw[<-sB]
noncomputable def pd (types:List Q9)(r:Qb):Bool:=
 (kB r.name&&decide (-1000<=r.salience/\r.salience<=1000/\r.conds.length<=8/\r.acts.length<=8))&&
  ((E2 types r.conds 0 0).1&&(decide (r.vars=(E2 types r.conds 0 0).2.1/\(E2 types r.conds 0 0).2.1<=16)&&r.acts.all (I6 types (E2 types r.conds 0 0).2.1 (E2 types r.conds 0 0).2.2)))
structure HH (r:Qb):Prop where
 conds:∀c∈r.conds,c.args.length<=1000/\nodes c.test<=1000000
 acts:∀a∈r.acts,Ha a.exprs<=1000000
theorem xc {α:Type} {p:α->Bool}:∀l:List α,(!(l.any λx=> !p x))=l.all p
 |[]=>rfl
 |x::l=>by rw[List.any_cons,List.all_cons,<-xc l];cases p x<;>simp
theorem Lf {N:Nat} {types:List Q9} {rules:List Qb} {a b:Int} {r:Qb} (hN:9223372036854775808+1000000<=N)(hr:HH r):∃x y,WW N types rules a b r.name r.salience r.vars r.conds r.acts=some (pd types r,x,y):=by
 unfold WW
 have VU:Q4p N r.name r.salience r.conds r.acts=some (!(kB r.name&&decide (-1000<=r.salience/\r.salience<=1000/\r.conds.length<=8/\r.acts.length<=8))):=by
  unfold Q4p;rw[Ar,Q1];cases kB r.name with
  |false=>simp
  | true=>
    rw[if_neg ax,Bool.true_and];by_cases c1:r.salience< -1000;· rw[br c1,decide_eq_false an];rfl
    ·rw [bs c1];by_cases c2:r.salience>1000;· rw[br c2,decide_eq_false an];rfl
     ·rw[bs c2];by_cases c3:8<r.conds.length;· rw[br c3,decide_eq_false an];rfl
      ·rw[bs c3];congr 1;rw[Bool.eq_iff_iff];simp only[decide_eq_true_eq,Bool.not_eq_true',decide_eq_false_iff_not];omega
 rw[VU,Q1];unfold pd;by_cases U:(kB r.name&&decide (-1000<=r.salience/\r.salience<=1000/\r.conds.length<=8/\r.acts.length<=8))=true
 ·rw [U,if_neg ax]
  have h8:r.conds.length<=8/\r.acts.length<=8:=by
    simp only[Bool.and_eq_true,decide_eq_true_eq]at U;exact⟨U.2.2.2.1,U.2.2.2.2⟩
  rw[Cx (rules:=rules) hN hr.conds an r.conds.length 0 N 0 0 an an an an,List.drop_zero];obtain⟨q,x,y⟩:=E2 types r.conds 0 0;cases q with
  |false=>exact⟨x,y,by simp only[Bool.false_eq_true,if_false];rw[H3];rfl⟩
  | true=>
    refine⟨x,y,?_⟩;simp only[if_true];rw[rv];simp only[Bool.true_and];by_cases c1:r.vars=x
    ·rw [br c1];by_cases c2:x<=16
     ·rw [br c2];unfold Q3d Q45
      rw [Vx (l:=r.acts) (p:=λz=>!I6 types x y z) (λi hi=>by
       unfold Wz Q4I;rw[br hi,List.getElem?_eq_getElem hi,Q1,RX hN (hr.acts _ (List.getElem_mem hi)),Q1,Q1];by_cases hb:(!I6 types x y r.acts[i])=true;· rw[if_pos hb,if_pos hb]
       · rw[if_neg hb,if_neg hb,QY an]) (by
       unfold Wz;rw[if_neg ax]) r.acts.length 0 N an an,Q1,Q1,List.drop_zero,Xs,xc]
      rw[decide_eq_true ⟨c1,c2⟩,Bool.true_and]
     · rw[bs c2,decide_eq_false (λh=>c2 h.2),Bool.false_and]
    · rw[bs c1,decide_eq_false (λh=>c1 h.1),Bool.false_and]
 ·have hgf:(kB r.name&&decide (-1000<=r.salience/\r.salience<=1000/\r.conds.length<=8/\r.acts.length<=8))=false:=by simpa only[Bool.not_eq_true]using U
  rw[hgf,if_pos Ic,Bool.false_and];exact⟨0,0,rfl⟩
end
section
open Go Go.RowKit
theorem MT {N N':Nat} {op:Int} {l:List V} (hN:9223372036854775808<=N)(hN':9223372036854775808<=N'):BD N op l=BD N' op l:=by
 by_cases h2:l.length<=2
 ·have e:fF (BA N l) N (0,false)=fF (BA N' l) N' (0,false):=by
   have e1:BA N l=BA N' l:=rfl;rcases Nat.le_total N N' with h|h
   ·rcases mP hN h2 with⟨b,U⟩|U;· rw[U];exact(Xt (by rw[e1]at U;exact U) h).symm
    · rw[U];exact(Xt (by rw[e1]at U;exact U) h).symm
   ·rcases mP hN' h2 with⟨b,U⟩|U;· rw[U];exact Xt (by rw[<-e1]at U;exact U) h
    · rw[U];exact Xt (by rw[<-e1]at U;exact U) h
  unfold BD;rw[e];rfl
 ·unfold BD;rw[(Ee N op).1,(Ee N' op).1,Q1,Q1,Cr];have U:op<1\/op>11\/l.length≠(if op=4\/op=11 then 1 else 2):=.inr (.inr (by split<;>omega));rw[Q1,Q1,br U,br U]
theorem XS:∀(m N U:Nat) (e:Q4) (vars:List V),cx e->nodes e<=m->m<=1000->9223372036854775808+m<=N->9223372036854775808+m<=U->(∀v∈vars,pH v)->vars.length<=1000000->
   at_ (wG N) vars e=at_ (wG U) vars e:=by
 intro m;induction m with
 | zero=>
   intro N U e vars _ hn;rw[Mq]at hn;omega
 | succ m ih=>
   intro N U e vars cn hn hm hN hN' hv JL;obtain⟨N,rfl⟩:∃k,N=k+1:=⟨N-1,an⟩
   obtain⟨U,rfl⟩:∃k,U=k+1:=⟨U-1,an⟩
   obtain⟨k,v,x,o,kids⟩:=e;have BS:9223372036854775808<=N:=an
   have N8:9223372036854775808<=U:=an
   rw[Mq]at hn;simp only at hn;show OJ N (wG N) k v.k v.n v.s x o kids vars=OJ U (wG U) k v.k v.n v.s x o kids vars;unfold OJ;by_cases k3:k=3
   ·subst k3;simp only[show((3:Int)==3)=true from rfl,if_true,show((3:Int)==1)=false from rfl,show((3:Int)==2)=false from rfl,Bool.false_eq_true,if_false];unfold X4 Xe;have jC:kids.length<=1000000:=by have:=Vz kids;omega
    rw[U2 BS jC,U2 N8 jC];obtain⟨h4,g4⟩:=EN cn;simp only at h4 g4
    have ej:mn (at_ (wG N) vars) kids []=mn (at_ (wG U) vars) kids []:=by
     have:∀(l:List Q4) (acc:List V),(∀y∈l,y∈kids)->mn (at_ (wG N) vars) l acc=mn (at_ (wG U) vars) l acc:=by
      intro l;induction l with
      |nil=>intro acc _;rfl
      | cons y l ihl=>
        intro acc hy;have hyk:=hy y ax;unfold mn;rw[ih N U y vars (g4 y hyk) (by have:=RC hyk;omega) an an an hv JL];congr 1;funext ⟨a,b,c,e⟩;simp only;rw[ihl _ (λz hz=>hy z (by simp[hz]))]
     exact this kids [] (λy hy=>hy)
    rw[ej];congr 1;congr 1;funext ⟨a,b⟩;simp only;split;· rfl
    · rw[MT BS N8]
   ·have b3:(k==3)=false:=by simpa using k3
    simp only[b3,Bool.false_eq_true,if_false];rfl
end
section
open Go Go.RowKit
theorem TX {z:Int} {h:List Bool}:(if decide (z>=0)=true then some (decide (z<((h.length:Nat):Int)))else some false)=some (decide (0<=z/\z<((h.length:Nat):Int))):=by
 by_cases h0:0<=z;· rw[br h0];simp[h0]
 · rw[bs h0];simp[h0]
theorem Sp (N:Nat) {a:fl} {x:V} {hs:List Bool} {vs:List V} (hl:hs.length=vs.length):
  ∃h' v',WD N hs vs a.k a.var a.v.k a.v.n a.v.s x.k x.n x.s=some ((H9 a x hs vs).isSome,h',v')/\∀p,H9 a x hs vs=some p->p=(h',v'):=by
 unfold WD H9;rw[TX,Q1];have ev:(⟨a.v.k,a.v.n,a.v.s⟩:V)=a.v:=rfl;have ex:(⟨x.k,x.n,x.s⟩:V)=x:=rfl;rw[ev,ex];by_cases k1:a.k=1
 ·rw[br k1,if_pos k1];exact⟨hs,vs,rfl,λp h=>(Option.some.inj h).symm⟩
 rw[bs k1,if_neg k1];by_cases k4:a.k=4
 ·rw[br k4,if_pos k4];by_cases hv:a.v=x
  ·rw[if_pos hv,decide_eq_true hv];exact⟨hs,vs,rfl,λp h=>(Option.some.inj h).symm⟩
  ·rw[if_neg hv,decide_eq_false hv];exact⟨hs,vs,rfl,λp h=>by cases h⟩
 rw[bs k4,if_neg k4];by_cases U:0<=a.var/\a.var<((hs.length:Nat):Int)
 ·have g1:a.var.toNat<hs.length:=an
  have g2:a.var.toNat<vs.length:=an
  rw[decide_eq_true U];by_cases k3:a.k=3
  ·rw [br k3,if_pos k3,if_pos rfl,QY U.1,List.getElem?_eq_getElem g1,Q1,List.getElem?_eq_getElem g2];by_cases hb:hs[a.var.toNat]=true
   ·rw[if_pos hb,QY U.1,Q1];by_cases hv:vs[a.var.toNat]=x
    ·rw[if_pos ⟨U.1,U.2,by rw[hb],by rw[hv]⟩,decide_eq_true hv];exact⟨hs,vs,rfl,λp h=>(Option.some.inj h).symm⟩
    ·rw[if_neg (λh=>hv (Option.some.inj h.2.2.2)),decide_eq_false hv];exact⟨hs,vs,rfl,λp h=>by cases h⟩
   ·rw[if_neg hb,if_neg (λh=>hb (Option.some.inj h.2.2.1))];exact⟨hs,vs,rfl,λp h=>by cases h⟩
  ·rw[bs k3,if_neg k3];by_cases k2:a.k=2
   ·unfold Q3w;rw[br k2,if_pos k2,if_pos rfl,QY U.1,List.getElem?_eq_getElem g1,Q1,QY U.1,List.getElem?_eq_getElem g2,Q1,Q1,if_pos U];exact⟨_,_,rfl,λp h=>(Option.some.inj h).symm⟩
   ·rw[bs k2,if_neg k2];exact⟨hs,vs,rfl,λp h=>by cases h⟩
 ·rw [decide_eq_false U];by_cases k3:a.k=3
  ·rw[br k3,if_pos k3,if_neg ax,if_neg (λh=>U ⟨h.1,h.2.1⟩)];exact⟨hs,vs,rfl,λp h=>by cases h⟩
  ·rw[bs k3,if_neg k3];by_cases k2:a.k=2
   ·unfold Q3w;rw[br k2,if_pos k2,if_neg ax,Q1,if_neg U];exact⟨hs,vs,rfl,λp h=>by cases h⟩
   ·rw[bs k2,if_neg k2];exact⟨hs,vs,rfl,λp h=>by cases h⟩
def FB:List fl->List V->List Bool->List V->Option (List Bool×List V)
 |[],_,hs,vs=>some (hs,vs)
 |_::_,[],_,_=>none
 | a::al,x::xs,hs,vs=>match H9 a x hs vs with
   |some p=>FB al xs p.1 p.2
   |none=>none
theorem rI:∀{al:List fl} {xs:List V} {hs:List Bool} {vs:List V} {p:List Bool×List V},FB al xs hs vs=some p->p.1.length=hs.length/\p.2.length=vs.length
 |[],_,hs,vs,p,h=>by cases h;exact⟨rfl,rfl⟩
 |_::_,[],_,_,_,h=>by cases h
 | a::al,x::xs,hs,vs,p,h=>by
   unfold FB at h;split at h
   ·rename_i q hq;have h1:=sg (h':=q.1) (vs':=q.2) hq;have U:=rI h;exact⟨U.1.trans h1.1,U.2.trans h1.2⟩
   · cases h
theorem FL {N:Nat} {al:List fl} {xs:List V} (hlen:al.length=xs.length)(G2:al.length<=1000000):∀(m i fuel:Nat)(hs:List Bool)(vs:List V),i+m=al.length->m<fuel->hs.length=vs.length->
   ∃a b,fF (Rl N al xs) fuel (i,hs,vs)=some (if(FB (al.drop i) (xs.drop i) hs vs).isSome=true then .inl (a,b)else .inr ([],[],false))/\∀p,FB (al.drop i) (xs.drop i) hs vs=some p->p=(a,b):=by
 intro m;induction m with
 | zero=>
   intro i fuel hs vs hi hf hl;obtain⟨fuel,rfl⟩:∃q,fuel=q+1:=⟨fuel-1,an⟩
   obtain rfl:i=al.length:=an
   refine⟨hs,vs,?_,λp h=>?_⟩
   · rw[ua (o:=.inl (hs,vs)) (by unfold Rl;simp only;rw[if_neg ax]),List.drop_length];simp[FB]
   · rw[List.drop_length]at h;cases h;rfl
 | succ m ih=>
   intro i fuel hs vs hi hf hl;obtain⟨fuel,rfl⟩:∃q,fuel=q+1:=⟨fuel-1,an⟩
   have h1:i<al.length:=an
   have h2:i<xs.length:=an
   obtain⟨h',v',Jw,hp⟩:=Sp N (a:=al[i]) (x:=xs[i]) hl;rw[List.drop_eq_getElem_cons h1,List.drop_eq_getElem_cons h2]
   have U:Rl N al xs (i,hs,vs)=if(H9 al[i] xs[i] hs vs).isSome=true then some (.inl (i+1,h',v'))else some (.inr (.inr ([],[],false))):=by
     unfold Rl;simp only;rw[br h1,List.getElem?_eq_getElem h1,Q1,List.getElem?_eq_getElem h2,Q1,Jw,Q1];cases(H9 al[i] xs[i] hs vs).isSome with
     |true=>simp only[Bool.not_true,Bool.false_eq_true,if_false,if_true];rw[QY an]
     |false=>simp only[Bool.not_false,if_true,Bool.false_eq_true,if_false]
   unfold FB;cases hq:H9 al[i] xs[i] hs vs with
   | some q=>
     have hq2:=hp q hq;subst hq2;have a1m:=sg hq;rw[hq]at U;simp only[Option.isSome_some,if_true]at U;rw[Lz U];exact ih (i+1) fuel h' v' an an an
   | none=>
     rw[hq]at U;simp only[Option.isSome_none,Bool.false_eq_true,if_false]at U;refine⟨[],[],?_,λp h=>by cases h⟩;rw[ua U];simp
def vC (hs:List Bool)(vs:List V):Bool:=hs.length==vs.length&&(hs.zip vs).all λp=>p.1||decide (p.2=wX)
theorem NO {N:Nat} (hN:1000001<=N) {hs:List Bool} {vs:List V} (hh:hs.length<=1000000):WY N hs vs=some (vC hs vs):=by
 unfold WY vC;by_cases hl:hs.length=vs.length
 ·rw [if_neg (by simp[hl]),show(hs.length==vs.length)=true from by simpa using hl,Bool.true_and]
  have key:∀(m i fuel:Nat),i+m=hs.length->m<fuel->fF (Rk N hs vs) fuel i=some (if((hs.drop i).zip (vs.drop i)).all (λp=>p.1||decide (p.2=wX))=true then .inl ()else .inr false):=by
   intro m;induction m with
   | zero=>
     intro i fuel hi hf;obtain⟨fuel,rfl⟩:∃q,fuel=q+1:=⟨fuel-1,an⟩
     obtain rfl:i=hs.length:=an
     rw[ua (o:=.inl ()) (by unfold Rk;rw[if_neg ax]),List.drop_length];simp
   | succ m ih=>
     intro i fuel hi hf;obtain⟨fuel,rfl⟩:∃q,fuel=q+1:=⟨fuel-1,an⟩
     have h1:i<hs.length:=an
     have h2:i<vs.length:=an
     have U:Rk N hs vs i=if(hs[i]||decide (vs[i]=wX))=true then some (.inl (i+1))else some (.inr (.inr false)):=by
      unfold Rk;rw[br h1,List.getElem?_eq_getElem h1,Q1];cases hb:hs[i]with
      |true=>simp only[Bool.not_true,Bool.false_eq_true,if_false,Bool.true_or,if_true];rw[Q1,if_neg ax,QY an]
      | false=>
        simp only[Bool.not_false,if_true,Bool.false_or];rw[List.getElem?_eq_getElem h2,Q1,Q1];by_cases hz:vs[i]=wX
        ·have NC:vs[i]=(⟨0,0,(⟨#[]⟩:ByteArray)⟩:V):=hz;rw[if_neg (show¬(!decide (vs[i]=(⟨0,0,(⟨#[]⟩:ByteArray)⟩:V)))=true from by simp[NC]),QY an,br hz]
        ·have NC:¬vs[i]=(⟨0,0,(⟨#[]⟩:ByteArray)⟩:V):=hz;rw[if_pos (show(!decide (vs[i]=(⟨0,0,(⟨#[]⟩:ByteArray)⟩:V)))=true from by simpa using NC),bs hz]
     rw[List.drop_eq_getElem_cons h1,List.drop_eq_getElem_cons h2,List.zip_cons_cons,List.all_cons];by_cases hb:(hs[i]||decide (vs[i]=wX))=true
     ·rw[if_pos hb]at U;rw[Lz U,ih (i+1) fuel an an];simp only[hb,Bool.true_and]
     ·rw[if_neg hb]at U;rw[ua U];simp only[Bool.not_eq_true]at hb;simp only[hb,Bool.false_and,Bool.false_eq_true,if_false]
  rw[key hs.length 0 N an an,List.drop_zero,List.drop_zero];cases((hs.zip vs).all λp=>p.1||decide (p.2=wX))with
  |true=>rfl
  |false=>rfl
 · rw[br hl,show(hs.length==vs.length)=false from by simpa using hl,Bool.false_and]
def HX (c:Qv)(f:Qq)(hs:List Bool)(vs:List V):Option (List Bool×List V):=
 if(c.kind=1\/c.kind=2)/\c.type=f.ty/\c.args.length=f.args.length/\vC hs vs=true then FB c.args f.args hs vs else none
theorem K0 {N:Nat} (hN:9223372036854775808<=N) {c:Qv} {f:Qq} {hs:List Bool} {vs:List V} (hh:hs.length<=1000)(hv:vs.length<=1000)(ha:c.args.length<=1000000):
  ∃a b,Lt N c.kind c.type c.args c.test.kind c.test.value.k c.test.value.n c.test.value.s c.test.var c.test.op c.test.kids f.id f.ty f.args hs vs=some (a,b,(HX c f hs vs).isSome)/\∀p,HX c f hs vs=some p->p=(a,b)/\a.length=hs.length/\b.length=vs.length:=by
 unfold Lt
 have e12:(if(c.kind==1)=true then some true else some (c.kind==2))=some (decide (c.kind=1\/c.kind=2)):=by
  by_cases h:c.kind=1;· simp[h]
  · rw[bs h];congr 1;rw[Bool.eq_iff_iff];simp[h]
 rw[e12,Q1]
 have Ng:Q5m N (decide (c.kind=1\/c.kind=2)) c.type f.ty c.args f.args hs vs=some (!(decide ((c.kind=1\/c.kind=2)/\c.type=f.ty/\c.args.length=f.args.length/\vC hs vs=true))):=by
  unfold Q5m;by_cases h1:c.kind=1\/c.kind=2
  · rw[decide_eq_true h1,if_neg ax];by_cases U:c.type=f.ty
    ·rw[bs U];by_cases h3:c.args.length=f.args.length
     ·rw[bs h3,NO an an,Q1];congr 2;rw[Bool.eq_iff_iff];simp[h1,U,h3]
     · rw[br h3,decide_eq_false (λh=>h3 h.2.2.1)];rfl
    · rw[br U,decide_eq_false (λh=>U h.2.1)];rfl
  · rw[decide_eq_false h1,if_pos (show(!false)=true from rfl),decide_eq_false (λh=>h1 h.1)];rfl
 rw[Ng,Q1];unfold HX;by_cases hg:(c.kind=1\/c.kind=2)/\c.type=f.ty/\c.args.length=f.args.length/\vC hs vs=true
 ·have hl:hs.length=vs.length:=by
    have:=hg.2.2.2;unfold vC at this;simp only[Bool.and_eq_true,beq_iff_eq]at this;exact this.1
  rw[decide_eq_true hg,if_neg ax,if_pos hg];unfold Q91;rw[QY an,QY an,Q1];obtain⟨a,b,h1,U⟩:=FL (N:=N) hg.2.2.1 ha c.args.length 0 N hs vs an an hl;rw[List.drop_zero,List.drop_zero]at h1 U;rw[h1];cases hq:FB c.args f.args hs vs with
  | some p=>
    have hp:=U p hq;have hlen:=rI hq;refine⟨a,b,by simp only[Option.isSome_some,if_true];rw[rv],λp' h=>?_⟩;cases h;refine⟨hp,?_,?_⟩;· rw[hp]at hlen;exact hlen.1
    · rw[hp]at hlen;exact hlen.2
  | none=>
    refine⟨[],[],by simp only[Option.isSome_none,Bool.false_eq_true,if_false];rw[H3],λp h=>by cases h⟩
 ·rw[decide_eq_false hg,if_pos (show(!false)=true from rfl),if_neg hg];exact⟨[],[],rfl,λp h=>by cases h⟩
end
section
open Go Go.RowKit
abbrev N0:Nat:=9223372036855775808
def D6:Option I3->Bool
 |some (k,n,_,e)=>e==0&&(k==1&&n !=0)
 |none=>false
def PZ (facts:List Qq):E7:=⟨λc hs vs f=>HX c f hs vs,λc vs=>D6 (at_ (wG N0) vs c.test),λc hs vs=>facts.any λf=>(HX c f hs vs).isSome⟩
def Rc (hs:List Bool)(vs:List V):Prop:=hs.length=vs.length/\vs.length<=16/\∀v∈vs,pH v
theorem FV {a:fl} {x:V} {hs:List Bool} {vs:List V} {p:List Bool×List V} (hx:pH x)(U:∀v∈vs,pH v)(h:H9 a x hs vs=some p):∀v∈p.2,pH v:=by
 unfold H9 at h;split at h;· cases h;exact U
 ·split at h
  ·split at h;· cases h;exact U
   · cases h
  ·split at h
   ·split at h;· cases h;exact U
    · cases h
   ·split at h
    ·split at h
     ·cases h;intro v hm;rcases List.mem_or_eq_of_mem_set hm with hm|rfl;· exact U v hm
      · exact hx
     · cases h
    · cases h
theorem vc:∀{al:List fl} {xs:List V} {hs:List Bool} {vs:List V} {p:List Bool×List V},(∀x∈xs,pH x)->(∀v∈vs,pH v)->FB al xs hs vs=some p->∀v∈p.2,pH v
 |[],_,hs,vs,p,_,U,h=>by cases h;exact U
 |_::_,[],_,_,_,_,_,h=>by cases h
 | a::al,x::xs,hs,vs,p,hx,U,h=>by
   unfold FB at h;split at h
   ·rename_i q hq;exact vc (λy hy=>hx y (List.mem_cons_of_mem _ hy)) (FV (hx x List.mem_cons_self) U hq) h
   · cases h
theorem Gm {c:Qv} {f:Qq} {hs:List Bool} {vs:List V} {p:List Bool×List V} (U:∀x∈f.args,pH x)(hv:∀v∈vs,pH v)(h:HX c f hs vs=some p):∀v∈p.2,pH v:=by
 unfold HX at h;split at h;· exact vc U hv h
 · cases h
end
section
open Go Go.RowKit
theorem Ia {σ:Type} {f:Nat×σ->Option ((Nat×σ)⊕(Unit⊕Bool))} {n:Nat} {p:Nat->Bool} (step:∀i s,i<n->∃s',f (i,s)=if p i=true then some (.inl (i+1,s'))else some (.inr (.inr false)))(stop:∀s,f (n,s)=some (.inr (.inl ()))):
   ∀(m i fuel:Nat) (s:σ),i+m=n->m<fuel->fF f fuel (i,s)=some (if(List.range' i m).all p=true then .inl ()else .inr false):=by
 intro m;induction m with
 | zero=>
   intro i fuel s hi U;obtain⟨fuel,rfl⟩:∃q,fuel=q+1:=⟨fuel-1,an⟩
   obtain rfl:i=n:=an
   rw[ua (stop s)];rfl
 | succ m ih=>
   intro i fuel s hi U;obtain⟨fuel,rfl⟩:∃q,fuel=q+1:=⟨fuel-1,an⟩
   obtain⟨s',hs⟩:=step i s an;rw[List.range'_succ,List.all_cons];by_cases hp:p i=true
   ·rw[if_pos hp]at hs;rw[Lz hs,ih (i+1) fuel s' an an,hp,Bool.true_and]
   ·rw[if_neg hp]at hs;rw[ua hs,if_neg (by simp[hp])]
theorem FJ {f:Nat->Option (Nat⊕(Unit⊕Bool))} {n:Nat} {p:Nat->Bool} (step:∀i,i<n->f i=if p i=true then some (.inl (i+1))else some (.inr (.inr false)))(stop:f n=some (.inr (.inl ()))):
   ∀(m i fuel:Nat),i+m=n->m<fuel->fF f fuel i=some (if(List.range' i m).all p=true then .inl ()else .inr false):=by
 intro m;induction m with
 | zero=>
   intro i fuel hi U;obtain⟨fuel,rfl⟩:∃q,fuel=q+1:=⟨fuel-1,an⟩
   obtain rfl:i=n:=an
   rw[ua stop];rfl
 | succ m ih=>
   intro i fuel hi U;obtain⟨fuel,rfl⟩:∃q,fuel=q+1:=⟨fuel-1,an⟩
   have hs:=step i an;rw[List.range'_succ,List.all_cons];by_cases hp:p i=true
   ·rw[if_pos hp]at hs;rw[Lz hs,ih (i+1) fuel an an,hp,Bool.true_and]
   ·rw[if_neg hp]at hs;rw[ua hs,if_neg (by simp[hp])]
theorem NK {N:Nat} {types:List Q9} {rules:List Qb} {a b:Int} {s:ByteArray} (hN:9223372036854775808<=N)(hl:types.length<=1000000):
  WU N types rules a b s=some (BJ (λt=>t.name.toList==s.toList) types 0):=by
 unfold WU Q3N
 rw [Vx (l:=types) (p:=λt=>t.name.toList==s.toList) (λi hi=>by
  unfold Wy Q4C;rw[br hi,List.getElem?_eq_getElem hi,Q1,Q1];by_cases U:(types[i].name.toList==s.toList)=true;· rw[if_pos U,if_pos U]
  · rw[if_neg U,if_neg U,QY an]) (by
  unfold Wy;rw[if_neg ax]) types.length 0 N an an,Q1,List.drop_zero]
theorem O8 {N:Nat} {types:List Q9} {rules:List Qb} {a b:Int} {s:ByteArray} (hN:9223372036854775808<=N)(hl:rules.length<=1000000):
  WV N types rules a b s=some (BJ (λt=>t.name.toList==s.toList) rules 0):=by
 unfold WV Q3M
 rw [Vx (l:=rules) (p:=λt=>t.name.toList==s.toList) (λi hi=>by
  unfold Wx Q4D;rw[br hi,List.getElem?_eq_getElem hi,Q1,Q1];by_cases U:(rules[i].name.toList==s.toList)=true;· rw[if_pos U,if_pos U]
  · rw[if_neg U,if_neg U,QY an]) (by
  unfold Wx;rw[if_neg ax]) rules.length 0 N an an,Q1,List.drop_zero]
noncomputable def Ff (types:List Q9)(i:Nat):Bool:=match types[i]? with
 |some t=>kB t.name&&(decide (0<=t.fields/\t.fields<=6)&&BJ (λx=>x.name.toList==t.name.toList) types 0==((i:Nat):Int))
 |none=>false
noncomputable def vV (types:List Q9)(rules:List Qb)(i:Nat):Bool:=match rules[i]? with
 |some r=>BJ (λx=>x.name.toList==r.name.toList) rules 0==((i:Nat):Int)&&pd types r
 |none=>false
noncomputable def Mf (types:List Q9)(rules:List Qb):Bool:=
 decide (types.length<=32/\rules.length<=64)&&((List.range' 0 types.length).all (Ff types)&&(List.range' 0 rules.length).all (vV types rules))
theorem Qco {N:Nat} {types:List Q9} {rules:List Qb} (hN:9223372036854775808+1000000<=N) (hr:∀r∈rules,HH r):OH N types rules=some (Mf types rules):=by
  unfold OH Mf;by_cases h1:32<types.length;· rw[br h1,Q1,if_pos rfl,decide_eq_false an];rfl
  · rw [bs h1,Q1];by_cases h2:64<rules.length;· rw[br h2,decide_eq_false an];rfl
    · rw [bs h2,decide_eq_true ⟨an,an⟩,Bool.true_and]
      rw [FJ (f:=Vm N types rules) (n:=types.length) (p:=Ff types) (λi hi=>by
        unfold Vm Ff;rw[br hi,List.getElem?_eq_getElem hi,Q1]
        have hc:Q6f N types[i] types rules i=some (!(kB types[i].name&&(decide (0<=types[i].fields/\types[i].fields<=6)&&BJ (λx=>x.name.toList==types[i].name.toList) types 0==((i:Nat):Int)))):=by
          unfold Q6f;rw[Ar,Q1];cases kB types[i].name with
          |false=>rfl
          | true=>
            rw[if_neg ax,Bool.true_and];by_cases c1:types[i].fields<0;· rw[br c1,decide_eq_false an];rfl
            · rw[bs c1];by_cases c2:types[i].fields>6;· rw[br c2,decide_eq_false an];rfl
              · rw[bs c2,NK an an,Q1,decide_eq_true ⟨an,an⟩,Bool.true_and];rfl
        rw[hc,Q1];simp only;by_cases U:(kB types[i].name&&(decide (0<=types[i].fields/\types[i].fields<=6)&&BJ (λx=>x.name.toList==types[i].name.toList) types 0==((i:Nat):Int)))=true;· rw[if_neg (by rw[U];simp),if_pos U,QY an]
        · rw[if_pos (by simpa only[Bool.not_eq_true',Bool.not_eq_true]using U),if_neg U]) (by
        unfold Vm;rw[if_neg ax]) types.length 0 N an an]
      cases(List.range' 0 types.length).all (Ff types)with
      |false=>rfl
      | true=>
        rw[if_pos rfl,rv,Bool.true_and]
        rw [Ia (f:=Vn N rules types) (n:=rules.length) (p:=vV types rules) (λi s hi=>by
          obtain⟨s1,s2⟩:=s;unfold Vn vV;simp only;rw[br hi,List.getElem?_eq_getElem hi,Q1,O8 an an,Q1];simp only;by_cases U:(BJ (λx=>x.name.toList==rules[i].name.toList) rules 0==((i:Nat):Int))=true
          · have sB:(BJ (λx=>x.name.toList==rules[i].name.toList) rules 0 != ((i:Nat):Int))=false:=by unfold bne;rw[U];rfl
            simp only[sB,Bool.false_eq_true,if_false,U,Bool.true_and];obtain⟨x,y,hw⟩:=Lf (rules:=rules) (types:=types) (a:=s1) (b:=s2) hN (hr _ (List.getElem_mem hi));rw[hw,Q1];simp only;rw[Q1];simp only;cases pd types rules[i]with
            |true=>exact⟨(x,y),by rw[if_neg ax,if_pos rfl,QY an]⟩
            |false=>exact⟨(x,y),by rw[if_pos Ic,if_neg ax]⟩
          · have LS:(BJ (λx=>x.name.toList==rules[i].name.toList) rules 0==((i:Nat):Int))=false:=by simpa only[Bool.not_eq_true]using U
            have sB:(BJ (λx=>x.name.toList==rules[i].name.toList) rules 0 !=((i:Nat):Int))=true:=by unfold bne;rw[LS];rfl
            simp only[sB,if_true,LS,Bool.false_and,Q1,Bool.false_eq_true,if_false];exact⟨(s1,s2),trivial⟩) (λs=>by
          unfold Vn;obtain⟨s1,s2⟩:=s;simp only;rw[if_neg ax]) rules.length 0 N (0,0) an an]
        cases(List.range' 0 rules.length).all (vV types rules)<;>rfl
theorem AM {types:List Q9} {rules:List Qb} (h:Mf types rules=true):rules.length<=64/\∀r∈rules,r.conds.length<=8:=by
 unfold Mf at h;simp only[Bool.and_eq_true,decide_eq_true_eq]at h;refine⟨h.1.2,λr hr=>?_⟩;obtain⟨i,hi,rfl⟩:=List.getElem_of_mem hr;have U:=List.all_eq_true.1 h.2.2 i (by simp[List.mem_range'_1];exact hi);unfold vV at U;rw[List.getElem?_eq_getElem hi]at U;simp only[Bool.and_eq_true]at U;have h6:=U.2;unfold pd at h6;simp only[Bool.and_eq_true,decide_eq_true_eq]at h6;exact h6.1.2.2.2.1
noncomputable def iR (types:List Q9)(last:Int)(f:Qq):Bool:=
 decide (last<f.id/\f.id<=1099511627776)&&(ug types f.ty ((f.args.length:Nat):Int)&&f.args.all pZ)
noncomputable def yZ (types:List Q9):Int->List Qq->Bool
 |_,[]=>true
 |last,f::l=>iR types last f&&yZ types f.id l
theorem U6 (N:Nat)(a:Int):∃hs vs,OK N a=some (hs,vs)/\Rc hs vs:=by
 unfold OK;by_cases c1:a<0
 ·rw[br c1,Q1,if_pos rfl];exact⟨[],[],rfl,rfl,ax,ax⟩
 ·rw[bs c1,Q1];by_cases c2:a>16
  ·rw[br c2];exact⟨[],[],rfl,rfl,ax,ax⟩
  ·rw[bs c2,QY an,QY an,QY an,QY an];refine⟨_,_,rfl,ax,by simp;omega,λv U=>?_⟩;rw[(List.mem_replicate.1 U).2];unfold pH du;exact⟨⟨ax,ax⟩,Nat.zero_le _⟩
end
section
open Go Go.RowKit
def ij (a:Int):List Bool×List V:=if 0<=a/\a<=16 then(List.replicate a.toNat false,List.replicate a.toNat ⟨0,0,⟨#[]⟩⟩)else([],[])
theorem EL (N:Nat)(a:Int):OK N a=some (ij a)/\Rc (ij a).1 (ij a).2:=by
 have h1:OK N a=some (ij a):=by
  unfold OK ij;by_cases c1:a<0;· rw[br c1,Q1,if_pos rfl,if_neg an]
  ·rw[bs c1,Q1];by_cases c2:a>16;· rw[br c2,if_neg an]
   · rw[bs c2,QY an,QY an,QY an,QY an,if_pos an]
 refine⟨h1,?_⟩;obtain⟨hs,vs,U,h3⟩:=U6 N a;rw[h1]at U;rw[Option.some.inj U];exact h3
noncomputable section
def Pb (facts:List Qq)(r:Qb):Nat:=Cl (PZ facts) facts r.conds (ij r.vars).1 (ij r.vars).2
def Yo (facts:List Qq)(r:Qb):List (List Int×List V):=goN (PZ facts) facts r.conds (ij r.vars).1 (ij r.vars).2 []
def kr (facts:List Qq):List Qb->Nat->List QB
 |[],_=>[]
 |r::l,i=>(Yo facts r).map (R1 ((i:Nat):Int))++kr facts l (i+1)
def oL (facts:List Qq):List Qb->Nat
 |[]=>0
 |r::l=>Pb facts r+oL facts l
end
end
section
open Go Go.RowKit Classical
theorem AQ {N:Nat} {l:List Q4} {rc:Int->Int->Int->ByteArray->Int->Int->(List Q4)->Option (List Q4)} (hl:l.length<=1759218604390)(U:∀x∈l,rc x.kind x.value.k x.value.n x.value.s x.var x.op x.kids=some x.kids):
   ∀(k i fuel:Nat),i+k=l.length->k<fuel->fF (Vq N l rc) fuel (i,l)=some l:=by
 intro k;induction k with
 | zero=>
   intro i fuel hi hf;obtain⟨fuel,rfl⟩:∃q,fuel=q+1:=⟨fuel-1,an⟩
   rw[ua];unfold Vq;simp only;rw[if_neg (by simp;omega)]
 | succ k ih=>
   intro i fuel hi hf;obtain⟨fuel,rfl⟩:∃q,fuel=q+1:=⟨fuel-1,an⟩
   have h1:i<l.length:=an
   rw[Lz (s':=(i+1,l))];· exact ih (i+1) fuel an an
   ·unfold Vq;simp only;rw[br h1,List.getElem?_eq_getElem h1,Q1,U _ (List.getElem_mem h1),Q1,Q1,QY an];congr 2;have e:(⟨l[i].kind,l[i].value,l[i].var,l[i].op,l[i].kids⟩:Q4)=l[i]:=by cases l[i];rfl
    rw[e,List.set_getElem_self]
theorem GA:∀(m N:Nat)(e:Q4),nodes e<=m->9223372036854775808+m<=N->nodes e<=1759218604390->Vv N e.kind e.value.k e.value.n e.value.s e.var e.op e.kids=some e.kids:=by
 intro m;induction m with
 |zero=>intro N e h;rw[Mq]at h;omega
 | succ m ih=>
   intro N e hn hN hb;obtain⟨N,rfl⟩:∃k,N=k+1:=⟨N-1,an⟩
   rw[Mq]at hn hb;have hk:=Vz e.kids;show Xb N (Vv N) e.kind e.value.k e.value.n e.value.s e.var e.op e.kids=some e.kids;unfold Xb;rw[QY an,AQ an (λx U=>ih N x (by have:=RC U;omega) an (by have:=RC U;omega)) e.kids.length 0 N an an,Q1]
theorem FP {N:Nat} {c:Qv} (U:9223372036854775808+1000000<=N)(ha:c.args.length<=1000000)(ht:nodes c.test<=1000000):Vt N c.kind c.type c.args c.test.kind c.test.value.k c.test.value.n c.test.value.s c.test.var c.test.op c.test.kids=some c.test.kids:=by
 unfold Vt;rw[QY an,GA 1000000 N c.test ht U an,Q1]
section
variable {S:fe} {I:ep->Prop} {P:Qq->Prop} {C:fz} {loc:Loc} {s s':Q7} {facts:List Qq} {T:bz} {Ta:Nat->bz} {B:Nat->List Int->bz×bz} {Zo:Nat->Prop} {ck:Option Nat}
theorem Inv.frame (h:Inv S C T Ta B Zo ck loc s)(hs:∀b o,s b=some o->s' b=some o):Inv S C T Ta B Zo ck loc s':=by
 refine⟨?_,λr R hr=>?_,λr R k sc hr hk hz=>?_,λA hA=>?_,λp r π hp=>?_,h.inj,h.root,h.le⟩;· obtain⟨x,h1,U⟩:=h.net;exact⟨x,hs _ _ h1,U⟩
 · obtain⟨x,h1,U⟩:=h.row r R hr;exact⟨x,hs _ _ h1,U⟩
 ·have h0:=h.step r R k sc hr hk hz;unfold ia at h0⊢;split at h0;· obtain⟨x,h1,U⟩:=h0;exact⟨x,hs _ _ h1,U⟩
  · obtain⟨x,h1,U⟩:=h0;exact⟨x,hs _ _ h1,U⟩
  · obtain⟨x,h1,U⟩:=h0;exact⟨x,hs _ _ h1,U⟩
 · obtain⟨x,h1,U⟩:=h.al A hA;exact⟨x,hs _ _ h1,U⟩
 · obtain⟨R,x,h1,U,h3⟩:=h.part p r π hp;exact⟨R,x,h1,hs _ _ U,h3⟩
def setAl (C:fz)(m:MS ByteArray Nat)(az:List Hz):fz:={C with alphas:=m,als:=az}
theorem Inv.setAl {x:fk} {m:MS ByteArray Nat} {az:List Hz} (h:Inv S C T Ta B Zo ck loc s)(hx:s C.g=some (.net x))(ha:∀A∈az,HA (Ta A.b) A (s A.b)):
  Inv S (setAl C m az) T Ta B Zo ck loc (cq s C.g (.net {x with alphas:=m})):=by
 have ne:∀b o,s b=some o->(∀z,o≠.net z)->(cq s C.g (.net {x with alphas:=m})) b=some o:=λb o h1 U=>by
  rw[QD (λe=>by rw[e,hx]at h1;cases h1;exact U _ rfl)];exact h1
 refine⟨?_,λr R hr=>?_,λr R k sc hr hk hz=>?_,λA hA=>?_,λp r π hp=>?_,h.inj,h.root,h.le⟩
 ·obtain⟨y,h1,a2,a3,a4,a5,a6,a7,a8⟩:=h.net;rw[hx]at h1;cases h1;exact⟨_,iN _ _ _,a2,a3,a4,a5,rfl,a7,a8⟩
 · obtain⟨y,h1,U⟩:=h.row r R hr;exact⟨y,ne _ _ h1 (λ_ e=>by cases e),U⟩
 ·have h0:=h.step r R k sc hr hk hz;unfold ia at h0⊢;split at h0;· obtain⟨y,h1,U⟩:=h0;exact⟨y,ne _ _ h1 (λ_ e=>by cases e),U⟩
  · obtain⟨y,h1,U⟩:=h0;exact⟨y,ne _ _ h1 (λ_ e=>by cases e),U⟩
  · obtain⟨y,h1,U⟩:=h0;exact⟨y,ne _ _ h1 (λ_ e=>by cases e),U⟩
 · obtain⟨y,h1,U⟩:=ha A hA;exact⟨y,ne _ _ h1 (λ_ e=>by cases e),U⟩
 · obtain⟨R,y,h1,U,h3⟩:=h.part p r π hp;exact⟨R,y,h1,ne _ _ U (λ_ e=>by cases e),h3⟩
structure R5 (C:fz) (n:Nat):Prop where
 A:VS C
 keyed:∀k a,C.alphas.look k=some a->∃A∈C.als,A.b=a/\k.data.toList=Al A.kind A.args
 good:∀A∈C.als,du A.kind/\(∀a∈A.args,rp a)/\A.args.length<=1000/\ug C.types A.kind ((A.args.length:Nat):Int)=true
 few:C.alphas.keys.length<=n
theorem DJ {a:fl} {l:List fl}:iY (l++[a])=iY l++44::(wV a.v).data.toList:=by
 unfold iY;rw[List.flatMap_append];simp
theorem K8 {l:List fl} (h:∀a∈l,pH a.v):∀a∈iP l,pH a.v:=λa U=>by
 unfold iP at U;obtain⟨b,hb,rfl⟩:=List.mem_map.1 U;split;· exact h b hb
 · exact⟨by show du 0;unfold du;omega,by show 0<=_;omega⟩
theorem Ea {N n:Nat} {c:Qv} {Q:Option Nat×Q7->Prop} (hN:9223372036854775808<=N)(h:Inv S C (eE []) (λ_=>eE []) B Zo ck loc s)(hK:R5 C n)(D4:du c.type)(G2:c.args.length<=1000)(Pu:∀a∈iP c.args,rp a)(iJ:∀a∈c.args,pH a.v)(TS:ug C.types c.type ((c.args.length:Nat):Int)=true)
  (hQ:∀m az A s',Inv S (setAl C m az) (eE []) (λ_=>eE []) B Zo ck loc s'->R5 (setAl C m az) (n+1)->A∈az->A.kind=c.type->A.args=iP c.args->(∀A'∈C.als,A'∈az)->(∀b o,b≠C.g->s b=some o->s' b=some o)->Q (some A.b,s')):
  OC N C.g c.kind c.type c.args c.test.kind c.test.value.k c.test.value.n c.test.value.s c.test.var c.test.op c.test.kids s Q:=by
 have hml:(iP c.args).length=c.args.length:=List.length_map _;obtain⟨xn,n1,n2,n3,n4,n5,n55,n6,n8,_⟩:=h.gNet;unfold OC;refine ud λga=>jm λg hg=>?_;have YJ:g≠C.g:=λe=>by rw[e,n2]at hg;cases hg
 refine ll λkj1 LZ=>?_
 have fin:∀p cc,kj1 (cq s g (.alpha ⟨c.type,iP c.args,p,cc,MS.nil,ga⟩)) Q:=λp cc=>by
  subst LZ
  have gN:Go.Proofs.YtocfkfhdcnjklaaGreatDoor.gNet (cq s g (.alpha ⟨c.type,iP c.args,p,cc,MS.nil,ga⟩)) C.g=some xn:=by
   unfold Go.Proofs.YtocfkfhdcnjklaaGreatDoor.gNet;rw[QD (Ne.symm YJ),n2]
  have sN:(cq s g (.alpha ⟨c.type,iP c.args,p,cc,MS.nil,ga⟩)) C.g=some (.net xn):=by rw[QD (Ne.symm YJ),n2]
  have keep:∀b o,s b=some o->(cq s g (.alpha ⟨c.type,iP c.args,p,cc,MS.nil,ga⟩)) b=some o:=λb o hb=>by
   rw[QD (λe=>by rw[e,hg]at hb;cases hb)];exact hb
  refine Qh (a:=⟨c.type,iP c.args,p,cc,MS.nil,ga⟩) (by unfold tX;rw[iN]) ?_;refine fR D4 ?_;refine ll λkj2 Nr=>?_
  have a0q:∀key:ByteArray,key.data.toList=Al c.type (iP c.args)->kj2 key Q:=λkey qc=>by
   subst Nr;refine ll λkj3 hk3=>?_
   refine ll λkj4 hk4=>?_;refine Qh gN ?_;refine xW (λmF=>?_) (λa ha=>?_)
   ·subst hk4;refine jj rfl ?_;refine Qh gN ?_;refine lR ?_;subst hk3;refine Qh (a:={xn with alphas:=MS.put xn.alphas key g}) (by unfold Go.Proofs.YtocfkfhdcnjklaaGreatDoor.gNet;rw[iN]) ?_;refine Dm (a:=g) (by rw[MS.look_put,if_pos rfl]) ?_;have a0N:C.alphas.look key=none:=by rw[<-n6];exact mF
    have Yv:HA (eE []) ⟨g,c.type,iP c.args⟩ (cq s g (.alpha ⟨c.type,iP c.args,p,cc,MS.nil,ga⟩) g):=⟨_,iN _ _ _,rfl,rfl,List.nodup_nil,λi=>rfl⟩
    have hinv:=(h.frame keep).setAl (m:=C.alphas.put key g) (az:=C.als++[⟨g,c.type,iP c.args⟩]) sN (λA U=>by
     rcases List.mem_append.1 U with U|U;· obtain⟨y,h1,h2⟩:=h.al A U;exact⟨y,keep _ _ h1,h2⟩
     · rw[List.mem_singleton.1 U];exact Yv)
    have e6:(({xn with alphas:=MS.put xn.alphas key g}:fk))={xn with alphas:=C.alphas.put key g}:=by rw[n6]
    rw[e6];refine hQ _ _ ⟨g,c.type,iP c.args⟩ _ hinv ?_ (List.mem_append_right _ (List.mem_singleton.2 rfl)) rfl rfl (λA' ux=>List.mem_append_left _ ux) (λb o hb ho=>by rw[QD hb];exact keep b o ho);refine⟨⟨λk a ha=>?_,λA U=>?_⟩,λk a ha=>?_,λA U=>?_,?_⟩
    ·have CQ:(C.alphas.put key g).look k=some a:=ha;rw[MS.look_put]at CQ;split at CQ;· cases CQ;exact⟨_,List.mem_append_right _ (List.mem_singleton.2 rfl),rfl⟩
     · obtain⟨A,h1,h2⟩:=hK.A.ofKey k a CQ;exact⟨A,List.mem_append_left _ h1,h2⟩
    ·rcases List.mem_append.1 U with U|U
     ·obtain⟨k,hk⟩:=hK.A.key A U;exact⟨k,by show(C.alphas.put key g).look k=_;rw[MS.look_put,if_neg (λe=>by rw[e,a0N]at hk;cases hk)];exact hk⟩
     ·rw[List.mem_singleton.1 U];exact⟨key,by show(C.alphas.put key g).look key=_;rw[MS.look_put,if_pos rfl]⟩
    ·have CQ:(C.alphas.put key g).look k=some a:=ha;rw[MS.look_put]at CQ;split at CQ
     ·rename_i e;cases CQ;exact⟨_,List.mem_append_right _ (List.mem_singleton.2 rfl),rfl,by rw[e];exact qc⟩
     · obtain⟨A,h1,h2⟩:=hK.keyed k a CQ;exact⟨A,List.mem_append_left _ h1,h2⟩
    ·rcases List.mem_append.1 U with U|U;· exact hK.good A U
     ·rw[List.mem_singleton.1 U];exact⟨D4,Pu,by show(iP c.args).length<=_;omega,by show ug C.types c.type (((iP c.args).length:Nat):Int)=true;rw[hml];exact TS⟩
    ·show(C.alphas.put key g).keys.length<=n+1;rw[MS.keys_put_eq];have:=hK.few;split;· omega
     · rw[List.length_append,List.length_singleton];omega
   ·subst hk4;refine z6 rfl ?_;subst hk3;refine Qh gN ?_;refine Dm ha ?_;rw[n6]at ha;obtain⟨A,pz,rfl,LR⟩:=hK.keyed key a ha;rw[qc]at LR;obtain⟨g1,g2,g3,g4⟩:=hK.good A pz;obtain⟨e1,e2⟩:=key_inj D4 g1 Pu g2 LR;have hinv:Inv S (Go.Proofs.YtocfkfhdcnjklaaGreatDoor.setAl C C.alphas C.als) (eE []) (λ_=>eE []) B Zo ck loc (cq s g (.alpha ⟨c.type,iP c.args,p,cc,MS.nil,ga⟩)):=h.frame keep;exact hQ C.alphas C.als A _ hinv ⟨⟨hK.A.ofKey,hK.A.key⟩,hK.keyed,hK.good,Nat.le_succ_of_le hK.few⟩ pz e1.symm e2.symm (λ_ h=>h) (λb o _ ho=>keep b o ho)
  refine wQ (λ(u,acc)=>u<=c.args.length/\acc.data.toList=Al c.type ((iP c.args).take u)/\acc.size<=21+u*140737488351234) (λ(u,_)=>c.args.length-u) ?_ N (0,ui c.type) ⟨Nat.zero_le _,?_,?_⟩ (by dsimp only;omega)
  ·rintro⟨u,acc⟩ ag ⟨hu,Nb,has⟩ eY;dsimp only at hu Nb has eY⊢;refine ig (λhb=>?_) (λhb=>?_)
   ·have bp:u<(iP c.args).length:=of_decide_eq_true hb;have ki:=List.getElem?_eq_getElem bp;have YS:u<c.args.length:=an
    have hao:pH (iP c.args)[u].v:=K8 iJ _ (List.getElem_mem bp);have W5:=GI hao.2;have e1:(⟨#[44]⟩:ByteArray).size=1:=rfl;have e2:((⟨#[44]⟩:ByteArray)++wV (iP c.args)[u].v).size=1+(wV (iP c.args)[u].v).size:=by rw[ByteArray.size_append,e1]
    refine Qh ki (Qh (Om N hao.1 hao.2) (fR (by rw[e1];omega) (fR (by rw[e2];omega) (fR an ?_))));refine eY (u+1,_) ⟨an,?_,?_⟩ (by dsimp only;omega)
    ·rw[List.take_add_one,ki];show _=Al c.type ((iP c.args).take u++[(iP c.args)[u]]);unfold Al;rw[DJ,<-List.append_assoc];have:acc.data.toList=(ui c.type).data.toList++iY ((iP c.args).take u):=Nb;rw[<-this];simp[ByteArray.data_append]
    · rw[ByteArray.size_append,e2,Nat.add_mul];omega
   ·have pB:¬u<(iP c.args).length:=of_decide_eq_false hb;rw[List.take_of_length_le an]at Nb;exact a0q acc Nb
  · rw[List.take_zero];unfold Al iY;simp
  · have:=vw (n:=c.type);omega
 refine wQ (λ(u,σ)=>u<=c.args.length/\∃p cc,σ=cq s g (.alpha ⟨c.type,iP (c.args.take u),p,cc,MS.nil,ga⟩)) (λ(u,_)=>c.args.length-u) ?_ N (0,_) ⟨Nat.zero_le _,none,0,rfl⟩ (by dsimp only;omega);rintro⟨u,σ⟩ ag ⟨hu,p,cc,D7⟩ eY;dsimp only at hu D7 eY⊢;refine ig (λhb=>?_) (λhb=>?_)
 ·have bp:u<c.args.length:=of_decide_eq_true hb;have ki:=List.getElem?_eq_getElem bp;refine Qh ki ?_;refine ll λkj5 hk5=>?_
  have hk:∀(a1 a2 a3 a4:Int) (a5:ByteArray),(⟨a1,a2,⟨a3,a4,a5⟩⟩:fl)=(if c.args[u].k=4 then c.args[u]else Bw)->kj5 (a1,a2,a3,a4,a5) Q:=λa1 a2 a3 a4 a5 he=>by
   subst hk5;dsimp only;refine Qh (a:=⟨c.type,iP (c.args.take u),p,cc,MS.nil,ga⟩) (by unfold tX;rw[D7,iN]) ?_;have hmt:(iP (c.args.take u)).length<=u:=by unfold iP;rw[List.length_map,List.length_take];omega
   refine fR (by show(iP (c.args.take u)).length+1<=_;omega) ?_;refine fR an ?_;refine ud λp'=>ud λc'=>lR ?_;refine eY (u+1,_) ⟨an,p',c',?_⟩ (by dsimp only;omega);rw[D7,r8,he];congr 4;rw[List.take_add_one,ki];unfold iP;rw[List.map_append];rfl
  refine ig (λhb=>?_) (λhb=>?_)
  ·have h4:c.args[u].k≠4:=by simpa using hb
   exact hk 1 0 0 0 ⟨#[]⟩ (by rw[if_neg h4];rfl)
  ·have h4:c.args[u].k=4:=by simpa using hb
   exact hk _ _ _ _ _ (by rw[if_pos h4])
 ·have pB:¬u<c.args.length:=of_decide_eq_false hb;rw[List.take_of_length_le an]at D7;rw[D7];exact fin p cc
end
end
section
open Go Go.RowKit Classical
theorem gX.top {loc:Loc} {n p r:Nat} (h:gX loc n)(hp:loc p=none):gX (gR loc p (r,[])) n:=by
 obtain⟨L,U,a2,rfl⟩:=h;refine⟨L,U,λq=>?_,rfl⟩;rw[a2];unfold gR;by_cases hq:q=p
 ·subst hq;rw[hp,if_pos rfl];constructor;· rintro⟨_,_,h,_⟩;cases h
  · rintro⟨_,_,h,h2⟩;cases h;exact absurd rfl h2
 · rw[if_neg hq]
theorem gX.untop {loc:Loc} {n p r:Nat} (h:gX (gR loc p (r,[])) n)(hp:loc p=none):gX loc n:=by
 obtain⟨L,U,a2,rfl⟩:=h;refine⟨L,U,λq=>?_,rfl⟩;rw[a2];unfold gR;by_cases hq:q=p
 ·subst hq;rw[hp,if_pos rfl];constructor;· rintro⟨_,_,h,h2⟩;cases h;exact absurd rfl h2
  · rintro⟨_,_,h,_⟩;cases h
 · rw[if_neg hq]
def jy (b k:Nat)(sc:eL)(o:Option PO):Prop:=match sc.st with
 | .join _=>∃pA,o=some (.join ⟨sc.al,b,((k:Nat):Int),sc.c,MS.nil,pA⟩)
 | .nt _=>∃pA,o=some (.nt ⟨sc.al,b,((k:Nat):Int),sc.c,MS.nil,pA⟩)
 | .test _=>∃pA,o=some (.test ⟨b,((k:Nat):Int),sc.c,MS.nil,pA⟩)
theorem jy.some {b k:Nat} {sc:eL} {o:Option PO} (h:jy b k sc o):∃y,o=some y/\(∀z,y≠.row z)/\(∀z,y≠.net z)/\(∀z,y≠.part z)/\∀z,y≠.alpha z:=by
 unfold jy at h;split at h;· obtain⟨pA,h⟩:=h;exact⟨_,h,(λ_ e=>by cases e),(λ_ e=>by cases e),(λ_ e=>by cases e),λ_ e=>by cases e⟩
 · obtain⟨pA,h⟩:=h;exact⟨_,h,(λ_ e=>by cases e),(λ_ e=>by cases e),(λ_ e=>by cases e),λ_ e=>by cases e⟩
 · obtain⟨pA,h⟩:=h;exact⟨_,h,(λ_ e=>by cases e),(λ_ e=>by cases e),(λ_ e=>by cases e),λ_ e=>by cases e⟩
theorem ia.some {U:Option Nat} {loc:Loc} {r:Nat} {R:eO} {k:Nat} {sc:eL} {o:Option PO} (h:ia U loc r R k sc o):∃y,o=some y/\(∀z,y≠.row z)/\(∀z,y≠.net z)/\(∀z,y≠.part z)/\∀z,y≠.alpha z:=by
 unfold ia at h;split at h;· obtain⟨z,h,_⟩:=h;exact⟨_,h,(λ_ e=>by cases e),(λ_ e=>by cases e),(λ_ e=>by cases e),λ_ e=>by cases e⟩
 · obtain⟨z,h,_⟩:=h;exact⟨_,h,(λ_ e=>by cases e),(λ_ e=>by cases e),(λ_ e=>by cases e),λ_ e=>by cases e⟩
 · obtain⟨z,h,_⟩:=h;exact⟨_,h,(λ_ e=>by cases e),(λ_ e=>by cases e),(λ_ e=>by cases e),λ_ e=>by cases e⟩
def nY (C:fz)(sc:eL):Prop:=(∀a,sc.st≠.test a)->∃A∈C.als,A.b=sc.al/\A.kind=sc.c.type/\A.args=iP sc.c.args
abbrev DX (S:fe) (C:fz) (loc:Loc) (s:Q7):Prop:=Inv S C (eE []) (λ_=>eE []) (λ_ _=>(eE [],eE [])) (λ_=>False) none loc s
structure mf (S:fe) (C:fz) (n b j:Nat) (conds:List Qv) (steps:List eL) (loc:Loc) (s:Q7):Prop where
 inv:DX S C loc (del s b)
 al:R5 C n
 row:∃sP sC wA,s b=some (.row ⟨C.g,steps.map (·.st),sP,sC,MS.nil,wA⟩)
 len:steps.length=j
 conds:steps.map (·.c)=conds.take j
 obj:∀k sc,steps[k]? =some sc->FA sc/\jy b k sc (s sc.st.adr)/\nY C sc
 inj:∀(k k':Nat) (sc dh:eL),steps[k]? =some sc->steps[k']? =some dh->sc.st.adr=dh.st.adr->k=k'
 old:∀(r:Nat) (R:eO) (k k':Nat) (sc dh:eL),C.rows[r]? =some R->R.steps[k]? =some sc->steps[k']? =some dh->sc.st.adr≠dh.st.adr
section
variable {S:fe} {I:ep->Prop} {P:Qq->Prop} {C:fz} {loc:Loc} {s s1:Q7} {n b j ga:Nat} {conds:List Qv} {steps:List eL}
theorem Ef {O:Type} {s:Nat->Option O} {b:Nat} {o:O} (h:s b=none):del (cq s b o) b=s:=by
 funext c;unfold del cq;by_cases U:c=b;· rw[if_pos U,U,h]
 · rw[if_neg U,if_neg U]
theorem mf.push (h:mf S C n b j conds steps loc s) {m:MS ByteArray Nat} {az:List Hz} {n':Nat} (hinv:DX S (setAl C m az) loc s1)(G2:R5 (setAl C m az) n')(YM:∀bb o,bb≠C.g->del s b bb=some o->s1 bb=some o)(has:∀A∈C.als,A∈az)(hga:s1 ga=none) {sc:eL} (eX:sc.st.adr=ga)(YP:FA sc)(hc:conds[j]? =some sc.c) {o:PO} (ho:jy b j sc (some o))
  (TP:nY (setAl C m az) sc) (hb:cq s1 ga o b=none) {sP:Option Addr} {sC wA:Nat}:mf S (setAl C m az) n' b (j+1) conds (steps++[sc]) loc (cq (cq s1 ga o) b (.row ⟨C.g,(steps++[sc]).map (·.st),sP,sC,MS.nil,wA⟩)):=by
 obtain⟨_,_,_,eP⟩:=h.row;obtain⟨xn,hn1,_⟩:=h.inv.net;have eM:∀bb y,s1 bb=some y->(cq s1 ga o) bb=some y:=λbb y hy=>by rw[QD (λe=>by rw[e,hga]at hy;cases hy)];exact hy
 have a0D:ga≠b:=λe=>by rw[e,iN]at hb;cases hb
 have fa:∀(k:Nat) (dh:eL),steps[k]? =some dh->dh.st.adr≠b/\∃y,s1 dh.st.adr=some y/\s dh.st.adr=some y:=λk dh hk=>by
  obtain⟨_,h2,_⟩:=h.obj k dh hk;obtain⟨y,h3,h4,h5,_⟩:=h2.some;have db:dh.st.adr≠b:=λe=>by rw[e,eP]at h3;cases h3;exact h4 _ rfl
  have mB:del s b dh.st.adr=some y:=by rw[kS s db];exact h3
  exact⟨db,y,YM _ _ (λe=>by rw[e,hn1]at mB;cases mB;exact h5 _ rfl) mB,h3⟩
 have JD:∀k,(steps++[sc])[k]? =if k<j then steps[k]? else if k=j then some sc else none:=λk=>by
  rw[List.getElem?_append];rw[h.len];by_cases h1:k<j;· rw[if_pos h1,if_pos h1]
  ·rw[if_neg h1,if_neg h1];by_cases h2:k=j;· rw[if_pos h2,h2,Nat.sub_self];rfl
   · rw[if_neg h2,List.getElem?_eq_none (by rw[List.length_singleton];omega)]
 refine⟨?_,G2,⟨sP,sC,wA,by rw[iN];rfl⟩,by rw[List.length_append,h.len];rfl,?_,λk dh hk=>?_,λk k' x x' hk U he=>?_,λr R k k' x x' hr hk U he=>?_⟩
 ·rw[Ef hb];exact hinv.frame eM
 · rw[List.map_append,h.conds,List.take_add_one,hc];rfl
 ·rw [JD]at hk;split at hk
  ·obtain⟨h1,h2,h3⟩:=h.obj k dh hk;obtain⟨g1,y,g2,g3⟩:=fa k dh hk;refine⟨h1,?_,λht=>?_⟩;· rw[QD g1,eM _ _ g2,<-g3];exact h2
   ·obtain⟨A,q1,q2⟩:=h3 ht;exact⟨A,has A q1,q2⟩
  ·split at hk
   ·rename_i e;cases hk;subst e;refine⟨YP,?_,TP⟩;rw[eX,QD a0D,iN];exact ho
   · cases hk
 ·rw [JD]at hk U;split at hk
  ·split at U;· exact h.inj k k' x x' hk U he
   ·split at U
    ·cases U;obtain⟨_,y,g2,_⟩:=fa k x hk;rw[he,eX,hga]at g2;cases g2
    · cases U
  ·split at hk
   ·cases hk;split at U
    ·obtain⟨_,y,g2,_⟩:=fa k' x' U;rw[<-he,eX,hga]at g2;cases g2
    ·split at U
     ·rename_i e1 _ e2;rw[e1,e2]
     · cases U
   · cases hk
 ·rw [JD]at U;split at U;· exact h.old r R k k' x x' hr hk U he
  ·split at U
   ·cases U;obtain⟨y,g1,_⟩:=(hinv.step r R k x hr hk (λhz=>hz)).some;rw[he,eX,hga]at g1;cases g1
   · cases U
def H8 (C:fz)(R:eO)(p:Option Addr)(c:Nat):fz:={C with rows:=C.rows++[R],rP:=p,rC:=c}
theorem Mw {l:List eO} {R U:eO} {r:Nat} (h:(l++[R])[r]? =some U):(r<l.length/\l[r]? =some U)\/(r=l.length/\U=R):=by
 rw[List.getElem?_append]at h;split at h;· rename_i bp;exact .inl ⟨bp,h⟩
 ·right;by_cases e:r=l.length
  ·rw[e,Nat.sub_self]at h;simp at h;exact⟨e,h.symm⟩
  · rw[List.getElem?_eq_none (by rw[List.length_singleton];omega)]at h;cases h
theorem mf.whole (h:mf S C n b j conds steps loc s) {xn:fk} {p:Option Addr} {c g ka:Nat} {hs:List Bool} {vs:List V} (hx:s C.g=some (.net xn))(hg:(cq s C.g (.net {xn with rows:=xn.rows++[b],rowsP:=p,rowsC:=c})) g=none) {sP:Option Addr} {sC wA:Nat} (eP:s b=some (.row ⟨C.g,steps.map (·.st),sP,sC,MS.nil,wA⟩)):
  Inv S (H8 C ⟨b,steps,sP,sC,g,hs,vs⟩ p c) (eE []) (λ_=>eE []) (λ_ _=>(eE [],eE [])) (λ_=>False) (some g) (gR loc g (C.rows.length,[])) (cq (cq s C.g (.net {xn with rows:=xn.rows++[b],rowsP:=p,rowsC:=c})) g (.part ⟨hs,vs,none,0,MS.nil,ka,none⟩)):=by
 have hI:=h.inv;have YJ:g≠C.g:=λe=>by rw[e,iN]at hg;cases hg
 have hsg:s g=none:=by rw[QD YJ]at hg;exact hg
 have hgb:g≠b:=λe=>by rw[e,eP]at hsg;cases hsg
 have Nf:b≠C.g:=λe=>by rw[e,hx]at eP;cases eP
 have VZ:loc g=none:=hI.none_loc (by rw[kS s hgb];exact hsg)
 have keep:∀bb o,bb≠C.g->s bb=some o->(cq (cq s C.g (.net {xn with rows:=xn.rows++[b],rowsP:=p,rowsC:=c})) g (.part ⟨hs,vs,none,0,MS.nil,ka,none⟩)) bb=some o:=λbb o h1 h2=>by
  rw[QD (λe=>by rw[e,hsg]at h2;cases h2),QD h1];exact h2
 have EC:∀bb o,bb≠C.g->del s b bb=some o->(cq (cq s C.g (.net {xn with rows:=xn.rows++[b],rowsP:=p,rowsC:=c})) g (.part ⟨hs,vs,none,0,MS.nil,ka,none⟩)) bb=some o:=λbb o h1 h2=>keep bb o h1 (by
  unfold del at h2;split at h2;· cases h2
  · exact h2)
 have JG:del s b C.g=some (.net xn):=by rw[kS s (Ne.symm Nf)];exact hx
 have UP:∀y l,loc y=some l->gR loc g (C.rows.length,[]) y=some l:=λy l hl=>by
  unfold gR;rw[if_neg (λe=>by rw[e,VZ]at hl;cases hl)];exact hl
 have bp:∀y r π,loc y=some (r,π)->r<C.rows.length:=λy r π hy=>by
  obtain⟨R,x,a1,_⟩:=hI.part y r π hy;exact(List.getElem?_eq_some_iff.1 a1).1
 have dn:∀y r π,gR loc g (C.rows.length,[]) y=some (r,π)->(y=g/\r=C.rows.length/\π=[])\/loc y=some (r,π):=λy r π hy=>by
  unfold gR at hy;split at hy;· rename_i e;cases hy;exact .inl ⟨e,rfl,rfl⟩
  · exact .inr hy
 refine⟨?_,λr R hr=>?_,λr R k sc hr hk _=>?_,λA hA=>?_,λq r π hq=>?_,λq q' l hq dz=>?_,λr R hr=>?_,λm hm=>?_⟩
 ·obtain⟨x,a1,a2,a3,a4,a5,a6,a7,a8,m,a9,hY⟩:=hI.net;rw[JG]at a1;cases a1;refine⟨{xn with rows:=xn.rows++[b],rowsP:=p,rowsC:=c},?_,a2,?_,rfl,rfl,a6,a7,a8,m,a9,hY.top VZ⟩
  ·show(cq (cq s C.g _) g _) C.g=_;rw[QD (Ne.symm YJ),iN]
  ·show xn.rows++[b]=(C.rows++[(⟨b,steps,sP,sC,g,hs,vs⟩:eO)]).map λR=>R.b;rw[List.map_append,a3];rfl
 ·rcases Mw hr with⟨h1,h2⟩|⟨h1,rfl⟩
  ·obtain⟨y,b1,b2,b3,b4,b5,b6⟩:=hI.row r R h2;exact⟨y,EC _ _ (λe=>by rw[e,JG]at b1;cases b1) b1,b2,b3,b4,b5,b6.fresh VZ⟩
  ·refine ⟨_,keep _ _ Nf eP,rfl,rfl,rfl,rfl,λy=>?_⟩;constructor;· intro hy;exact absurd hy MS.keys_nil
   ·rintro⟨⟨π,q1,_⟩,q2⟩;rcases dn y r π q1 with⟨e,_⟩|e;· exact absurd (by rw[e]) q2
    · have:=bp y r π e;omega
 ·rcases Mw hr with⟨h1,h2⟩|⟨h1,rfl⟩
  ·have U:=hI.step r R k sc h2 hk (λhz=>hz);obtain⟨y,g1,_,g3,_⟩:=U.some;have g4:=EC _ _ (λe=>by rw[e,JG]at g1;cases g1;exact g3 _ rfl) g1;rw[g4,<-g1];unfold ia at U⊢;split at U;· obtain⟨z,b1,b2,b3,b4,b5,b6⟩:=U;exact⟨z,b1,b2,b3,b4,b5,b6.fresh VZ⟩
   · obtain⟨z,b1,b2,b3,b4,b5,b6⟩:=U;exact⟨z,b1,b2,b3,b4,b5,b6.fresh VZ⟩
   · exact U
  ·obtain ⟨_,U,_⟩:=h.obj k sc hk;obtain⟨y,g1,_,g3,_⟩:=U.some;have g4:=keep _ _ (λe=>by rw[e,hx]at g1;cases g1;exact g3 _ rfl) g1;rw[g4,<-g1]
   have JD:LK (some g) (gR loc g (C.rows.length,[])) r k (MS.nil:MS Nat Bool):=λy=>by
    constructor;· intro hy;exact absurd hy MS.keys_nil
    ·rintro⟨⟨π,q1,_⟩,q2⟩;rcases dn y r π q1 with⟨e,_⟩|e;· exact absurd (by rw[e]) q2
     · have:=bp y r π e;omega
   clear g4 g1;revert U;generalize s sc.st.adr=o;intro U;unfold jy at U;unfold ia;cases bw:sc.st with
   |join a=>rw[bw]at U;obtain⟨pA,U⟩:=U;exact⟨_,U,rfl,rfl,rfl,rfl,JD⟩
   |nt a=>rw[bw]at U;obtain⟨pA,U⟩:=U;exact⟨_,U,rfl,rfl,rfl,rfl,JD⟩
   |test a=>rw[bw]at U;obtain⟨pA,U⟩:=U;exact⟨_,U,rfl,rfl,rfl,λy=>MS.keys_nil⟩
 ·obtain⟨z,b1,b2⟩:=hI.al A hA;exact⟨z,EC _ _ (λe=>by rw[e,JG]at b1;cases b1) b1,b2⟩
 ·rcases dn q r π hq with⟨rfl,rfl,rfl⟩|hq0
  ·refine ⟨⟨b,steps,sP,sC,q,hs,vs⟩,⟨hs,vs,none,0,MS.nil,ka,none⟩,by show(C.rows++[_])[C.rows.length]? =_;rw[List.getElem?_append_right (Nat.le_refl _),Nat.sub_self];rfl,iN _ _ _,⟨by cases steps<;>rfl,λ_=>⟨rfl,rfl,rfl⟩,(λρ i e=>by simp at e),λy=>?_,λe=>absurd rfl e,λsc a _ _ hk=>?_,List.nodup_nil⟩⟩
   ·constructor;· intro hy;exact absurd hy MS.keys_nil
    ·rintro⟨i,hi⟩;rcases dn y _ _ hi with⟨_,_,e⟩|e;· simp at e
     · have:=bp y _ _ e;omega
   ·obtain⟨y,i,hi⟩:=hk;rcases dn y _ _ hi with⟨_,_,e⟩|e;· simp at e
    · have:=bp y _ _ e;omega
  ·obtain ⟨R,x,c1,c2,c3⟩:=hI.part q r π hq0
   have cy:(H8 C ⟨b,steps,sP,sC,g,hs,vs⟩ p c).rows[r]? =some R:=by
    show(C.rows++[_])[r]? =_;rw[List.getElem?_append_left (List.getElem?_eq_some_iff.1 c1).1];exact c1
   have YN:∀y i,gR loc g (C.rows.length,[]) y=some (r,π++[i])->loc y=some (r,π++[i]):=λy i hy=>by
    rcases dn y _ _ hy with⟨_,_,e⟩|e;· simp at e
    · exact e
   refine⟨R,x,cy,EC _ _ (λe=>by rw[e,JG]at c2;cases c2) c2,⟨c3.env,c3.top,λρ i e=>?_,λy=>?_,λ_=>c3.blocks ax,λsc a e1 e2 hk=>?_,c3.kn⟩⟩
   ·obtain⟨d1,q2,d2,d3⟩:=c3.up ρ i e;exact⟨d1,q2,d2,UP _ _ d3⟩
   ·rw[c3.kids];constructor;· rintro⟨i,hi⟩;exact⟨i,UP _ _ hi⟩
    · rintro⟨i,hi⟩;exact⟨i,YN y i hi⟩
   ·obtain⟨y,i,hi⟩:=hk;exact c3.free sc a e1 e2 ⟨y,i,YN y i hi⟩
 ·obtain⟨r,π⟩:=l;rcases dn q r π hq with⟨e1,e2,e3⟩|h1<;>rcases dn q' r π dz with⟨f1,f2,f3⟩|h2;· rw[e1,f1]
  · have:=bp _ _ _ h2;omega
  · have:=bp _ _ _ h1;omega
  · exact hI.inj _ _ _ h1 h2
 ·rcases Mw hr with⟨h1,h2⟩|⟨h1,rfl⟩
  · exact UP _ _ (hI.root r R h2)
  · rw[h1];exact if_pos rfl
 · exact hI.le m (hm.untop VZ)
theorem mf.wfc (h:mf S C n b j conds steps loc s)(hW:nZ C) {g c:Nat} {p sP:Option Addr} {sC:Nat} {hs:List Bool} {vs:List V}:nZ (H8 C ⟨b,steps,sP,sC,g,hs,vs⟩ p c):=by
 have hb:∀(r:Nat) (R:eO),C.rows[r]? =some R->R.b≠b:=λr R hr e=>by
  obtain⟨y,h1,_⟩:=h.inv.row r R hr;rw[e,rU]at h1;cases h1
 refine⟨λr r' R R' hr cy e=>?_,λr r' R R' k k' sc dh hr cy hk dx e=>?_,λr R k sc hr hk=>?_⟩
 ·rcases Mw hr with⟨h1,U⟩|⟨h1,rfl⟩<;>rcases Mw cy with⟨h3,h4⟩|⟨h3,rfl⟩
  · exact hW.rows r r' R R' U h4 e
  · exact absurd e (hb r R U)
  · exact absurd e.symm (hb r' R' h4)
  · rw[h1,h3]
 ·rcases Mw hr with⟨h1,U⟩|⟨h1,rfl⟩<;>rcases Mw cy with⟨h3,h4⟩|⟨h3,rfl⟩
  · exact hW.steps r r' R R' k k' sc dh U h4 hk dx e
  · exact absurd e (h.old r R k k' sc dh U hk dx)
  · exact absurd e.symm (h.old r' R' k' k dh sc h4 dx hk)
  · exact⟨by rw[h1,h3],h.inj k k' sc dh hk dx e⟩
 ·rcases Mw hr with⟨h1,U⟩|⟨h1,rfl⟩
  · exact hW.kind r R k sc U hk
  · exact(h.obj k sc hk).1
end
end
section
open Go Go.RowKit Classical
theorem MY (e:Q4):(⟨e.kind,e.value,e.var,e.op,e.kids⟩:Q4)=e:=by cases e;rfl
theorem MN (c:Qv):(⟨c.kind,c.type,c.args,(⟨c.test.kind,c.test.value,c.test.var,c.test.op,c.test.kids⟩:Q4)⟩:Qv)=c:=by rw[MY]
structure nS (ts:List Q9) (c:Qv):Prop where
 kind:c.kind=1\/c.kind=2\/c.kind=3
 nodes:nodes c.test<=1000000
 args:c.args.length<=1000
 fact:c.kind=1\/c.kind=2->du c.type/\(∀a∈iP c.args,rp a)/\(∀a∈c.args,pH a.v)/\ug ts c.type ((c.args.length:Nat):Int)=true
def uI (R:eO):List Qv×ep:=(R.steps.map (·.c),(R.hs,R.vs))
section
variable {S:fe} {I:ep->Prop} {P:Qq->Prop} {C:fz} {loc:Loc} {s s1:Q7} {n b j ga N:Nat} {conds:List Qv} {steps:List eL} {ts:List Q9}
theorem mf.start (hI:DX S C loc s)(hA:R5 C n)(hb:s b=none) {wA:Nat}:mf S C n b 0 conds [] loc (cq s b (.row ⟨C.g,[],none,0,MS.nil,wA⟩)):=
 ⟨by rw[Ef hb];exact hI,hA,⟨none,0,wA,iN _ _ _⟩,rfl,by rw[List.take_zero];rfl,(λk sc h=>by simp at h),(λk k' sc U h=>by simp at h),λr R k k' sc U _ _ h=>by simp at h⟩
theorem EA:∀{l:List eL} {e:ep},(qO S [] l e).length<=l.length
 |[],e=>by simp[qO]
 | sc::l,e=>by
   have ih:=λU=>EA (l:=l) (e:=U);unfold qO E3;rw[List.length_cons];cases bw:sc.st with
   |join a=>simp
   | nt a=>
     simp only[List.flatMap_cons,List.flatMap_nil,List.append_nil];split
     ·rename_i U _;have:=ih U;rw[List.length_cons,List.length_map];omega
     · simp
   | test a=>
     simp only[List.flatMap_cons,List.flatMap_nil,List.append_nil];split
     ·rename_i U _;have:=ih U;rw[List.length_cons,List.length_map];omega
     · simp
theorem tH:∀{l:List eO},(∀R∈l,R.steps.length<=8)->fV S [] l<=8*l.length
 |[],_=>by simp[fV]
 | R::l,h=>by
   have h1:=tH (l:=l) λR' U=>h R' (List.mem_cons_of_mem _ U);have h2:=EA (S:=S) (l:=R.steps) (e:=(R.hs,R.vs));have h3:=h R List.mem_cons_self;have h4:fV S [] (R::l)=(qO S [] R.steps (R.hs,R.vs)).length+fV S [] l:=rfl;rw[h4,List.length_cons];omega
theorem GJ {k n m:Int} (h:ug ts k n=true)(h':ug ts k m=true):n=m:=by
 unfold ug at h h';split at h
 ·rename_i t e;rw[e]at h';simp only[Bool.and_eq_true,beq_iff_eq]at h h';rw[<-h.2,<-h'.2]
 · cases h
structure pr (S:fe) (ts:List Q9) (rd:List (List Qv×ep)) (u:Nat) (C:fz) (loc:Loc) (s:Q7):Prop where
 types:C.types=ts
 inv:DX S C loc s
 al:R5 C (u*8)
 W:nZ C
 comp:wu S C (eE []) loc
 rows:C.rows.map uI=rd
 sal:∀R∈C.rows,∀sc∈R.steps,nY C sc
 rP:C.rP.isNone=false
theorem pr.mem {rd:List (List Qv×ep)} {u:Nat} (h:pr S ts rd u C loc s) {R:eO} (U:R∈C.rows):(R.steps.map (·.c),(R.hs,R.vs))∈rd:=by
 rw[<-h.rows];exact List.mem_map.2 ⟨R,U,rfl⟩
theorem ZR {x:Qb} {j8 u:Nat} {C0:fz} {s93:Q7} {K:Q7->WM (Option Nat×Q7)} {Q:Option Nat×Q7->Prop} (hN:B0+4000000<=N)(h8:x.conds.length<=8)(hc:∀c∈x.conds,nS C0.types c)(h:mf S C0 (u*8) j8 0 x.conds [] loc s93)
   (hK:∀m az steps s',mf S (setAl C0 m az) (u*8+x.conds.length) j8 x.conds.length x.conds steps loc s'->(∀A∈C0.als,A∈az)->K s' Q):
   j1 (λ(a0j:(Nat×Q7)->WM ((Option Nat)×Q7)) ((ab,aa))=>
  ff ((decide (ab<x.conds.length))) (
   jU (λae=>(
    eS (ab+1<=9223372036854775807)<|
    a0j (ab+1,ae)
  )) λah=>
  Qr (x.conds[ab]?) λU=>
  Qr (Vt N U.kind U.type U.args U.test.kind U.test.value.k U.test.value.n U.test.value.s U.test.var U.test.op U.test.kids) λv43=>
  ff ((U.kind==1)) (
   Qr (gRow aa j8) λLp=>
   eG (OC N C0.g U.kind U.type U.args U.test.kind U.test.value.k U.test.value.n U.test.value.s U.test.var U.test.op U.test.kids (del aa j8)) λ(v70,a18)=>
   Qr (v70) λa73=>
   kf λ(Eo:Nat)=>
   qd a18 (λLQ=>PO.join ⟨a73,j8,((ab:Nat):Int),(⟨U.kind,U.type,U.args,(⟨U.test.kind,U.test.value,U.test.var,U.test.op,v43⟩:Q4)⟩:Qv),(MS.nil:MS Nat Bool),Eo⟩) λLQ ZS=>
   eS (Lp.steps.length+([(.join LQ:bu)]).length<=8796093022208)<|
   kf λ(Ue:Option Addr)=>
   kf λ(S8:Nat)=>
   gP (cq ZS j8 (PO.row ({Lp with steps:=Lp.steps++([(.join LQ:bu)]),stepsP:=Ue,stepsC:=S8}))) λa19=>
   iQ ZS j8<|
   ah a19
  ) (
   ff ((U.kind==2)) (
    Qr (gRow aa j8) λLq=>
    eG (OC N C0.g U.kind U.type U.args U.test.kind U.test.value.k U.test.value.n U.test.value.s U.test.var U.test.op U.test.kids (del aa j8)) λ(v88,a1a)=>
    Qr (v88) λa91=>
    kf λ(Eo:Nat)=>
    qd a1a (λg91=>PO.nt ⟨a91,j8,((ab:Nat):Int),(⟨U.kind,U.type,U.args,(⟨U.test.kind,U.test.value,U.test.var,U.test.op,v43⟩:Q4)⟩:Qv),(MS.nil:MS Nat Bool),Eo⟩) λg91 ZT=>
    eS (Lq.steps.length+([(.nt g91:bu)]).length<=8796093022208)<|
    kf λ(p94:Option Addr)=>
    kf λ(c94:Nat)=>
    gP (cq ZT j8 (PO.row ({Lq with steps:=Lq.steps++([(.nt g91:bu)]),stepsP:=p94,stepsC:=c94}))) λa1b=>
    iQ ZT j8<|
    ah a1b
   ) (
    Qr (gRow aa j8) λLr=>
    kf λ(Eo:Nat)=>
    qd (del aa j8) (λg55=>PO.test ⟨j8,((ab:Nat):Int),(⟨U.kind,U.type,U.args,(⟨U.test.kind,U.test.value,U.test.var,U.test.op,v43⟩:Q4)⟩:Qv),(MS.nil:MS Nat Bool),Eo⟩) λg55 ZU=>
    eS (Lr.steps.length+([(.test g55:bu)]).length<=8796093022208)<|
    kf λ(p58:Option Addr)=>
    kf λ(c58:Nat)=>
    gP (cq ZU j8 (PO.row ({Lr with steps:=Lr.steps++([(.test g55:bu)]),stepsP:=p58,stepsC:=c58}))) λa1c=>
    iQ ZU j8<|
    ah a1c
   )
  )
  ) (
   K aa
  )
 ) N (0,s93) Q:=by
 have BS:9223372036854775808+4000000<=N:=by have h':=hN;unfold B0 at h';omega
 refine wQ (λ(j,σ)=>j<=x.conds.length/\∃m az steps,mf S (setAl C0 m az) (u*8+j) j8 j x.conds steps loc σ/\∀A∈C0.als,A∈az) (λ(j,_)=>x.conds.length-j) ?_ N (0,s93) ⟨Nat.zero_le _,C0.alphas,C0.als,[],h,λ_ h=>h⟩ (by dsimp only;omega);rintro⟨j,σ⟩ ag ⟨hj,m,az,steps,hB,has⟩ eY;dsimp only at hj hB has eY⊢;refine ig (λhb=>?_) (λhb=>?_)
 · have bp:j<x.conds.length:=of_decide_eq_true hb;obtain⟨c,ki⟩:∃c,x.conds[j]? =some c:=⟨_,List.getElem?_eq_getElem bp⟩
   have G3:=hc c (List.mem_of_getElem? ki);refine ll λkj3 hk3=>?_
   have TA:∀m' Pa Dz DV,mf S (setAl C0 m' Pa) (u*8+(j+1)) j8 (j+1) x.conds Dz loc DV->(∀A∈C0.als,A∈Pa)->kj3 DV Q:=λm' Pa Dz DV h1 h2=>by
     subst hk3;refine fR an ?_;exact eY (j+1,DV) ⟨an,m',Pa,Dz,h1,h2⟩ (by dsimp only;omega)
   refine Qh ki ?_;refine Qh (FP an (by have:=G3.args;omega) G3.nodes) ?_;rw[MN];obtain⟨sP,sC,wA,eP⟩:=hB.row;have hsl:(steps.map (·.st)).length=j:=by rw[List.length_map,hB.len]
   refine ig (λh1=>?_) (λh1=>ig (λh2=>?_) (λh2=>?_))
   · have LZ:c.kind=1:=by simpa using h1
     refine Qh (qL eP) ?_;refine QR ?_;refine Ea (C:=setAl C0 m az) (n:=u*8+j) an hB.inv hB.al (G3.fact (.inl LZ)).1 G3.args (G3.fact (.inl LZ)).2.1 (G3.fact (.inl LZ)).2.2.1 (G3.fact (.inl LZ)).2.2.2 λm' Pa A s' g1 g2 g3 g4 g5 g6 g7=>?_;refine Qh rfl (ud λEo=>jm λLQ Jy=>fR (by show(steps.map (·.st)).length+1<=_;omega) (ud λUe=>ud λS8=>lR (jB λLU=>?_)));have hp:=hB.push (sP:=Ue) (sC:=S8) (wA:=wA) (sc:=⟨.join LQ,A.b,c⟩) (o:=PO.join ⟨A.b,j8,((j:Nat):Int),c,MS.nil,Eo⟩) g1 g2 g7 g6 Jy rfl LZ ki ⟨Eo,rfl⟩ (λ_=>⟨A,g3,rfl,g4,g5⟩) LU;rw[List.map_append]at hp;exact TA m' Pa _ _ hp λA' ux=>g6 A' (has A' ux)
   · have Nr:c.kind=2:=by simpa using h2
     refine Qh (qL eP) ?_;refine QR ?_;refine Ea (C:=setAl C0 m az) (n:=u*8+j) an hB.inv hB.al (G3.fact (.inr Nr)).1 G3.args (G3.fact (.inr Nr)).2.1 (G3.fact (.inr Nr)).2.2.1 (G3.fact (.inr Nr)).2.2.2 λm' Pa A s' g1 g2 g3 g4 g5 g6 g7=>?_;refine Qh rfl (ud λEo=>jm λLQ Jy=>fR (by show(steps.map (·.st)).length+1<=_;omega) (ud λUe=>ud λS8=>lR (jB λLU=>?_)));have hp:=hB.push (sP:=Ue) (sC:=S8) (wA:=wA) (sc:=⟨.nt LQ,A.b,c⟩) (o:=PO.nt ⟨A.b,j8,((j:Nat):Int),c,MS.nil,Eo⟩) g1 g2 g7 g6 Jy rfl Nr ki ⟨Eo,rfl⟩ (λ_=>⟨A,g3,rfl,g4,g5⟩) LU;rw[List.map_append]at hp;exact TA m' Pa _ _ hp λA' ux=>g6 A' (has A' ux)
   · have a0H:c.kind=3:=by
      have e1:¬c.kind=1:=by simpa using h1
      have e2:¬c.kind=2:=by simpa using h2
      rcases G3.kind with e|e|e;· exact absurd e e1
      · exact absurd e e2
      · exact e
     refine Qh (qL eP) ?_;refine ud λEo=>jm λLQ Jy=>fR (by show(steps.map (·.st)).length+1<=_;omega) (ud λUe=>ud λS8=>lR (jB λLU=>?_));have hp:=hB.push (m:=m) (az:=az) (n':=u*8+(j+1)) (s1:=del σ j8) (sP:=Ue) (sC:=S8) (wA:=wA) (sc:=⟨.test LQ,0,c⟩) (o:=PO.test ⟨j8,((j:Nat):Int),c,MS.nil,Eo⟩) hB.inv ⟨hB.al.A,hB.al.keyed,hB.al.good,Nat.le_succ_of_le hB.al.few⟩ (λbb o _ ho=>ho) (λ_ h=>h) Jy rfl a0H ki ⟨Eo,rfl⟩ (λht=>absurd rfl (ht LQ)) LU;rw[List.map_append]at hp;exact TA m az _ _ hp has
 · have pB:¬j<x.conds.length:=of_decide_eq_false hb;obtain rfl:j=x.conds.length:=an
   exact hK m az steps σ hB has
end
end
section
open Go Go.RowKit Classical
def iA (x:Qb):List Qv×ep:=(x.conds,ij x.vars)
section
variable {S:fe} {I:ep->Prop} {P:Qq->Prop} {N:Nat} {ts:List Q9} {rules:List Qb} {s:Q7}
theorem Bh {g:Nat} {a:Addr} {b c:Nat} (hg:s g=none):pr S ts [] 0 ⟨g,ts,[],some a,0,MS.nil,b,[]⟩ (λ_=>none) (cq s g (.net ⟨ts,[],some a,0,MS.nil,b,MS.nil,c,0⟩)) where
 types:=rfl
 inv:=by
  refine⟨⟨_,iN _ _ _,rfl,rfl,rfl,rfl,rfl,rfl,⟨List.nodup_nil,λi=>rfl⟩,0,rfl,[],List.nodup_nil,λp=>?_,rfl⟩,λr R U=>?_,λr R k sc U=>?_,λA hA=>?_,λp r π hp=>?_,λp q l hp=>?_,λr R U=>?_,λn hn=>?_⟩
  ·constructor;· intro h;cases h
   · rintro⟨_,_,h,_⟩;cases h
  · simp at U
  · simp at U
  · cases hA
  · cases hp
  · cases hp
  · simp at U
  ·obtain⟨L,a1,a2,rfl⟩:=hn;cases L with
   |nil=>simp
   | cons x L=>
     obtain⟨_,_,h,_⟩:=(a2 x).1 List.mem_cons_self;cases h
 al:=⟨⟨(λk a h=>by cases h),λA hA=>by cases hA⟩,(λk a h=>by cases h),(λA hA=>by cases hA),Nat.le_refl _⟩
 W:=⟨(λr r' R R' U=>by simp at U),(λr r' R R' k k' sc dh U=>by simp at U),λr R k sc U=>by simp at U⟩
 comp:=λr R U=>by simp at U
 rows:=rfl
 sal:=λR hR=>by cases hR
 rP:=rfl
theorem Wq {Q:Option Nat×Q7->Prop} (hN:B0+4000000<=N) (W5:ts.length<=1000) (h64:rules.length<=64) (h8:∀x∈rules,x.conds.length<=8) (hc:∀x∈rules,∀c∈x.conds,nS ts c) (lT:OH N ts rules=some true)
  (hOk:∀(C:fz) (sc:eL) (T:bz),nS ts sc.c->(∃x∈rules,sc.c∈x.conds)->FA sc->nY C sc->(∀i f,T i=some f->P f)->wE S I C T sc) (hI:∀x∈rules,I (ij x.vars)) (hP:∀f,P f->ug ts f.ty ((f.args.length:Nat):Int)=true)
  (hQ:∀C loc s',ru S I P C->pV S P C [] loc s'->C.types=ts->C.rows.map uI=rules.map iA->(∀R∈C.rows,∀sc∈R.steps,FA sc)->Q (some C.g,s')):Vy N ts rules s Q:=by
 have BS:9223372036854775808+4000000<=N:=by have h':=hN;unfold B0 at h';omega
 unfold Vy;refine Qh lT ?_;refine z6 rfl ?_;refine fR an ?_;refine ud λg16=>ud λg17=>ud λg18=>jm λg hg=>?_
 refine ll λkj1 LZ=>?_
 have K1:∀{u:Nat} {C:fz} {loc:Loc} {σ:Q7},pr S ts ((rules.take u).map iA) u C loc σ->∀R∈C.rows,∃x∈rules,R.steps.map (·.c)=x.conds/\(R.hs,R.vs)=ij x.vars:=λh R hR=>by
  obtain⟨x,hx,he⟩:=List.mem_map.1 (h.mem hR);unfold iA at he;exact⟨x,List.mem_of_mem_take hx,(Prod.mk.inj he).1.symm,(Prod.mk.inj he).2.symm⟩
 have Uh:∀{u:Nat} {C:fz} {loc:Loc} {σ:Q7},pr S ts ((rules.take u).map iA) u C loc σ->∀R∈C.rows,R.steps.length<=8:=λh R hR=>by
  obtain⟨x,hx,e1,_⟩:=K1 h R hR;have:=congrArg List.length e1;rw[List.length_map]at this;have:=h8 x hx;omega
 have ZQ:∀{u:Nat} {C:fz} {loc:Loc} {σ:Q7},u<=rules.length->pr S ts ((rules.take u).map iA) u C loc σ->C.rows.length=u:=λhu h=>by
  have:=congrArg List.length h.rows;rw[List.length_map,List.length_map,List.length_take]at this;omega
 have fin:∀C loc σ,C.g=g->pr S ts ((rules.take rules.length).map iA) rules.length C loc σ->kj1 σ Q:=λC loc σ hCg h=>by
  subst LZ;show Q (some g,σ);rw[<-hCg];have W1:=ZQ (Nat.le_refl _) h
  have D4:∀R∈C.rows,∀sc∈R.steps,FA sc:=λR hR sc ez=>by
   obtain⟨r,hr⟩:=List.getElem?_of_mem hR;obtain⟨k,hk⟩:=List.getElem?_of_mem ez;exact h.W.kind r R k sc hr hk
  refine hQ C loc σ ⟨h.W,h.al.A,h.rP,an,λR hR=>by have:=Uh h R hR;omega,by have:=h.al.few;omega,λT hT R hR sc ez=>?_,λR hR=>?_,λA hA=>?_⟩ ⟨h.inv,h.comp,List.Pairwise.nil,(λf hf=>by cases hf),?_⟩ h.types (by rw[h.rows,List.take_length]) D4
  ·obtain⟨x,hx,e1,_⟩:=K1 h R hR;have hm:sc.c∈x.conds:=by rw[<-e1];exact List.mem_map.2 ⟨sc,ez,rfl⟩
   exact hOk C sc T (hc x hx sc.c hm) ⟨x,hx,hm⟩ (D4 R hR sc ez) (h.sal R hR sc ez) hT
  ·obtain⟨x,hx,_,e2⟩:=K1 h R hR;rw[e2];exact hI x hx
  ·obtain⟨_,_,g3,g4⟩:=h.al.good A hA;refine⟨an,λf hf TS=>?_⟩;have h1:=hP f hf;rw[h.types,<-TS]at g4;have:=GJ h1 g4;omega
  ·have:=tH (S:=S) (Uh h);omega
 refine wQ (λ(u,σ)=>u<=rules.length/\∃C loc,C.g=g/\pr S ts ((rules.take u).map iA) u C loc σ) (λ(u,_)=>rules.length-u) ?_ N (0,_) ⟨Nat.zero_le _,_,_,rfl,by rw[List.take_zero];exact Bh hg⟩ (by dsimp only;omega);rintro⟨u,σ⟩ ag ⟨hu,C,loc,hCg,h⟩ eY;dsimp only at hu h eY⊢;refine ig (λhb=>?_) (λhb=>?_)
 ·have bp:u<rules.length:=of_decide_eq_true hb;obtain⟨x,ki⟩:∃x,rules[u]? =some x:=⟨_,List.getElem?_eq_getElem bp⟩
  have TT:=List.mem_of_getElem? ki;have W1:=ZQ hu h;refine Qh ki ?_;refine ud λg29=>jm λj8 a0C=>?_;refine ll λkj2 Nr=>?_;have bw:=mf.start (wA:=g29) (conds:=x.conds) h.inv h.al a0C;subst hCg;refine ZR (u:=u) hN (h8 x TT) (by rw[h.types];exact hc x TT) bw λm az steps s' U has=>?_;subst Nr;obtain⟨sP,sC,wA,eP⟩:=U.row;obtain⟨xn,n1,n2,n3,n4,_⟩:=U.inv.net
  have db:C.g≠j8:=λe=>by
   have:del s' j8 C.g=none:=by rw[e];exact rU _ _
   rw[show(setAl C m az).g=C.g from rfl,this]at n1;cases n1
  have Hs:s' C.g=some (.net xn):=by rw[<-kS s' db];exact n1
  refine Qh (N2 Hs) ?_;refine fR (by rw[n3,List.length_map];show C.rows.length+1<=_;omega) ?_;refine Qh (EL N x.vars).1 ?_;refine ud λoI=>ud λrM=>S5 λZ0=>lR (ud λa0t=>jm λoq zM=>?_);have hw:=U.whole (xn:=xn) (p:=oI) (c:=rM) (g:=oq) (ka:=a0t) (hs:=(ij x.vars).1) (vs:=(ij x.vars).2) Hs zM eP;have Zk:=U.wfc (g:=oq) (c:=rM) (p:=oI) (sP:=sP) (sC:=sC) (hs:=(ij x.vars).1) (vs:=(ij x.vars).2) ⟨h.W.rows,h.W.steps,h.W.kind⟩;refine QR ?_;have Px:steps.map (·.c)=x.conds:=by rw[U.conds,List.take_length]
  have hR:(H8 (setAl C m az) ⟨j8,steps,sP,sC,oq,(ij x.vars).1,(ij x.vars).2⟩ oI rM).rows[C.rows.length]? =some ⟨j8,steps,sP,sC,oq,(ij x.vars).1,(ij x.vars).2⟩:=by
   show(C.rows++[_])[C.rows.length]? =_;rw[List.getElem?_append_right (Nat.le_refl _),Nat.sub_self];rfl
  have a0T:steps.length<=8:=by have:=h8 x TT;rw[U.len];omega
  have cn:∀sc∈steps,wE S I (H8 (setAl C m az) ⟨j8,steps,sP,sC,oq,(ij x.vars).1,(ij x.vars).2⟩ oI rM) (eE []) sc:=λsc ez=>by
   obtain⟨k,hk⟩:=List.getElem?_of_mem ez;obtain⟨q1,_,q3⟩:=U.obj k sc hk;have hm:sc.c∈x.conds:=by rw[<-Px];exact List.mem_map.2 ⟨sc,ez,rfl⟩
   exact hOk _ sc _ (hc x TT sc.c hm) ⟨x,TT,hm⟩ q1 q3 λi f hf=>by cases hf
  refine NY (I:=I) (D:=[]) Zk (by show steps.length<_;omega) ⟨λi f hf=>(by cases hf),ax⟩ ax hR cn steps.length 0 ax (λ_ _=>rfl) N (by show B0+0+steps.length+1<N;omega) (λ_=>False) _ _ oq [] ((ij x.vars).1,(ij x.vars).2) _ hw (if_pos rfl) rfl (by show fE S (eE []) steps _ []=_;cases steps<;>rfl) (hI x TT) (λy i hy=>?_) (λ_ _ _ _ hz=>hz) λbf s'' g1 g2 g3=>?_
  ·unfold gR at hy;split at hy;· simp at hy
   ·obtain⟨R',x',a1,_⟩:=U.inv.part _ _ _ hy;have:=(List.getElem?_eq_some_iff.1 a1).1;exact absurd this (by show¬C.rows.length<C.rows.length;omega)
  ·refine fR an ?_;refine eY (u+1,s'') ⟨an,H8 (setAl C m az) ⟨j8,steps,sP,sC,oq,(ij x.vars).1,(ij x.vars).2⟩ oI rM,bf,rfl,?_⟩ (by dsimp only;omega)
   have PB:((H8 (setAl C m az) ⟨j8,steps,sP,sC,oq,(ij x.vars).1,(ij x.vars).2⟩ oI rM).rows).map uI=(rules.take (u+1)).map iA:=by
    show(C.rows++[_]).map uI=_;rw[List.map_append,h.rows,List.take_add_one,ki];show _++[uI _]=_;rw[Option.toList_some,List.map_append];congr 1;show[(steps.map (·.c),((ij x.vars).1,(ij x.vars).2))]=[(x.conds,ij x.vars)]
    rw[Px]
   have G2:R5 (H8 (setAl C m az) ⟨j8,steps,sP,sC,oq,(ij x.vars).1,(ij x.vars).2⟩ oI rM) ((u+1)*8):=⟨⟨U.al.A.ofKey,U.al.A.key⟩,U.al.keyed,U.al.good,by
    have h1:=U.al.few;have h2:=h8 x TT;show(setAl C m az).alphas.keys.length<=_;omega⟩
   have TP:∀R∈(H8 (setAl C m az) ⟨j8,steps,sP,sC,oq,(ij x.vars).1,(ij x.vars).2⟩ oI rM).rows,∀sc∈R.steps,nY (H8 (setAl C m az) ⟨j8,steps,sP,sC,oq,(ij x.vars).1,(ij x.vars).2⟩ oI rM) sc:=λR ox sc ez=>by
    rcases List.mem_append.1 ox with ox|ox
    ·intro ht;obtain⟨A,q1,q2⟩:=h.sal R ox sc ez ht;exact⟨A,has A q1,q2⟩
    ·rw[List.mem_singleton.1 ox]at ez;obtain⟨k,hk⟩:=List.getElem?_of_mem ez;exact(U.obj k sc hk).2.2
   have fS:pX bf:=λq hq=>by
    have h1:=g1.cnt_le (facts:=[]) List.nodup_nil hq
    have h2:=tH (S:=S) (l:=(H8 (setAl C m az) ⟨j8,steps,sP,sC,oq,(ij x.vars).1,(ij x.vars).2⟩ oI rM).rows) λR ox=>by
     rcases List.mem_append.1 ox with ox|ox;· exact Uh h R ox
     · rw[List.mem_singleton.1 ox];exact a0T
    have h3:(H8 (setAl C m az) ⟨j8,steps,sP,sC,oq,(ij x.vars).1,(ij x.vars).2⟩ oI rM).rows.length=C.rows.length+1:=by
     show(C.rows++[_]).length=_;rw[List.length_append];rfl
    omega
   refine⟨h.types,g1,G2,Zk,λr R hr=>?_,PB,TP,?_⟩
   ·rcases Mw hr with⟨h1,h2⟩|⟨h1,h2⟩
    ·intro τ fT;obtain⟨y,hy⟩:=h.comp r R h2 τ fT;have h5:loc y=some (r,[]++τ):=hy;refine⟨y,g2.1 y _ ?_⟩;unfold gR;rw[if_neg ?_];· exact h5
     ·intro e
      have YI:=U.inv.none_loc (p:=y) (by
       rw[e];unfold del;split;· rfl
       ·rw[QD (λe2=>by rw[e2,iN]at zM;cases zM)]at zM;exact zM)
      rw[YI]at h5;cases h5
    ·have h3:=g3 fS;subst h2;rw[h1];exact h3
   ·show oI.isNone=false;cases oI with
    |none=>cases Z0
    |some a=>rfl
 ·have pB:¬u<rules.length:=of_decide_eq_false hb;obtain rfl:u=rules.length:=an
  exact fin C loc σ hCg h
end
end
section
open Go Go.RowKit Classical
def S0:fe:=⟨λc hs vs f=>HX c f hs vs,λc vs=>D6 (at_ (wG N0) vs c.test)⟩
def I0 (e:ep):Prop:=Rc e.1 e.2
def P0 (U:List Q9)(f:Qq):Prop:=ug U f.ty ((f.args.length:Nat):Int)=true/\∀v∈f.args,pH v
theorem mo:∀{al:List fl} {xs:List V} {hs:List Bool} {vs:List V} {p:List Bool×List V},FB al xs hs vs=some p->∀(j:Nat)(a:fl),al[j]? =some a->a.k=4->xs[j]? =some a.v
 |[],_,_,_,_,_,j,a,U,_=>by simp at U
 |_::_,[],_,_,_,h,_,_,_,_=>by cases h
 | b::al,x::xs,hs,vs,p,h,j,a,U,h4=>by
   unfold FB at h;split at h
   ·rename_i q hq;cases j with
    | zero=>
      simp only[List.getElem?_cons_zero,Option.some.injEq]at U⊢;subst U;unfold H9 at hq;rw[if_neg an,if_pos h4]at hq;split at hq;· rename_i e;exact e.symm
      · cases hq
    | succ j=>
      simp only[List.getElem?_cons_succ]at U⊢;exact mo h j a U h4
   · cases h
theorem NP {l:List fl} {j:Nat} {a:fl} (h:(iP l)[j]? =some a)(U:a.k=4):l[j]? =some a:=by
 unfold iP at h;rw[List.getElem?_map]at h;cases hl:l[j]? with
 |none=>rw[hl]at h;cases h
 | some b=>
   rw[hl]at h;simp only[Option.map_some,Option.some.injEq]at h;split at h;· rw[h]
   · subst h;exact absurd U bj
def Rf (c:Qv):Prop:=nodes c.test<=1000/\cx c.test
theorem a16 {ts:List Q9} {C:fz} {sc:eL} {T:bz} (hc:nS ts sc.c)(ht:Rf sc.c)(hk:FA sc)(hs:nY C sc)(hT:∀i f,T i=some f->P0 ts f):wE S0 I0 C T sc where
 mt:=λU N hN f hf e hI=>by
  have BS:9223372036854775808<=N:=by have h':=hN;unfold B0 at h';omega
  obtain⟨a,b,hm,hp⟩:=K0 (N:=N) BS (c:=sc.c) (f:=f) (hs:=e.1) (vs:=e.2) (by have:=hI.1;have:=hI.2.1;omega) (by have:=hI.2.1;omega) (by have:=hc.args;omega);refine⟨a,b,hm,λp hq=>?_⟩;have dz:HX sc.c f e.1 e.2=some p:=hq;obtain⟨h1,h2,h3⟩:=hp p dz;have h4:=Gm (hT _ f hf).2 hI.2.2 dz;rw[h1]at h4⊢;exact⟨rfl,by show a.length=b.length;rw[h2,h3];exact hI.1,by show b.length<=16;rw[h3];exact hI.2.1,h4⟩
 ev:=λa bw N hN e hI=>by
  have BS:9223372036854775808+1000<=N:=by have h':=hN;unfold B0 at h';omega
  have hlen:e.2.length<=1000000:=by have:=hI.2.1;omega
  obtain⟨⟨k,n,s,z⟩,hr,_⟩:=both 1000 N sc.c.test e.2 ht.2 ht.1 an an hI.2.2 hlen;have ix:=XS 1000 N N0 sc.c.test e.2 ht.2 ht.1 an an (by unfold N0;omega) hI.2.2 hlen;refine⟨k,n,s,z,hr,?_⟩;show D6 (at_ (wG N0) e.2 sc.c.test)=_;rw[<-ix,hr];rfl
 al:=λU=>by
  obtain⟨A,h1,h2,h3,h4⟩:=hs U;refine⟨A,h1,h2,λf e p hp=>?_⟩;have dc:HX sc.c f e.1 e.2=some p:=hp;unfold HX at dc;split at dc
  ·rename_i hh;unfold hasB;rw[Bool.and_eq_true,decide_eq_true_eq,List.all_eq_true];refine⟨by rw[h3];exact hh.2.1.symm,λj _=>?_⟩;cases ha:A.args[j]? with
   |none=>rfl
   | some a=>
     simp only;by_cases h5:a.k=4
     ·rw[if_pos h5];rw[h4]at ha;exact decide_eq_true (mo dc j a (NP ha h5) h5)
     · rw[if_neg h5]
  · cases dc
theorem va {b:Bool}:∀{l:List fl} {v:Int},(BM b l v).1=true->∀a∈l,∃w,(jX b w a).1=true
 |[],_,_,a,U=>by cases U
 | x::l,v,h,a,U=>by
   unfold BM at h;split at h
   ·rename_i hx;rcases List.mem_cons.1 U with rfl|U;· exact⟨v,hx⟩
    · exact va h a U
   · cases h
theorem rS {ts:List Q9}:∀{l:List Qv} {v f:Int},(E2 ts l v f).1=true->∀c∈l,∃v' f',(rz ts v' f' c).1=true
 |[],_,_,_,c,U=>by cases U
 | x::l,v,f,h,c,U=>by
   unfold E2 at h;split at h
   ·rename_i hx;rcases List.mem_cons.1 U with rfl|U;· exact⟨v,f,hx⟩
    · exact rS h c U
   · cases h
theorem PH {x:Int} (h:nR .i64 x):du x:=by
 have U:IntKind.min .i64=-9223372036854775808:=bj
 have e2:IntKind.max .i64=9223372036854775807:=bj
 unfold nR at h;rw[U,e2]at h;exact h
theorem FN {ts:List Q9} {c:Qv} {v f:Int} (h:(rz ts v f c).1=true)(cn:mS c)(hn:nodes c.test<=1000)(ha:c.args.length<=1000):nS ts c:=by
 have U:∀a∈c.args,pH a.v:=λa hm=>by
  have:=(cn.2.2.1.2 a hm).2.2;exact⟨PH this.2.1,this.2.2⟩
 unfold rz at h;by_cases N7:c.kind=1\/c.kind=2
 ·rw [if_pos N7]at h;split at h
  ·rename_i ht;simp only[Bool.and_eq_true]at ht;split at h
   ·rename_i fq;refine⟨by rcases N7 with e|e;exact .inl e;exact .inr (.inl e),an,ha,λ_=>⟨PH cn.2.1,λa hm=>?_,U,ht.1⟩⟩;unfold iP at hm;obtain⟨b,hb,rfl⟩:=List.mem_map.1 hm;split
    ·rename_i h4;obtain⟨w,hw⟩:=va fq b hb;unfold jX at hw;rw[if_neg an,if_neg an,if_neg an,if_pos h4]at hw;simp only[Bool.and_eq_true,decide_eq_true_eq]at hw;exact .inr ⟨h4,hw.1,hw.2,(U b hb).1⟩
    · exact .inl rfl
   · cases h
  · cases h
 ·rw[if_neg N7]at h;split at h
  ·rename_i h3;exact⟨.inr (.inr h3),an,ha,λhh=>absurd hh N7⟩
  · cases h
structure qF (ts:List Q9) (rules:List Qb):Prop where
 right:Mf ts rules=true
 ok:∀r∈rules,xT r
 light:∀r∈rules,(∀c∈r.conds,c.args.length<=1000/\nodes c.test<=1000)/\∀a∈r.acts,Ha a.exprs<=1000000
theorem AN {U:List Q9} {rules:List Qb} (h:Mf U rules=true):U.length<=32:=by
 unfold Mf at h;simp only[Bool.and_eq_true,decide_eq_true_eq]at h;exact h.1.1
theorem y0 {ts:List Q9} {rules:List Qb} (h:qF ts rules):∀r∈rules,∀c∈r.conds,nS ts c:=λr hr c hc=>by
 have h1:=h.right;unfold Mf at h1;simp only[Bool.and_eq_true,decide_eq_true_eq]at h1;obtain⟨i,hi,rfl⟩:=List.getElem_of_mem hr;have U:=List.all_eq_true.1 h1.2.2 i (by simp[List.mem_range'_1];exact hi);unfold vV at U;rw[List.getElem?_eq_getElem hi]at U;simp only[Bool.and_eq_true]at U;have h6:=U.2;unfold pd at h6;simp only[Bool.and_eq_true]at h6;obtain⟨v,f,hv⟩:=rS h6.2.1 c hc;obtain⟨g1,g2⟩:=(h.light _ hr).1 c hc;exact FN hv ((h.ok _ hr).2.2.2.1.2 c hc) g2 g1
theorem DN {U:List Q9} {f:Qq}:(BK pZ U f=true↔iR U 0 f=true):=by
 unfold BK iR ug
 have e:decide (1<=f.id/\f.id<=1099511627776)=decide (0<f.id/\f.id<=1099511627776):=by
  by_cases h:0<f.id/\f.id<=1099511627776;· rw[decide_eq_true h,decide_eq_true ⟨an,h.2⟩]
  · rw[decide_eq_false h,decide_eq_false (λh'=>h ⟨an,h'.2⟩)]
 rw[e];cases U[f.ty.toNat]? with
 |none=>simp
 |some t=>simp only[Bool.and_assoc]
end
section
open Go Go.RowKit Classical
section
variable {ts:List Q9} {rules:List Qb} {facts:List Qq} {f:Qq} {C:fz} {loc:Loc} {s:Q7} {N:Nat}
theorem qJ:∀{l:List Qq} {last:Int},yZ ts last l=true->(∀f∈l,last<f.id/\f.id<=1099511627776)/\uq l
 |[],_,_=>⟨λf hf=>(by cases hf),List.Pairwise.nil⟩
 | g::l,last,h=>by
   rw[yZ]at h;simp only[Bool.and_eq_true]at h
   have hg:last<g.id/\g.id<=1099511627776:=by
    have h1:=h.1;unfold iR at h1;simp only[Bool.and_eq_true,decide_eq_true_eq]at h1;exact h1.1
   obtain⟨a,b⟩:=qJ h.2;refine⟨λx U=>?_,List.Pairwise.cons (λx U=>(a x U).1) b⟩;rcases List.mem_cons.1 U with rfl|U;· exact hg
   · have:=a x U;omega
theorem vl {a b:Int} (h:iR ts a f=true)(U:b<f.id):iR ts b f=true:=by
 unfold iR at h⊢;simp only[Bool.and_eq_true,decide_eq_true_eq]at h⊢;exact⟨⟨U,h.1.2⟩,h.2⟩
theorem se:∀{l:List Qq} {a b:Int},yZ ts a l=true->(∀f∈l,b<f.id)->yZ ts b l=true
 |[],_,_,_,_=>rfl
 | g::l,a,b,h,U=>by
   rw[yZ,Bool.and_eq_true]at h⊢;exact⟨vl h.1 (U g List.mem_cons_self),h.2⟩
theorem sd:∀{l:List Qq} {last:Int},yZ ts last l=true->iR ts last f=true->(∀g∈l,g.id≠f.id)->yZ ts last (gB f l)=true
 |[],last,_,hf,_=>by rw[gB,yZ,hf];rfl
 | g::l,last,h,hf,hn=>by
   rw[gB];have h':=h;rw[yZ,Bool.and_eq_true]at h';split
   ·rename_i bp;rw[yZ,hf,Bool.true_and];refine se h λx U=>?_
    rcases List.mem_cons.1 U with rfl|U;· exact bp
    · have:=(List.pairwise_cons.1 (qJ h).2).1 x U;omega
   ·rename_i bp;have db:=hn g List.mem_cons_self;rw[yZ,h'.1,Bool.true_and];exact sd h'.2 (vl hf an) λx U=>hn x (List.mem_cons_of_mem _ U)
theorem sb {id:Int}:∀{l:List Qq} {last:Int},yZ ts last l=true->yZ ts last (jg id l)=true
 |[],_,_=>rfl
 | g::l,last,h=>by
   have h':=h;rw[yZ,Bool.and_eq_true]at h';have U:=sb (id:=id) h'.2;unfold jg at U⊢;by_cases hg:g.id=id
   ·rw[List.filter_cons_of_neg (cw hg)];refine se U λx hx=>?_
    have h1:=((qJ h'.2).1 x (List.mem_filter.1 hx).1).1;have h2:=((qJ h).1 g List.mem_cons_self).1;omega
   · rw[List.filter_cons_of_pos (cw hg),yZ,h'.1,U];rfl
def wY (ts:List Q9)(rules:List Qb)(facts:List Qq)(a:Nat)(s:Q7):Prop:=∃C loc,C.g=a/\ru S0 I0 (P0 ts) C/\pV S0 (P0 ts) C facts loc s/\C.types=ts/\C.rows.map uI=rules.map iA/\(∀R∈C.rows,∀sc∈R.steps,FA sc)/\yZ ts 0 facts=true
theorem DM (U:(facts.map (·.id)).Nodup):∀{l:List eO} {rs:List Qb},l.map uI=rs.map iA->(∀R∈l,∀sc∈R.steps,FA sc)->fV S0 facts l=oL facts rs
 |[],[],_,_=>rfl
 |[],r::rs,h,_=>by cases h
 |R::l,[],h,_=>by cases h
 | R::l,r::rs,h,hk=>by
   rw[List.map_cons,List.map_cons]at h;obtain⟨h1,h2⟩:=List.cons.inj h;have ih:=DM U h2 λR' N9=>hk R' (List.mem_cons_of_mem _ N9)
   have e:fV S0 facts (R::l)=(qO S0 facts R.steps (R.hs,R.vs)).length+fV S0 facts l:=rfl;rw[e,ih,oL,Ez U (hk R List.mem_cons_self)];unfold uI iA at h1;obtain⟨e1,e2⟩:=Prod.mk.inj h1;unfold Pb;rw[e1,<-e2];rfl
theorem Ej (hn:(facts.map (·.id)).Nodup)(U:∀f∈facts,0<f.id):∀{l:List eO} {rs:List Qb} {k:Nat},l.map uI=rs.map iA->(∀R∈l,∀sc∈R.steps,FA sc)->E5 S0 facts l k=kr facts rs k
 |[],[],_,_,_=>rfl
 |[],r::rs,_,h,_=>by cases h
 |R::l,[],_,h,_=>by cases h
 | R::l,r::rs,k,h,hk=>by
   rw[List.map_cons,List.map_cons]at h;obtain⟨h1,h2⟩:=List.cons.inj h;have ih:=Ej hn U (k:=k+1) h2 λR' N9=>hk R' (List.mem_cons_of_mem _ N9)
   rw[E5,kr,ih];congr 1;unfold uI iA at h1;obtain⟨e1,e2⟩:=Prod.mk.inj h1;have hg:=Ep (S:=S0) hn U (e:=(R.hs,R.vs)) (ids:=[]) (hk R List.mem_cons_self)
   have eg:Yo facts r=goN (nB S0 facts) facts (R.steps.map (·.c)) (R.hs,R.vs).1 (R.hs,R.vs).2 []:=by
    unfold Yo;rw[e1,e2];rfl
   rw[<-eg]at hg;have:(Yo facts r).map (R1 ((k:Nat):Int))=((Yo facts r).map (·.1)).map λids=>(⟨((k:Nat):Int),ids⟩:QB):=by rw[List.map_map];rfl
   rw[this,hg,List.map_map];rfl
theorem U5 {Q:Option Nat×Q7->Prop} (hN:B0+4000000<=N)(h:qF ts rules)(hQ:∀a s',wY ts rules [] a s'->Q (some a,s')):Vy N ts rules s Q:=by
 have BS:9223372036854775808+4000000<=N:=by have h':=hN;unfold B0 at h';omega
 have ht:=AN h.right;obtain⟨h64,h8⟩:=AM h.right;refine Wq (S:=S0) (I:=I0) (P:=P0 ts) hN an h64 h8 (y0 h) ?_ (λC sc T U ⟨x,hx,hm⟩ hk hs hT=>a16 U ⟨((h.light x hx).1 _ hm).2,((h.ok x hx).2.2.2.1.2 _ hm).2.2.2⟩ hk hs hT) (λx _=>(EL N x.vars).2) (λf hf=>hf.1) λC loc s' g1 g2 g3 g4 g5=>hQ _ _ ⟨C,loc,rfl,g1,g2,g3,g4,g5,rfl⟩;rw[Qco an λr hr=>⟨λc U=>⟨((h.light r hr).1 c U).1,by have:=((h.light r hr).1 c U).2;omega⟩,(h.light r hr).2⟩,h.right]
noncomputable def oa (ts:List Q9)(rules:List Qb)(facts:List Qq)(f:Qq):List Qq×Nat:=
 if iR ts 0 f=true then(if(facts.any λg=>decide (g.id=f.id))=true then(facts,7)else if oL (gB f facts) rules<=4096 then(gB f facts,0)else(facts,204))else(facts,2)
noncomputable def im (rules:List Qb)(facts:List Qq)(id:Int):List Qq×Nat:=
 if(facts.any λg=>decide (g.id=id))=true then(if oL (jg id facts) rules<=4096 then(jg id facts,0)else(facts,204))else(facts,6)
theorem Fc {id:Int}:(eE facts id).isSome=facts.any λg=>decide (g.id=id):=by
 unfold eE;rw[Bool.eq_iff_iff,List.find?_isSome,List.any_eq_true]
theorem xh {N:Nat} {l:List V} (hN:9223372036854775808<=N)(hl:l.length<=4398046511104):UZ N l=some (!(l.all pZ)):=by
 unfold UZ Q2Q
 rw [Vx (l:=l) (p:=λv=>!pZ v) (λi hi=>by
  unfold Ws Q6g;rw[br hi,List.getElem?_eq_getElem hi,Q1,Qc3,Q1,Q1];by_cases U:(!pZ l[i])=true;· rw[if_pos U,if_pos U]
  · rw[if_neg U,if_neg U,QY an]) (by
  unfold Ws;rw[if_neg ax]) l.length 0 N an an,Q1,List.drop_zero,Xs]
 rw[<-xc,Bool.not_not]
theorem RY {a:Nat} {Q:Nat×Q7->Prop} (hN:B0+4000000<=N)(h:wY ts rules facts a s)(hl:facts.length<=1000000)(G2:f.args.length<=4398046511104)(hv:∀v∈f.args,pH v)
  (hQ:∀s',wY ts rules (oa ts rules facts f).1 a s'->Q ((oa ts rules facts f).2,s')):X5 N a f.id f.ty f.args s Q:=by
 have BS:9223372036854775808+4000000<=N:=by have h':=hN;unfold B0 at h';omega
 obtain⟨C,loc,rfl,hG,hP,e1,e2,e3,e4⟩:=h;refine Wi (vb:=pZ) hN hG hP hl (xh an G2) (λhr=>?_) G2 λbf s' hp=>?_
 ·rw[e1]at hr;have:=DN.1 hr;unfold iR at this;simp only[Bool.and_eq_true]at this;exact⟨this.2.1,hv⟩
 ·rw [e1]at hp⊢;have G7:∀l,uq l->fV S0 l C.rows=oL l rules:=λl hl=>DM hl.nodup e2 e3
  have e:addN S0 (BK pZ ts) C facts f=oa ts rules facts f:=by
   unfold addN oa;rw[Fc];by_cases hr:BK pZ ts f=true
   ·rw[if_pos hr,if_pos (DN.1 hr)];by_cases U:(facts.any λg=>decide (g.id=f.id))=true;· rw[if_pos U,if_pos U]
    · rw[if_neg U,if_neg U,G7 _ (hP.ris.ins λg hg hid=>U (List.any_eq_true.2 ⟨g,hg,by simpa using hid⟩))]
   · rw[if_neg hr,if_neg (λh=>hr (DN.2 h))]
  rw[e]at hp⊢;refine hQ s' ⟨C,bf,rfl,hG,hp,e1,e2,e3,?_⟩;unfold oa;split
  ·rename_i hf;split;· exact e4
   ·rename_i U;split;· exact sd e4 hf λg hg hid=>U (List.any_eq_true.2 ⟨g,hg,by simpa using hid⟩)
    · exact e4
  · exact e4
theorem MU {a:Nat} {id:Int} {Q:Nat×Q7->Prop} (hN:B0+4000000<=N)(h:wY ts rules facts a s)(hl:facts.length<=1000000)(hQ:∀s',wY ts rules (im rules facts id).1 a s'->Q ((im rules facts id).2,s')):X8 N a id s Q:=by
 obtain⟨C,loc,rfl,hG,hP,e1,e2,e3,U⟩:=h;refine Rb hN hG hP hl λbf s' hp=>?_
 have e:rX S0 C facts id=im rules facts id:=by
  unfold rX im;rw[Fc,DM hP.ris.del.nodup e2 e3]
 rw[e]at hp⊢;refine hQ s' ⟨C,bf,rfl,hG,hp,e1,e2,e3,?_⟩;unfold im;split
 ·split;· exact sb U
  · exact U
 · exact U
theorem UO {a:Nat} {Q:List QB->Prop} (hN:B0+4000000<=N)(h:wY ts rules facts a s)(hQ:Q (kr facts rules 0)):WT N a s Q:=by
 obtain⟨C,loc,rfl,hG,U,e1,e2,e3,e4⟩:=h;refine I5 hN hG U ?_;rw[Ej U.ris.nodup (λf hf=>by have:=(U.fr f hf).2;omega) e2 e3];exact hQ
theorem U1 {a:Nat} {Q:Nat->Prop} (h:wY ts rules facts a s)(hQ:Q facts.length):X6 N a s Q:=by
 obtain⟨C,loc,rfl,U,hP,_⟩:=h;exact Wn U hP hQ
end
end
end Go.Proofs.YtocfkfhdcnjklaaGreatDoor
