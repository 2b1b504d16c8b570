import Derived.Test.YtocfkfhdcnjklaaGreatDoorReteX
namespace Go.Proofs.YtocfkfhdcnjklaaGreatDoor
section
open Go Go.RowKit
theorem zI {N:Nat} {types:List Q7} {rules:List Qa} {vars facts:Int} {l:List Q4} (hN:9223372036854775808+1000000<=N)(hl:Hz l<=1000000):VF N types rules vars facts l=some (MZ vars l):=by
 unfold VF Q32 Q3O;have hll:=VW l
 rw [VU (l:=l) (p:=λy=>!kE vars y) (λi hi=>by
  unfold WV Q4E;have hn:=RV (List.getElem_mem hi);rw[br hi,List.getElem?_eq_getElem hi,Q1,EG 1000000 N l[i] an an an,Q1,Q1];by_cases U:(!kE vars l[i])=true;· rw[if_pos U,if_pos U]
  · rw[if_neg U,if_neg U,QM an]) (by
  unfold WV;rw[if_neg ax]) l.length 0 N an an,Q1,Q1,List.drop_zero,XI,kY]
noncomputable def Im (types:List Q7)(vars facts:Int)(a:wV):Bool:=
 if a.kind=1 then decide (a.which=0)&&(rM types a.type ((a.exprs.length:Nat):Int)&&MZ vars a.exprs)
 else if a.kind=2 then decide (a.type=0/\a.exprs.length=0/\0<=a.which/\a.which<facts)
 else if a.kind=3 then decide (a.type=0/\a.which=0/\0<a.exprs.length)&&MZ vars a.exprs
 else decide (a.kind=4/\a.type=0/\a.which=0/\a.exprs.length=0)
theorem Si {N:Nat} {types:List Q7} {rules:List Qa} {vars facts:Int} {a:wV} (hN:9223372036854775808+1000000<=N)(ha:Hz a.exprs<=1000000):Xi N types rules vars facts a.kind a.type a.which a.exprs=some (Im types vars facts a):=by
 unfold Xi Im;by_cases h1:a.kind=1
 ·rw [br h1,if_pos h1];by_cases h2:a.which=0
  ·rw[br h2,Bw,Q1,decide_eq_true h2,Bool.true_and];cases ht:rM types a.type ((a.exprs.length:Nat):Int)with
   |true=>rw[if_pos rfl,zI hN ha,Q1,Bool.true_and]
   |false=>rw[if_neg ax,Bool.false_and]
  · rw[bs h2,decide_eq_false h2,Bool.false_and]
 ·rw [bs h1,if_neg h1];by_cases h2:a.kind=2
  ·rw [br h2,if_pos h2];unfold Q6s;by_cases c1:a.type=0
   ·rw [br c1];by_cases c2:a.exprs.length=0
    ·rw[br c2];by_cases U:0<=a.which
     ·rw[br U,Q1];congr 1;rw[Bool.eq_iff_iff];simp only[decide_eq_true_eq];exact⟨λh=>⟨c1,c2,U,h⟩,λh=>h.2.2.2⟩
     · rw[bs U,Q1,decide_eq_false (λh=>U h.2.2.1)]
    · rw[bs c2,Q1,decide_eq_false (λh=>c2 h.2.1)]
   · rw[bs c1,Q1,decide_eq_false (λh=>c1 h.1)]
  ·rw [bs h2,if_neg h2];by_cases h3:a.kind=3
   ·rw [br h3,if_pos h3];unfold Q6t;by_cases c1:a.type=0
    ·rw [br c1];by_cases c2:a.which=0
     ·rw[br c2];by_cases U:0<a.exprs.length;· rw[br U,zI hN ha,Q1,Q1,decide_eq_true ⟨c1,c2,U⟩,Bool.true_and]
      · rw[bs U,Q1,decide_eq_false (λh=>U h.2.2),Bool.false_and]
     · rw[bs c2,Q1,decide_eq_false (λh=>c2 h.2.1),Bool.false_and]
    · rw[bs c1,Q1,decide_eq_false (λh=>c1 h.1),Bool.false_and]
   ·rw [bs h3,if_neg h3];unfold Q6u;by_cases c0:a.kind=4
    ·rw [br c0];by_cases c1:a.type=0
     ·rw[br c1];by_cases c2:a.which=0
      ·rw[br c2,Q1];congr 1;rw[Bool.eq_iff_iff];simp only[decide_eq_true_eq,beq_iff_eq];exact⟨λh=>⟨c0,c1,c2,h⟩,λh=>h.2.2.2⟩
      · rw[bs c2,Q1,decide_eq_false (λh=>c2 h.2.2.1)]
     · rw[bs c1,Q1,decide_eq_false (λh=>c1 h.2.1)]
    · rw[bs c0,Q1,decide_eq_false (λh=>c0 h.1)]
theorem Ge (types:List Q7)(vars facts:Int)(c:Qp):vars<=(rN types vars facts c).2.1/\(rN types vars facts c).2.1<=vars+((c.args.length:Nat):Int)/\facts<=(rN types vars facts c).2.2/\(rN types vars facts c).2.2<=facts+1:=by
 unfold rN;have h:=vl (c.kind==1) c.args vars;split
 ·split
  ·split;· simp only;split<;>omega
   · simp only;omega
  · simp only;omega
 · split<;>(simp only;omega)
noncomputable def Ei (types:List Q7):List Qp->Int->Int->Bool×Int×Int
 |[],vars,facts=>(true,vars,facts)
 |c::l,vars,facts=>if(rN types vars facts c).1=true then Ei types l (rN types vars facts c).2.1 (rN types vars facts c).2.2 else(false,(rN types vars facts c).2.1,(rN types vars facts c).2.2)
theorem CQ {N:Nat} {types:List Q7} {rules:List Qa} {l:List Qp} (hN:9223372036854775808+1000000<=N)(hl:∀c∈l,c.args.length<=1000/\nodes c.test<=1000000)(hll:l.length<=100):
   ∀ (m i fuel:Nat) (vars facts:Int),i+m=l.length->m<fuel->0<=vars/\vars+((m:Nat):Int)*1000<=1000000->0<=facts/\facts+((m:Nat):Int)<=1000000->
     fk (RF N l types rules) fuel (i,vars,facts)=some (if(Ei types (l.drop i) vars facts).1=true then .inl (Ei types (l.drop i) vars facts).2 else .inr (Ei types (l.drop i) vars facts)):=by
 intro m;induction m with
 | zero=>
   intro i fuel vars facts hi hf hv U;obtain⟨fuel,rfl⟩:∃q,fuel=q+1:=⟨fuel-1,an⟩
   obtain rfl:i=l.length:=an
   rw[uf (o:=.inl (vars,facts)) (by unfold RF;simp only;rw[if_neg ax]),List.drop_length];simp[Ei]
 | succ m ih=>
   intro i fuel vars facts hi hf hv U;obtain⟨fuel,rfl⟩:∃q,fuel=q+1:=⟨fuel-1,an⟩
   have h:i<l.length:=an
   obtain⟨k1,k2⟩:=hl l[i] (List.getElem_mem h);have hc:=N9 (rules:=rules) (types:=types) (vars:=vars) (facts:=facts) (c:=l[i]) hN an k2 an an;have hcv:=Ge types vars facts l[i]
   have hs:RF N l types rules (i,vars,facts)=if(rN types vars facts l[i]).1=true then some (.inl (i+1,(rN types vars facts l[i]).2))else some (.inr (.inr (rN types vars facts l[i]))):=by
     unfold RF;simp only;rw[br h,List.getElem?_eq_getElem h,Q1,hc,Q1];obtain⟨b,x,y⟩:=rN types vars facts l[i];cases b with
     |true=>simp only[Bool.not_true,Bool.false_eq_true,if_false,if_true];rw[QM an]
     |false=>simp only[Bool.not_false,Bool.false_eq_true,if_false,if_true]
   rw[List.drop_eq_getElem_cons h,Ei];by_cases hb:(rN types vars facts l[i]).1=true
   · rw[if_pos hb]at hs⊢;rw[I4 hs];exact ih (i+1) fuel (rN types vars facts l[i]).2.1 (rN types vars facts l[i]).2.2 an an an an
   · rw[if_neg hb]at hs⊢;rw[uf hs];have sS:(rN types vars facts l[i]).1=false:=by simpa using hb
     simp only[Bool.false_eq_true,if_false];rw[<-sS]
noncomputable def pj (types:List Q7)(r:Qa):Bool:=
 (kJ r.name&&decide (-1000<=r.salience/\r.salience<=1000/\r.conds.length<=8/\r.acts.length<=8))&&
  ((Ei types r.conds 0 0).1&&(decide (r.vars=(Ei types r.conds 0 0).2.1/\(Ei types r.conds 0 0).2.1<=16)&&r.acts.all (Im types (Ei types r.conds 0 0).2.1 (Ei types r.conds 0 0).2.2)))
structure I1 (r:Qa):Prop where
 conds:∀c∈r.conds,c.args.length<=1000/\nodes c.test<=1000000
 acts:∀a∈r.acts,Hz a.exprs<=1000000
theorem xl {α:Type} {p:α->Bool}:∀l:List α,(!(l.any λx=> !p x))=l.all p
 |[]=>rfl
 |x::l=>by rw[List.any_cons,List.all_cons,<-xl l];cases p x<;>simp
theorem Lv {N:Nat} {types:List Q7} {rules:List Qa} {a b:Int} {r:Qa} (hN:9223372036854775808+1000000<=N)(hr:I1 r):∃x y,Xd N types rules a b r.name r.salience r.vars r.conds r.acts=some (pj types r,x,y):=by
 unfold Xd
 have Wh:Q4p N r.name r.salience r.conds r.acts=some (!(kJ r.name&&decide (-1000<=r.salience/\r.salience<=1000/\r.conds.length<=8/\r.acts.length<=8))):=by
  unfold Q4p;rw[AF,Q1];cases kJ r.name with
  |false=>simp
  | true=>
    rw[if_neg ax,Bool.true_and];by_cases c1:r.salience< -1000;· rw[br c1,decide_eq_false an];rfl
    ·rw [bs c1];by_cases c2:r.salience>1000;· rw[br c2,decide_eq_false an];rfl
     ·rw[bs c2];by_cases c3:8<r.conds.length;· rw[br c3,decide_eq_false an];rfl
      ·rw[bs c3];congr 1;rw[Bool.eq_iff_iff];simp only[decide_eq_true_eq,Bool.not_eq_true',decide_eq_false_iff_not];omega
 rw[Wh,Q1];unfold pj;by_cases U:(kJ r.name&&decide (-1000<=r.salience/\r.salience<=1000/\r.conds.length<=8/\r.acts.length<=8))=true
 ·rw [U,if_neg ax]
  have h8:r.conds.length<=8/\r.acts.length<=8:=by
    simp only[Bool.and_eq_true,decide_eq_true_eq]at U;exact⟨U.2.2.2.1,U.2.2.2.2⟩
  rw[CQ (rules:=rules) hN hr.conds an r.conds.length 0 N 0 0 an an an an,List.drop_zero];obtain⟨q,x,y⟩:=Ei types r.conds 0 0;cases q with
  |false=>exact⟨x,y,by simp only[Bool.false_eq_true,if_false];rw[MC];rfl⟩
  | true=>
    refine⟨x,y,?_⟩;simp only[if_true];rw[ud];simp only[Bool.true_and];by_cases c1:r.vars=x
    ·rw [br c1];by_cases c2:x<=16
     ·rw [br c2];unfold Q3g Q45
      rw [VU (l:=r.acts) (p:=λz=>!Im types x y z) (λi hi=>by
       unfold WZ Q4F;rw[br hi,List.getElem?_eq_getElem hi,Q1,Si hN (hr.acts _ (List.getElem_mem hi)),Q1,Q1];by_cases hb:(!Im types x y r.acts[i])=true;· rw[if_pos hb,if_pos hb]
       · rw[if_neg hb,if_neg hb,QM an]) (by
       unfold WZ;rw[if_neg ax]) r.acts.length 0 N an an,Q1,Q1,List.drop_zero,XI,xl]
      rw[decide_eq_true ⟨c1,c2⟩,Bool.true_and]
     · rw[bs c2,decide_eq_false (λh=>c2 h.2),Bool.false_and]
    · rw[bs c1,decide_eq_false (λh=>c1 h.1),Bool.false_and]
 ·have hgf:(kJ r.name&&decide (-1000<=r.salience/\r.salience<=1000/\r.conds.length<=8/\r.acts.length<=8))=false:=by simpa only[Bool.not_eq_true]using U
  rw[hgf,if_pos It,Bool.false_and];exact⟨0,0,rfl⟩
end
section
open Go Go.RowKit
theorem Nf {N N':Nat} {op:Int} {l:List V} (hN:9223372036854775808<=N)(hN':9223372036854775808<=N'):BR N op l=BR N' op l:=by
 by_cases h2:l.length<=2
 ·have e:fk (BN N l) N (0,false)=fk (BN N' l) N' (0,false):=by
   have e1:BN N l=BN N' l:=rfl;rcases Nat.le_total N N' with h|h
   ·rcases mW hN h2 with⟨b,U⟩|U;· rw[U];exact(XJ (by rw[e1]at U;exact U) h).symm
    · rw[U];exact(XJ (by rw[e1]at U;exact U) h).symm
   ·rcases mW hN' h2 with⟨b,U⟩|U;· rw[U];exact XJ (by rw[<-e1]at U;exact U) h
    · rw[U];exact XJ (by rw[<-e1]at U;exact U) h
  unfold BR;rw[e];rfl
 ·unfold BR;rw[(EA N op).1,(EA N' op).1,Q1,Q1,CJ];have U:op<1\/op>11\/l.length≠(if op=4\/op=11 then 1 else 2):=.inr (.inr (by split<;>omega));rw[Q1,Q1,br U,br U]
theorem Ya:∀(m N U:Nat) (e:Q4) (vars:List V),cw e->nodes e<=m->m<=1000->9223372036854775808+m<=N->9223372036854775808+m<=U->(∀v∈vars,pO v)->vars.length<=1000000->
   at_ (wT N) vars e=at_ (wT U) vars e:=by
 intro m;induction m with
 | zero=>
   intro N U e vars _ hn;rw[MM]at hn;omega
 | succ m ih=>
   intro N U e vars cn hn hm hN hN' hv K2;obtain⟨N,rfl⟩:∃k,N=k+1:=⟨N-1,an⟩
   obtain⟨U,rfl⟩:∃k,U=k+1:=⟨U-1,an⟩
   obtain⟨k,v,x,o,kids⟩:=e;have Ca:9223372036854775808<=N:=an
   have Nx:9223372036854775808<=U:=an
   rw[MM]at hn;simp only at hn;show P2 N (wT N) k v.k v.n v.s x o kids vars=P2 U (wT U) k v.k v.n v.s x o kids vars;unfold P2;by_cases k3:k=3
   ·subst k3;simp only[show((3:Int)==3)=true from rfl,if_true,show((3:Int)==1)=false from rfl,show((3:Int)==2)=false from rfl,Bool.false_eq_true,if_false];unfold Xk Xu;have jL:kids.length<=1000000:=by have:=VW kids;omega
    rw[Un Ca jL,Un Nx jL];obtain⟨h4,g4⟩:=Fb cn;simp only at h4 g4
    have ef:mq (at_ (wT N) vars) kids []=mq (at_ (wT U) vars) kids []:=by
     have:∀(l:List Q4) (acc:List V),(∀y∈l,y∈kids)->mq (at_ (wT N) vars) l acc=mq (at_ (wT U) vars) l acc:=by
      intro l;induction l with
      |nil=>intro acc _;rfl
      | cons y l ihl=>
        intro acc hy;have hyk:=hy y ax;unfold mq;rw[ih N U y vars (g4 y hyk) (by have:=RV hyk;omega) an an an hv K2];congr 1;funext ⟨a,b,c,e⟩;simp only;rw[ihl _ (λz hz=>hy z (by simp[hz]))]
     exact this kids [] (λy hy=>hy)
    rw[ef];congr 1;congr 1;funext ⟨a,b⟩;simp only;split;· rfl
    · rw[Nf Ca Nx]
   ·have b3:(k==3)=false:=by simpa using k3
    simp only[b3,Bool.false_eq_true,if_false];rfl
end
section
open Go Go.RowKit
theorem Ui {z:Int} {h:List Bool}:(if decide (z>=0)=true then some (decide (z<((h.length:Nat):Int)))else some false)=some (decide (0<=z/\z<((h.length:Nat):Int))):=by
 by_cases h0:0<=z;· rw[br h0];simp[h0]
 · rw[bs h0];simp[h0]
theorem SI (N:Nat) {a:eN} {x:V} {hs:List Bool} {vs:List V} (hl:hs.length=vs.length):
  ∃h' v',X3 N hs vs a.k a.var a.v.k a.v.n a.v.s x.k x.n x.s=some ((Hy a x hs vs).isSome,h',v')/\∀p,Hy a x hs vs=some p->p=(h',v'):=by
 unfold X3 Hy;rw[Ui,Q1];have ev:(⟨a.v.k,a.v.n,a.v.s⟩:V)=a.v:=rfl;have ex:(⟨x.k,x.n,x.s⟩:V)=x:=rfl;rw[ev,ex];by_cases k1:a.k=1
 ·rw[br k1,if_pos k1];exact⟨hs,vs,rfl,λp h=>(Option.some.inj h).symm⟩
 rw[bs k1,if_neg k1];by_cases k4:a.k=4
 ·rw[br k4,if_pos k4];by_cases hv:a.v=x
  ·rw[if_pos hv,decide_eq_true hv];exact⟨hs,vs,rfl,λp h=>(Option.some.inj h).symm⟩
  ·rw[if_neg hv,decide_eq_false hv];exact⟨hs,vs,rfl,λp h=>by cases h⟩
 rw[bs k4,if_neg k4];by_cases U:0<=a.var/\a.var<((hs.length:Nat):Int)
 ·have g1:a.var.toNat<hs.length:=an
  have g2:a.var.toNat<vs.length:=an
  rw[decide_eq_true U];by_cases k3:a.k=3
  ·rw [br k3,if_pos k3,if_pos rfl,QM U.1,List.getElem?_eq_getElem g1,Q1,List.getElem?_eq_getElem g2];by_cases hb:hs[a.var.toNat]=true
   ·rw[if_pos hb,QM U.1,Q1];by_cases hv:vs[a.var.toNat]=x
    ·rw[if_pos ⟨U.1,U.2,by rw[hb],by rw[hv]⟩,decide_eq_true hv];exact⟨hs,vs,rfl,λp h=>(Option.some.inj h).symm⟩
    ·rw[if_neg (λh=>hv (Option.some.inj h.2.2.2)),decide_eq_false hv];exact⟨hs,vs,rfl,λp h=>by cases h⟩
   ·rw[if_neg hb,if_neg (λh=>hb (Option.some.inj h.2.2.1))];exact⟨hs,vs,rfl,λp h=>by cases h⟩
  ·rw[bs k3,if_neg k3];by_cases k2:a.k=2
   ·unfold Q3y;rw[br k2,if_pos k2,if_pos rfl,QM U.1,List.getElem?_eq_getElem g1,Q1,QM U.1,List.getElem?_eq_getElem g2,Q1,Q1,if_pos U];exact⟨_,_,rfl,λp h=>(Option.some.inj h).symm⟩
   ·rw[bs k2,if_neg k2];exact⟨hs,vs,rfl,λp h=>by cases h⟩
 ·rw [decide_eq_false U];by_cases k3:a.k=3
  ·rw[br k3,if_pos k3,if_neg ax,if_neg (λh=>U ⟨h.1,h.2.1⟩)];exact⟨hs,vs,rfl,λp h=>by cases h⟩
  ·rw[bs k3,if_neg k3];by_cases k2:a.k=2
   ·unfold Q3y;rw[br k2,if_pos k2,if_neg ax,Q1,if_neg U];exact⟨hs,vs,rfl,λp h=>by cases h⟩
   ·rw[bs k2,if_neg k2];exact⟨hs,vs,rfl,λp h=>by cases h⟩
def G0:List eN->List V->List Bool->List V->Option (List Bool×List V)
 |[],_,hs,vs=>some (hs,vs)
 |_::_,[],_,_=>none
 | a::al,x::xs,hs,vs=>match Hy a x hs vs with
   |some p=>G0 al xs p.1 p.2
   |none=>none
theorem rW:∀{al:List eN} {xs:List V} {hs:List Bool} {vs:List V} {p:List Bool×List V},G0 al xs hs vs=some p->p.1.length=hs.length/\p.2.length=vs.length
 |[],_,hs,vs,p,h=>by cases h;exact⟨rfl,rfl⟩
 |_::_,[],_,_,_,h=>by cases h
 | a::al,x::xs,hs,vs,p,h=>by
   unfold G0 at h;split at h
   ·rename_i q hq;have h1:=sF (h':=q.1) (vs':=q.2) hq;have U:=rW h;exact⟨U.1.trans h1.1,U.2.trans h1.2⟩
   · cases h
theorem Gb {N:Nat} {al:List eN} {xs:List V} (hlen:al.length=xs.length)(Gs:al.length<=1000000):∀(m i fuel:Nat)(hs:List Bool)(vs:List V),i+m=al.length->m<fuel->hs.length=vs.length->
   ∃a b,fk (RB N al xs) fuel (i,hs,vs)=some (if(G0 (al.drop i) (xs.drop i) hs vs).isSome=true then .inl (a,b)else .inr ([],[],false))/\∀p,G0 (al.drop i) (xs.drop i) hs vs=some p->p=(a,b):=by
 intro m;induction m with
 | zero=>
   intro i fuel hs vs hi hf hl;obtain⟨fuel,rfl⟩:∃q,fuel=q+1:=⟨fuel-1,an⟩
   obtain rfl:i=al.length:=an
   refine⟨hs,vs,?_,λp h=>?_⟩
   · rw[uf (o:=.inl (hs,vs)) (by unfold RB;simp only;rw[if_neg ax]),List.drop_length];simp[G0]
   · rw[List.drop_length]at h;cases h;rfl
 | succ m ih=>
   intro i fuel hs vs hi hf hl;obtain⟨fuel,rfl⟩:∃q,fuel=q+1:=⟨fuel-1,an⟩
   have h1:i<al.length:=an
   have h2:i<xs.length:=an
   obtain⟨h',v',JL,hp⟩:=SI N (a:=al[i]) (x:=xs[i]) hl;rw[List.drop_eq_getElem_cons h1,List.drop_eq_getElem_cons h2]
   have U:RB N al xs (i,hs,vs)=if(Hy al[i] xs[i] hs vs).isSome=true then some (.inl (i+1,h',v'))else some (.inr (.inr ([],[],false))):=by
     unfold RB;simp only;rw[br h1,List.getElem?_eq_getElem h1,Q1,List.getElem?_eq_getElem h2,Q1,JL,Q1];cases(Hy al[i] xs[i] hs vs).isSome with
     |true=>simp only[Bool.not_true,Bool.false_eq_true,if_false,if_true];rw[QM an]
     |false=>simp only[Bool.not_false,if_true,Bool.false_eq_true,if_false]
   unfold G0;cases hq:Hy al[i] xs[i] hs vs with
   | some q=>
     have hq2:=hp q hq;subst hq2;have ES:=sF hq;rw[hq]at U;simp only[Option.isSome_some,if_true]at U;rw[I4 U];exact ih (i+1) fuel h' v' an an an
   | none=>
     rw[hq]at U;simp only[Option.isSome_none,Bool.false_eq_true,if_false]at U;refine⟨[],[],?_,λp h=>by cases h⟩;rw[uf U];simp
def vL (hs:List Bool)(vs:List V):Bool:=hs.length==vs.length&&(hs.zip vs).all λp=>p.1||decide (p.2=xa)
theorem O5 {N:Nat} (hN:1000001<=N) {hs:List Bool} {vs:List V} (hh:hs.length<=1000000):Xe N hs vs=some (vL hs vs):=by
 unfold Xe vL;by_cases hl:hs.length=vs.length
 ·rw [if_neg (by simp[hl]),show(hs.length==vs.length)=true from by simpa using hl,Bool.true_and]
  have key:∀(m i fuel:Nat),i+m=hs.length->m<fuel->fk (RG N hs vs) fuel i=some (if((hs.drop i).zip (vs.drop i)).all (λp=>p.1||decide (p.2=xa))=true then .inl ()else .inr false):=by
   intro m;induction m with
   | zero=>
     intro i fuel hi hf;obtain⟨fuel,rfl⟩:∃q,fuel=q+1:=⟨fuel-1,an⟩
     obtain rfl:i=hs.length:=an
     rw[uf (o:=.inl ()) (by unfold RG;rw[if_neg ax]),List.drop_length];simp
   | succ m ih=>
     intro i fuel hi hf;obtain⟨fuel,rfl⟩:∃q,fuel=q+1:=⟨fuel-1,an⟩
     have h1:i<hs.length:=an
     have h2:i<vs.length:=an
     have U:RG N hs vs i=if(hs[i]||decide (vs[i]=xa))=true then some (.inl (i+1))else some (.inr (.inr false)):=by
      unfold RG;rw[br h1,List.getElem?_eq_getElem h1,Q1];cases hb:hs[i]with
      |true=>simp only[Bool.not_true,Bool.false_eq_true,if_false,Bool.true_or,if_true];rw[Q1,if_neg ax,QM an]
      | false=>
        simp only[Bool.not_false,if_true,Bool.false_or];rw[List.getElem?_eq_getElem h2,Q1,Q1];by_cases hz:vs[i]=xa
        ·have NU:vs[i]=(⟨0,0,(⟨#[]⟩:ByteArray)⟩:V):=hz;rw[if_neg (show¬(!decide (vs[i]=(⟨0,0,(⟨#[]⟩:ByteArray)⟩:V)))=true from by simp[NU]),QM an,br hz]
        ·have NU:¬vs[i]=(⟨0,0,(⟨#[]⟩:ByteArray)⟩:V):=hz;rw[if_pos (show(!decide (vs[i]=(⟨0,0,(⟨#[]⟩:ByteArray)⟩:V)))=true from by simpa using NU),bs hz]
     rw[List.drop_eq_getElem_cons h1,List.drop_eq_getElem_cons h2,List.zip_cons_cons,List.all_cons];by_cases hb:(hs[i]||decide (vs[i]=xa))=true
     ·rw[if_pos hb]at U;rw[I4 U,ih (i+1) fuel an an];simp only[hb,Bool.true_and]
     ·rw[if_neg hb]at U;rw[uf U];simp only[Bool.not_eq_true]at hb;simp only[hb,Bool.false_and,Bool.false_eq_true,if_false]
  rw[key hs.length 0 N an an,List.drop_zero,List.drop_zero];cases((hs.zip vs).all λp=>p.1||decide (p.2=xa))with
  |true=>rfl
  |false=>rfl
 · rw[br hl,show(hs.length==vs.length)=false from by simpa using hl,Bool.false_and]
def Ek (c:Qp)(f:Qq)(hs:List Bool)(vs:List V):Option (List Bool×List V):=
 if(c.kind=1\/c.kind=2)/\c.type=f.ty/\c.args.length=f.args.length/\vL hs vs=true then G0 c.args f.args hs vs else none
theorem Kf {N:Nat} (hN:9223372036854775808<=N) {c:Qp} {f:Qq} {hs:List Bool} {vs:List V} (hh:hs.length<=1000)(hv:vs.length<=1000)(ha:c.args.length<=1000000):
  ∃a b,LM N c.kind c.type c.args c.test.kind c.test.value.k c.test.value.n c.test.value.s c.test.var c.test.op c.test.kids f.id f.ty f.args hs vs=some (a,b,(Ek c f hs vs).isSome)/\∀p,Ek c f hs vs=some p->p=(a,b)/\a.length=hs.length/\b.length=vs.length:=by
 unfold LM
 have e12:(if(c.kind==1)=true then some true else some (c.kind==2))=some (decide (c.kind=1\/c.kind=2)):=by
  by_cases h:c.kind=1;· simp[h]
  · rw[bs h];congr 1;rw[Bool.eq_iff_iff];simp[h]
 rw[e12,Q1]
 have HI:Q5j N (decide (c.kind=1\/c.kind=2)) c.type f.ty c.args f.args hs vs=some (!(decide ((c.kind=1\/c.kind=2)/\c.type=f.ty/\c.args.length=f.args.length/\vL hs vs=true))):=by
  unfold Q5j;by_cases h1:c.kind=1\/c.kind=2
  · rw[decide_eq_true h1,if_neg ax];by_cases U:c.type=f.ty
    ·rw[bs U];by_cases h3:c.args.length=f.args.length
     ·rw[bs h3,O5 an an,Q1];congr 2;rw[Bool.eq_iff_iff];simp[h1,U,h3]
     · rw[br h3,decide_eq_false (λh=>h3 h.2.2.1)];rfl
    · rw[br U,decide_eq_false (λh=>U h.2.1)];rfl
  · rw[decide_eq_false h1,if_pos (show(!false)=true from rfl),decide_eq_false (λh=>h1 h.1)];rfl
 rw[HI,Q1];unfold Ek;by_cases hg:(c.kind=1\/c.kind=2)/\c.type=f.ty/\c.args.length=f.args.length/\vL hs vs=true
 ·have hl:hs.length=vs.length:=by
    have:=hg.2.2.2;unfold vL at this;simp only[Bool.and_eq_true,beq_iff_eq]at this;exact this.1
  rw[decide_eq_true hg,if_neg ax,if_pos hg];unfold Q8V;rw[QM an,QM an,Q1];obtain⟨a,b,h1,U⟩:=Gb (N:=N) hg.2.2.1 ha c.args.length 0 N hs vs an an hl;rw[List.drop_zero,List.drop_zero]at h1 U;rw[h1];cases hq:G0 c.args f.args hs vs with
  | some p=>
    have hp:=U p hq;have hlen:=rW hq;refine⟨a,b,by simp only[Option.isSome_some,if_true];rw[ud],λp' h=>?_⟩;cases h;refine⟨hp,?_,?_⟩;· rw[hp]at hlen;exact hlen.1
    · rw[hp]at hlen;exact hlen.2
  | none=>
    refine⟨[],[],by simp only[Option.isSome_none,Bool.false_eq_true,if_false];rw[MC],λp h=>by cases h⟩
 ·rw[decide_eq_false hg,if_pos (show(!false)=true from rfl),if_neg hg];exact⟨[],[],rfl,λp h=>by cases h⟩
end
section
open Go Go.RowKit
abbrev N0:Nat:=9223372036855775808
def Dq:Option Ij->Bool
 |some (k,n,_,e)=>e==0&&(k==1&&n !=0)
 |none=>false
def j4 (facts:List Qq):Er:=⟨λc hs vs f=>Ek c f hs vs,λc vs=>Dq (at_ (wT N0) vs c.test),λc hs vs=>facts.any λf=>(Ek c f hs vs).isSome⟩
def Rw (hs:List Bool)(vs:List V):Prop:=hs.length=vs.length/\vs.length<=16/\∀v∈vs,pO v
theorem Gk {a:eN} {x:V} {hs:List Bool} {vs:List V} {p:List Bool×List V} (hx:pO x)(U:∀v∈vs,pO v)(h:Hy a x hs vs=some p):∀v∈p.2,pO v:=by
 unfold Hy at h;split at h;· cases h;exact U
 ·split at h
  ·split at h;· cases h;exact U
   · cases h
  ·split at h
   ·split at h;· cases h;exact U
    · cases h
   ·split at h
    ·split at h
     ·cases h;intro v hm;rcases List.mem_or_eq_of_mem_set hm with hm|rfl;· exact U v hm
      · exact hx
     · cases h
    · cases h
theorem vk:∀{al:List eN} {xs:List V} {hs:List Bool} {vs:List V} {p:List Bool×List V},(∀x∈xs,pO x)->(∀v∈vs,pO v)->G0 al xs hs vs=some p->∀v∈p.2,pO v
 |[],_,hs,vs,p,_,U,h=>by cases h;exact U
 |_::_,[],_,_,_,_,_,h=>by cases h
 | a::al,x::xs,hs,vs,p,hx,U,h=>by
   unfold G0 at h;split at h
   ·rename_i q hq;exact vk (λy hy=>hx y (List.mem_cons_of_mem _ hy)) (Gk (hx x List.mem_cons_self) U hq) h
   · cases h
theorem GO {c:Qp} {f:Qq} {hs:List Bool} {vs:List V} {p:List Bool×List V} (U:∀x∈f.args,pO x)(hv:∀v∈vs,pO v)(h:Ek c f hs vs=some p):∀v∈p.2,pO v:=by
 unfold Ek at h;split at h;· exact vk U hv h
 · cases h
end
section
open Go Go.RowKit
theorem Ir {σ:Type} {f:Nat×σ->Option ((Nat×σ)⊕(Unit⊕Bool))} {n:Nat} {p:Nat->Bool} (step:∀i s,i<n->∃s',f (i,s)=if p i=true then some (.inl (i+1,s'))else some (.inr (.inr false)))(stop:∀s,f (n,s)=some (.inr (.inl ()))):
   ∀(m i fuel:Nat) (s:σ),i+m=n->m<fuel->fk f fuel (i,s)=some (if(List.range' i m).all p=true then .inl ()else .inr false):=by
 intro m;induction m with
 | zero=>
   intro i fuel s hi U;obtain⟨fuel,rfl⟩:∃q,fuel=q+1:=⟨fuel-1,an⟩
   obtain rfl:i=n:=an
   rw[uf (stop s)];rfl
 | succ m ih=>
   intro i fuel s hi U;obtain⟨fuel,rfl⟩:∃q,fuel=q+1:=⟨fuel-1,an⟩
   obtain⟨s',hs⟩:=step i s an;rw[List.range'_succ,List.all_cons];by_cases hp:p i=true
   ·rw[if_pos hp]at hs;rw[I4 hs,ih (i+1) fuel s' an an,hp,Bool.true_and]
   ·rw[if_neg hp]at hs;rw[uf hs,if_neg (by simp[hp])]
theorem G9 {f:Nat->Option (Nat⊕(Unit⊕Bool))} {n:Nat} {p:Nat->Bool} (step:∀i,i<n->f i=if p i=true then some (.inl (i+1))else some (.inr (.inr false)))(stop:f n=some (.inr (.inl ()))):
   ∀(m i fuel:Nat),i+m=n->m<fuel->fk f fuel i=some (if(List.range' i m).all p=true then .inl ()else .inr false):=by
 intro m;induction m with
 | zero=>
   intro i fuel hi U;obtain⟨fuel,rfl⟩:∃q,fuel=q+1:=⟨fuel-1,an⟩
   obtain rfl:i=n:=an
   rw[uf stop];rfl
 | succ m ih=>
   intro i fuel hi U;obtain⟨fuel,rfl⟩:∃q,fuel=q+1:=⟨fuel-1,an⟩
   have hs:=step i an;rw[List.range'_succ,List.all_cons];by_cases hp:p i=true
   ·rw[if_pos hp]at hs;rw[I4 hs,ih (i+1) fuel an an,hp,Bool.true_and]
   ·rw[if_neg hp]at hs;rw[uf hs,if_neg (by simp[hp])]
theorem O1 {N:Nat} {types:List Q7} {rules:List Qa} {a b:Int} {s:ByteArray} (hN:9223372036854775808<=N)(hl:types.length<=1000000):
  Xb N types rules a b s=some (BW (λt=>t.name.toList==s.toList) types 0):=by
 unfold Xb Q3Q
 rw [VU (l:=types) (p:=λt=>t.name.toList==s.toList) (λi hi=>by
  unfold WY Q4z;rw[br hi,List.getElem?_eq_getElem hi,Q1,Q1];by_cases U:(types[i].name.toList==s.toList)=true;· rw[if_pos U,if_pos U]
  · rw[if_neg U,if_neg U,QM an]) (by
  unfold WY;rw[if_neg ax]) types.length 0 N an an,Q1,List.drop_zero]
theorem Oq {N:Nat} {types:List Q7} {rules:List Qa} {a b:Int} {s:ByteArray} (hN:9223372036854775808<=N)(hl:rules.length<=1000000):
  Xc N types rules a b s=some (BW (λt=>t.name.toList==s.toList) rules 0):=by
 unfold Xc Q3P
 rw [VU (l:=rules) (p:=λt=>t.name.toList==s.toList) (λi hi=>by
  unfold WW Q4A;rw[br hi,List.getElem?_eq_getElem hi,Q1,Q1];by_cases U:(rules[i].name.toList==s.toList)=true;· rw[if_pos U,if_pos U]
  · rw[if_neg U,if_neg U,QM an]) (by
  unfold WW;rw[if_neg ax]) rules.length 0 N an an,Q1,List.drop_zero]
noncomputable def FH (types:List Q7)(i:Nat):Bool:=match types[i]? with
 |some t=>kJ t.name&&(decide (0<=t.fields/\t.fields<=6)&&BW (λx=>x.name.toList==t.name.toList) types 0==((i:Nat):Int))
 |none=>false
noncomputable def w8 (types:List Q7)(rules:List Qa)(i:Nat):Bool:=match rules[i]? with
 |some r=>BW (λx=>x.name.toList==r.name.toList) rules 0==((i:Nat):Int)&&pj types r
 |none=>false
noncomputable def LQ (types:List Q7)(rules:List Qa):Bool:=
 decide (types.length<=32/\rules.length<=64)&&((List.range' 0 types.length).all (FH types)&&(List.range' 0 rules.length).all (w8 types rules))
theorem Q9V {N:Nat} {types:List Q7} {rules:List Qa} (hN:9223372036854775808+1000000<=N) (hr:∀r∈rules,I1 r):Mz N types rules=some (LQ types rules):=by
  unfold Mz LQ;by_cases h1:32<types.length;· rw[br h1,Q1,if_pos rfl,decide_eq_false an];rfl
  · rw [bs h1,Q1];by_cases h2:64<rules.length;· rw[br h2,decide_eq_false an];rfl
    · rw [bs h2,decide_eq_true ⟨an,an⟩,Bool.true_and]
      rw [G9 (f:=VI N types rules) (n:=types.length) (p:=FH types) (λi hi=>by
        unfold VI FH;rw[br hi,List.getElem?_eq_getElem hi,Q1]
        have hc:Q6b N types[i] types rules i=some (!(kJ types[i].name&&(decide (0<=types[i].fields/\types[i].fields<=6)&&BW (λx=>x.name.toList==types[i].name.toList) types 0==((i:Nat):Int)))):=by
          unfold Q6b;rw[AF,Q1];cases kJ types[i].name with
          |false=>rfl
          | true=>
            rw[if_neg ax,Bool.true_and];by_cases c1:types[i].fields<0;· rw[br c1,decide_eq_false an];rfl
            · rw[bs c1];by_cases c2:types[i].fields>6;· rw[br c2,decide_eq_false an];rfl
              · rw[bs c2,O1 an an,Q1,decide_eq_true ⟨an,an⟩,Bool.true_and];rfl
        rw[hc,Q1];simp only;by_cases U:(kJ types[i].name&&(decide (0<=types[i].fields/\types[i].fields<=6)&&BW (λx=>x.name.toList==types[i].name.toList) types 0==((i:Nat):Int)))=true;· rw[if_neg (by rw[U];simp),if_pos U,QM an]
        · rw[if_pos (by simpa only[Bool.not_eq_true',Bool.not_eq_true]using U),if_neg U]) (by
        unfold VI;rw[if_neg ax]) types.length 0 N an an]
      cases(List.range' 0 types.length).all (FH types)with
      |false=>rfl
      | true=>
        rw[if_pos rfl,ud,Bool.true_and]
        rw [Ir (f:=VJ N rules types) (n:=rules.length) (p:=w8 types rules) (λi s hi=>by
          obtain⟨s1,s2⟩:=s;unfold VJ w8;simp only;rw[br hi,List.getElem?_eq_getElem hi,Q1,Oq an an,Q1];simp only;by_cases U:(BW (λx=>x.name.toList==rules[i].name.toList) rules 0==((i:Nat):Int))=true
          · have sS:(BW (λx=>x.name.toList==rules[i].name.toList) rules 0 != ((i:Nat):Int))=false:=by unfold bne;rw[U];rfl
            simp only[sS,Bool.false_eq_true,if_false,U,Bool.true_and];obtain⟨x,y,hw⟩:=Lv (rules:=rules) (types:=types) (a:=s1) (b:=s2) hN (hr _ (List.getElem_mem hi));rw[hw,Q1];simp only;rw[Q1];simp only;cases pj types rules[i]with
            |true=>exact⟨(x,y),by rw[if_neg ax,if_pos rfl,QM an]⟩
            |false=>exact⟨(x,y),by rw[if_pos It,if_neg ax]⟩
          · have Mc:(BW (λx=>x.name.toList==rules[i].name.toList) rules 0==((i:Nat):Int))=false:=by simpa only[Bool.not_eq_true]using U
            have sS:(BW (λx=>x.name.toList==rules[i].name.toList) rules 0 !=((i:Nat):Int))=true:=by unfold bne;rw[Mc];rfl
            simp only[sS,if_true,Mc,Bool.false_and,Q1,Bool.false_eq_true,if_false];exact⟨(s1,s2),trivial⟩) (λs=>by
          unfold VJ;obtain⟨s1,s2⟩:=s;simp only;rw[if_neg ax]) rules.length 0 N (0,0) an an]
        cases(List.range' 0 rules.length).all (w8 types rules)<;>rfl
theorem AZ {types:List Q7} {rules:List Qa} (h:LQ types rules=true):rules.length<=64/\∀r∈rules,r.conds.length<=8:=by
 unfold LQ at h;simp only[Bool.and_eq_true,decide_eq_true_eq]at h;refine⟨h.1.2,λr hr=>?_⟩;obtain⟨i,hi,rfl⟩:=List.getElem_of_mem hr;have U:=List.all_eq_true.1 h.2.2 i (by simp[List.mem_range'_1];exact hi);unfold w8 at U;rw[List.getElem?_eq_getElem hi]at U;simp only[Bool.and_eq_true]at U;have h6:=U.2;unfold pj at h6;simp only[Bool.and_eq_true,decide_eq_true_eq]at h6;exact h6.1.2.2.2.1
noncomputable def xe (types:List Q7)(last:Int)(f:Qq):Bool:=
 decide (last<f.id/\f.id<=1099511627776)&&(rM types f.ty ((f.args.length:Nat):Int)&&f.args.all oa)
noncomputable def zh (types:List Q7):Int->List Qq->Bool
 |_,[]=>true
 |last,f::l=>xe types last f&&zh types f.id l
theorem Ur (N:Nat)(a:Int):∃hs vs,P3 N a=some (hs,vs)/\Rw hs vs:=by
 unfold P3;by_cases c1:a<0
 ·rw[br c1,Q1,if_pos rfl];exact⟨[],[],rfl,rfl,ax,ax⟩
 ·rw[bs c1,Q1];by_cases c2:a>16
  ·rw[br c2];exact⟨[],[],rfl,rfl,ax,ax⟩
  ·rw[bs c2,QM an,QM an,QM an,QM an];refine⟨_,_,rfl,ax,by simp;omega,λv U=>?_⟩;rw[(List.mem_replicate.1 U).2];unfold pO dm;exact⟨⟨ax,ax⟩,Nat.zero_le _⟩
end
section
open Go Go.RowKit
def ix (a:Int):List Bool×List V:=if 0<=a/\a<=16 then(List.replicate a.toNat false,List.replicate a.toNat ⟨0,0,⟨#[]⟩⟩)else([],[])
theorem F9 (N:Nat)(a:Int):P3 N a=some (ix a)/\Rw (ix a).1 (ix a).2:=by
 have h1:P3 N a=some (ix a):=by
  unfold P3 ix;by_cases c1:a<0;· rw[br c1,Q1,if_pos rfl,if_neg an]
  ·rw[bs c1,Q1];by_cases c2:a>16;· rw[br c2,if_neg an]
   · rw[bs c2,QM an,QM an,QM an,QM an,if_pos an]
 refine⟨h1,?_⟩;obtain⟨hs,vs,U,h3⟩:=Ur N a;rw[h1]at U;rw[Option.some.inj U];exact h3
noncomputable section
def Pv (facts:List Qq)(r:Qa):Nat:=yR (j4 facts) facts r.conds (ix r.vars).1 (ix r.vars).2
def YC (facts:List Qq)(r:Qa):List (List Int×List V):=goN (j4 facts) facts r.conds (ix r.vars).1 (ix r.vars).2 []
def iV (facts:List Qq):List Qa->Nat->List QA
 |[],_=>[]
 |r::l,i=>(YC facts r).map (Rm ((i:Nat):Int))++iV facts l (i+1)
def jz (facts:List Qq):List Qa->Nat
 |[]=>0
 |r::l=>Pv facts r+jz facts l
end
end
section
open Go Go.RowKit Classical
theorem B5 {N:Nat} {l:List Q4} {rc:Int->Int->Int->ByteArray->Int->Int->(List Q4)->Option (List Q4)} (hl:l.length<=1759218604390)(U:∀x∈l,rc x.kind x.value.k x.value.n x.value.s x.var x.op x.kids=some x.kids):
   ∀(k i fuel:Nat),i+k=l.length->k<fuel->fk (VM N l rc) fuel (i,l)=some l:=by
 intro k;induction k with
 | zero=>
   intro i fuel hi hf;obtain⟨fuel,rfl⟩:∃q,fuel=q+1:=⟨fuel-1,an⟩
   rw[uf];unfold VM;simp only;rw[if_neg (by simp;omega)]
 | succ k ih=>
   intro i fuel hi hf;obtain⟨fuel,rfl⟩:∃q,fuel=q+1:=⟨fuel-1,an⟩
   have h1:i<l.length:=an
   rw[I4 (s':=(i+1,l))];· exact ih (i+1) fuel an an
   ·unfold VM;simp only;rw[br h1,List.getElem?_eq_getElem h1,Q1,U _ (List.getElem_mem h1),Q1,Q1,QM an];congr 2;have e:(⟨l[i].kind,l[i].value,l[i].var,l[i].op,l[i].kids⟩:Q4)=l[i]:=by cases l[i];rfl
    rw[e,List.set_getElem_self]
theorem H3:∀(m N:Nat)(e:Q4),nodes e<=m->9223372036854775808+m<=N->nodes e<=1759218604390->VS N e.kind e.value.k e.value.n e.value.s e.var e.op e.kids=some e.kids:=by
 intro m;induction m with
 |zero=>intro N e h;rw[MM]at h;omega
 | succ m ih=>
   intro N e hn hN hb;obtain⟨N,rfl⟩:∃k,N=k+1:=⟨N-1,an⟩
   rw[MM]at hn hb;have hk:=VW e.kids;show Xn N (VS N) e.kind e.value.k e.value.n e.value.s e.var e.op e.kids=some e.kids;unfold Xn;rw[QM an,B5 an (λx U=>ih N x (by have:=RV U;omega) an (by have:=RV U;omega)) e.kids.length 0 N an an,Q1]
theorem Gf {N:Nat} {c:Qp} (U:9223372036854775808+1000000<=N)(ha:c.args.length<=1000000)(ht:nodes c.test<=1000000):VO N c.kind c.type c.args c.test.kind c.test.value.k c.test.value.n c.test.value.s c.test.var c.test.op c.test.kids=some c.test.kids:=by
 unfold VO;rw[QM an,H3 1000000 N c.test ht U an,Q1]
section
variable {S:fh} {I:ew->Prop} {P:Qq->Prop} {C:fC} {loc:Loc} {s s':Q8} {facts:List Qq} {T:bx} {Ta:Nat->bx} {B:Nat->List Int->bx×bx} {Zo:Nat->Prop} {cj:Option Nat}
theorem Inv.frame (h:Inv S C T Ta B Zo cj loc s)(hs:∀b o,s b=some o->s' b=some o):Inv S C T Ta B Zo cj loc s':=by
 refine⟨?_,λr R hr=>?_,λr R k sc hr hk hz=>?_,λA hA=>?_,λp r π hp=>?_,h.inj,h.root,h.le⟩;· obtain⟨x,h1,U⟩:=h.net;exact⟨x,hs _ _ h1,U⟩
 · obtain⟨x,h1,U⟩:=h.row r R hr;exact⟨x,hs _ _ h1,U⟩
 ·have h0:=h.step r R k sc hr hk hz;unfold im at h0⊢;split at h0;· obtain⟨x,h1,U⟩:=h0;exact⟨x,hs _ _ h1,U⟩
  · obtain⟨x,h1,U⟩:=h0;exact⟨x,hs _ _ h1,U⟩
  · obtain⟨x,h1,U⟩:=h0;exact⟨x,hs _ _ h1,U⟩
 · obtain⟨x,h1,U⟩:=h.al A hA;exact⟨x,hs _ _ h1,U⟩
 · obtain⟨R,x,h1,U,h3⟩:=h.part p r π hp;exact⟨R,x,h1,hs _ _ U,h3⟩
def setAl (C:fC)(m:MS ByteArray Nat)(az:List HT):fC:={C with alphas:=m,als:=az}
theorem Inv.setAl {x:fo} {m:MS ByteArray Nat} {az:List HT} (h:Inv S C T Ta B Zo cj loc s)(hx:s C.g=some (.net x))(ha:∀A∈az,HU (Ta A.b) A (s A.b)):
  Inv S (setAl C m az) T Ta B Zo cj loc (cq s C.g (.net {x with alphas:=m})):=by
 have ne:∀b o,s b=some o->(∀z,o≠.net z)->(cq s C.g (.net {x with alphas:=m})) b=some o:=λb o h1 U=>by
  rw[QC (λe=>by rw[e,hx]at h1;cases h1;exact U _ rfl)];exact h1
 refine⟨?_,λr R hr=>?_,λr R k sc hr hk hz=>?_,λA hA=>?_,λp r π hp=>?_,h.inj,h.root,h.le⟩
 ·obtain⟨y,h1,a2,a3,a4,a5,a6,a7,a8⟩:=h.net;rw[hx]at h1;cases h1;exact⟨_,iQ _ _ _,a2,a3,a4,a5,rfl,a7,a8⟩
 · obtain⟨y,h1,U⟩:=h.row r R hr;exact⟨y,ne _ _ h1 (λ_ e=>by cases e),U⟩
 ·have h0:=h.step r R k sc hr hk hz;unfold im at h0⊢;split at h0;· obtain⟨y,h1,U⟩:=h0;exact⟨y,ne _ _ h1 (λ_ e=>by cases e),U⟩
  · obtain⟨y,h1,U⟩:=h0;exact⟨y,ne _ _ h1 (λ_ e=>by cases e),U⟩
  · obtain⟨y,h1,U⟩:=h0;exact⟨y,ne _ _ h1 (λ_ e=>by cases e),U⟩
 · obtain⟨y,h1,U⟩:=ha A hA;exact⟨y,ne _ _ h1 (λ_ e=>by cases e),U⟩
 · obtain⟨R,y,h1,U,h3⟩:=h.part p r π hp;exact⟨R,y,h1,ne _ _ U (λ_ e=>by cases e),h3⟩
structure Rp (C:fC) (n:Nat):Prop where
 A:Wf C
 keyed:∀k a,C.alphas.look k=some a->∃A∈C.als,A.b=a/\k.data.toList=AA A.kind A.args
 good:∀A∈C.als,dm A.kind/\(∀a∈A.args,rH a)/\A.args.length<=1000/\rM C.types A.kind ((A.args.length:Nat):Int)=true
 few:C.alphas.keys.length<=n
theorem DY {a:eN} {l:List eN}:j3 (l++[a])=j3 l++44::(x5 a.v).data.toList:=by
 unfold j3;rw[List.flatMap_append];simp
theorem Ko {l:List eN} (h:∀a∈l,pO a.v):∀a∈iT l,pO a.v:=λa U=>by
 unfold iT at U;obtain⟨b,hb,rfl⟩:=List.mem_map.1 U;split;· exact h b hb
 · exact⟨by show dm 0;unfold dm;omega,by show 0<=_;omega⟩
theorem Ev {N n:Nat} {c:Qp} {Q:Option Nat×Q8->Prop} (hN:9223372036854775808<=N)(h:Inv S C (eF []) (λ_=>eF []) B Zo cj loc s)(hK:Rp C n)(Dn:dm c.type)(Gs:c.args.length<=1000)(PM:∀a∈iT c.args,rH a)(jd:∀a∈c.args,pO a.v)(Ub:rM C.types c.type ((c.args.length:Nat):Int)=true)
  (hQ:∀m az A s',Inv S (setAl C m az) (eF []) (λ_=>eF []) B Zo cj loc s'->Rp (setAl C m az) (n+1)->A∈az->A.kind=c.type->A.args=iT c.args->(∀A'∈C.als,A'∈az)->(∀b o,b≠C.g->s b=some o->s' b=some o)->Q (some A.b,s')):
  OV N C.g c.kind c.type c.args c.test.kind c.test.value.k c.test.value.n c.test.value.s c.test.var c.test.op c.test.kids s Q:=by
 have hml:(iT c.args).length=c.args.length:=List.length_map _;obtain⟨xn,n1,n2,n3,n4,n5,n55,n6,n8,_⟩:=h.gNet;unfold OV;refine ux λga=>jv λg hg=>?_;have YZ:g≠C.g:=λe=>by rw[e,n2]at hg;cases hg
 refine lq λkj1 Mj=>?_
 have fin:∀p cc,kj1 (cq s g (.alpha ⟨c.type,iT c.args,p,cc,MS.nil,ga⟩)) Q:=λp cc=>by
  subst Mj
  have gN:Go.Proofs.YtocfkfhdcnjklaaGreatDoor.gNet (cq s g (.alpha ⟨c.type,iT c.args,p,cc,MS.nil,ga⟩)) C.g=some xn:=by
   unfold Go.Proofs.YtocfkfhdcnjklaaGreatDoor.gNet;rw[QC (Ne.symm YZ),n2]
  have sN:(cq s g (.alpha ⟨c.type,iT c.args,p,cc,MS.nil,ga⟩)) C.g=some (.net xn):=by rw[QC (Ne.symm YZ),n2]
  have keep:∀b o,s b=some o->(cq s g (.alpha ⟨c.type,iT c.args,p,cc,MS.nil,ga⟩)) b=some o:=λb o hb=>by
   rw[QC (λe=>by rw[e,hg]at hb;cases hb)];exact hb
  refine Qi (a:=⟨c.type,iT c.args,p,cc,MS.nil,ga⟩) (by unfold uh;rw[iQ]) ?_;refine fQ Dn ?_;refine lq λkj2 Mk=>?_
  have a0E:∀key:ByteArray,key.data.toList=AA c.type (iT c.args)->kj2 key Q:=λkey qm=>by
   subst Mk;refine lq λkj3 hk3=>?_
   refine lq λkj4 TW=>?_;refine Qi gN ?_;refine ye (λmJ=>?_) (λa ha=>?_)
   ·subst TW;refine jr rfl ?_;refine Qi gN ?_;refine lV ?_;subst hk3;refine Qi (a:={xn with alphas:=MS.put xn.alphas key g}) (by unfold Go.Proofs.YtocfkfhdcnjklaaGreatDoor.gNet;rw[iQ]) ?_;refine DE (a:=g) (by rw[MS.look_put,if_pos rfl]) ?_;have a15:C.alphas.look key=none:=by rw[<-n6];exact mJ
    have YM:HU (eF []) ⟨g,c.type,iT c.args⟩ (cq s g (.alpha ⟨c.type,iT c.args,p,cc,MS.nil,ga⟩) g):=⟨_,iQ _ _ _,rfl,rfl,List.nodup_nil,λi=>rfl⟩
    have hinv:=(h.frame keep).setAl (m:=C.alphas.put key g) (az:=C.als++[⟨g,c.type,iT c.args⟩]) sN (λA U=>by
     rcases List.mem_append.1 U with U|U;· obtain⟨y,h1,h2⟩:=h.al A U;exact⟨y,keep _ _ h1,h2⟩
     · rw[List.mem_singleton.1 U];exact YM)
    have e6:(({xn with alphas:=MS.put xn.alphas key g}:fo))={xn with alphas:=C.alphas.put key g}:=by rw[n6]
    rw[e6];refine hQ _ _ ⟨g,c.type,iT c.args⟩ _ hinv ?_ (List.mem_append_right _ (List.mem_singleton.2 rfl)) rfl rfl (λA' uH=>List.mem_append_left _ uH) (λb o hb ho=>by rw[QC hb];exact keep b o ho);refine⟨⟨λk a ha=>?_,λA U=>?_⟩,λk a ha=>?_,λA U=>?_,?_⟩
    ·have Db:(C.alphas.put key g).look k=some a:=ha;rw[MS.look_put]at Db;split at Db;· cases Db;exact⟨_,List.mem_append_right _ (List.mem_singleton.2 rfl),rfl⟩
     · obtain⟨A,h1,h2⟩:=hK.A.ofKey k a Db;exact⟨A,List.mem_append_left _ h1,h2⟩
    ·rcases List.mem_append.1 U with U|U
     ·obtain⟨k,hk⟩:=hK.A.key A U;exact⟨k,by show(C.alphas.put key g).look k=_;rw[MS.look_put,if_neg (λe=>by rw[e,a15]at hk;cases hk)];exact hk⟩
     ·rw[List.mem_singleton.1 U];exact⟨key,by show(C.alphas.put key g).look key=_;rw[MS.look_put,if_pos rfl]⟩
    ·have Db:(C.alphas.put key g).look k=some a:=ha;rw[MS.look_put]at Db;split at Db
     ·rename_i e;cases Db;exact⟨_,List.mem_append_right _ (List.mem_singleton.2 rfl),rfl,by rw[e];exact qm⟩
     · obtain⟨A,h1,h2⟩:=hK.keyed k a Db;exact⟨A,List.mem_append_left _ h1,h2⟩
    ·rcases List.mem_append.1 U with U|U;· exact hK.good A U
     ·rw[List.mem_singleton.1 U];exact⟨Dn,PM,by show(iT c.args).length<=_;omega,by show rM C.types c.type (((iT c.args).length:Nat):Int)=true;rw[hml];exact Ub⟩
    ·show(C.alphas.put key g).keys.length<=n+1;rw[MS.keys_put_eq];have:=hK.few;split;· omega
     · rw[List.length_append,List.length_singleton];omega
   ·subst TW;refine zi rfl ?_;subst hk3;refine Qi gN ?_;refine DE ha ?_;rw[n6]at ha;obtain⟨A,pH,rfl,Ma⟩:=hK.keyed key a ha;rw[qm]at Ma;obtain⟨g1,g2,g3,g4⟩:=hK.good A pH;obtain⟨e1,e2⟩:=key_inj Dn g1 PM g2 Ma;have hinv:Inv S (Go.Proofs.YtocfkfhdcnjklaaGreatDoor.setAl C C.alphas C.als) (eF []) (λ_=>eF []) B Zo cj loc (cq s g (.alpha ⟨c.type,iT c.args,p,cc,MS.nil,ga⟩)):=h.frame keep;exact hQ C.alphas C.als A _ hinv ⟨⟨hK.A.ofKey,hK.A.key⟩,hK.keyed,hK.good,Nat.le_succ_of_le hK.few⟩ pH e1.symm e2.symm (λ_ h=>h) (λb o _ ho=>keep b o ho)
  refine wX (λ(u,acc)=>u<=c.args.length/\acc.data.toList=AA c.type ((iT c.args).take u)/\acc.size<=21+u*140737488351234) (λ(u,_)=>c.args.length-u) ?_ N (0,uz c.type) ⟨Nat.zero_le _,?_,?_⟩ (by dsimp only;omega)
  ·rintro⟨u,acc⟩ ag ⟨hu,NA,has⟩ fa;dsimp only at hu NA has fa⊢;refine iu (λhb=>?_) (λhb=>?_)
   ·have bq:u<(iT c.args).length:=of_decide_eq_true hb;have kB:=List.getElem?_eq_getElem bq;have Z8:u<c.args.length:=an
    have hao:pO (iT c.args)[u].v:=Ko jd _ (List.getElem_mem bq);have Wq:=Ha hao.2;have e1:(⟨#[44]⟩:ByteArray).size=1:=rfl;have e2:((⟨#[44]⟩:ByteArray)++x5 (iT c.args)[u].v).size=1+(x5 (iT c.args)[u].v).size:=by rw[ByteArray.size_append,e1]
    refine Qi kB (Qi (OI N hao.1 hao.2) (fQ (by rw[e1];omega) (fQ (by rw[e2];omega) (fQ an ?_))));refine fa (u+1,_) ⟨an,?_,?_⟩ (by dsimp only;omega)
    ·rw[List.take_add_one,kB];show _=AA c.type ((iT c.args).take u++[(iT c.args)[u]]);unfold AA;rw[DY,<-List.append_assoc];have:acc.data.toList=(uz c.type).data.toList++j3 ((iT c.args).take u):=NA;rw[<-this];simp[ByteArray.data_append]
    · rw[ByteArray.size_append,e2,Nat.add_mul];omega
   ·have pI:¬u<(iT c.args).length:=of_decide_eq_false hb;rw[List.take_of_length_le an]at NA;exact a0E acc NA
  · rw[List.take_zero];unfold AA j3;simp
  · have:=vE (n:=c.type);omega
 refine wX (λ(u,σ)=>u<=c.args.length/\∃p cc,σ=cq s g (.alpha ⟨c.type,iT (c.args.take u),p,cc,MS.nil,ga⟩)) (λ(u,_)=>c.args.length-u) ?_ N (0,_) ⟨Nat.zero_le _,none,0,rfl⟩ (by dsimp only;omega);rintro⟨u,σ⟩ ag ⟨hu,p,cc,Dr⟩ fa;dsimp only at hu Dr fa⊢;refine iu (λhb=>?_) (λhb=>?_)
 ·have bq:u<c.args.length:=of_decide_eq_true hb;have kB:=List.getElem?_eq_getElem bq;refine Qi kB ?_;refine lq λkj5 hk5=>?_
  have hk:∀(a1 a2 a3 a4:Int) (a5:ByteArray),(⟨a1,a2,⟨a3,a4,a5⟩⟩:eN)=(if c.args[u].k=4 then c.args[u]else BK)->kj5 (a1,a2,a3,a4,a5) Q:=λa1 a2 a3 a4 a5 he=>by
   subst hk5;dsimp only;refine Qi (a:=⟨c.type,iT (c.args.take u),p,cc,MS.nil,ga⟩) (by unfold uh;rw[Dr,iQ]) ?_;have hmt:(iT (c.args.take u)).length<=u:=by unfold iT;rw[List.length_map,List.length_take];omega
   refine fQ (by show(iT (c.args.take u)).length+1<=_;omega) ?_;refine fQ an ?_;refine ux λp'=>ux λc'=>lV ?_;refine fa (u+1,_) ⟨an,p',c',?_⟩ (by dsimp only;omega);rw[Dr,ry,he];congr 4;rw[List.take_add_one,kB];unfold iT;rw[List.map_append];rfl
  refine iu (λhb=>?_) (λhb=>?_)
  ·have h4:c.args[u].k≠4:=by simpa using hb
   exact hk 1 0 0 0 ⟨#[]⟩ (by rw[if_neg h4];rfl)
  ·have h4:c.args[u].k=4:=by simpa using hb
   exact hk _ _ _ _ _ (by rw[if_pos h4])
 ·have pI:¬u<c.args.length:=of_decide_eq_false hb;rw[List.take_of_length_le an]at Dr;rw[Dr];exact fin p cc
end
end
section
open Go Go.RowKit Classical
theorem hY.top {loc:Loc} {n p r:Nat} (h:hY loc n)(hp:loc p=none):hY (gV loc p (r,[])) n:=by
 obtain⟨L,U,a2,rfl⟩:=h;refine⟨L,U,λq=>?_,rfl⟩;rw[a2];unfold gV;by_cases hq:q=p
 ·subst hq;rw[hp,if_pos rfl];constructor;· rintro⟨_,_,h,_⟩;cases h
  · rintro⟨_,_,h,h2⟩;cases h;exact absurd rfl h2
 · rw[if_neg hq]
theorem hY.untop {loc:Loc} {n p r:Nat} (h:hY (gV loc p (r,[])) n)(hp:loc p=none):hY loc n:=by
 obtain⟨L,U,a2,rfl⟩:=h;refine⟨L,U,λq=>?_,rfl⟩;rw[a2];unfold gV;by_cases hq:q=p
 ·subst hq;rw[hp,if_pos rfl];constructor;· rintro⟨_,_,h,h2⟩;cases h;exact absurd rfl h2
  · rintro⟨_,_,h,_⟩;cases h
 · rw[if_neg hq]
def jH (b k:Nat)(sc:eM)(o:Option PO):Prop:=match sc.st with
 | .join _=>∃pA,o=some (.join ⟨sc.al,b,((k:Nat):Int),sc.c,MS.nil,pA⟩)
 | .nt _=>∃pA,o=some (.nt ⟨sc.al,b,((k:Nat):Int),sc.c,MS.nil,pA⟩)
 | .test _=>∃pA,o=some (.test ⟨b,((k:Nat):Int),sc.c,MS.nil,pA⟩)
theorem jH.some {b k:Nat} {sc:eM} {o:Option PO} (h:jH b k sc o):∃y,o=some y/\(∀z,y≠.row z)/\(∀z,y≠.net z)/\(∀z,y≠.part z)/\∀z,y≠.alpha z:=by
 unfold jH at h;split at h;· obtain⟨pA,h⟩:=h;exact⟨_,h,(λ_ e=>by cases e),(λ_ e=>by cases e),(λ_ e=>by cases e),λ_ e=>by cases e⟩
 · obtain⟨pA,h⟩:=h;exact⟨_,h,(λ_ e=>by cases e),(λ_ e=>by cases e),(λ_ e=>by cases e),λ_ e=>by cases e⟩
 · obtain⟨pA,h⟩:=h;exact⟨_,h,(λ_ e=>by cases e),(λ_ e=>by cases e),(λ_ e=>by cases e),λ_ e=>by cases e⟩
theorem im.some {U:Option Nat} {loc:Loc} {r:Nat} {R:eQ} {k:Nat} {sc:eM} {o:Option PO} (h:im U loc r R k sc o):∃y,o=some y/\(∀z,y≠.row z)/\(∀z,y≠.net z)/\(∀z,y≠.part z)/\∀z,y≠.alpha z:=by
 unfold im at h;split at h;· obtain⟨z,h,_⟩:=h;exact⟨_,h,(λ_ e=>by cases e),(λ_ e=>by cases e),(λ_ e=>by cases e),λ_ e=>by cases e⟩
 · obtain⟨z,h,_⟩:=h;exact⟨_,h,(λ_ e=>by cases e),(λ_ e=>by cases e),(λ_ e=>by cases e),λ_ e=>by cases e⟩
 · obtain⟨z,h,_⟩:=h;exact⟨_,h,(λ_ e=>by cases e),(λ_ e=>by cases e),(λ_ e=>by cases e),λ_ e=>by cases e⟩
def oh (C:fC)(sc:eM):Prop:=(∀a,sc.st≠.test a)->∃A∈C.als,A.b=sc.al/\A.kind=sc.c.type/\A.args=iT sc.c.args
abbrev Eb (S:fh) (C:fC) (loc:Loc) (s:Q8):Prop:=Inv S C (eF []) (λ_=>eF []) (λ_ _=>(eF [],eF [])) (λ_=>False) none loc s
structure mh (S:fh) (C:fC) (n b j:Nat) (conds:List Qp) (steps:List eM) (loc:Loc) (s:Q8):Prop where
 inv:Eb S C loc (del s b)
 al:Rp C n
 row:∃sP sC wA,s b=some (.row ⟨C.g,steps.map (·.st),sP,sC,MS.nil,wA⟩)
 len:steps.length=j
 conds:steps.map (·.c)=conds.take j
 obj:∀k sc,steps[k]? =some sc->FZ sc/\jH b k sc (s sc.st.adr)/\oh C sc
 inj:∀(k k':Nat) (sc df:eM),steps[k]? =some sc->steps[k']? =some df->sc.st.adr=df.st.adr->k=k'
 old:∀(r:Nat) (R:eQ) (k k':Nat) (sc df:eM),C.rows[r]? =some R->R.steps[k]? =some sc->steps[k']? =some df->sc.st.adr≠df.st.adr
section
variable {S:fh} {I:ew->Prop} {P:Qq->Prop} {C:fC} {loc:Loc} {s s1:Q8} {n b j ga:Nat} {conds:List Qp} {steps:List eM}
theorem EC {O:Type} {s:Nat->Option O} {b:Nat} {o:O} (h:s b=none):del (cq s b o) b=s:=by
 funext c;unfold del cq;by_cases U:c=b;· rw[if_pos U,U,h]
 · rw[if_neg U,if_neg U]
theorem mh.push (h:mh S C n b j conds steps loc s) {m:MS ByteArray Nat} {az:List HT} {n':Nat} (hinv:Eb S (setAl C m az) loc s1)(Gs:Rp (setAl C m az) n')(Z2:∀bb o,bb≠C.g->del s b bb=some o->s1 bb=some o)(has:∀A∈C.als,A∈az)(hga:s1 ga=none) {sc:eM} (eZ:sc.st.adr=ga)(Z5:FZ sc)(hc:conds[j]? =some sc.c) {o:PO} (ho:jH b j sc (some o))
  (U8:oh (setAl C m az) sc) (hb:cq s1 ga o b=none) {sP:Option Addr} {sC wA:Nat}:mh S (setAl C m az) n' b (j+1) conds (steps++[sc]) loc (cq (cq s1 ga o) b (.row ⟨C.g,(steps++[sc]).map (·.st),sP,sC,MS.nil,wA⟩)):=by
 obtain⟨_,_,_,eX⟩:=h.row;obtain⟨xn,hn1,_⟩:=h.inv.net;have eP:∀bb y,s1 bb=some y->(cq s1 ga o) bb=some y:=λbb y hy=>by rw[QC (λe=>by rw[e,hga]at hy;cases hy)];exact hy
 have a0S:ga≠b:=λe=>by rw[e,iQ]at hb;cases hb
 have fe:∀(k:Nat) (df:eM),steps[k]? =some df->df.st.adr≠b/\∃y,s1 df.st.adr=some y/\s df.st.adr=some y:=λk df hk=>by
  obtain⟨_,h2,_⟩:=h.obj k df hk;obtain⟨y,h3,h4,h5,_⟩:=h2.some;have db:df.st.adr≠b:=λe=>by rw[e,eX]at h3;cases h3;exact h4 _ rfl
  have mF:del s b df.st.adr=some y:=by rw[kW s db];exact h3
  exact⟨db,y,Z2 _ _ (λe=>by rw[e,hn1]at mF;cases mF;exact h5 _ rfl) mF,h3⟩
 have JT:∀k,(steps++[sc])[k]? =if k<j then steps[k]? else if k=j then some sc else none:=λk=>by
  rw[List.getElem?_append];rw[h.len];by_cases h1:k<j;· rw[if_pos h1,if_pos h1]
  ·rw[if_neg h1,if_neg h1];by_cases h2:k=j;· rw[if_pos h2,h2,Nat.sub_self];rfl
   · rw[if_neg h2,List.getElem?_eq_none (by rw[List.length_singleton];omega)]
 refine⟨?_,Gs,⟨sP,sC,wA,by rw[iQ];rfl⟩,by rw[List.length_append,h.len];rfl,?_,λk df hk=>?_,λk k' x x' hk U he=>?_,λr R k k' x x' hr hk U he=>?_⟩
 ·rw[EC hb];exact hinv.frame eP
 · rw[List.map_append,h.conds,List.take_add_one,hc];rfl
 ·rw [JT]at hk;split at hk
  ·obtain⟨h1,h2,h3⟩:=h.obj k df hk;obtain⟨g1,y,g2,g3⟩:=fe k df hk;refine⟨h1,?_,λht=>?_⟩;· rw[QC g1,eP _ _ g2,<-g3];exact h2
   ·obtain⟨A,q1,q2⟩:=h3 ht;exact⟨A,has A q1,q2⟩
  ·split at hk
   ·rename_i e;cases hk;subst e;refine⟨Z5,?_,U8⟩;rw[eZ,QC a0S,iQ];exact ho
   · cases hk
 ·rw [JT]at hk U;split at hk
  ·split at U;· exact h.inj k k' x x' hk U he
   ·split at U
    ·cases U;obtain⟨_,y,g2,_⟩:=fe k x hk;rw[he,eZ,hga]at g2;cases g2
    · cases U
  ·split at hk
   ·cases hk;split at U
    ·obtain⟨_,y,g2,_⟩:=fe k' x' U;rw[<-he,eZ,hga]at g2;cases g2
    ·split at U
     ·rename_i e1 _ e2;rw[e1,e2]
     · cases U
   · cases hk
 ·rw [JT]at U;split at U;· exact h.old r R k k' x x' hr hk U he
  ·split at U
   ·cases U;obtain⟨y,g1,_⟩:=(hinv.step r R k x hr hk (λhz=>hz)).some;rw[he,eZ,hga]at g1;cases g1
   · cases U
def HG (C:fC)(R:eQ)(p:Option Addr)(c:Nat):fC:={C with rows:=C.rows++[R],rP:=p,rC:=c}
theorem MT {l:List eQ} {R U:eQ} {r:Nat} (h:(l++[R])[r]? =some U):(r<l.length/\l[r]? =some U)\/(r=l.length/\U=R):=by
 rw[List.getElem?_append]at h;split at h;· rename_i bq;exact .inl ⟨bq,h⟩
 ·right;by_cases e:r=l.length
  ·rw[e,Nat.sub_self]at h;simp at h;exact⟨e,h.symm⟩
  · rw[List.getElem?_eq_none (by rw[List.length_singleton];omega)]at h;cases h
theorem mh.whole (h:mh S C n b j conds steps loc s) {xn:fo} {p:Option Addr} {c g ka:Nat} {hs:List Bool} {vs:List V} (hx:s C.g=some (.net xn))(hg:(cq s C.g (.net {xn with rows:=xn.rows++[b],rowsP:=p,rowsC:=c})) g=none) {sP:Option Addr} {sC wA:Nat} (eX:s b=some (.row ⟨C.g,steps.map (·.st),sP,sC,MS.nil,wA⟩)):
  Inv S (HG C ⟨b,steps,sP,sC,g,hs,vs⟩ p c) (eF []) (λ_=>eF []) (λ_ _=>(eF [],eF [])) (λ_=>False) (some g) (gV loc g (C.rows.length,[])) (cq (cq s C.g (.net {xn with rows:=xn.rows++[b],rowsP:=p,rowsC:=c})) g (.part ⟨hs,vs,none,0,MS.nil,ka,none⟩)):=by
 have hI:=h.inv;have YZ:g≠C.g:=λe=>by rw[e,iQ]at hg;cases hg
 have hsg:s g=none:=by rw[QC YZ]at hg;exact hg
 have hgb:g≠b:=λe=>by rw[e,eX]at hsg;cases hsg
 have ND:b≠C.g:=λe=>by rw[e,hx]at eX;cases eX
 have Wm:loc g=none:=hI.none_loc (by rw[kW s hgb];exact hsg)
 have keep:∀bb o,bb≠C.g->s bb=some o->(cq (cq s C.g (.net {xn with rows:=xn.rows++[b],rowsP:=p,rowsC:=c})) g (.part ⟨hs,vs,none,0,MS.nil,ka,none⟩)) bb=some o:=λbb o h1 h2=>by
  rw[QC (λe=>by rw[e,hsg]at h2;cases h2),QC h1];exact h2
 have EY:∀bb o,bb≠C.g->del s b bb=some o->(cq (cq s C.g (.net {xn with rows:=xn.rows++[b],rowsP:=p,rowsC:=c})) g (.part ⟨hs,vs,none,0,MS.nil,ka,none⟩)) bb=some o:=λbb o h1 h2=>keep bb o h1 (by
  unfold del at h2;split at h2;· cases h2
  · exact h2)
 have JX:del s b C.g=some (.net xn):=by rw[kW s (Ne.symm ND)];exact hx
 have Vj:∀y l,loc y=some l->gV loc g (C.rows.length,[]) y=some l:=λy l hl=>by
  unfold gV;rw[if_neg (λe=>by rw[e,Wm]at hl;cases hl)];exact hl
 have bq:∀y r π,loc y=some (r,π)->r<C.rows.length:=λy r π hy=>by
  obtain⟨R,x,a1,_⟩:=hI.part y r π hy;exact(List.getElem?_eq_some_iff.1 a1).1
 have dn:∀y r π,gV loc g (C.rows.length,[]) y=some (r,π)->(y=g/\r=C.rows.length/\π=[])\/loc y=some (r,π):=λy r π hy=>by
  unfold gV at hy;split at hy;· rename_i e;cases hy;exact .inl ⟨e,rfl,rfl⟩
  · exact .inr hy
 refine⟨?_,λr R hr=>?_,λr R k sc hr hk _=>?_,λA hA=>?_,λq r π hq=>?_,λq q' l hq dW=>?_,λr R hr=>?_,λm hm=>?_⟩
 ·obtain⟨x,a1,a2,a3,a4,a5,a6,a7,a8,m,a9,ig⟩:=hI.net;rw[JX]at a1;cases a1;refine⟨{xn with rows:=xn.rows++[b],rowsP:=p,rowsC:=c},?_,a2,?_,rfl,rfl,a6,a7,a8,m,a9,ig.top Wm⟩
  ·show(cq (cq s C.g _) g _) C.g=_;rw[QC (Ne.symm YZ),iQ]
  ·show xn.rows++[b]=(C.rows++[(⟨b,steps,sP,sC,g,hs,vs⟩:eQ)]).map λR=>R.b;rw[List.map_append,a3];rfl
 ·rcases MT hr with⟨h1,h2⟩|⟨h1,rfl⟩
  ·obtain⟨y,b1,b2,b3,b4,b5,b6⟩:=hI.row r R h2;exact⟨y,EY _ _ (λe=>by rw[e,JX]at b1;cases b1) b1,b2,b3,b4,b5,b6.fresh Wm⟩
  ·refine ⟨_,keep _ _ ND eX,rfl,rfl,rfl,rfl,λy=>?_⟩;constructor;· intro hy;exact absurd hy MS.keys_nil
   ·rintro⟨⟨π,q1,_⟩,q2⟩;rcases dn y r π q1 with⟨e,_⟩|e;· exact absurd (by rw[e]) q2
    · have:=bq y r π e;omega
 ·rcases MT hr with⟨h1,h2⟩|⟨h1,rfl⟩
  ·have U:=hI.step r R k sc h2 hk (λhz=>hz);obtain⟨y,g1,_,g3,_⟩:=U.some;have g4:=EY _ _ (λe=>by rw[e,JX]at g1;cases g1;exact g3 _ rfl) g1;rw[g4,<-g1];unfold im at U⊢;split at U;· obtain⟨z,b1,b2,b3,b4,b5,b6⟩:=U;exact⟨z,b1,b2,b3,b4,b5,b6.fresh Wm⟩
   · obtain⟨z,b1,b2,b3,b4,b5,b6⟩:=U;exact⟨z,b1,b2,b3,b4,b5,b6.fresh Wm⟩
   · exact U
  ·obtain ⟨_,U,_⟩:=h.obj k sc hk;obtain⟨y,g1,_,g3,_⟩:=U.some;have g4:=keep _ _ (λe=>by rw[e,hx]at g1;cases g1;exact g3 _ rfl) g1;rw[g4,<-g1]
   have JT:LK (some g) (gV loc g (C.rows.length,[])) r k (MS.nil:MS Nat Bool):=λy=>by
    constructor;· intro hy;exact absurd hy MS.keys_nil
    ·rintro⟨⟨π,q1,_⟩,q2⟩;rcases dn y r π q1 with⟨e,_⟩|e;· exact absurd (by rw[e]) q2
     · have:=bq y r π e;omega
   clear g4 g1;revert U;generalize s sc.st.adr=o;intro U;unfold jH at U;unfold im;cases bw:sc.st with
   |join a=>rw[bw]at U;obtain⟨pA,U⟩:=U;exact⟨_,U,rfl,rfl,rfl,rfl,JT⟩
   |nt a=>rw[bw]at U;obtain⟨pA,U⟩:=U;exact⟨_,U,rfl,rfl,rfl,rfl,JT⟩
   |test a=>rw[bw]at U;obtain⟨pA,U⟩:=U;exact⟨_,U,rfl,rfl,rfl,λy=>MS.keys_nil⟩
 ·obtain⟨z,b1,b2⟩:=hI.al A hA;exact⟨z,EY _ _ (λe=>by rw[e,JX]at b1;cases b1) b1,b2⟩
 ·rcases dn q r π hq with⟨rfl,rfl,rfl⟩|hq0
  ·refine ⟨⟨b,steps,sP,sC,q,hs,vs⟩,⟨hs,vs,none,0,MS.nil,ka,none⟩,by show(C.rows++[_])[C.rows.length]? =_;rw[List.getElem?_append_right (Nat.le_refl _),Nat.sub_self];rfl,iQ _ _ _,⟨by cases steps<;>rfl,λ_=>⟨rfl,rfl,rfl⟩,(λρ i e=>by simp at e),λy=>?_,λe=>absurd rfl e,λsc a _ _ hk=>?_,List.nodup_nil⟩⟩
   ·constructor;· intro hy;exact absurd hy MS.keys_nil
    ·rintro⟨i,hi⟩;rcases dn y _ _ hi with⟨_,_,e⟩|e;· simp at e
     · have:=bq y _ _ e;omega
   ·obtain⟨y,i,hi⟩:=hk;rcases dn y _ _ hi with⟨_,_,e⟩|e;· simp at e
    · have:=bq y _ _ e;omega
  ·obtain ⟨R,x,c1,c2,c3⟩:=hI.part q r π hq0
   have cy:(HG C ⟨b,steps,sP,sC,g,hs,vs⟩ p c).rows[r]? =some R:=by
    show(C.rows++[_])[r]? =_;rw[List.getElem?_append_left (List.getElem?_eq_some_iff.1 c1).1];exact c1
   have Z3:∀y i,gV loc g (C.rows.length,[]) y=some (r,π++[i])->loc y=some (r,π++[i]):=λy i hy=>by
    rcases dn y _ _ hy with⟨_,_,e⟩|e;· simp at e
    · exact e
   refine⟨R,x,cy,EY _ _ (λe=>by rw[e,JX]at c2;cases c2) c2,⟨c3.env,c3.top,λρ i e=>?_,λy=>?_,λ_=>c3.blocks ax,λsc a e1 e2 hk=>?_,c3.kn⟩⟩
   ·obtain⟨d1,q2,d2,d3⟩:=c3.up ρ i e;exact⟨d1,q2,d2,Vj _ _ d3⟩
   ·rw[c3.kids];constructor;· rintro⟨i,hi⟩;exact⟨i,Vj _ _ hi⟩
    · rintro⟨i,hi⟩;exact⟨i,Z3 y i hi⟩
   ·obtain⟨y,i,hi⟩:=hk;exact c3.free sc a e1 e2 ⟨y,i,Z3 y i hi⟩
 ·obtain⟨r,π⟩:=l;rcases dn q r π hq with⟨e1,e2,e3⟩|h1<;>rcases dn q' r π dW with⟨f1,f2,f3⟩|h2;· rw[e1,f1]
  · have:=bq _ _ _ h2;omega
  · have:=bq _ _ _ h1;omega
  · exact hI.inj _ _ _ h1 h2
 ·rcases MT hr with⟨h1,h2⟩|⟨h1,rfl⟩
  · exact Vj _ _ (hI.root r R h2)
  · rw[h1];exact if_pos rfl
 · exact hI.le m (hm.untop Wm)
theorem mh.wfc (h:mh S C n b j conds steps loc s)(hW:oi C) {g c:Nat} {p sP:Option Addr} {sC:Nat} {hs:List Bool} {vs:List V}:oi (HG C ⟨b,steps,sP,sC,g,hs,vs⟩ p c):=by
 have hb:∀(r:Nat) (R:eQ),C.rows[r]? =some R->R.b≠b:=λr R hr e=>by
  obtain⟨y,h1,_⟩:=h.inv.row r R hr;rw[e,sj]at h1;cases h1
 refine⟨λr r' R R' hr cy e=>?_,λr r' R R' k k' sc df hr cy hk dy e=>?_,λr R k sc hr hk=>?_⟩
 ·rcases MT hr with⟨h1,U⟩|⟨h1,rfl⟩<;>rcases MT cy with⟨h3,h4⟩|⟨h3,rfl⟩
  · exact hW.rows r r' R R' U h4 e
  · exact absurd e (hb r R U)
  · exact absurd e.symm (hb r' R' h4)
  · rw[h1,h3]
 ·rcases MT hr with⟨h1,U⟩|⟨h1,rfl⟩<;>rcases MT cy with⟨h3,h4⟩|⟨h3,rfl⟩
  · exact hW.steps r r' R R' k k' sc df U h4 hk dy e
  · exact absurd e (h.old r R k k' sc df U hk dy)
  · exact absurd e.symm (h.old r' R' k' k df sc h4 dy hk)
  · exact⟨by rw[h1,h3],h.inj k k' sc df hk dy e⟩
 ·rcases MT hr with⟨h1,U⟩|⟨h1,rfl⟩
  · exact hW.kind r R k sc U hk
  · exact(h.obj k sc hk).1
end
end
section
open Go Go.RowKit Classical
theorem Nk (e:Q4):(⟨e.kind,e.value,e.var,e.op,e.kids⟩:Q4)=e:=by cases e;rfl
theorem N8 (c:Qp):(⟨c.kind,c.type,c.args,(⟨c.test.kind,c.test.value,c.test.var,c.test.op,c.test.kids⟩:Q4)⟩:Qp)=c:=by rw[Nk]
structure o9 (ts:List Q7) (c:Qp):Prop where
 kind:c.kind=1\/c.kind=2\/c.kind=3
 nodes:nodes c.test<=1000000
 args:c.args.length<=1000
 fact:c.kind=1\/c.kind=2->dm c.type/\(∀a∈iT c.args,rH a)/\(∀a∈c.args,pO a.v)/\rM ts c.type ((c.args.length:Nat):Int)=true
def uR (R:eQ):List Qp×ew:=(R.steps.map (·.c),(R.hs,R.vs))
section
variable {S:fh} {I:ew->Prop} {P:Qq->Prop} {C:fC} {loc:Loc} {s s1:Q8} {n b j ga N:Nat} {conds:List Qp} {steps:List eM} {ts:List Q7}
theorem mh.start (hI:Eb S C loc s)(hA:Rp C n)(hb:s b=none) {wA:Nat}:mh S C n b 0 conds [] loc (cq s b (.row ⟨C.g,[],none,0,MS.nil,wA⟩)):=
 ⟨by rw[EC hb];exact hI,hA,⟨none,0,wA,iQ _ _ _⟩,rfl,by rw[List.take_zero];rfl,(λk sc h=>by simp at h),(λk k' sc U h=>by simp at h),λr R k k' sc U _ _ h=>by simp at h⟩
theorem EX:∀{l:List eM} {e:ew},(qY S [] l e).length<=l.length
 |[],e=>by simp[qY]
 | sc::l,e=>by
   have ih:=λU=>EX (l:=l) (e:=U);unfold qY Eo;rw[List.length_cons];cases bw:sc.st with
   |join a=>simp
   | nt a=>
     simp only[List.flatMap_cons,List.flatMap_nil,List.append_nil];split
     ·rename_i U _;have:=ih U;rw[List.length_cons,List.length_map];omega
     · simp
   | test a=>
     simp only[List.flatMap_cons,List.flatMap_nil,List.append_nil];split
     ·rename_i U _;have:=ih U;rw[List.length_cons,List.length_map];omega
     · simp
theorem tV:∀{l:List eQ},(∀R∈l,R.steps.length<=8)->fV S [] l<=8*l.length
 |[],_=>by simp[fV]
 | R::l,h=>by
   have h1:=tV (l:=l) λR' U=>h R' (List.mem_cons_of_mem _ U);have h2:=EX (S:=S) (l:=R.steps) (e:=(R.hs,R.vs));have h3:=h R List.mem_cons_self;have h4:fV S [] (R::l)=(qY S [] R.steps (R.hs,R.vs)).length+fV S [] l:=rfl;rw[h4,List.length_cons];omega
theorem Hb {k n m:Int} (h:rM ts k n=true)(h':rM ts k m=true):n=m:=by
 unfold rM at h h';split at h
 ·rename_i t e;rw[e]at h';simp only[Bool.and_eq_true,beq_iff_eq]at h h';rw[<-h.2,<-h'.2]
 · cases h
structure pC (S:fh) (ts:List Q7) (rd:List (List Qp×ew)) (u:Nat) (C:fC) (loc:Loc) (s:Q8):Prop where
 types:C.types=ts
 inv:Eb S C loc s
 al:Rp C (u*8)
 W:oi C
 comp:wH S C (eF []) loc
 rows:C.rows.map uR=rd
 sal:∀R∈C.rows,∀sc∈R.steps,oh C sc
 rP:C.rP.isNone=false
theorem pC.mem {rd:List (List Qp×ew)} {u:Nat} (h:pC S ts rd u C loc s) {R:eQ} (U:R∈C.rows):(R.steps.map (·.c),(R.hs,R.vs))∈rd:=by
 rw[<-h.rows];exact List.mem_map.2 ⟨R,U,rfl⟩
theorem a06 {x:Qa} {ja u:Nat} {C0:fC} {s93:Q8} {K:Q8->WM (Option Nat×Q8)} {Q:Option Nat×Q8->Prop} (hN:B0+4000000<=N)(h8:x.conds.length<=8)(hc:∀c∈x.conds,o9 C0.types c)(h:mh S C0 (u*8) ja 0 x.conds [] loc s93)
   (hK:∀m az steps s',mh S (setAl C0 m az) (u*8+x.conds.length) ja x.conds.length x.conds steps loc s'->(∀A∈C0.als,A∈az)->K s' Q):
   j6 (λ(a0x:(Nat×Q8)->WM ((Option Nat)×Q8)) ((ab,aa))=>
  fj ((decide (ab<x.conds.length))) (
   ke (λae=>(
    eU (ab+1<=9223372036854775807)<|
    a0x (ab+1,ae)
  )) λah=>
  Qu (x.conds[ab]?) λU=>
  Qu (VO N U.kind U.type U.args U.test.kind U.test.value.k U.test.value.n U.test.value.s U.test.var U.test.op U.test.kids) λv43=>
  fj ((U.kind==1)) (
   Qu (gRow aa ja) λLG=>
   eH (OV N C0.g U.kind U.type U.args U.test.kind U.test.value.k U.test.value.n U.test.value.s U.test.var U.test.op U.test.kids (del aa ja)) λ(v70,a1n)=>
   Qu (v70) λa73=>
   kA λ(EM:Nat)=>
   qn a1n (λM9=>PO.join ⟨a73,ja,((ab:Nat):Int),(⟨U.kind,U.type,U.args,(⟨U.test.kind,U.test.value,U.test.var,U.test.op,v43⟩:Q4)⟩:Qp),(MS.nil:MS Nat Bool),EM⟩) λM9 a07=>
   eU (LG.steps.length+([(.join M9:bu)]).length<=8796093022208)<|
   kA λ(Uy:Option Addr)=>
   kA λ(Sr:Nat)=>
   gR (cq a07 ja (PO.row ({LG with steps:=LG.steps++([(.join M9:bu)]),stepsP:=Uy,stepsC:=Sr}))) λa1o=>
   iU a07 ja<|
   ah a1o
  ) (
   fj ((U.kind==2)) (
    Qu (gRow aa ja) λLH=>
    eH (OV N C0.g U.kind U.type U.args U.test.kind U.test.value.k U.test.value.n U.test.value.s U.test.var U.test.op U.test.kids (del aa ja)) λ(v88,a1p)=>
    Qu (v88) λa91=>
    kA λ(EM:Nat)=>
    qn a1p (λg91=>PO.nt ⟨a91,ja,((ab:Nat):Int),(⟨U.kind,U.type,U.args,(⟨U.test.kind,U.test.value,U.test.var,U.test.op,v43⟩:Q4)⟩:Qp),(MS.nil:MS Nat Bool),EM⟩) λg91 a08=>
    eU (LH.steps.length+([(.nt g91:bu)]).length<=8796093022208)<|
    kA λ(p94:Option Addr)=>
    kA λ(c94:Nat)=>
    gR (cq a08 ja (PO.row ({LH with steps:=LH.steps++([(.nt g91:bu)]),stepsP:=p94,stepsC:=c94}))) λa1q=>
    iU a08 ja<|
    ah a1q
   ) (
    Qu (gRow aa ja) λLI=>
    kA λ(EM:Nat)=>
    qn (del aa ja) (λg55=>PO.test ⟨ja,((ab:Nat):Int),(⟨U.kind,U.type,U.args,(⟨U.test.kind,U.test.value,U.test.var,U.test.op,v43⟩:Q4)⟩:Qp),(MS.nil:MS Nat Bool),EM⟩) λg55 a09=>
    eU (LI.steps.length+([(.test g55:bu)]).length<=8796093022208)<|
    kA λ(p58:Option Addr)=>
    kA λ(c58:Nat)=>
    gR (cq a09 ja (PO.row ({LI with steps:=LI.steps++([(.test g55:bu)]),stepsP:=p58,stepsC:=c58}))) λa1r=>
    iU a09 ja<|
    ah a1r
   )
  )
  ) (
   K aa
  )
 ) N (0,s93) Q:=by
 have Ca:9223372036854775808+4000000<=N:=by have h':=hN;unfold B0 at h';omega
 refine wX (λ(j,σ)=>j<=x.conds.length/\∃m az steps,mh S (setAl C0 m az) (u*8+j) ja j x.conds steps loc σ/\∀A∈C0.als,A∈az) (λ(j,_)=>x.conds.length-j) ?_ N (0,s93) ⟨Nat.zero_le _,C0.alphas,C0.als,[],h,λ_ h=>h⟩ (by dsimp only;omega);rintro⟨j,σ⟩ ag ⟨hj,m,az,steps,hB,has⟩ fa;dsimp only at hj hB has fa⊢;refine iu (λhb=>?_) (λhb=>?_)
 · have bq:j<x.conds.length:=of_decide_eq_true hb;obtain⟨c,kB⟩:∃c,x.conds[j]? =some c:=⟨_,List.getElem?_eq_getElem bq⟩
   have Gt:=hc c (List.mem_of_getElem? kB);refine lq λkj3 hk3=>?_
   have TR:∀m' Pt DP E9,mh S (setAl C0 m' Pt) (u*8+(j+1)) ja (j+1) x.conds DP loc E9->(∀A∈C0.als,A∈Pt)->kj3 E9 Q:=λm' Pt DP E9 h1 h2=>by
     subst hk3;refine fQ an ?_;exact fa (j+1,E9) ⟨an,m',Pt,DP,h1,h2⟩ (by dsimp only;omega)
   refine Qi kB ?_;refine Qi (Gf an (by have:=Gt.args;omega) Gt.nodes) ?_;rw[N8];obtain⟨sP,sC,wA,eX⟩:=hB.row;have hsl:(steps.map (·.st)).length=j:=by rw[List.length_map,hB.len]
   refine iu (λh1=>?_) (λh1=>iu (λh2=>?_) (λh2=>?_))
   · have Mj:c.kind=1:=by simpa using h1
     refine Qi (qV eX) ?_;refine QS ?_;refine Ev (C:=setAl C0 m az) (n:=u*8+j) an hB.inv hB.al (Gt.fact (.inl Mj)).1 Gt.args (Gt.fact (.inl Mj)).2.1 (Gt.fact (.inl Mj)).2.2.1 (Gt.fact (.inl Mj)).2.2.2 λm' Pt A s' g1 g2 g3 g4 g5 g6 g7=>?_;refine Qi rfl (ux λEM=>jv λM9 JN=>fQ (by show(steps.map (·.st)).length+1<=_;omega) (ux λUy=>ux λSr=>lV (jK λMd=>?_)));have hp:=hB.push (sP:=Uy) (sC:=Sr) (wA:=wA) (sc:=⟨.join M9,A.b,c⟩) (o:=PO.join ⟨A.b,ja,((j:Nat):Int),c,MS.nil,EM⟩) g1 g2 g7 g6 JN rfl Mj kB ⟨EM,rfl⟩ (λ_=>⟨A,g3,rfl,g4,g5⟩) Md;rw[List.map_append]at hp;exact TR m' Pt _ _ hp λA' uH=>g6 A' (has A' uH)
   · have Mk:c.kind=2:=by simpa using h2
     refine Qi (qV eX) ?_;refine QS ?_;refine Ev (C:=setAl C0 m az) (n:=u*8+j) an hB.inv hB.al (Gt.fact (.inr Mk)).1 Gt.args (Gt.fact (.inr Mk)).2.1 (Gt.fact (.inr Mk)).2.2.1 (Gt.fact (.inr Mk)).2.2.2 λm' Pt A s' g1 g2 g3 g4 g5 g6 g7=>?_;refine Qi rfl (ux λEM=>jv λM9 JN=>fQ (by show(steps.map (·.st)).length+1<=_;omega) (ux λUy=>ux λSr=>lV (jK λMd=>?_)));have hp:=hB.push (sP:=Uy) (sC:=Sr) (wA:=wA) (sc:=⟨.nt M9,A.b,c⟩) (o:=PO.nt ⟨A.b,ja,((j:Nat):Int),c,MS.nil,EM⟩) g1 g2 g7 g6 JN rfl Mk kB ⟨EM,rfl⟩ (λ_=>⟨A,g3,rfl,g4,g5⟩) Md;rw[List.map_append]at hp;exact TR m' Pt _ _ hp λA' uH=>g6 A' (has A' uH)
   · have a0W:c.kind=3:=by
      have e1:¬c.kind=1:=by simpa using h1
      have e2:¬c.kind=2:=by simpa using h2
      rcases Gt.kind with e|e|e;· exact absurd e e1
      · exact absurd e e2
      · exact e
     refine Qi (qV eX) ?_;refine ux λEM=>jv λM9 JN=>fQ (by show(steps.map (·.st)).length+1<=_;omega) (ux λUy=>ux λSr=>lV (jK λMd=>?_));have hp:=hB.push (m:=m) (az:=az) (n':=u*8+(j+1)) (s1:=del σ ja) (sP:=Uy) (sC:=Sr) (wA:=wA) (sc:=⟨.test M9,0,c⟩) (o:=PO.test ⟨ja,((j:Nat):Int),c,MS.nil,EM⟩) hB.inv ⟨hB.al.A,hB.al.keyed,hB.al.good,Nat.le_succ_of_le hB.al.few⟩ (λbb o _ ho=>ho) (λ_ h=>h) JN rfl a0W kB ⟨EM,rfl⟩ (λht=>absurd rfl (ht M9)) Md;rw[List.map_append]at hp;exact TR m az _ _ hp has
 · have pI:¬j<x.conds.length:=of_decide_eq_false hb;obtain rfl:j=x.conds.length:=an
   exact hK m az steps σ hB has
end
end
section
open Go Go.RowKit Classical
def iE (x:Qa):List Qp×ew:=(x.conds,ix x.vars)
section
variable {S:fh} {I:ew->Prop} {P:Qq->Prop} {N:Nat} {ts:List Q7} {rules:List Qa} {s:Q8}
theorem Bx {g:Nat} {a:Addr} {b c:Nat} (hg:s g=none):pC S ts [] 0 ⟨g,ts,[],some a,0,MS.nil,b,[]⟩ (λ_=>none) (cq s g (.net ⟨ts,[],some a,0,MS.nil,b,MS.nil,c,0⟩)) where
 types:=rfl
 inv:=by
  refine⟨⟨_,iQ _ _ _,rfl,rfl,rfl,rfl,rfl,rfl,⟨List.nodup_nil,λi=>rfl⟩,0,rfl,[],List.nodup_nil,λp=>?_,rfl⟩,λr R U=>?_,λr R k sc U=>?_,λA hA=>?_,λp r π hp=>?_,λp q l hp=>?_,λr R U=>?_,λn hn=>?_⟩
  ·constructor;· intro h;cases h
   · rintro⟨_,_,h,_⟩;cases h
  · simp at U
  · simp at U
  · cases hA
  · cases hp
  · cases hp
  · simp at U
  ·obtain⟨L,a1,a2,rfl⟩:=hn;cases L with
   |nil=>simp
   | cons x L=>
     obtain⟨_,_,h,_⟩:=(a2 x).1 List.mem_cons_self;cases h
 al:=⟨⟨(λk a h=>by cases h),λA hA=>by cases hA⟩,(λk a h=>by cases h),(λA hA=>by cases hA),Nat.le_refl _⟩
 W:=⟨(λr r' R R' U=>by simp at U),(λr r' R R' k k' sc df U=>by simp at U),λr R k sc U=>by simp at U⟩
 comp:=λr R U=>by simp at U
 rows:=rfl
 sal:=λR hR=>by cases hR
 rP:=rfl
theorem WQ {Q:Option Nat×Q8->Prop} (hN:B0+4000000<=N) (Wq:ts.length<=1000) (h64:rules.length<=64) (h8:∀x∈rules,x.conds.length<=8) (hc:∀x∈rules,∀c∈x.conds,o9 ts c) (lX:Mz N ts rules=some true)
  (hOk:∀(C:fC) (sc:eM) (T:bx),o9 ts sc.c->(∃x∈rules,sc.c∈x.conds)->FZ sc->oh C sc->(∀i f,T i=some f->P f)->wR S I C T sc) (hI:∀x∈rules,I (ix x.vars)) (hP:∀f,P f->rM ts f.ty ((f.args.length:Nat):Int)=true)
  (hQ:∀C loc s',rJ S I P C->qb S P C [] loc s'->C.types=ts->C.rows.map uR=rules.map iE->(∀R∈C.rows,∀sc∈R.steps,FZ sc)->Q (some C.g,s')):VV N ts rules s Q:=by
 have Ca:9223372036854775808+4000000<=N:=by have h':=hN;unfold B0 at h';omega
 unfold VV;refine Qi lX ?_;refine zi rfl ?_;refine fQ an ?_;refine ux λg16=>ux λg17=>ux λg18=>jv λg hg=>?_
 refine lq λkj1 Mj=>?_
 have Kg:∀{u:Nat} {C:fC} {loc:Loc} {σ:Q8},pC S ts ((rules.take u).map iE) u C loc σ->∀R∈C.rows,∃x∈rules,R.steps.map (·.c)=x.conds/\(R.hs,R.vs)=ix x.vars:=λh R hR=>by
  obtain⟨x,hx,he⟩:=List.mem_map.1 (h.mem hR);unfold iE at he;exact⟨x,List.mem_of_mem_take hx,(Prod.mk.inj he).1.symm,(Prod.mk.inj he).2.symm⟩
 have UC:∀{u:Nat} {C:fC} {loc:Loc} {σ:Q8},pC S ts ((rules.take u).map iE) u C loc σ->∀R∈C.rows,R.steps.length<=8:=λh R hR=>by
  obtain⟨x,hx,e1,_⟩:=Kg h R hR;have:=congrArg List.length e1;rw[List.length_map]at this;have:=h8 x hx;omega
 have a05:∀{u:Nat} {C:fC} {loc:Loc} {σ:Q8},u<=rules.length->pC S ts ((rules.take u).map iE) u C loc σ->C.rows.length=u:=λhu h=>by
  have:=congrArg List.length h.rows;rw[List.length_map,List.length_map,List.length_take]at this;omega
 have fin:∀C loc σ,C.g=g->pC S ts ((rules.take rules.length).map iE) rules.length C loc σ->kj1 σ Q:=λC loc σ hCg h=>by
  subst Mj;show Q (some g,σ);rw[<-hCg];have Wn:=a05 (Nat.le_refl _) h
  have Dn:∀R∈C.rows,∀sc∈R.steps,FZ sc:=λR hR sc eE=>by
   obtain⟨r,hr⟩:=List.getElem?_of_mem hR;obtain⟨k,hk⟩:=List.getElem?_of_mem eE;exact h.W.kind r R k sc hr hk
  refine hQ C loc σ ⟨h.W,h.al.A,h.rP,an,λR hR=>by have:=UC h R hR;omega,by have:=h.al.few;omega,λT hT R hR sc eE=>?_,λR hR=>?_,λA hA=>?_⟩ ⟨h.inv,h.comp,List.Pairwise.nil,(λf hf=>by cases hf),?_⟩ h.types (by rw[h.rows,List.take_length]) Dn
  ·obtain⟨x,hx,e1,_⟩:=Kg h R hR;have hm:sc.c∈x.conds:=by rw[<-e1];exact List.mem_map.2 ⟨sc,eE,rfl⟩
   exact hOk C sc T (hc x hx sc.c hm) ⟨x,hx,hm⟩ (Dn R hR sc eE) (h.sal R hR sc eE) hT
  ·obtain⟨x,hx,_,e2⟩:=Kg h R hR;rw[e2];exact hI x hx
  ·obtain⟨_,_,g3,g4⟩:=h.al.good A hA;refine⟨an,λf hf Ub=>?_⟩;have h1:=hP f hf;rw[h.types,<-Ub]at g4;have:=Hb h1 g4;omega
  ·have:=tV (S:=S) (UC h);omega
 refine wX (λ(u,σ)=>u<=rules.length/\∃C loc,C.g=g/\pC S ts ((rules.take u).map iE) u C loc σ) (λ(u,_)=>rules.length-u) ?_ N (0,_) ⟨Nat.zero_le _,_,_,rfl,by rw[List.take_zero];exact Bx hg⟩ (by dsimp only;omega);rintro⟨u,σ⟩ ag ⟨hu,C,loc,hCg,h⟩ fa;dsimp only at hu h fa⊢;refine iu (λhb=>?_) (λhb=>?_)
 ·have bq:u<rules.length:=of_decide_eq_true hb;obtain⟨x,kB⟩:∃x,rules[u]? =some x:=⟨_,List.getElem?_eq_getElem bq⟩
  have Ud:=List.mem_of_getElem? kB;have Wn:=a05 hu h;refine Qi kB ?_;refine ux λg29=>jv λja a0R=>?_;refine lq λkj2 Mk=>?_;have bw:=mh.start (wA:=g29) (conds:=x.conds) h.inv h.al a0R;subst hCg;refine a06 (u:=u) hN (h8 x Ud) (by rw[h.types];exact hc x Ud) bw λm az steps s' U has=>?_;subst Mk;obtain⟨sP,sC,wA,eX⟩:=U.row;obtain⟨xn,n1,n2,n3,n4,_⟩:=U.inv.net
  have db:C.g≠ja:=λe=>by
   have:del s' ja C.g=none:=by rw[e];exact sj _ _
   rw[show(setAl C m az).g=C.g from rfl,this]at n1;cases n1
  have HN:s' C.g=some (.net xn):=by rw[<-kW s' db];exact n1
  refine Qi (Np HN) ?_;refine fQ (by rw[n3,List.length_map];show C.rows.length+1<=_;omega) ?_;refine Qi (F9 N x.vars).1 ?_;refine ux λoP=>ux λsa=>Sn λZg=>lV (ux λa0H=>jv λoA A5=>?_);have hw:=U.whole (xn:=xn) (p:=oP) (c:=sa) (g:=oA) (ka:=a0H) (hs:=(ix x.vars).1) (vs:=(ix x.vars).2) HN A5 eX;have ZB:=U.wfc (g:=oA) (c:=sa) (p:=oP) (sP:=sP) (sC:=sC) (hs:=(ix x.vars).1) (vs:=(ix x.vars).2) ⟨h.W.rows,h.W.steps,h.W.kind⟩;refine QS ?_;have PR:steps.map (·.c)=x.conds:=by rw[U.conds,List.take_length]
  have hR:(HG (setAl C m az) ⟨ja,steps,sP,sC,oA,(ix x.vars).1,(ix x.vars).2⟩ oP sa).rows[C.rows.length]? =some ⟨ja,steps,sP,sC,oA,(ix x.vars).1,(ix x.vars).2⟩:=by
   show(C.rows++[_])[C.rows.length]? =_;rw[List.getElem?_append_right (Nat.le_refl _),Nat.sub_self];rfl
  have a1c:steps.length<=8:=by have:=h8 x Ud;rw[U.len];omega
  have cn:∀sc∈steps,wR S I (HG (setAl C m az) ⟨ja,steps,sP,sC,oA,(ix x.vars).1,(ix x.vars).2⟩ oP sa) (eF []) sc:=λsc eE=>by
   obtain⟨k,hk⟩:=List.getElem?_of_mem eE;obtain⟨q1,_,q3⟩:=U.obj k sc hk;have hm:sc.c∈x.conds:=by rw[<-PR];exact List.mem_map.2 ⟨sc,eE,rfl⟩
   exact hOk _ sc _ (hc x Ud sc.c hm) ⟨x,Ud,hm⟩ q1 q3 λi f hf=>by cases hf
  refine Oe (I:=I) (D:=[]) ZB (by show steps.length<_;omega) ⟨λi f hf=>(by cases hf),ax⟩ ax hR cn steps.length 0 ax (λ_ _=>rfl) N (by show B0+0+steps.length+1<N;omega) (λ_=>False) _ _ oA [] ((ix x.vars).1,(ix x.vars).2) _ hw (if_pos rfl) rfl (by show fF S (eF []) steps _ []=_;cases steps<;>rfl) (hI x Ud) (λy i hy=>?_) (λ_ _ _ _ hz=>hz) λbg s'' g1 g2 g3=>?_
  ·unfold gV at hy;split at hy;· simp at hy
   ·obtain⟨R',x',a1,_⟩:=U.inv.part _ _ _ hy;have:=(List.getElem?_eq_some_iff.1 a1).1;exact absurd this (by show¬C.rows.length<C.rows.length;omega)
  ·refine fQ an ?_;refine fa (u+1,s'') ⟨an,HG (setAl C m az) ⟨ja,steps,sP,sC,oA,(ix x.vars).1,(ix x.vars).2⟩ oP sa,bg,rfl,?_⟩ (by dsimp only;omega)
   have PV:((HG (setAl C m az) ⟨ja,steps,sP,sC,oA,(ix x.vars).1,(ix x.vars).2⟩ oP sa).rows).map uR=(rules.take (u+1)).map iE:=by
    show(C.rows++[_]).map uR=_;rw[List.map_append,h.rows,List.take_add_one,kB];show _++[uR _]=_;rw[Option.toList_some,List.map_append];congr 1;show[(steps.map (·.c),((ix x.vars).1,(ix x.vars).2))]=[(x.conds,ix x.vars)]
    rw[PR]
   have Gs:Rp (HG (setAl C m az) ⟨ja,steps,sP,sC,oA,(ix x.vars).1,(ix x.vars).2⟩ oP sa) ((u+1)*8):=⟨⟨U.al.A.ofKey,U.al.A.key⟩,U.al.keyed,U.al.good,by
    have h1:=U.al.few;have h2:=h8 x Ud;show(setAl C m az).alphas.keys.length<=_;omega⟩
   have U8:∀R∈(HG (setAl C m az) ⟨ja,steps,sP,sC,oA,(ix x.vars).1,(ix x.vars).2⟩ oP sa).rows,∀sc∈R.steps,oh (HG (setAl C m az) ⟨ja,steps,sP,sC,oA,(ix x.vars).1,(ix x.vars).2⟩ oP sa) sc:=λR oE sc eE=>by
    rcases List.mem_append.1 oE with oE|oE
    ·intro ht;obtain⟨A,q1,q2⟩:=h.sal R oE sc eE ht;exact⟨A,has A q1,q2⟩
    ·rw[List.mem_singleton.1 oE]at eE;obtain⟨k,hk⟩:=List.getElem?_of_mem eE;exact(U.obj k sc hk).2.2
   have fS:qd bg:=λq hq=>by
    have h1:=g1.cnt_le (facts:=[]) List.nodup_nil hq
    have h2:=tV (S:=S) (l:=(HG (setAl C m az) ⟨ja,steps,sP,sC,oA,(ix x.vars).1,(ix x.vars).2⟩ oP sa).rows) λR oE=>by
     rcases List.mem_append.1 oE with oE|oE;· exact UC h R oE
     · rw[List.mem_singleton.1 oE];exact a1c
    have h3:(HG (setAl C m az) ⟨ja,steps,sP,sC,oA,(ix x.vars).1,(ix x.vars).2⟩ oP sa).rows.length=C.rows.length+1:=by
     show(C.rows++[_]).length=_;rw[List.length_append];rfl
    omega
   refine⟨h.types,g1,Gs,ZB,λr R hr=>?_,PV,U8,?_⟩
   ·rcases MT hr with⟨h1,h2⟩|⟨h1,h2⟩
    ·intro τ fT;obtain⟨y,hy⟩:=h.comp r R h2 τ fT;have h5:loc y=some (r,[]++τ):=hy;refine⟨y,g2.1 y _ ?_⟩;unfold gV;rw[if_neg ?_];· exact h5
     ·intro e
      have YY:=U.inv.none_loc (p:=y) (by
       rw[e];unfold del;split;· rfl
       ·rw[QC (λe2=>by rw[e2,iQ]at A5;cases A5)]at A5;exact A5)
      rw[YY]at h5;cases h5
    ·have h3:=g3 fS;subst h2;rw[h1];exact h3
   ·show oP.isNone=false;cases oP with
    |none=>cases Zg
    |some a=>rfl
 ·have pI:¬u<rules.length:=of_decide_eq_false hb;obtain rfl:u=rules.length:=an
  exact fin C loc σ hCg h
end
end
section
open Go Go.RowKit Classical
def S0:fh:=⟨λc hs vs f=>Ek c f hs vs,λc vs=>Dq (at_ (wT N0) vs c.test)⟩
def I0 (e:ew):Prop:=Rw e.1 e.2
def P0 (ts:List Q7)(f:Qq):Prop:=rM ts f.ty ((f.args.length:Nat):Int)=true/\∀v∈f.args,pO v
theorem mr:∀{al:List eN} {xs:List V} {hs:List Bool} {vs:List V} {p:List Bool×List V},G0 al xs hs vs=some p->∀(j:Nat)(a:eN),al[j]? =some a->a.k=4->xs[j]? =some a.v
 |[],_,_,_,_,_,j,a,U,_=>by simp at U
 |_::_,[],_,_,_,h,_,_,_,_=>by cases h
 | b::al,x::xs,hs,vs,p,h,j,a,U,h4=>by
   unfold G0 at h;split at h
   ·rename_i q hq;cases j with
    | zero=>
      simp only[List.getElem?_cons_zero,Option.some.injEq]at U⊢;subst U;unfold Hy at hq;rw[if_neg an,if_pos h4]at hq;split at hq;· rename_i e;exact e.symm
      · cases hq
    | succ j=>
      simp only[List.getElem?_cons_succ]at U⊢;exact mr h j a U h4
   · cases h
theorem O7 {l:List eN} {j:Nat} {a:eN} (h:(iT l)[j]? =some a)(U:a.k=4):l[j]? =some a:=by
 unfold iT at h;rw[List.getElem?_map]at h;cases hl:l[j]? with
 |none=>rw[hl]at h;cases h
 | some b=>
   rw[hl]at h;simp only[Option.map_some,Option.some.injEq]at h;split at h;· rw[h]
   · subst h;exact absurd U bf
def Ry (c:Qp):Prop:=nodes c.test<=1000/\cw c.test
theorem a1m {ts:List Q7} {C:fC} {sc:eM} {T:bx} (hc:o9 ts sc.c)(ht:Ry sc.c)(hk:FZ sc)(hs:oh C sc)(hT:∀i f,T i=some f->P0 ts f):wR S0 I0 C T sc where
 mt:=λU N hN f hf e hI=>by
  have Ca:9223372036854775808<=N:=by have h':=hN;unfold B0 at h';omega
  obtain⟨a,b,hm,hp⟩:=Kf (N:=N) Ca (c:=sc.c) (f:=f) (hs:=e.1) (vs:=e.2) (by have:=hI.1;have:=hI.2.1;omega) (by have:=hI.2.1;omega) (by have:=hc.args;omega);refine⟨a,b,hm,λp hq=>?_⟩;have dW:Ek sc.c f e.1 e.2=some p:=hq;obtain⟨h1,h2,h3⟩:=hp p dW;have h4:=GO (hT _ f hf).2 hI.2.2 dW;rw[h1]at h4⊢;exact⟨rfl,by show a.length=b.length;rw[h2,h3];exact hI.1,by show b.length<=16;rw[h3];exact hI.2.1,h4⟩
 ev:=λa bw N hN e hI=>by
  have Ca:9223372036854775808+1000<=N:=by have h':=hN;unfold B0 at h';omega
  have hlen:e.2.length<=1000000:=by have:=hI.2.1;omega
  obtain⟨⟨k,n,s,z⟩,hr,_⟩:=both 1000 N sc.c.test e.2 ht.2 ht.1 an an hI.2.2 hlen;have iB:=Ya 1000 N N0 sc.c.test e.2 ht.2 ht.1 an an (by unfold N0;omega) hI.2.2 hlen;refine⟨k,n,s,z,hr,?_⟩;show Dq (at_ (wT N0) e.2 sc.c.test)=_;rw[<-iB,hr];rfl
 al:=λU=>by
  obtain⟨A,h1,h2,h3,h4⟩:=hs U;refine⟨A,h1,h2,λf e p hp=>?_⟩;have dc:Ek sc.c f e.1 e.2=some p:=hp;unfold Ek at dc;split at dc
  ·rename_i hh;unfold hasB;rw[Bool.and_eq_true,decide_eq_true_eq,List.all_eq_true];refine⟨by rw[h3];exact hh.2.1.symm,λj _=>?_⟩;cases ha:A.args[j]? with
   |none=>rfl
   | some a=>
     simp only;by_cases h5:a.k=4
     ·rw[if_pos h5];rw[h4]at ha;exact decide_eq_true (mr dc j a (O7 ha h5) h5)
     · rw[if_neg h5]
  · cases dc
theorem vi {b:Bool}:∀{l:List eN} {v:Int},(C4 b l v).1=true->∀a∈l,∃w,(ko b w a).1=true
 |[],_,_,a,U=>by cases U
 | x::l,v,h,a,U=>by
   unfold C4 at h;split at h
   ·rename_i hx;rcases List.mem_cons.1 U with rfl|U;· exact⟨v,hx⟩
    · exact vi h a U
   · cases h
theorem sg {ts:List Q7}:∀{l:List Qp} {v f:Int},(Ei ts l v f).1=true->∀c∈l,∃v' f',(rN ts v' f' c).1=true
 |[],_,_,_,c,U=>by cases U
 | x::l,v,f,h,c,U=>by
   unfold Ei at h;split at h
   ·rename_i hx;rcases List.mem_cons.1 U with rfl|U;· exact⟨v,f,hx⟩
    · exact sg h c U
   · cases h
theorem R2 {x:Int} (h:r5 .i64 x):dm x:=by
 have U:IntKind.min .i64=-9223372036854775808:=bf
 have e2:IntKind.max .i64=9223372036854775807:=bf
 unfold r5 at h;rw[U,e2]at h;exact h
theorem Gd {ts:List Q7} {c:Qp} {v f:Int} (h:(rN ts v f c).1=true)(cn:mZ c)(hn:nodes c.test<=1000)(ha:c.args.length<=1000):o9 ts c:=by
 have U:∀a∈c.args,pO a.v:=λa hm=>by
  have:=(cn.2.2.1.2 a hm).2.2;exact⟨R2 this.2.1,this.2.2⟩
 unfold rN at h;by_cases Nw:c.kind=1\/c.kind=2
 ·rw [if_pos Nw]at h;split at h
  ·rename_i ht;simp only[Bool.and_eq_true]at ht;split at h
   ·rename_i fx;refine⟨by rcases Nw with e|e;exact .inl e;exact .inr (.inl e),an,ha,λ_=>⟨R2 cn.2.1,λa hm=>?_,U,ht.1⟩⟩;unfold iT at hm;obtain⟨b,hb,rfl⟩:=List.mem_map.1 hm;split
    ·rename_i h4;obtain⟨w,hw⟩:=vi fx b hb;unfold ko at hw;rw[if_neg an,if_neg an,if_neg an,if_pos h4]at hw;simp only[Bool.and_eq_true,decide_eq_true_eq]at hw;exact .inr ⟨h4,hw.1,hw.2,(U b hb).1⟩
    · exact .inl rfl
   · cases h
  · cases h
 ·rw[if_neg Nw]at h;split at h
  ·rename_i h3;exact⟨.inr (.inr h3),an,ha,λhh=>absurd hh Nw⟩
  · cases h
structure mj (ts:List Q7) (rules:List Qa):Prop where
 right:LQ ts rules=true
 ok:∀r∈rules,yc r
 light:∀r∈rules,(∀c∈r.conds,c.args.length<=1000/\nodes c.test<=1000)/\∀a∈r.acts,Hz a.exprs<=1000000
theorem B2 {ts:List Q7} {rules:List Qa} (h:LQ ts rules=true):ts.length<=32:=by
 unfold LQ at h;simp only[Bool.and_eq_true,decide_eq_true_eq]at h;exact h.1.1
theorem yi {ts:List Q7} {rules:List Qa} (h:mj ts rules):∀r∈rules,∀c∈r.conds,o9 ts c:=λr hr c hc=>by
 have h1:=h.right;unfold LQ at h1;simp only[Bool.and_eq_true,decide_eq_true_eq]at h1;obtain⟨i,hi,rfl⟩:=List.getElem_of_mem hr;have U:=List.all_eq_true.1 h1.2.2 i (by simp[List.mem_range'_1];exact hi);unfold w8 at U;rw[List.getElem?_eq_getElem hi]at U;simp only[Bool.and_eq_true]at U;have h6:=U.2;unfold pj at h6;simp only[Bool.and_eq_true]at h6;obtain⟨v,f,hv⟩:=sg h6.2.1 c hc;obtain⟨g1,g2⟩:=(h.light _ hr).1 c hc;exact Gd hv ((h.ok _ hr).2.2.2.1.2 c hc) g2 g1
theorem E2 {ts:List Q7} {f:Qq}:(BX oa ts f=true↔xe ts 0 f=true):=by
 unfold BX xe rM
 have e:decide (1<=f.id/\f.id<=1099511627776)=decide (0<f.id/\f.id<=1099511627776):=by
  by_cases h:0<f.id/\f.id<=1099511627776;· rw[decide_eq_true h,decide_eq_true ⟨an,h.2⟩]
  · rw[decide_eq_false h,decide_eq_false (λh'=>h ⟨an,h'.2⟩)]
 rw[e];cases ts[f.ty.toNat]? with
 |none=>simp
 |some t=>simp only[Bool.and_assoc]
end
section
open Go Go.RowKit Classical
section
variable {ts:List Q7} {rules:List Qa} {facts:List Qq} {f:Qq} {C:fC} {loc:Loc} {s:Q8} {N:Nat}
theorem qT:∀{l:List Qq} {last:Int},zh ts last l=true->(∀f∈l,last<f.id/\f.id<=1099511627776)/\uC l
 |[],_,_=>⟨λf hf=>(by cases hf),List.Pairwise.nil⟩
 | g::l,last,h=>by
   rw[zh]at h;simp only[Bool.and_eq_true]at h
   have hg:last<g.id/\g.id<=1099511627776:=by
    have h1:=h.1;unfold xe at h1;simp only[Bool.and_eq_true,decide_eq_true_eq]at h1;exact h1.1
   obtain⟨a,b⟩:=qT h.2;refine⟨λx U=>?_,List.Pairwise.cons (λx U=>(a x U).1) b⟩;rcases List.mem_cons.1 U with rfl|U;· exact hg
   · have:=a x U;omega
theorem vr {a b:Int} (h:xe ts a f=true)(U:b<f.id):xe ts b f=true:=by
 unfold xe at h⊢;simp only[Bool.and_eq_true,decide_eq_true_eq]at h⊢;exact⟨⟨U,h.1.2⟩,h.2⟩
theorem sD:∀{l:List Qq} {a b:Int},zh ts a l=true->(∀f∈l,b<f.id)->zh ts b l=true
 |[],_,_,_,_=>rfl
 | g::l,a,b,h,U=>by
   rw[zh,Bool.and_eq_true]at h⊢;exact⟨vr h.1 (U g List.mem_cons_self),h.2⟩
theorem sB:∀{l:List Qq} {last:Int},zh ts last l=true->xe ts last f=true->(∀g∈l,g.id≠f.id)->zh ts last (kd f l)=true
 |[],last,_,hf,_=>by rw[kd,zh,hf];rfl
 | g::l,last,h,hf,hn=>by
   rw[kd];have h':=h;rw[zh,Bool.and_eq_true]at h';split
   ·rename_i bq;rw[zh,hf,Bool.true_and];refine sD h λx U=>?_
    rcases List.mem_cons.1 U with rfl|U;· exact bq
    · have:=(List.pairwise_cons.1 (qT h).2).1 x U;omega
   ·rename_i bq;have db:=hn g List.mem_cons_self;rw[zh,h'.1,Bool.true_and];exact sB h'.2 (vr hf an) λx U=>hn x (List.mem_cons_of_mem _ U)
theorem sA {id:Int}:∀{l:List Qq} {last:Int},zh ts last l=true->zh ts last (gF id l)=true
 |[],_,_=>rfl
 | g::l,last,h=>by
   have h':=h;rw[zh,Bool.and_eq_true]at h';have U:=sA (id:=id) h'.2;unfold gF at U⊢;by_cases hg:g.id=id
   ·rw[List.filter_cons_of_neg (cv hg)];refine sD U λx hx=>?_
    have h1:=((qT h'.2).1 x (List.mem_filter.1 hx).1).1;have h2:=((qT h).1 g List.mem_cons_self).1;omega
   · rw[List.filter_cons_of_pos (cv hg),zh,h'.1,U];rfl
def xb (ts:List Q7)(rules:List Qa)(facts:List Qq)(a:Nat)(s:Q8):Prop:=∃C loc,C.g=a/\rJ S0 I0 (P0 ts) C/\qb S0 (P0 ts) C facts loc s/\C.types=ts/\C.rows.map uR=rules.map iE/\(∀R∈C.rows,∀sc∈R.steps,FZ sc)/\zh ts 0 facts=true
theorem E1 (U:(facts.map (·.id)).Nodup):∀{l:List eQ} {rs:List Qa},l.map uR=rs.map iE->(∀R∈l,∀sc∈R.steps,FZ sc)->fV S0 facts l=jz facts rs
 |[],[],_,_=>rfl
 |[],r::rs,h,_=>by cases h
 |R::l,[],h,_=>by cases h
 | R::l,r::rs,h,hk=>by
   rw[List.map_cons,List.map_cons]at h;obtain⟨h1,h2⟩:=List.cons.inj h;have ih:=E1 U h2 λR' Ny=>hk R' (List.mem_cons_of_mem _ Ny)
   have e:fV S0 facts (R::l)=(qY S0 facts R.steps (R.hs,R.vs)).length+fV S0 facts l:=rfl;rw[e,ih,jz,EW U (hk R List.mem_cons_self)];unfold uR iE at h1;obtain⟨e1,e2⟩:=Prod.mk.inj h1;unfold Pv;rw[e1,<-e2];rfl
theorem EH (hn:(facts.map (·.id)).Nodup)(U:∀f∈facts,0<f.id):∀{l:List eQ} {rs:List Qa} {k:Nat},l.map uR=rs.map iE->(∀R∈l,∀sc∈R.steps,FZ sc)->El S0 facts l k=iV facts rs k
 |[],[],_,_,_=>rfl
 |[],r::rs,_,h,_=>by cases h
 |R::l,[],_,h,_=>by cases h
 | R::l,r::rs,k,h,hk=>by
   rw[List.map_cons,List.map_cons]at h;obtain⟨h1,h2⟩:=List.cons.inj h;have ih:=EH hn U (k:=k+1) h2 λR' Ny=>hk R' (List.mem_cons_of_mem _ Ny)
   rw[El,iV,ih];congr 1;unfold uR iE at h1;obtain⟨e1,e2⟩:=Prod.mk.inj h1;have hg:=EN (S:=S0) hn U (e:=(R.hs,R.vs)) (ids:=[]) (hk R List.mem_cons_self)
   have eg:YC facts r=goN (nI S0 facts) facts (R.steps.map (·.c)) (R.hs,R.vs).1 (R.hs,R.vs).2 []:=by
    unfold YC;rw[e1,e2];rfl
   rw[<-eg]at hg;have:(YC facts r).map (Rm ((k:Nat):Int))=((YC facts r).map (·.1)).map λids=>(⟨((k:Nat):Int),ids⟩:QA):=by rw[List.map_map];rfl
   rw[this,hg,List.map_map];rfl
theorem Uq {Q:Option Nat×Q8->Prop} (hN:B0+4000000<=N)(h:mj ts rules)(hQ:∀a s',xb ts rules [] a s'->Q (some a,s')):VV N ts rules s Q:=by
 have Ca:9223372036854775808+4000000<=N:=by have h':=hN;unfold B0 at h';omega
 have ht:=B2 h.right;obtain⟨h64,h8⟩:=AZ h.right;refine WQ (S:=S0) (I:=I0) (P:=P0 ts) hN an h64 h8 (yi h) ?_ (λC sc T U ⟨x,hx,hm⟩ hk hs hT=>a1m U ⟨((h.light x hx).1 _ hm).2,((h.ok x hx).2.2.2.1.2 _ hm).2.2.2⟩ hk hs hT) (λx _=>(F9 N x.vars).2) (λf hf=>hf.1) λC loc s' g1 g2 g3 g4 g5=>hQ _ _ ⟨C,loc,rfl,g1,g2,g3,g4,g5,rfl⟩;rw[Q9V an λr hr=>⟨λc U=>⟨((h.light r hr).1 c U).1,by have:=((h.light r hr).1 c U).2;omega⟩,(h.light r hr).2⟩,h.right]
noncomputable def kl (ts:List Q7)(rules:List Qa)(facts:List Qq)(f:Qq):List Qq×Nat:=
 if xe ts 0 f=true then(if(facts.any λg=>decide (g.id=f.id))=true then(facts,7)else if jz (kd f facts) rules<=4096 then(kd f facts,0)else(facts,204))else(facts,2)
noncomputable def C5 (rules:List Qa)(facts:List Qq)(id:Int):List Qq×Nat:=
 if(facts.any λg=>decide (g.id=id))=true then(if jz (gF id facts) rules<=4096 then(gF id facts,0)else(facts,204))else(facts,6)
theorem FF {id:Int}:(eF facts id).isSome=facts.any λg=>decide (g.id=id):=by
 unfold eF;rw[Bool.eq_iff_iff,List.find?_isSome,List.any_eq_true]
theorem xu {N:Nat} {l:List V} (hN:9223372036854775808<=N)(hl:l.length<=4398046511104):Vx N l=some (!(l.all oa)):=by
 unfold Vx Q2R
 rw [VU (l:=l) (p:=λv=>!oa v) (λi hi=>by
  unfold WS Q6c;rw[br hi,List.getElem?_eq_getElem hi,Q1,QbS,Q1,Q1];by_cases U:(!oa l[i])=true;· rw[if_pos U,if_pos U]
  · rw[if_neg U,if_neg U,QM an]) (by
  unfold WS;rw[if_neg ax]) l.length 0 N an an,Q1,List.drop_zero,XI]
 rw[<-xl,Bool.not_not]
theorem Sj {a:Nat} {Q:Nat×Q8->Prop} (hN:B0+4000000<=N)(h:xb ts rules facts a s)(hl:facts.length<=1000000)(Gs:f.args.length<=4398046511104)(hv:∀v∈f.args,pO v)
  (hQ:∀s',xb ts rules (kl ts rules facts f).1 a s'->Q ((kl ts rules facts f).2,s')):Xl N a f.id f.ty f.args s Q:=by
 have Ca:9223372036854775808+4000000<=N:=by have h':=hN;unfold B0 at h';omega
 obtain⟨C,loc,rfl,hG,hP,e1,e2,e3,e4⟩:=h;refine WB (vb:=oa) hN hG hP hl (xu an Gs) (λhr=>?_) Gs λbg s' hp=>?_
 ·rw[e1]at hr;have:=E2.1 hr;unfold xe at this;simp only[Bool.and_eq_true]at this;exact⟨this.2.1,hv⟩
 ·rw [e1]at hp⊢;have Gy:∀l,uC l->fV S0 l C.rows=jz l rules:=λl hl=>E1 hl.nodup e2 e3
  have e:addN S0 (BX oa ts) C facts f=kl ts rules facts f:=by
   unfold addN kl;rw[FF];by_cases hr:BX oa ts f=true
   ·rw[if_pos hr,if_pos (E2.1 hr)];by_cases U:(facts.any λg=>decide (g.id=f.id))=true;· rw[if_pos U,if_pos U]
    · rw[if_neg U,if_neg U,Gy _ (hP.ris.ins λg hg hid=>U (List.any_eq_true.2 ⟨g,hg,by simpa using hid⟩))]
   · rw[if_neg hr,if_neg (λh=>hr (E2.2 h))]
  rw[e]at hp⊢;refine hQ s' ⟨C,bg,rfl,hG,hp,e1,e2,e3,?_⟩;unfold kl;split
  ·rename_i hf;split;· exact e4
   ·rename_i U;split;· exact sB e4 hf λg hg hid=>U (List.any_eq_true.2 ⟨g,hg,by simpa using hid⟩)
    · exact e4
  · exact e4
theorem Ng {a:Nat} {id:Int} {Q:Nat×Q8->Prop} (hN:B0+4000000<=N)(h:xb ts rules facts a s)(hl:facts.length<=1000000)(hQ:∀s',xb ts rules (C5 rules facts id).1 a s'->Q ((C5 rules facts id).2,s')):Xq N a id s Q:=by
 obtain⟨C,loc,rfl,hG,hP,e1,e2,e3,U⟩:=h;refine Rv hN hG hP hl λbg s' hp=>?_
 have e:sr S0 C facts id=C5 rules facts id:=by
  unfold sr C5;rw[FF,E1 hP.ris.del.nodup e2 e3]
 rw[e]at hp⊢;refine hQ s' ⟨C,bg,rfl,hG,hp,e1,e2,e3,?_⟩;unfold C5;split
 ·split;· exact sA U
  · exact U
 · exact U
theorem Vi {a:Nat} {Q:List QA->Prop} (hN:B0+4000000<=N)(h:xb ts rules facts a s)(hQ:Q (iV facts rules 0)):Xa N a s Q:=by
 obtain⟨C,loc,rfl,hG,U,e1,e2,e3,e4⟩:=h;refine Il hN hG U ?_;rw[EH U.ris.nodup (λf hf=>by have:=(U.fr f hf).2;omega) e2 e3];exact hQ
theorem Um {a:Nat} {Q:Nat->Prop} (h:xb ts rules facts a s)(hQ:Q facts.length):Xm N a s Q:=by
 obtain⟨C,loc,rfl,U,hP,_⟩:=h;exact WJ U hP hQ
end
end
end Go.Proofs.YtocfkfhdcnjklaaGreatDoor
