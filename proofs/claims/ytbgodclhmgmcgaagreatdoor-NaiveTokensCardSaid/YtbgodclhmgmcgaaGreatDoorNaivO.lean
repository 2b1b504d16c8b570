import Derived.Test.YtbgodclhmgmcgaaGreatDoorPtr
import Derived.Test.YtbgodclhmgmcgaaGreatDoorNaivE
namespace Go.Proofs.YtbgodclhmgmcgaaGreatDoor
open Go Go.RowKit
theorem in_isN {z:Int} {h:List Bool}:(if decide (z ≥ 0)=true then some (decide (z < ((h.length:Nat):Int))) else some false)=some (decide (0≤z∧z < ((h.length:Nat):Int))):=by
 by_cases h0 : 0≤z
 · rw [if_pos (by simpa using h0)];simp [h0]
 · rw [if_neg (by simpa using h0)];simp [h0]
theorem fit_is (N:Nat) {a:Q1n} {x:V} {hs:List Bool} {vs:List V} (hl:hs.length=vs.length) :
  ∃ h' v',Q5t N hs vs a.k a.var a.v.k a.v.n a.v.s x.k x.n x.s=some ((Qag a x hs vs).isSome,h',v')∧∀ p,Qag a x hs vs=some p→p=(h',v'):=by
 unfold Q5t Qag
 rw [in_isN,Q0]
 have ev:(⟨a.v.k,a.v.n,a.v.s⟩ : V)=a.v:=rfl
 have ex:(⟨x.k,x.n,x.s⟩ : V)=x:=rfl
 rw [ev,ex]
 by_cases k1:a.k=1
 ·rw [if_pos (by simpa using k1),if_pos k1]
  exact ⟨hs,vs,rfl,fun p h=>(Option.some.inj h).symm⟩
 rw [if_neg (by simpa using k1),if_neg k1]
 by_cases k4:a.k=4
 ·rw [if_pos (by simpa using k4),if_pos k4]
  by_cases hv:a.v=x
  ·rw [if_pos hv,decide_eq_true hv]
   exact ⟨hs,vs,rfl,fun p h=>(Option.some.inj h).symm⟩
  ·rw [if_neg hv,decide_eq_false hv]
   exact ⟨hs,vs,rfl,fun p h=>by cases h⟩
 rw [if_neg (by simpa using k4),if_neg k4]
 by_cases hin : 0≤a.var∧a.var < ((hs.length:Nat):Int)
 ·have g1:a.var.toNat < hs.length:=by omega
  have g2:a.var.toNat < vs.length:=by omega
  rw [decide_eq_true hin]
  by_cases k3:a.k=3
  ·rw [if_pos (by simpa using k3),if_pos k3,if_pos rfl,Qr hin.1,List.getElem?_eq_getElem g1,Q0,List.getElem?_eq_getElem g2]
   by_cases hb:hs[a.var.toNat]=true
   ·rw [if_pos hb,Qr hin.1,Q0]
    by_cases hv:vs[a.var.toNat]=x
    ·rw [if_pos ⟨hin.1,hin.2,by rw [hb],by rw [hv]⟩,decide_eq_true hv]
     exact ⟨hs,vs,rfl,fun p h=>(Option.some.inj h).symm⟩
    ·rw [if_neg (fun h=>hv (Option.some.inj h.2.2.2)),decide_eq_false hv]
     exact ⟨hs,vs,rfl,fun p h=>by cases h⟩
   ·rw [if_neg hb,if_neg (fun h=>hb (Option.some.inj h.2.2.1))]
    exact ⟨hs,vs,rfl,fun p h=>by cases h⟩
  ·rw [if_neg (by simpa using k3),if_neg k3]
   by_cases k2:a.k=2
   ·unfold Q5Q
    rw [if_pos (by simpa using k2),if_pos k2,if_pos rfl,Qr hin.1,List.getElem?_eq_getElem g1,Q0,Qr hin.1,List.getElem?_eq_getElem g2,Q0,Q0,if_pos hin]
    exact ⟨_,_,rfl,fun p h=>(Option.some.inj h).symm⟩
   ·rw [if_neg (by simpa using k2),if_neg k2]
    exact ⟨hs,vs,rfl,fun p h=>by cases h⟩
 ·rw [decide_eq_false hin]
  by_cases k3:a.k=3
  ·rw [if_pos (by simpa using k3),if_pos k3,if_neg (by simp),if_neg (fun h=>hin ⟨h.1,h.2.1⟩)]
   exact ⟨hs,vs,rfl,fun p h=>by cases h⟩
  ·rw [if_neg (by simpa using k3),if_neg k3]
   by_cases k2:a.k=2
   ·unfold Q5Q
    rw [if_pos (by simpa using k2),if_pos k2,if_neg (by simp),Q0,if_neg hin]
    exact ⟨hs,vs,rfl,fun p h=>by cases h⟩
   ·rw [if_neg (by simpa using k2),if_neg k2]
    exact ⟨hs,vs,rfl,fun p h=>by cases h⟩
def Qaf:List Q1n→List V→List Bool→List V→Option (List Bool×List V)
 | [],_,hs,vs=>some (hs,vs)
 | _ :: _,[],_,_=>none
 | a :: al,x :: xs,hs,vs=>match Qag a x hs vs with
   | some p=>Qaf al xs p.1 p.2
   | none=>none
theorem argsTo_len : ∀ {al:List Q1n} {xs:List V} {hs:List Bool} {vs:List V} {p:List Bool×List V},Qaf al xs hs vs=some p→p.1.length=hs.length∧p.2.length=vs.length
 | [],_,hs,vs,p,h=>by cases h;exact ⟨rfl,rfl⟩
 | _ :: _,[],_,_,_,h=>by cases h
 | a :: al,x :: xs,hs,vs,p,h=>by
   unfold Qaf at h
   split at h
   ·rename_i q hq
    have h1:=fitOne_len (h':=q.1) (vs':=q.2) hq
    have h2:=argsTo_len h
    exact ⟨h2.1.trans h1.1,h2.2.trans h1.2⟩
   · cases h
theorem args_loop {N:Nat} {al:List Q1n} {xs:List V} (hlen:al.length=xs.length)(hal:al.length≤1000000) : ∀ (m i fuel:Nat)(hs:List Bool)(vs:List V),i+m=al.length→m < fuel→hs.length=vs.length→
   ∃ a b,Q1e (Q4n N al xs) fuel (i,hs,vs)=some (if (Qaf (al.drop i) (xs.drop i) hs vs).isSome=true then .inl (a,b) else .inr ([],[],false))∧∀ p,Qaf (al.drop i) (xs.drop i) hs vs=some p→p=(a,b):=by
 intro m
 induction m with
 | zero =>
   intro i fuel hs vs hi hf hl
   obtain ⟨fuel,rfl⟩ : ∃ q,fuel=q+1:=⟨fuel - 1,by omega⟩
   obtain rfl:i=al.length:=by omega
   refine ⟨hs,vs,?_,fun p h=>?_⟩
   · rw [Q1c (o:=.inl (hs,vs)) (by unfold Q4n; simp only; rw [if_neg (by simp)]),List.drop_length]
     simp [Qaf]
   · rw [List.drop_length] at h;cases h;rfl
 | succ m ih =>
   intro i fuel hs vs hi hf hl
   obtain ⟨fuel,rfl⟩ : ∃ q,fuel=q+1:=⟨fuel - 1,by omega⟩
   have h1:i < al.length:=by omega
   have h2:i < xs.length:=by omega
   obtain ⟨h',v',hfit,hp⟩:=fit_is N (a:=al[i]) (x:=xs[i]) hl
   rw [List.drop_eq_getElem_cons h1,List.drop_eq_getElem_cons h2]
   have hstep:Q4n N al xs (i,hs,vs)=if (Qag al[i] xs[i] hs vs).isSome=true then some (.inl (i+1,h',v')) else some (.inr (.inr ([],[],false))):=by
     unfold Q4n
     simp only
     rw [if_pos (by simpa using h1),List.getElem?_eq_getElem h1,Q0,List.getElem?_eq_getElem h2,Q0,hfit,Q0]
     cases (Qag al[i] xs[i] hs vs).isSome with
     | true=>simp only [Bool.not_true,Bool.false_eq_true,if_false,if_true];rw [Qr (by omega)]
     | false=>simp only [Bool.not_false,if_true,Bool.false_eq_true,if_false]
   unfold Qaf
   cases hq:Qag al[i] xs[i] hs vs with
   | some q =>
     have hq2:=hp q hq
     subst hq2
     have hlen2:=fitOne_len hq
     rw [hq] at hstep
     simp only [Option.isSome_some,if_true] at hstep
     rw [Q2c hstep]
     exact ih (i+1) fuel h' v' (by omega) (by omega) (by omega)
   | none =>
     rw [hq] at hstep
     simp only [Option.isSome_none,Bool.false_eq_true,if_false] at hstep
     refine ⟨[],[],?_,fun p h=>by cases h⟩
     rw [Q1c hstep]
     simp
def madeB (hs:List Bool)(vs:List V):Bool:=hs.length==vs.length && (hs.zip vs).all fun p=>p.1 || decide (p.2=Q87)
theorem made_is {N:Nat} (hN : 1000001 ≤ N) {hs:List Bool} {vs:List V} (hh:hs.length ≤ 1000000):Q76 N hs vs = some (madeB hs vs):=by
 unfold Q76 madeB
 by_cases hl:hs.length=vs.length
 ·rw [if_neg (by simp [hl]),show (hs.length == vs.length) = true from by simpa using hl,Bool.true_and]
  have key : ∀ (m i fuel:Nat),i+m=hs.length→m < fuel→Q1e (Q2Z N hs vs) fuel i=some (if ((hs.drop i).zip (vs.drop i)).all (fun p=>p.1 || decide (p.2=Q87))=true then .inl () else .inr false):=by
   intro m
   induction m with
   | zero =>
     intro i fuel hi hf
     obtain ⟨fuel,rfl⟩ : ∃ q,fuel=q+1:=⟨fuel - 1,by omega⟩
     obtain rfl:i=hs.length:=by omega
     rw [Q1c (o:=.inl ()) (by unfold Q2Z;rw [if_neg (by simp)]),List.drop_length]
     simp
   | succ m ih =>
     intro i fuel hi hf
     obtain ⟨fuel,rfl⟩ : ∃ q,fuel=q+1:=⟨fuel - 1,by omega⟩
     have h1:i < hs.length:=by omega
     have h2:i < vs.length:=by omega
     have hstep:Q2Z N hs vs i=if (hs[i] || decide (vs[i]=Q87))=true then some (.inl (i+1)) else some (.inr (.inr false)):=by
      unfold Q2Z
      rw [if_pos (by simpa using h1),List.getElem?_eq_getElem h1,Q0]
      cases hb:hs[i] with
      | true=>simp only [Bool.not_true,Bool.false_eq_true,if_false,Bool.true_or,if_true];rw [Q0,if_neg (by simp),Qr (by omega)]
      | false =>
        simp only [Bool.not_false,if_true,Bool.false_or]
        rw [List.getElem?_eq_getElem h2,Q0,Q0]
        by_cases hz:vs[i]=Q87
        ·have hz2:vs[i]=(⟨0,0,(⟨#[]⟩ : ByteArray)⟩ : V):=hz
         rw [if_neg (show ¬ (!decide (vs[i]=(⟨0,0,(⟨#[]⟩ : ByteArray)⟩ : V)))=true from by simp [hz2]),Qr (by omega),if_pos (by simpa using hz)]
        ·have hz2 : ¬ vs[i]=(⟨0,0,(⟨#[]⟩ : ByteArray)⟩ : V):=hz
         rw [if_pos (show (!decide (vs[i]=(⟨0,0,(⟨#[]⟩ : ByteArray)⟩ : V)))=true from by simpa using hz2),if_neg (by simpa using hz)]
     rw [List.drop_eq_getElem_cons h1,List.drop_eq_getElem_cons h2,List.zip_cons_cons,List.all_cons]
     by_cases hb:(hs[i] || decide (vs[i]=Q87))=true
     ·rw [if_pos hb] at hstep
      rw [Q2c hstep,ih (i+1) fuel (by omega) (by omega)]
      simp only [hb,Bool.true_and]
     ·rw [if_neg hb] at hstep
      rw [Q1c hstep]
      simp only [Bool.not_eq_true] at hb
      simp only [hb,Bool.false_and,Bool.false_eq_true,if_false]
  rw [key hs.length 0 N (by omega) (by omega),List.drop_zero,List.drop_zero]
  cases ((hs.zip vs).all fun p=>p.1 || decide (p.2=Q87)) with
  | true=>rfl
  | false=>rfl
 · rw [if_pos (by simpa using hl),show (hs.length==vs.length)=false from by simpa using hl,Bool.false_and]
def Q9f (c:Qn)(f:QP)(hs:List Bool)(vs:List V):Option (List Bool×List V) :=
 if (c.kind=1∨c.kind=2)∧c.type=f.ty∧c.args.length=f.args.length∧madeB hs vs=true then Qaf c.args f.args hs vs else none
theorem match_is {N:Nat} (hN : 9223372036854775808≤N) {c:Qn} {f:QP} {hs:List Bool} {vs:List V} (hh:hs.length≤1000)(hv:vs.length≤1000)(ha:c.args.length≤1000000) :
  ∃ a b,Q6q N c.kind c.type c.args c.test.kind c.test.value.k c.test.value.n c.test.value.s c.test.var c.test.op c.test.kids f.id f.ty f.args hs vs=some (a,b,(Q9f c f hs vs).isSome)∧∀ p,Q9f c f hs vs=some p→p=(a,b)∧a.length=hs.length∧b.length=vs.length:=by
 unfold Q6q
 have e12:(if (c.kind==1)=true then some true else some (c.kind==2))=some (decide (c.kind=1∨c.kind=2)):=by
  by_cases h:c.kind=1
  · simp [h]
  · rw [if_neg (by simpa using h)];congr 1;rw [Bool.eq_iff_iff];simp [h]
 rw [e12,Q0]
 have hc2:Q8g N (decide (c.kind = 1 ∨ c.kind = 2)) c.type f.ty c.args f.args hs vs = some (!(decide ((c.kind = 1 ∨ c.kind = 2) ∧ c.type = f.ty ∧ c.args.length = f.args.length ∧ madeB hs vs = true))):=by
  unfold Q8g
  by_cases h1:c.kind=1∨c.kind=2
  · rw [decide_eq_true h1,if_neg (by simp)]
    by_cases h2:c.type=f.ty
    ·rw [if_neg (by simpa using h2)]
     by_cases h3:c.args.length=f.args.length
     ·rw [if_neg (by simpa using h3),made_is (by omega) (by omega),Q0]
      congr 2
      rw [Bool.eq_iff_iff];simp [h1,h2,h3]
     · rw [if_pos (by simpa using h3),decide_eq_false (fun h=>h3 h.2.2.1)];rfl
    · rw [if_pos (by simpa using h2),decide_eq_false (fun h=>h2 h.2.1)];rfl
  · rw [decide_eq_false h1,if_pos (show (!false)=true from rfl),decide_eq_false (fun h=>h1 h.1)];rfl
 rw [hc2,Q0]
 unfold Q9f
 by_cases hg:(c.kind=1∨c.kind=2)∧c.type=f.ty∧c.args.length=f.args.length∧madeB hs vs=true
 ·have hl:hs.length=vs.length:=by
    have:=hg.2.2.2
    unfold madeB at this
    simp only [Bool.and_eq_true,beq_iff_eq] at this
    exact this.1
  rw [decide_eq_true hg,if_neg (by simp),if_pos hg]
  unfold Qb8
  rw [Qr (by omega),Qr (by omega),Q0]
  obtain ⟨a,b,h1,h2⟩:=args_loop (N:=N) hg.2.2.1 ha c.args.length 0 N hs vs (by omega) (by omega) hl
  rw [List.drop_zero,List.drop_zero] at h1 h2
  rw [h1]
  cases hq:Qaf c.args f.args hs vs with
  | some p =>
    have hp:=h2 p hq
    have hlen:=argsTo_len hq
    refine ⟨a,b,by simp only [Option.isSome_some,if_true];rw [Q1b],fun p' h=>?_⟩
    cases h
    refine ⟨hp,?_,?_⟩
    · rw [hp] at hlen;exact hlen.1
    · rw [hp] at hlen;exact hlen.2
  | none =>
    refine ⟨[],[],by simp only [Option.isSome_none,Bool.false_eq_true,if_false];rw [Q1K],fun p h=>by cases h⟩
 ·rw [decide_eq_false hg,if_pos (show (!false)=true from rfl),if_neg hg]
  exact ⟨[],[],rfl,fun p h=>by cases h⟩
end Go.Proofs.YtbgodclhmgmcgaaGreatDoor
namespace Go.Proofs.YtbgodclhmgmcgaaGreatDoor
open Go Go.RowKit
abbrev N0:Nat:=9223372036855775808
def holdsB:Option Say→Bool
 | some (k,n,_,e)=>e==0 && (k==1 && n !=0)
 | none=>false
def tells (facts:List QP):Tells:=⟨fun c hs vs f=>Q9f c f hs vs,fun c vs=>holdsB (at_ (Q1o N0) vs c.test),fun c hs vs=>facts.any fun f=>(Q9f c f hs vs).isSome⟩
def InvE (hs:List Bool)(vs:List V):Prop:=hs.length=vs.length∧vs.length≤16∧∀ v∈vs,okV v
theorem fitOne_ok {a:Q1n} {x:V} {hs:List Bool} {vs:List V} {p:List Bool×List V} (hx:okV x)(hv : ∀ v∈vs,okV v)(h:Qag a x hs vs=some p) : ∀ v∈p.2,okV v:=by
 unfold Qag at h
 split at h
 · cases h;exact hv
 ·split at h
  ·split at h
   · cases h;exact hv
   · cases h
  ·split at h
   ·split at h
    · cases h;exact hv
    · cases h
   ·split at h
    ·split at h
     ·cases h
      intro v hm
      rcases List.mem_or_eq_of_mem_set hm with hm | rfl
      · exact hv v hm
      · exact hx
     · cases h
    · cases h
theorem argsTo_ok : ∀ {al:List Q1n} {xs:List V} {hs:List Bool} {vs:List V} {p:List Bool×List V},(∀ x∈xs,okV x)→(∀ v∈vs,okV v)→Qaf al xs hs vs=some p→∀ v∈p.2,okV v
 | [],_,hs,vs,p,_,hv,h=>by cases h;exact hv
 | _ :: _,[],_,_,_,_,_,h=>by cases h
 | a :: al,x :: xs,hs,vs,p,hx,hv,h=>by
   unfold Qaf at h
   split at h
   ·rename_i q hq
    exact argsTo_ok (fun y hy=>hx y (List.mem_cons_of_mem _ hy)) (fitOne_ok (hx x List.mem_cons_self) hv hq) h
   · cases h
theorem matchF_ok {c:Qn} {f:QP} {hs:List Bool} {vs:List V} {p:List Bool×List V} (hf : ∀ x∈f.args,okV x)(hv : ∀ v∈vs,okV v)(h:Q9f c f hs vs=some p) : ∀ v∈p.2,okV v:=by
 unfold Q9f at h
 split at h
 · exact argsTo_ok hf hv h
 · cases h
structure LightC (conds:List Qn) (facts:List QP):Prop where
 args : ∀ c∈conds,c.args.length≤1000
 test : ∀ c∈conds,Q8a c.test≤1000∧ok_Api_ExprD c.test
 few:facts.length≤1000
 vals : ∀ f∈facts,∀ x∈f.args,okV x
theorem some_is {N:Nat} (hN : 9223372036855775808≤N) {c:Qn} {facts:List QP} {hs:List Bool} {vs:List V} (hh:hs.length≤1000)(hv:vs.length≤1000)(ha:c.args.length≤1000000)(hf:facts.length≤1000) :
  Q7T N c.kind c.type c.args c.test.kind c.test.value.k c.test.value.n c.test.value.s c.test.var c.test.op c.test.kids hs vs facts=some (facts.any fun f=>(Q9f c f hs vs).isSome):=by
 unfold Q7T Q53 Q6i
 rw [Q9w (l:=facts) (p:=fun f=>(Q9f c f hs vs).isSome) (fun i hi=>by
  unfold Q3v Q91
  obtain ⟨a,b,hm,_⟩:=match_is (N:=N) (by omega) (c:=c) (f:=facts[i]) hh hv ha
  rw [if_pos (by simpa using hi),List.getElem?_eq_getElem hi,Q0,hm,Q0,Q0]
  by_cases hb:(Q9f c facts[i] hs vs).isSome=true
  · rw [if_pos hb,if_pos hb]
  · rw [if_neg hb,if_neg hb,Qr (by omega)]) (by
  unfold Q3v
  rw [if_neg (by simp)]) facts.length 0 N (by omega) (by omega),Q0,Q0,List.drop_zero,Qbs]
theorem okTells {conds:List Qn} {facts:List QP} (h:LightC conds facts):OkS (tells facts) InvE conds facts:={
 mt:=fun N hN c hc _ _ f hf hs vs hI=>by
  obtain ⟨a,b,hm,hp⟩:=match_is (N:=N) (by omega) (c:=c) (f:=f) (hs:=hs) (vs:=vs) (by have:=hI.1;have:=hI.2.1;omega) (by have:=hI.2.1;omega) (by have:=h.args c hc;omega)
  refine ⟨a,b,hm,fun p hq=>?_⟩
  obtain ⟨h1,h2,h3⟩:=hp p hq
  have h4:=matchF_ok (h.vals f hf) hI.2.2 hq
  rw [h1] at h4
  exact ⟨h1,by rw [h2,h3];exact hI.1,by rw [h3];exact hI.2.1,h4⟩
 ev:=fun N hN c hc _ hs vs hI=>by
  obtain ⟨t1,t2⟩:=h.test c hc
  have hlen:vs.length≤1000000:=by have:=hI.2.1;omega
  obtain ⟨⟨k,n,s,e⟩,hr,_⟩:=both 1000 N c.test vs t2 t1 (by omega) (by omega) hI.2.2 hlen
  have hsame:=both2 1000 N N0 c.test vs t2 t1 (by omega) (by omega) (by unfold N0;omega) hI.2.2 hlen
  refine ⟨k,n,s,e,hr,?_⟩
  show holdsB (at_ (Q1o N0) vs c.test)=_
  rw [← hsame,hr];rfl
 sm:=fun N hN c hc _ hs vs hI=>some_is hN (by have:=hI.1;have:=hI.2.1;omega) (by have:=hI.2.1;omega) (by have:=h.args c hc;omega) h.few
 len:=fun hs vs hI=>by have:=hI.2.1;omega }
end Go.Proofs.YtbgodclhmgmcgaaGreatDoor
