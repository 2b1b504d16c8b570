import Derived.Test.YtbgodclhmgmcgaaGreatDoorNaivUD
namespace Go.Proofs.YtbgodclhmgmcgaaGreatDoor
open Go Go.RowKit
theorem Qbq {α A B:Type} {l:List α} {f:Nat→Option (Nat⊕(A⊕B))} {p : α→Bool} {a:A} {b:B} (step : ∀ i (h:i < l.length),f i=if p l[i]=true then some (.inl (i+1)) else some (.inr (.inr b)))(stop:f l.length=some (.inr (.inl a))) {N:Nat} (hN:l.length < N) :
  Q1e f N 0=some (if l.all p=true then .inl a else .inr b):=by
 have key : ∀ (m i fuel:Nat),i+m=l.length→m < fuel→Q1e f fuel i=some (if (l.drop i).all p=true then .inl a else .inr b):=by
  intro m
  induction m with
  | zero =>
    intro i fuel hi hf
    obtain ⟨fuel,rfl⟩ : ∃ q,fuel=q+1:=⟨fuel - 1,by omega⟩
    obtain rfl:i=l.length:=by omega
    rw [Q1c stop,List.drop_length];rfl
  | succ m ih =>
    intro i fuel hi hf
    obtain ⟨fuel,rfl⟩ : ∃ q,fuel=q+1:=⟨fuel - 1,by omega⟩
    have h:i < l.length:=by omega
    have hs:=step i h
    rw [List.drop_eq_getElem_cons h,List.all_cons]
    by_cases hp:p l[i]=true
    ·rw [if_pos hp] at hs
     rw [Q2c hs,ih (i+1) fuel (by omega) (by omega),hp,Bool.true_and]
    ·rw [if_neg hp] at hs
     rw [Q1c hs,if_neg (by simp [hp])]
 have:=key l.length 0 N (by omega) hN
 rwa [List.drop_zero] at this
theorem first_eq {α : Type} {p : α→Bool} : ∀ (l : List α)(i s : Nat)(hi : i < l.length),p l[i]=true→(Q8f p l s==((s+i : Nat) : Int))=(l.take i).all fun x=> !p x
 | x :: l,0,s,_,hp=>by
   unfold Q8f
   rw [if_pos (by simpa using hp)]
   simp
 | x :: l,i + 1,s,hi,hp=>by
   unfold Q8f
   rw [List.take_succ_cons,List.all_cons]
   cases hx:p x with
   | true =>
     rw [if_pos rfl]
     have:(((s:Nat):Int)==((s+(i+1):Nat):Int))=false:=by simp;omega
     rw [this];rfl
   | false =>
     rw [if_neg (by simp)]
     have:=first_eq l i (s+1) (by simpa using hi) (by simpa using hp)
     rw [show s+(i+1)=s+1+i from by omega,this]
     simp
theorem Qdj (vars : Int) : ∀ l : List Q4,Q9O vars l=l.all fun y=> Q8m vars y
 | []=>by simp [Q9O]
 | x :: l=>by rw [Q9O,Qdj vars l,List.all_cons]
def QcI (v:V):Prop:=v.s.size≤9223372036854775807
theorem rright_is {N:Nat} (hN : 9223372036854775808≤N) {v:V} (h:QcI v):Q1D N v.k v.n v.s=some (QbJ v):=by
 rw [← Qdt v.k v.n hN h];exact Qen N v
theorem rname_is {N:Nat} (hN : 9223372036854775808≤N) {s:ByteArray} (h:s.size≤9223372036854775807):Q2f N s=some (Qa9 s):=says_dec (rnamed_is hN h)
theorem shortV_of {v:V} (h:ok_V v):QcI v:=by have:=h.2.2;unfold QcI;omega
theorem rexpr_is {vars:Int} : ∀ (m N:Nat) (e:Q4),ok_Api_ExprD e → Q8a e ≤ m → m ≤ 1000000 → 9223372036854775808 + m ≤ N →
    Q2w N e.kind e.value.k e.value.n e.value.s e.var e.op e.kids vars=some (Q8m vars e):=by
  intro m
  induction m with
  | zero=>intro N e _ h;rw [Q56] at h;omega
  | succ m ih =>
    intro N e hok h hm hN
    obtain ⟨N,rfl⟩ : ∃ q,N=q+1:=⟨N - 1,by omega⟩
    have hv:=shortV_of (ok_val hok)
    obtain ⟨hkl,hkk⟩:=ok_kids hok
    obtain ⟨k,v,x,op,kids⟩:=e
    simp only at hv hkl hkk
    have hk:Q2r kids≤m:=by rw [Q56] at h;simp only at h;omega
    show Q4Z N (Q2w N) k v.k v.n v.s x op kids vars=_
    unfold Q4Z
    rw [Q8m]
    have ev:(⟨v.k,v.n,v.s⟩ : V)=v:=rfl
    by_cases h1:k=1
    · rw [if_pos (by simpa using h1),if_pos h1]
      unfold Q7V
      rw [rright_is (by omega) hv,Q0]
      cases hr:QbJ v with
      | false=>rw [if_neg (by simp),Q0,Bool.and_false]
      | true =>
        rw [if_pos rfl,Bool.and_true]
        by_cases c1:x=0
        · rw [if_pos (by simpa using c1)]
          by_cases c2:op=0
          · rw [if_pos (by simpa using c2),Q0]
            congr 1
            rw [Bool.eq_iff_iff];simp [c1,c2]
          · rw [if_neg (by simpa using c2),Q0,decide_eq_false (fun h=>c2 h.2.1)]
        · rw [if_neg (by simpa using c1),Q0,decide_eq_false (fun h=>c1 h.1)]
    · rw [if_neg (by simpa using h1),if_neg h1]
      by_cases h2:k=2
      · rw [if_pos (by simpa using h2),if_pos h2]
        unfold Q7W
        rw [ev]
        by_cases c1:v=Q87
        · have c1' : v = (⟨0,0,(⟨#[]⟩ : ByteArray)⟩ : V):=c1
          rw [if_pos (by rw [decide_eq_true c1'])]
          by_cases c2 : 0≤x
          · rw [if_pos (by simpa using c2)]
            by_cases c3:x < vars
            · rw [if_pos (by simpa using c3)]
              by_cases c4:op=0
              · rw [if_pos (by simpa using c4),Q0]
                congr 1
                rw [Bool.eq_iff_iff];simp [c1,c2,c3,c4]
              · rw [if_neg (by simpa using c4),Q0,decide_eq_false (fun h=>c4 h.2.1)]
            · rw [if_neg (by simpa using c3),Q0,decide_eq_false (fun h=>c3 h.2.2.2.2)]
          · rw [if_neg (by simpa using c2),Q0,decide_eq_false (fun h=>c2 h.2.2.2.1)]
        · have c1' : ¬ v = (⟨0,0,(⟨#[]⟩ : ByteArray)⟩ : V):=c1
          rw [if_neg (by rw [decide_eq_false c1'];simp),Q0,decide_eq_false (fun h=>c1 h.1)]
      · rw [if_neg (by simpa using h2),if_neg h2]
        by_cases h3:k=3
        · rw [if_pos (by simpa using h3),if_pos h3]
          have hw:Q6c N op=some (if op=4∨op=11 then 1 else 2):=by
            unfold Q6c
            by_cases a:op=4
            · rw [if_pos (by simpa using a),Q0,if_pos rfl,if_pos (.inl a)]
            · rw [if_neg (by simpa using a),Q0]
              by_cases b:op=11
              · rw [if_pos (by simpa using b),if_pos (.inr b)]
              · rw [if_neg (by simpa using b),if_neg (by omega)]
          have hex:Q4c N (Q2w N) kids vars=some (Q9O vars kids):=by
            unfold Q4c
            have hl:=Q4o kids
            rw [Qbq (l:=kids) (p:=fun y=>Q8m vars y) (a:=()) (b:=false) (fun i hi=>by
              unfold Q39
              have hn:=Q55 (List.getElem_mem hi)
              rw [if_pos (by simpa using hi),List.getElem?_eq_getElem hi,Q0,ih N kids[i] (hkk _ (List.getElem_mem hi)) (by omega) (by omega) (by omega),Q0]
              by_cases hb:Q8m vars kids[i]=true
              · rw [if_neg (by simp [hb]),if_pos hb,Qr (by omega)]
              · rw [if_pos (by simpa using hb),if_neg hb]) (by
              unfold Q39
              rw [if_neg (by simp)]) (by omega),Qdj]
            cases kids.all (fun y=>Q8m vars y) <;> rfl
          rw [hw,Q0]
          unfold Q7X
          rw [ev]
          by_cases c1:v=Q87
          · have c1' : v = (⟨0,0,(⟨#[]⟩ : ByteArray)⟩ : V):=c1
            rw [if_pos (by rw [decide_eq_true c1'])]
            by_cases c0:x=0
            · rw [if_pos (by simpa using c0)]
              by_cases c2 : 1≤op
              · rw [if_pos (by simpa using c2)]
                by_cases c3:op≤11
                · rw [if_pos (by simpa using c3)]
                  by_cases c4:kids.length=(if op=4∨op=11 then 1 else 2)
                  · rw [if_pos (by simpa using c4),hex,Q0,Q0]
                    congr 1
                    rw [decide_eq_true ⟨c1,c0,c2,c3,c4⟩,Bool.true_and]
                  · rw [if_neg (by simpa using c4),Q0,decide_eq_false (fun h=>c4 h.2.2.2.2),Bool.false_and]
                · rw [if_neg (by simpa using c3),Q0,decide_eq_false (fun h=>c3 h.2.2.2.1),Bool.false_and]
              · rw [if_neg (by simpa using c2),Q0,decide_eq_false (fun h=>c2 h.2.2.1),Bool.false_and]
            · rw [if_neg (by simpa using c0),Q0,decide_eq_false (fun h=>c0 h.2.1),Bool.false_and]
          · have c1' : ¬ v = (⟨0,0,(⟨#[]⟩ : ByteArray)⟩ : V):=c1
            rw [if_neg (by rw [decide_eq_false c1'];simp),Q0,decide_eq_false (fun h=>c1 h.1),Bool.false_and]
        · rw [if_neg (by simpa using h3),if_neg h3]
theorem rexprs_is {N:Nat} {vars:Int} {l:List Q4} (hN : 9223372036854775808+1000000≤N)(hok : ∀ y∈l,ok_Api_ExprD y)(hl:Q2r l≤1000000):Q3Y N l vars=some (Q9O vars l):=by
 unfold Q3Y
 have hll:=Q4o l
 rw [Qbq (l:=l) (p:=fun y=>Q8m vars y) (a:=()) (b:=false) (fun i hi=>by
  unfold Q4b
  have hn:=Q55 (List.getElem_mem hi)
  rw [if_pos (by simpa using hi),List.getElem?_eq_getElem hi,Q0,rexpr_is 1000000 N l[i] (hok _ (List.getElem_mem hi)) (by omega) (by omega) (by omega),Q0]
  by_cases hb:Q8m vars l[i]=true
  · rw [if_neg (by simp [hb]),if_pos hb,Qr (by omega)]
  · rw [if_pos (by simpa using hb),if_neg hb]) (by
  unfold Q4b
  rw [if_neg (by simp)]) (by omega),Qdj]
 cases l.all (fun y=>Q8m vars y) <;> rfl
theorem within_is (N:Nat)(types:List Q8)(kind fields:Int):Q2H N types kind fields=some (Q3T types kind fields):=by
 unfold Q2H Q3T
 by_cases h : 0≤kind
 ·rw [if_pos (by simpa using h)]
  by_cases h2:kind < ((types.length:Nat):Int)
  ·have h3:kind.toNat < types.length:=by omega
   rw [if_pos (by simpa using h2),Qr h,List.getElem?_eq_getElem h3,Q0]
   simp [h]
  · rw [if_neg (by simpa using h2),List.getElem?_eq_none (by omega)]
 ·rw [if_neg (by simpa using h)]
  split
  · simp [h]
  · rfl
theorem rarg_is {N:Nat} {vars:Int} (hN : 9223372036854775808≤N)(hv : 0≤vars∧vars≤1000000000) {a:Q1n} (ha:QcI a.v)(binds:Bool):Q6C N a.k a.var a.v.k a.v.n a.v.s vars binds=some ((Q8M binds vars a).2,(Q8M binds vars a).1):=by
 unfold Q6C Q8M
 have ev:(⟨a.v.k,a.v.n,a.v.s⟩ : V)=a.v:=rfl
 rw [ev]
 by_cases h1:a.k=1
 ·rw [if_pos (by simpa using h1),if_pos h1]
  by_cases h:a.var=0
  · rw [if_pos (by simpa using h)];simp [h,Q87]
  · rw [if_neg (by simpa using h)];simp [h]
 ·rw [if_neg (by simpa using h1),if_neg h1]
  by_cases h2:a.k=2
  ·rw [if_pos (by simpa using h2),if_pos h2,Qr (by omega)]
   cases binds with
   | false=>rw [if_neg (by simp)];simp
   | true =>
     rw [if_pos rfl]
     by_cases h:a.var=vars
     · rw [if_pos (by simpa using h)];simp [h,Q87]
     · rw [if_neg (by simpa using h)];simp [h]
  ·rw [if_neg (by simpa using h2),if_neg h2]
   by_cases h3:a.k=3
   · rw [if_pos (by simpa using h3),if_pos h3]
     by_cases h : 0≤a.var
     ·rw [if_pos (by simpa using h)]
      by_cases h' : a.var < vars
      · rw [if_pos (by simpa using h')];simp [h,h',Q87]
      · rw [if_neg (by simpa using h')];simp [h']
     · rw [if_neg (by simpa using h)];simp [h]
   · rw [if_neg (by simpa using h3),if_neg h3]
     by_cases h4:a.k=4
     ·rw [if_pos (by simpa using h4),if_pos h4]
      by_cases h:a.var=0
      · rw [if_pos (by simpa using h),rright_is hN ha,Q0];simp [h]
      · rw [if_neg (by simpa using h)];simp [h]
     · rw [if_neg (by simpa using h4),if_neg h4]
theorem rargs_iter {N:Nat} (hN : 9223372036854775808≤N) {c:Qn} (hs : ∀ a∈c.args,QcI a.v)(hl:c.args.length≤1000000) :
   ∀ (m i fuel:Nat) (vars:Int),i + m = c.args.length → m < fuel → 0 ≤ vars → vars + ((m:Nat):Int) ≤ 1000000000 →
     Q1e (Q2l N c) fuel (i,vars)=some (if (Q5K (c.kind==1) (c.args.drop i) vars).1=true then .inl (Q5K (c.kind==1) (c.args.drop i) vars).2 else .inr (.inr (.inr (.inr false)))):=by
 intro m
 induction m with
 | zero =>
   intro i fuel vars hi hf h0 hv
   obtain ⟨fuel,rfl⟩ : ∃ q,fuel=q+1:=⟨fuel - 1,by omega⟩
   obtain rfl:i=c.args.length:=by omega
   rw [Q1c (o:=.inl vars) (by unfold Q2l;simp only;rw [if_neg (by simp)]),List.drop_length]
   simp [Q5K]
 | succ m ih =>
   intro i fuel vars hi hf h0 hv
   obtain ⟨fuel,rfl⟩ : ∃ q,fuel=q+1:=⟨fuel - 1,by omega⟩
   have h:i < c.args.length:=by omega
   have hst:Q2l N c (i,vars)=if (Q8M (c.kind==1) vars c.args[i]).1=true then some (.inl (i+1,(Q8M (c.kind==1) vars c.args[i]).2)) else some (.inr (.inr (.inr (.inr (.inr false))))):=by
     unfold Q2l
     simp only
     rw [if_pos (by simpa using h),List.getElem?_eq_getElem h,Q0,rarg_is hN (by omega) (hs _ (List.getElem_mem h)) (c.kind==1),Q0]
     by_cases hb:(Q8M (c.kind==1) vars c.args[i]).1=true
     ·simp only [hb,Bool.not_true,Bool.false_eq_true,if_false,if_true]
      rw [Qr (by omega)]
     ·simp only [Bool.not_eq_true] at hb
      simp only [hb,Bool.not_false,if_true,Bool.false_eq_true,if_false]
   rw [List.drop_eq_getElem_cons h]
   rw [Q5K]
   have hv2:=QdR (c.kind==1) vars c.args[i]
   by_cases hb:(Q8M (c.kind==1) vars c.args[i]).1=true
   · rw [if_pos hb] at hst ⊢
     rw [Q2c hst]
     exact ih (i+1) fuel _ (by omega) (by omega) (by omega) (by omega)
   · rw [if_neg hb] at hst ⊢
     rw [Q1c hst]
     simp
theorem zero_is (N:Nat)(e:Q4):Q4C N e.kind e.value.k e.value.n e.value.s e.var e.op e.kids=some (zeroE e):=by
 unfold Q4C Q7Y zeroE
 have ev:(⟨e.value.k,e.value.n,e.value.s⟩ : V)=e.value:=rfl
 rw [ev]
 by_cases c1:e.kind=0
 ·rw [if_pos (by simpa using c1)]
  by_cases c2:e.value=Q87
  ·have c2' : e.value=(⟨0,0,(⟨#[]⟩ : ByteArray)⟩ : V):=c2
   rw [if_pos (by rw [decide_eq_true c2'])]
   by_cases c3:e.var=0
   ·rw [if_pos (by simpa using c3)]
    by_cases c4:e.op=0
    ·rw [if_pos (by simpa using c4),Q0]
     congr 1
     rw [Bool.eq_iff_iff];simp [c1,c2,c3,c4]
    · rw [if_neg (by simpa using c4),Q0,decide_eq_false (fun h=>c4 h.2.2.2.1)]
   · rw [if_neg (by simpa using c3),Q0,decide_eq_false (fun h=>c3 h.2.2.1)]
  ·have c2' : ¬ e.value=(⟨0,0,(⟨#[]⟩ : ByteArray)⟩ : V):=c2
   rw [if_neg (by rw [decide_eq_false c2'];simp),Q0,decide_eq_false (fun h=>c2 h.2.1)]
 · rw [if_neg (by simpa using c1),Q0,decide_eq_false (fun h=>c1 h.1)]
structure ShortC (c:Qn):Prop where
 args:c.args.length≤1000∧∀ a∈c.args,QcI a.v
 test:Q8a c.test≤1000000∧ok_Api_ExprD c.test
theorem rcond_is {N:Nat} {types:List Q8} {l:List Qn} {i:Nat} {vars:Int} {facts:Nat} (hi:i < l.length)(hN : 9223372036854775808+1000000≤N)(hc:ShortC l[i])(hv : 0≤vars∧vars≤1000000)(hf:facts≤1000000) :
  Q6e N l i types vars facts=some (if (Q3C types vars ((facts:Nat):Int) l[i]).1=true then .inl ((Q3C types vars ((facts:Nat):Int) l[i]).2.2.toNat,(Q3C types vars ((facts:Nat):Int) l[i]).2.1) else .inr (.inr (.inr false))):=by
 unfold Q6e
 rw [List.getElem?_eq_getElem hi,Q0]
 generalize l[i]=c at hc ⊢
 unfold Q3C
 have e12:(if (c.kind==1)=true then some (c.kind==1) else some (c.kind==2))=some (decide (c.kind=1∨c.kind=2)):=by
  by_cases h:c.kind=1
  · simp [h]
  · rw [if_neg (by simpa using h)];congr 1;rw [Bool.eq_iff_iff];simp [h]
 rw [e12,Q0]
 by_cases h12:c.kind=1∨c.kind=2
 ·rw [if_pos (by simpa using h12),if_pos h12]
  have hc2:(Qa (Q2H N types c.type ((c.args.length:Nat):Int)) fun v64=>if (!v64)=true then some true else Qa (Q4C N c.test.kind c.test.value.k c.test.value.n c.test.value.s c.test.var c.test.op c.test.kids) fun v69=>some (!v69))=some (!(Q3T types c.type ((c.args.length:Nat):Int) && zeroE c.test)):=by
   rw [within_is,Q0,zero_is,Q0]
   cases Q3T types c.type ((c.args.length:Nat):Int) with
   | false=>simp
   | true=>rw [if_neg (by simp),Bool.true_and]
  rw [hc2,Q0]
  by_cases hg:(Q3T types c.type ((c.args.length:Nat):Int) && zeroE c.test)=true
  ·have hal:=hc.args.1
   rw [if_neg (by rw [hg];simp),if_pos hg,rargs_iter (by omega) hc.args.2 (by omega) c.args.length 0 N vars (by omega) (by omega) hv.1 (by omega),List.drop_zero]
   by_cases hb:(Q5K (c.kind==1) c.args vars).1=true
   ·rw [if_pos hb,if_pos hb,Q1b,if_pos rfl]
    by_cases h1:c.kind=1
    ·rw [if_pos (by simpa using h1),Qr (by omega),if_pos h1]
     simp only
     congr 3
    ·rw [if_neg (by simpa using h1),if_neg h1]
     simp only
     congr 3
   ·rw [if_neg hb,if_neg hb,Q1K]
    simp
  ·have hgf:(Q3T types c.type ((c.args.length:Nat):Int) && zeroE c.test)=false:=by simpa only [Bool.not_eq_true] using hg
   rw [hgf,if_pos (by rfl),if_neg (by simp)]
 ·rw [if_neg (by simpa using h12),if_neg h12]
  by_cases h3:c.kind=3
  ·rw [if_pos (by simpa using h3),if_pos h3]
   have hc7:Q6f N c vars=some (!(decide (c.type=0∧c.args.length=0) && Q8m vars c.test)):=by
    unfold Q6f
    by_cases h4:c.type=0
    ·rw [if_neg (by simpa using h4)]
     by_cases h5:c.args.length=0
     · rw [if_neg (by simpa using h5),rexpr_is 1000000 N c.test hc.test.2 hc.test.1 (by omega) (by omega),Q0,decide_eq_true ⟨h4,h5⟩,Bool.true_and]
     · rw [if_pos (by simpa using h5),decide_eq_false (fun h=>h5 h.2),Bool.false_and];rfl
    · rw [if_pos (by simpa using h4),decide_eq_false (fun h=>h4 h.1),Bool.false_and];rfl
   rw [hc7,Q0]
   simp only
   cases (decide (c.type=0∧c.args.length=0) && Q8m vars c.test) with
   | true=>rw [if_neg (by simp),if_pos rfl];congr 3
   | false=>rw [if_pos (by rfl),if_neg (by simp)]
  ·rw [if_neg (by simpa using h3),if_neg h3]
   simp
theorem rconds_iter {N:Nat} {types:List Q8} {l:List Qn} (hN : 9223372036854775808+1000000≤N)(hl : ∀ c∈l,ShortC c)(hll:l.length≤100) :
   ∀ (m i fuel:Nat) (vars:Int) (facts:Nat),i + m = l.length → m < fuel → 0 ≤ vars ∧ vars + ((m:Nat):Int) * 1000 ≤ 1000000 → facts + m ≤ 1000000 →
     Q1e (Q2k N l types) fuel (i,facts,vars)=some (if (Q4m types (l.drop i) vars ((facts:Nat):Int)).1=true then .inl ((Q4m types (l.drop i) vars ((facts:Nat):Int)).2.1,(Q4m types (l.drop i) vars ((facts:Nat):Int)).2.2.toNat) else .inr false):=by
 intro m
 induction m with
 | zero =>
   intro i fuel vars facts hi hf hv hft
   obtain ⟨fuel,rfl⟩ : ∃ q,fuel=q+1:=⟨fuel - 1,by omega⟩
   obtain rfl:i=l.length:=by omega
   rw [Q1c (o:=.inl (vars,facts)) (by unfold Q2k;simp only;rw [if_neg (by simp)]),List.drop_length]
   simp [Q4m]
 | succ m ih =>
   intro i fuel vars facts hi hf hv hft
   obtain ⟨fuel,rfl⟩ : ∃ q,fuel=q+1:=⟨fuel - 1,by omega⟩
   have h:i < l.length:=by omega
   have hk:=hl l[i] (List.getElem_mem h)
   have hk1:=hk.args.1
   have hcv:=Qeh types vars ((facts:Nat):Int) l[i]
   have hs:Q2k N l types (i,facts,vars)=if (Q3C types vars ((facts:Nat):Int) l[i]).1=true then some (.inl (i+1,(Q3C types vars ((facts:Nat):Int) l[i]).2.2.toNat,(Q3C types vars ((facts:Nat):Int) l[i]).2.1)) else some (.inr (.inr false)):=by
     unfold Q2k
     simp only
     rw [if_pos (by simpa using h),rcond_is h hN hk (by omega) (by omega)]
     by_cases hb:(Q3C types vars ((facts:Nat):Int) l[i]).1=true
     · rw [if_pos hb,if_pos hb,Q1b,Qr (by omega)]
     · rw [if_neg hb,if_neg hb,Q1K]
   rw [List.drop_eq_getElem_cons h,Q4m]
   by_cases hb:(Q3C types vars ((facts:Nat):Int) l[i]).1=true
   · rw [if_pos hb] at hs
     simp only [hb,if_true]
     rw [Q2c hs,ih (i+1) fuel (Q3C types vars ((facts:Nat):Int) l[i]).2.1 (Q3C types vars ((facts:Nat):Int) l[i]).2.2.toNat (by omega) (by omega) (by omega) (by omega)]
     rw [Int.toNat_of_nonneg (by omega)]
   · rw [if_neg hb] at hs
     rw [Q1c hs,if_neg hb]
     simp
theorem ract_is {N:Nat} {types:List Q8} {vars:Int} {facts:Nat} {a:QO} (hN : 9223372036854775808+1000000≤N)(hok : ∀ y∈a.exprs,ok_Api_ExprD y)(ha:Q2r a.exprs≤1000000):Q6g N a types vars facts=some (actB types vars ((facts:Nat):Int) a):=by
 unfold Q6g actB
 by_cases h1:a.kind=1
 ·rw [if_pos (by simpa using h1),if_pos h1]
  by_cases h2:a.which=0
  ·rw [if_pos (by simpa using h2),within_is,Q0,decide_eq_true h2,Bool.true_and]
   cases ht:Q3T types a.type ((a.exprs.length:Nat):Int) with
   | true=>rw [if_pos rfl,rexprs_is hN hok ha,Q0,Bool.true_and]
   | false=>rw [if_neg (by simp),Bool.false_and]
  · rw [if_neg (by simpa using h2),decide_eq_false h2,Bool.false_and]
 ·rw [if_neg (by simpa using h1),if_neg h1]
  by_cases h2:a.kind=2
  ·rw [if_pos (by simpa using h2),if_pos h2]
   by_cases c1:a.type=0
   ·rw [if_pos (by simpa using c1)]
    by_cases c2:a.exprs.length=0
    ·rw [if_pos (by simpa using c2)]
     by_cases c3 : 0≤a.which
     ·rw [if_pos (by simpa using c3)]
      congr 1
      rw [Bool.eq_iff_iff];simp only [decide_eq_true_eq]
      exact ⟨fun h=>⟨c1,c2,c3,h⟩,fun h=>h.2.2.2⟩
     · rw [if_neg (by simpa using c3),decide_eq_false (fun h=>c3 h.2.2.1)]
    · rw [if_neg (by simpa using c2),decide_eq_false (fun h=>c2 h.2.1)]
   · rw [if_neg (by simpa using c1),decide_eq_false (fun h=>c1 h.1)]
  ·rw [if_neg (by simpa using h2),if_neg h2]
   by_cases h3:a.kind=3
   ·rw [if_pos (by simpa using h3),if_pos h3]
    by_cases c1:a.type=0
    ·rw [if_pos (by simpa using c1)]
     by_cases c2:a.which=0
     ·rw [if_pos (by simpa using c2)]
      by_cases c3 : 0 < a.exprs.length
      · rw [if_pos (by simpa using c3),rexprs_is hN hok ha,Q0,decide_eq_true ⟨c1,c2,c3⟩,Bool.true_and]
      · rw [if_neg (by simpa using c3),decide_eq_false (fun h=>c3 h.2.2),Bool.false_and]
     · rw [if_neg (by simpa using c2),decide_eq_false (fun h=>c2 h.2.1),Bool.false_and]
    · rw [if_neg (by simpa using c1),decide_eq_false (fun h=>c1 h.1),Bool.false_and]
   ·rw [if_neg (by simpa using h3),if_neg h3]
    by_cases c0:a.kind=4
    ·rw [if_pos (by simpa using c0)]
     by_cases c1:a.type=0
     ·rw [if_pos (by simpa using c1)]
      by_cases c2:a.which=0
      ·rw [if_pos (by simpa using c2)]
       congr 1
       rw [Bool.eq_iff_iff];simp only [decide_eq_true_eq,beq_iff_eq]
       exact ⟨fun h=>⟨c0,c1,c2,h⟩,fun h=>h.2.2.2⟩
      · rw [if_neg (by simpa using c2),decide_eq_false (fun h=>c2 h.2.2.1)]
     · rw [if_neg (by simpa using c1),decide_eq_false (fun h=>c1 h.2.1)]
    · rw [if_neg (by simpa using c0),decide_eq_false (fun h=>c0 h.1)]
structure ShortR (r:Qf):Prop where
 name:r.name.size≤9223372036854775807
 conds : ∀ c∈r.conds,ShortC c
 acts : ∀ a∈r.acts,Q2r a.exprs≤1000000∧∀ y∈a.exprs,ok_Api_ExprD y
theorem QaA (types:List Q8) : ∀ (l:List Qn)(vars facts:Int),facts≤(Q4m types l vars facts).2.2∧vars≤(Q4m types l vars facts).2.1
 | [],vars,facts=>by simp [Q4m]
 | c :: l,vars,facts=>by
   have h:=Qeh types vars facts c
   unfold Q4m
   split
   ·have:=QaA types l (Q3C types vars facts c).2.1 (Q3C types vars facts c).2.2
    omega
   · simp only;omega
theorem rrule_is {N:Nat} {types:List Q8} {r:Qf} (hN : 9223372036854775808 + 1000000 ≤ N) (hr:ShortR r):Q69 N types r.name r.salience r.vars r.conds r.acts = some (Qa5 types r):=by
 unfold Q69
 have hc1:Q6d N r.name r.salience r.conds r.acts = some (!(Qa9 r.name && decide (-1000 ≤ r.salience ∧ r.salience ≤ 1000 ∧ r.conds.length ≤ 8 ∧ r.acts.length ≤ 8))):=by
  unfold Q6d
  rw [rname_is (by omega) hr.name,Q0]
  cases Qa9 r.name with
  | false=>simp
  | true =>
    rw [if_neg (by simp),Bool.true_and]
    by_cases c1:r.salience < -1000
    · rw [if_pos (by simpa using c1),decide_eq_false (by omega)];rfl
    · rw [if_neg (by simpa using c1)]
      by_cases c2:r.salience > 1000
      · rw [if_pos (by simpa using c2),decide_eq_false (by omega)];rfl
      ·rw [if_neg (by simpa using c2)]
       by_cases c3 : 8 < r.conds.length
       · rw [if_pos (by simpa using c3),decide_eq_false (by omega)];rfl
       ·rw [if_neg (by simpa using c3)]
        congr 1
        rw [Bool.eq_iff_iff];simp only [decide_eq_true_eq,Bool.not_eq_true',decide_eq_false_iff_not];omega
 rw [hc1,Q0]
 unfold Qa5
 by_cases hg:(Qa9 r.name && decide (-1000≤r.salience∧r.salience≤1000∧r.conds.length≤8∧r.acts.length≤8))=true
 ·rw [hg,if_neg (by simp)]
  have h8:r.conds.length≤8∧r.acts.length≤8:=by
    simp only [Bool.and_eq_true,decide_eq_true_eq] at hg
    exact ⟨hg.2.2.2.1,hg.2.2.2.2⟩
  rw [rconds_iter hN hr.conds (by omega) r.conds.length 0 N 0 0 (by omega) (by omega) (by omega) (by omega),List.drop_zero]
  have hp:=QaA types r.conds 0 0
  rw [show ((0:Nat):Int)=0 from rfl]
  generalize Q4m types r.conds 0 0=Q at hp ⊢
  obtain ⟨q,x,y⟩:=Q
  simp only at hp ⊢
  cases q with
  | false=>simp only [Bool.false_eq_true,if_false];rw [Q1K];rfl
  | true =>
    simp only [if_true]
    rw [Q1b]
    simp only [Bool.true_and]
    rw [Qbq (l:=r.acts) (p:=fun z=>actB types x y z) (a:=()) (b:=false) (fun i hi=>by
      unfold Q4B
      obtain ⟨a1,a2⟩:=hr.acts _ (List.getElem_mem hi)
      rw [if_pos (by simpa using hi),List.getElem?_eq_getElem hi,Q0,ract_is hN a2 a1,Q0,Int.toNat_of_nonneg (by omega)]
      by_cases hb:actB types x y r.acts[i]=true
      · rw [if_neg (by simp [hb]),if_pos hb,Qr (by omega)]
      · rw [if_pos (by simpa using hb),if_neg hb]) (by
      unfold Q4B
      rw [if_neg (by simp)]) (by omega)]
    cases r.acts.all (fun z=>actB types x y z) with
    | false=>rw [if_neg (by simp),Q1K,Bool.and_false]
    | true =>
      rw [if_pos rfl,Q1b,Bool.and_true]
      by_cases c1:r.vars=x
      ·rw [if_pos (by simpa using c1)]
       congr 1
       rw [Bool.eq_iff_iff];simp [c1]
      · rw [if_neg (by simpa using c1),decide_eq_false (fun h=>c1 h.1)]
 ·have hgf:(Qa9 r.name && decide (-1000≤r.salience∧r.salience≤1000∧r.conds.length≤8∧r.acts.length≤8))=false:=by simpa only [Bool.not_eq_true] using hg
  rw [hgf,if_pos (by rfl),Bool.false_and]
theorem rtypeP_is {N:Nat} {types:List Q8} (hN : 9223372036854775808+1000000≤N)(ht : ∀ t∈types,t.name.size≤9223372036854775807)(hl:types.length≤1000) {i:Nat} (hi:i < types.length):Q28 N types i=if typeP types i=true then some (.inl (i+1)) else some (.inr (.inr false)):=by
 unfold Q28 Q7C typeP
 rw [if_pos (by simpa using hi),List.getElem?_eq_getElem hi,Q0]
 simp only
 have hc4:Q5U N types[i] = some (!(Qa9 types[i].name && decide (0 ≤ types[i].fields ∧ types[i].fields ≤ 6))):=by
   unfold Q5U
   rw [rname_is (by omega) (ht _ (List.getElem_mem hi)),Q0]
   cases Qa9 types[i].name with
   | false=>simp
   | true =>
     rw [if_neg (by simp),Bool.true_and]
     by_cases c1:types[i].fields < 0
     · rw [if_pos (by simpa using c1),decide_eq_false (by omega)];rfl
     ·rw [if_neg (by simpa using c1)]
      congr 1
      rw [Bool.eq_iff_iff];simp only [decide_eq_true_eq,Bool.not_eq_true',decide_eq_false_iff_not];omega
 rw [hc4,Q0]
 have hf:=first_eq (p:=fun x:Q8=>x.name.toList==types[i].name.toList) types i 0 hi (by simp)
 rw [Nat.zero_add] at hf
 simp only [hf]
 rw [← Bool.and_assoc]
 cases Qa9 types[i].name && decide (0≤types[i].fields∧types[i].fields≤6) with
 | false=>rw [if_pos (by rfl),Q1K,Bool.false_and,if_neg (by simp)]
 | true =>
   rw [if_neg (by simp),Bool.true_and]
   have hlen:(types.take i).length=i:=by simp;omega
   have hit:=Qbq (l:=types.take i) (f:=Q2S N i types types[i]) (p:=fun x=>!(x.name.toList==types[i].name.toList)) (a:=()) (b:=(.inr (.inr false):Nat⊕(Unit⊕Bool))) (fun k hk=>by
     have hk1:k < i:=by omega
     have hk2:k < types.length:=by omega
     unfold Q2S
     rw [if_pos (by simpa using hk1),List.getElem?_eq_getElem hk2,Q0,List.getElem_take]
     cases hb:(types[k].name.toList==types[i].name.toList) with
     | true=>rw [if_pos rfl,if_neg (by simp)]
     | false=>rw [if_neg (by simp),if_pos (by simp),Qr (by omega)]) (by
     unfold Q2S
     rw [hlen,if_neg (by simp)]) (N:=N) (by omega)
   rw [hit]
   cases (types.take i).all (fun x=>!(x.name.toList==types[i].name.toList)) with
   | true=>rw [if_pos rfl,if_pos rfl,Q1b,Qr (by omega)]
   | false=>rw [if_neg (by simp),if_neg (by simp),Q1K]
theorem rruleP_is {N:Nat} {types:List Q8} {rules:List Qf} (hN : 9223372036854775808+1000000≤N)(hr : ∀ r∈rules,ShortR r)(hl:rules.length≤1000) {i:Nat} (hi:i < rules.length):Q29 N rules types i=if ruleP types rules i=true then some (.inl (i+1)) else some (.inr (.inr false)):=by
 unfold Q29 ruleP
 rw [if_pos (by simpa using hi),List.getElem?_eq_getElem hi,Q0,rrule_is hN (hr _ (List.getElem_mem hi)),Q0]
 simp only
 have hf:=first_eq (p:=fun x:Qf=>x.name.toList==rules[i].name.toList) rules i 0 hi (by simp)
 rw [Nat.zero_add] at hf
 simp only [hf]
 have hlen:(rules.take i).length=i:=by simp;omega
 have hit:=Qbq (l:=rules.take i) (f:=Q2T N i rules) (p:=fun x=>!(x.name.toList==rules[i].name.toList)) (a:=()) (b:=(.inr (.inr false):Nat⊕(Unit⊕Bool))) (fun k hk=>by
   have hk1:k < i:=by omega
   have hk2:k < rules.length:=by omega
   unfold Q2T
   rw [if_pos (by simpa using hk1),List.getElem?_eq_getElem hk2,Q0,List.getElem?_eq_getElem hi,Q0,List.getElem_take]
   cases hb:(rules[k].name.toList==rules[i].name.toList) with
   | true=>rw [if_pos rfl,if_neg (by simp)]
   | false=>rw [if_neg (by simp),if_pos (by simp),Qr (by omega)]) (by
   unfold Q2T
   rw [hlen,if_neg (by simp)]) (N:=N) (by omega)
 rw [hit]
 cases (rules.take i).all (fun x=>!(x.name.toList==rules[i].name.toList)) with
 | false=>rw [if_neg (by simp),Q1K,Bool.false_and,if_neg (by simp)]
 | true =>
   rw [if_pos rfl,Q1b,Bool.true_and]
   cases Qa5 types rules[i] with
   | true=>rw [if_neg (by simp),if_pos rfl,Qr (by omega)]
   | false=>rw [if_pos (by rfl),if_neg (by simp)]
theorem rright_rules {N:Nat} {types:List Q8} {rules:List Qf} (hN : 9223372036854775808+1000000≤N)(ht : ∀ t∈types,t.name.size≤9223372036854775807)(hr : ∀ r∈rules,ShortR r):Q5w N types rules=some (Q79 types rules):=by
 unfold Q5w Q79
 by_cases h1 : 32 < types.length
 · rw [if_pos (by simpa using h1),Q0,if_pos rfl,decide_eq_false (by omega)];rfl
 ·rw [if_neg (by simpa using h1),Q0]
  by_cases h2 : 64 < rules.length
  · rw [if_pos (by simpa using h2),decide_eq_false (by omega)];rfl
  ·rw [if_neg (by simpa using h2),decide_eq_true ⟨by omega,by omega⟩,Bool.true_and]
   rw [all_iter1 (f:=Q28 N types) (n:=types.length) (p:=typeP types) (fun i hi=>rtypeP_is hN ht (by omega) hi) (by
     unfold Q28
     rw [if_neg (by simp)]) types.length 0 N (by omega) (by omega)]
   cases (List.range' 0 types.length).all (typeP types) with
   | false=>rfl
   | true =>
     rw [if_pos rfl,Q1b,Bool.true_and]
     rw [all_iter1 (f:=Q29 N rules types) (n:=rules.length) (p:=ruleP types rules) (fun i hi=>rruleP_is hN hr (by omega) hi) (by
      unfold Q29
      rw [if_neg (by simp)]) rules.length 0 N (by omega) (by omega)]
     cases (List.range' 0 rules.length).all (ruleP types rules) <;> rfl
theorem rfactC_is {N:Nat} {types:List Q8} {f:QP} {last:Int}:Q5V N f last types=some (!(decide (last < f.id∧f.id≤1099511627776) && Q3T types f.ty ((f.args.length:Nat):Int))):=by
 unfold Q5V
 by_cases c1:f.id≤last
 · rw [if_pos (by simpa using c1),decide_eq_false (by omega)];rfl
 ·rw [if_neg (by simpa using c1)]
  by_cases c2:f.id > 1099511627776
  · rw [if_pos (by simpa using c2),decide_eq_false (by omega)];rfl
  ·rw [if_neg (by simpa using c2),decide_eq_true (show last < f.id∧f.id≤1099511627776 from ⟨by omega,by omega⟩),Bool.true_and]
   unfold Q3T
   by_cases c3:f.ty < 0
   ·rw [if_pos (by simpa using c3)]
    have:decide (0≤f.ty)=false:=decide_eq_false (by omega)
    rw [this]
    cases types[f.ty.toNat]? <;> rfl
   ·rw [if_neg (by simpa using c3)]
    by_cases c4:f.ty ≥ ((types.length:Nat):Int)
    · rw [if_pos (by simpa using c4),List.getElem?_eq_none (by omega)];rfl
    ·have h4:f.ty.toNat < types.length:=by omega
     rw [if_neg (by simpa using c4),Qr (by omega),List.getElem?_eq_getElem h4,Q0]
     simp only
     rw [decide_eq_true (show 0≤f.ty by omega),Bool.true_and]
     congr 1
     rw [Bool.eq_iff_iff]
     simp only [bne_iff_ne,ne_eq,Bool.not_eq_true',beq_eq_false_iff_ne]
     exact ⟨fun h e=>h e.symm,fun h e=>h e.symm⟩
theorem rfacts_iter {N:Nat} {types:List Q8} {l:List QP} (hN : 9223372036854775808≤N)(hl:l.length≤1000000000)(hf : ∀ f∈l,f.args.length≤4398046510976∧∀ v∈f.args,QcI v) :
   ∀ (m i fuel:Nat) (last:Int),i+m=l.length→m < fuel→Q1e (Q2a N l types) fuel (i,last)=some (if Q9v types last (l.drop i)=true then .inl () else .inr false):=by
 intro m
 induction m with
 | zero =>
   intro i fuel last hi hfu
   obtain ⟨fuel,rfl⟩ : ∃ q,fuel=q+1:=⟨fuel - 1,by omega⟩
   obtain rfl:i=l.length:=by omega
   rw [Q1c (o:=.inl ()) (by unfold Q2a;simp only;rw [if_neg (by simp)]),List.drop_length];rfl
 | succ m ih =>
   intro i fuel last hi hfu
   obtain ⟨fuel,rfl⟩ : ∃ q,fuel=q+1:=⟨fuel - 1,by omega⟩
   have h:i < l.length:=by omega
   obtain ⟨f1,f2⟩:=hf _ (List.getElem_mem h)
   rw [List.drop_eq_getElem_cons h,Q9v]
   have hs:Q2a N l types (i,last)=if factP types last l[i]=true then some (.inl (i+1,l[i].id)) else some (.inr (.inr false)):=by
    unfold Q2a Q7D factP
    simp only
    rw [if_pos (by simpa using h),List.getElem?_eq_getElem h,Q0,rfactC_is,Q0,← Bool.and_assoc]
    cases (decide (last < l[i].id∧l[i].id≤1099511627776) && Q3T types l[i].ty ((l[i].args.length:Nat):Int)) with
    | false=>rw [if_pos (by rfl),Q1K,Bool.false_and,if_neg (by simp)]
    | true =>
      rw [if_neg (by simp),Bool.true_and]
      rw [Qbq (l:=l[i].args) (f:=Q2U N l[i]) (p:=QbJ) (a:=l[i].id) (b:=(.inr (.inr false):(Nat×Int)⊕(Unit⊕Bool))) (fun k hk=>by
       unfold Q2U
       rw [if_pos (by simpa using hk),List.getElem?_eq_getElem hk,Q0,rright_is hN (f2 _ (List.getElem_mem hk)),Q0]
       by_cases hb:QbJ l[i].args[k]=true
       · rw [if_neg (by simp [hb]),if_pos hb,Qr (by omega)]
       · rw [if_pos (by simpa using hb),if_neg hb]) (by
       unfold Q2U
       rw [if_neg (by simp)]) (by omega)]
      cases l[i].args.all QbJ with
      | true=>rw [if_pos rfl,if_pos rfl,Q1b,Qr (by omega)]
      | false=>rw [if_neg (by simp),if_neg (by simp),Q1K]
   by_cases hb:factP types last l[i]=true
   ·rw [if_pos hb] at hs
    rw [Q2c hs,ih (i+1) fuel l[i].id (by omega) (by omega),hb,Bool.true_and]
   ·rw [if_neg hb] at hs
    rw [Q1c hs,if_neg (by simp [hb])]
theorem rfacts_is {N:Nat} {types:List Q8} {rules:List Qf} {l:List QP} (hN : 9223372036854775808≤N)(hl:l.length≤1000000000)(hf : ∀ f∈l,f.args.length≤4398046510976∧∀ v∈f.args,QcI v):Q5x N types rules l=some (Q9v types 0 l):=by
 unfold Q5x
 rw [rfacts_iter hN hl hf l.length 0 N 0 (by omega) (by omega),List.drop_zero]
 cases Q9v types 0 l <;> rfl
end Go.Proofs.YtbgodclhmgmcgaaGreatDoor
