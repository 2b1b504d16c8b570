import Derived.Test.YtbgodclhmgmcgaaGreatDoorNaivPD
import Derived.Test.YtbgodclhmgmcgaaGreatDoorExTP
import Derived.Test.YtbgodclhmgmcgaaGreatDoorExprN
namespace Go.Proofs.YtbgodclhmgmcgaaGreatDoor
open Go Go.RowKit
def Q8f {α:Type} (p : α→Bool):List α→Nat→Int
 | [],_=>-1
 | x :: l,i=>if p x then ((i:Nat):Int) else Q8f p l (i+1)
theorem Qbs {α:Type} {p : α→Bool} : ∀ (l:List α)(i:Nat),decide (Q8f p l i ≥ 0)=l.any p
 | [],_=>by simp [Q8f]
 | x :: l,i=>by
   unfold Q8f
   cases h:p x with
   | true=>simp [h]
   | false=>simp [h];exact (Qbs l (i+1))
theorem Q9w {α:Type} {l:List α} {f:Nat→Option (Nat⊕(Unit⊕Int))} {p : α→Bool} (step : ∀ i (h:i < l.length),f i=if p l[i]=true then some (.inr (.inr ((i:Nat):Int))) else some (.inl (i+1)))(stop:f l.length=some (.inr (.inl ()))) :
   ∀ (m i fuel:Nat),i+m=l.length→m < fuel→Q1x (Q1e f fuel i) (fun _=>some (-1))=some (Q8f p (l.drop i) i):=by
 intro m
 induction m with
 | zero =>
   intro i fuel hi hf
   obtain ⟨fuel,rfl⟩ : ∃ q,fuel=q+1:=⟨fuel - 1,by omega⟩
   obtain rfl:i=l.length:=by omega
   rw [Q1c stop,Q1b,List.drop_length];rfl
 | succ m ih =>
   intro i fuel hi hf
   obtain ⟨fuel,rfl⟩ : ∃ q,fuel=q+1:=⟨fuel - 1,by omega⟩
   have h:i < l.length:=by omega
   rw [List.drop_eq_getElem_cons h]
   unfold Q8f
   by_cases hp:p l[i]=true
   · rw [if_pos hp,Q1c (by rw [step i h,if_pos hp]),Q1K]
   ·rw [if_neg hp,Q2c (by rw [step i h,if_neg hp])]
    exact ih (i+1) fuel (by omega) (by omega)
noncomputable def QbJ (v:V):Bool:=@decide (rightP v) (Classical.propDecidable _)
noncomputable def Qa9 (s:ByteArray):Bool:=@decide (Qdo s.data.toList) (Classical.propDecidable _)
theorem says_dec {m:Option Bool} {p:Prop} (h:Q9M m p):m=some (@decide p (Classical.propDecidable _)):=by
 obtain ⟨b,h1,h2⟩:=h
 rw [h1]
 congr 1
 rw [Bool.eq_iff_iff,h2,@decide_eq_true_iff _ (Classical.propDecidable _)]
theorem Qen (N:Nat)(v:V):Q1S N v.k v.n v.s=some (QbJ v):=says_dec (right_is N v)
theorem nameB_is (N:Nat)(s:ByteArray):Q8w N s=some (Qa9 s):=by
 unfold Q8w
 have h:=right_is N (⟨2,0,s⟩ : V)
 have h2:Q9M (Q1S N 2 0 s) (Qdo s.data.toList):=h.iff (by unfold rightP;simp)
 rw [says_dec h2,Q0];rfl
def Q87:V:=⟨0,0,⟨#[]⟩⟩
mutual
noncomputable def Q8m (vars:Int):Q4→Bool
 | ⟨k,v,x,op,kids⟩ =>
   if k=1 then decide (x=0∧op=0∧kids.length=0) && QbJ v
   else if k=2 then decide (v=Q87∧op=0∧kids.length=0∧0≤x∧x < vars)
   else if k=3 then decide (v=Q87∧x=0∧1≤op∧op≤11∧kids.length=(if op=4∨op=11 then 1 else 2)) && Q9O vars kids
   else false
noncomputable def Q9O (vars:Int):List Q4→Bool
 | []=>true
 | x :: l=>Q8m vars x && Q9O vars l
end
theorem exprsB_any (vars : Int) : ∀ l : List Q4,Q9O vars l=!(l.any fun x=> !Q8m vars x)
 | []=>by simp [Q9O]
 | x :: l=>by rw [Q9O,exprsB_any vars l,List.any_cons];cases Q8m vars x <;> simp
theorem plain_is (N:Nat)(k a b:Int)(s:ByteArray)(x op:Int)(kids:List Q4)(p q r:Bool) :
  Q6V N k a b s x op kids p q r=some ((p || decide ((⟨a,b,s⟩ : V)=Q87)) && ((q || decide (x=0)) && (r || (decide (op=0) && decide (kids.length=0))))):=by
 unfold Q6V Qah Q87
 have e1:(x==0)=decide (x=0):=by rw [Bool.eq_iff_iff];simp
 have e2:(op==0)=decide (op=0):=by rw [Bool.eq_iff_iff];simp
 have e3:(kids.length==0)=decide (kids.length=0):=by rw [Bool.eq_iff_iff];simp
 rw [e1,e2,e3]
 cases p <;> cases q <;> cases r <;> cases decide ((⟨a,b,s⟩ : V)=⟨0,0,⟨#[]⟩⟩) <;> cases decide (x=0) <;> cases decide (op=0) <;> cases decide (kids.length=0) <;> rfl
theorem expr_is {types:List Q8} {rules:List Qf} {vars facts:Int} : ∀ (m N:Nat) (e:Q4),Q8a e ≤ m → m ≤ 1000000 → 9223372036854775808 + m ≤ N →
    Q3V N types rules vars facts e.kind e.value.k e.value.n e.value.s e.var e.op e.kids=some (Q8m vars e):=by
  intro m
  induction m with
  | zero=>intro N e h;rw [Q56] at h;omega
  | succ m ih =>
    intro N e h hm hN
    obtain ⟨N,rfl⟩ : ∃ q,N=q+1:=⟨N - 1,by omega⟩
    obtain ⟨k,v,x,op,kids⟩:=e
    have hk:Q2r kids≤m:=by rw [Q56] at h;simp only at h;omega
    show Q6B N (Q3V N) types rules vars facts k v.k v.n v.s x op kids=_
    unfold Q6B
    rw [Q8m]
    by_cases h1:k=1
    · rw [if_pos (by simpa using h1),if_pos h1,plain_is,Q0]
      simp only [Bool.true_or,Bool.true_and,Bool.false_or]
      by_cases h2:(decide (x=0) && (decide (op=0) && decide (kids.length=0)))=true
      · rw [if_pos h2,Qen,Q0]
        congr 1
        simp at h2
        simp [h2]
      · rw [if_neg h2]
        congr 1
        simp at h2
        symm
        rw [Bool.and_eq_false_iff]
        left
        simpa using h2
    · rw [if_neg (by simpa using h1),if_neg h1]
      by_cases h2:k=2
      · rw [if_pos (by simpa using h2),if_pos h2,plain_is,Q0]
        simp only [Bool.true_or,Bool.true_and,Bool.false_or]
        have ev:(⟨v.k,v.n,v.s⟩ : V)=v:=rfl
        rw [ev]
        by_cases h3:(decide (v=Q87) && (decide (op=0) && decide (kids.length=0)))=true
        · rw [if_pos h3]
          simp at h3
          by_cases h4 : 0≤x
          · rw [if_pos (by simpa using h4)]
            congr 1
            simp [h3,h4]
          · rw [if_neg (by simpa using h4)]
            congr 1
            simp [h4]
        · rw [if_neg h3]
          congr 1
          simp at h3
          simp
          intro a b c;exact absurd c (h3 a b)
      · rw [if_neg (by simpa using h2),if_neg h2]
        by_cases h3:k=3
        · rw [if_pos (by simpa using h3),if_pos h3]
          have hw:Q7v N op=some (if op=4∨op=11 then 1 else 2):=by
            unfold Q7v
            by_cases a:op=4
            · rw [if_pos (by simpa using a),Q0,if_pos rfl,if_pos (.inl a)]
            · rw [if_neg (by simpa using a),Q0]
              by_cases b:op=11
              · rw [if_pos (by simpa using b),if_pos (.inr b)]
              · rw [if_neg (by simpa using b),if_neg (by omega)]
          have hex:Q5s N (Q3V N) types rules vars facts kids=some (Q9O vars kids):=by
            unfold Q5s Q3W Q54
            have hl:=Q4o kids
            rw [Q9w (l:=kids) (p:=fun y=>!Q8m vars y) (fun i hi=>by
              unfold Q2y Q6b
              have hn:=Q55 (List.getElem_mem hi)
              rw [if_pos (by simpa using hi),List.getElem?_eq_getElem hi,Q0,ih N kids[i] (by omega) (by omega) (by omega),Q0,Q0]
              by_cases hb:(!Q8m vars kids[i])=true
              · rw [if_pos hb,if_pos hb]
              · rw [if_neg hb,if_neg hb,Qr (by omega)]) (by
              unfold Q2y
              rw [if_neg (by simp)]) kids.length 0 N (by omega) (by omega),Q0,Q0,List.drop_zero,Qbs,exprsB_any]
          rw [hw,Q0]
          unfold Q8O
          rw [plain_is,Q0]
          simp only [Bool.true_or,Bool.false_or,Bool.and_true]
          have ev:(⟨v.k,v.n,v.s⟩ : V)=v:=rfl
          rw [ev]
          by_cases c1:v=Q87∧x=0
          · rw [if_pos (by simp [c1])]
            by_cases c2 : 1≤op
            · rw [if_pos (by simpa using c2)]
              by_cases c3:op≤11
              · rw [if_pos (by simpa using c3)]
                by_cases c4:kids.length=(if op=4∨op=11 then 1 else 2)
                · rw [if_pos (by simpa using c4),hex,Q0,Q0]
                  congr 1
                  rw [decide_eq_true ⟨c1.1,c1.2,c2,c3,c4⟩,Bool.true_and]
                · rw [if_neg (by simpa using c4),Q0,decide_eq_false (fun h=>c4 h.2.2.2.2),Bool.false_and]
              · rw [if_neg (by simpa using c3),Q0,decide_eq_false (fun h=>c3 h.2.2.2.1),Bool.false_and]
            · rw [if_neg (by simpa using c2),Q0,decide_eq_false (fun h=>c2 h.2.2.1),Bool.false_and]
          · rw [if_neg (by simpa using c1),Q0,decide_eq_false (fun h=>c1 ⟨h.1,h.2.1⟩),Bool.false_and]
        · rw [if_neg (by simpa using h3),if_neg h3]
end Go.Proofs.YtbgodclhmgmcgaaGreatDoor
namespace Go.Proofs.YtbgodclhmgmcgaaGreatDoor
open Go Go.RowKit
def Q3T (types:List Q8)(kind fields:Int):Bool:=match types[kind.toNat]? with
 | some t=>decide (0≤kind) && t.fields==fields
 | none=>false
theorem typed_is (N:Nat)(types:List Q8)(rules:List Qf)(a b kind fields:Int):Q5C N types rules a b kind fields=some (Q3T types kind fields):=by
 unfold Q5C Q3T
 by_cases h : 0≤kind
 ·rw [if_pos (by simpa using h)]
  by_cases h2:kind < ((types.length:Nat):Int)
  ·have h3:kind.toNat < types.length:=by omega
   rw [if_pos (by simpa using h2),Qr h,List.getElem?_eq_getElem h3,Q0]
   simp [h]
  · rw [if_neg (by simpa using h2),List.getElem?_eq_none (by omega)]
 ·rw [if_neg (by simpa using h)]
  split
  · simp [h]
  · rfl
noncomputable def Q8M (binds:Bool)(vars:Int)(a:Q1n):Bool×Int :=
 if a.k=1 then (decide (a.var=0∧a.v=Q87),vars)
 else if a.k=2 then (binds && decide (a.var=vars∧a.v=Q87),vars+1)
 else if a.k=3 then (decide (0≤a.var∧a.var < vars∧a.v=Q87),vars)
 else if a.k=4 then (decide (a.var=0) && QbJ a.v,vars)
 else (false,vars)
theorem arg_is (N:Nat)(types:List Q8)(rules:List Qf) {vars:Int} (hv : 0≤vars∧vars≤1000000000)(b:Int)(a:Q1n)(binds:Bool):Q7S N types rules vars b a.k a.var a.v.k a.v.n a.v.s binds=some (Q8M binds vars a):=by
 unfold Q7S Q8M
 have ev:(⟨a.v.k,a.v.n,a.v.s⟩ : V)=a.v:=rfl
 rw [ev]
 by_cases h1:a.k=1
 ·rw [if_pos (by simpa using h1),if_pos h1]
  by_cases h:a.var=0
  · rw [if_pos (by simpa using h)];simp [h,Q87]
  · rw [if_neg (by simpa using h)];simp [h]
 ·rw [if_neg (by simpa using h1),if_neg h1]
  by_cases h2:a.k=2
  ·rw [if_pos (by simpa using h2),if_pos h2,Qr (by omega)]
   cases binds with
   | false=>rw [if_neg (by simp)];simp
   | true =>
     rw [if_pos rfl,Qr (by omega),show vars+1 - 1=vars from by omega]
     by_cases h:a.var=vars
     · rw [if_pos (by simpa using h)];simp [h,Q87]
     · rw [if_neg (by simpa using h)];simp [h]
  ·rw [if_neg (by simpa using h2),if_neg h2]
   by_cases h3:a.k=3
   · rw [if_pos (by simpa using h3),if_pos h3]
     by_cases h : 0≤a.var
     ·rw [if_pos (by simpa using h)]
      by_cases h' : a.var < vars
      · rw [if_pos (by simpa using h')];simp [h,h',Q87]
      · rw [if_neg (by simpa using h')];simp [h']
     · rw [if_neg (by simpa using h)];simp [h]
   · rw [if_neg (by simpa using h3),if_neg h3]
     by_cases h4:a.k=4
     ·rw [if_pos (by simpa using h4),if_pos h4]
      by_cases h:a.var=0
      · rw [if_pos (by simpa using h),Qen,Q0];simp [h]
      · rw [if_neg (by simpa using h)];simp [h]
     · rw [if_neg (by simpa using h4),if_neg h4]
theorem QdR (binds:Bool)(vars:Int)(a:Q1n):(Q8M binds vars a).2=vars∨(Q8M binds vars a).2=vars+1:=by
 unfold Q8M
 split
 · exact .inl rfl
 ·split
  · exact .inr rfl
  ·split
   · exact .inl rfl
   · split <;> exact .inl rfl
noncomputable def Q5K (binds:Bool):List Q1n→Int→Bool×Int
 | [],vars=>(true,vars)
 | a :: l,vars=>if (Q8M binds vars a).1=true then Q5K binds l (Q8M binds vars a).2 else (false,(Q8M binds vars a).2)
theorem QcV (binds:Bool) : ∀ (l:List Q1n)(vars:Int),vars≤(Q5K binds l vars).2∧(Q5K binds l vars).2≤vars+((l.length:Nat):Int)
 | [],vars=>by simp [Q5K]
 | a :: l,vars=>by
   unfold Q5K
   have h:=QdR binds vars a
   split
   ·have:=QcV binds l (Q8M binds vars a).2
    simp only [List.length_cons]
    omega
   · simp only [List.length_cons];omega
theorem args_iter {N:Nat} {types:List Q8} {rules:List Qf} {facts kind:Int} {l:List Q1n} (hl:l.length≤1000000) :
   ∀ (m i fuel:Nat) (vars:Int),i + m = l.length → m < fuel → 0 ≤ vars → vars + ((m:Nat):Int) ≤ 1000000000 →
     Q1e (Q3j N l types rules facts kind) fuel (i,vars)=some (if (Q5K (kind==1) (l.drop i) vars).1=true then .inl (Q5K (kind==1) (l.drop i) vars).2 else .inr (false,(Q5K (kind==1) (l.drop i) vars).2,facts)):=by
 intro m
 induction m with
 | zero =>
   intro i fuel vars hi hf h0 hv
   obtain ⟨fuel,rfl⟩ : ∃ q,fuel=q+1:=⟨fuel - 1,by omega⟩
   obtain rfl:i=l.length:=by omega
   rw [Q1c (o:=.inl vars) (by unfold Q3j;simp only;rw [if_neg (by simp)]),List.drop_length]
   simp [Q5K]
 | succ m ih =>
   intro i fuel vars hi hf h0 hv
   obtain ⟨fuel,rfl⟩ : ∃ q,fuel=q+1:=⟨fuel - 1,by omega⟩
   have h:i < l.length:=by omega
   have hs:Q3j N l types rules facts kind (i,vars)=if (Q8M (kind==1) vars l[i]).1=true then some (.inl (i+1,(Q8M (kind==1) vars l[i]).2)) else some (.inr (.inr (false,(Q8M (kind==1) vars l[i]).2,facts))):=by
     unfold Q3j
     simp only
     rw [if_pos (by simpa using h),List.getElem?_eq_getElem h,Q0,arg_is N types rules (by omega) facts l[i] (kind==1),Q0]
     by_cases hb:(Q8M (kind==1) vars l[i]).1=true
     ·simp only [hb,Bool.not_true,Bool.false_eq_true,if_false,if_true]
      rw [Qr (by omega)]
     ·simp only [Bool.not_eq_true] at hb
      simp only [hb,Bool.not_false,if_true,Bool.false_eq_true,if_false]
   rw [List.drop_eq_getElem_cons h]
   rw [Q5K]
   have hv2:=QdR (kind==1) vars l[i]
   by_cases hb:(Q8M (kind==1) vars l[i]).1=true
   · rw [if_pos hb] at hs ⊢
     rw [Q2c hs]
     exact ih (i+1) fuel _ (by omega) (by omega) (by omega) (by omega)
   · rw [if_neg hb] at hs ⊢
     rw [Q1c hs]
     simp
def zeroE (e:Q4):Bool:=decide (e.kind=0∧e.value=Q87∧e.var=0∧e.op=0∧e.kids.length=0)
noncomputable def Q3C (types:List Q8)(vars facts:Int)(c:Qn):Bool×Int×Int :=
 if c.kind=1∨c.kind=2 then
  if Q3T types c.type ((c.args.length:Nat):Int) && zeroE c.test then
   (if (Q5K (c.kind==1) c.args vars).1=true then (true,(Q5K (c.kind==1) c.args vars).2,if c.kind=1 then facts+1 else facts) else (false,(Q5K (c.kind==1) c.args vars).2,facts))
  else (false,vars,facts)
 else if c.kind=3 then (decide (c.type=0∧c.args.length=0) && Q8m vars c.test,vars,facts)
 else (false,vars,facts)
theorem cond_is {N:Nat} {types:List Q8} {rules:List Qf} {vars facts:Int} {c:Qn} (hN : 9223372036854775808+1000000≤N)(ha:c.args.length≤1000000)(ht:Q8a c.test≤1000000)(hv : 0≤vars∧vars≤1000000)(hf : 0≤facts∧facts≤1000000) :
  Q7t N types rules vars facts c.kind c.type c.args c.test.kind c.test.value.k c.test.value.n c.test.value.s c.test.var c.test.op c.test.kids=some (Q3C types vars facts c):=by
 unfold Q7t Q3C
 have e12:(if (c.kind==1)=true then some (c.kind==1) else some (c.kind==2))=some (decide (c.kind=1∨c.kind=2)):=by
  by_cases h:c.kind=1
  · simp [h]
  · rw [if_neg (by simpa using h)];congr 1;rw [Bool.eq_iff_iff];simp [h]
 rw [e12,Q0]
 by_cases h12:c.kind=1∨c.kind=2
 ·rw [if_pos (by simpa using h12),if_pos h12]
  have hc2:Q7u N types rules vars facts c.type c.args c.test.kind c.test.value.k c.test.value.n c.test.value.s c.test.var c.test.op c.test.kids=some (!(Q3T types c.type ((c.args.length:Nat):Int) && zeroE c.test)):=by
   unfold Q7u
   rw [typed_is,Q0]
   cases ht:Q3T types c.type ((c.args.length:Nat):Int) with
   | false=>simp
   | true =>
     rw [if_neg (by simp)]
     by_cases hk:c.test.kind=0
     ·rw [if_neg (by simpa using hk),plain_is,Q0]
      congr 1
      unfold zeroE
      have ev:(⟨c.test.value.k,c.test.value.n,c.test.value.s⟩ : V)=c.test.value:=rfl
      rw [ev,Bool.eq_iff_iff]
      simp [hk]
     ·rw [if_pos (by simpa using hk)]
      congr 1
      unfold zeroE
      simp [hk]
  rw [hc2,Q0]
  by_cases hg:(Q3T types c.type ((c.args.length:Nat):Int) && zeroE c.test)=true
  ·rw [if_neg (by rw [hg];simp),if_pos hg,args_iter ha c.args.length 0 N vars (by omega) (by omega) hv.1 (by omega),List.drop_zero]
   by_cases hb:(Q5K (c.kind==1) c.args vars).1=true
   · rw [if_pos hb,if_pos hb,Q1b]
     by_cases h1:c.kind=1
     · rw [if_pos (by simpa using h1),Qr (by omega),Q0,if_pos h1]
     · rw [if_neg (by simpa using h1),Q0,if_neg h1]
   · rw [if_neg hb,if_neg hb,Q1K]
  ·have hgf:(Q3T types c.type ((c.args.length:Nat):Int) && zeroE c.test)=false:=by simpa only [Bool.not_eq_true] using hg
   rw [hgf,if_pos (by rfl),if_neg (by simp)]
 ·rw [if_neg (by simpa using h12),if_neg h12]
  by_cases h3:c.kind=3
  ·rw [if_pos (by simpa using h3),if_pos h3]
   by_cases h4:c.type=0
   · rw [if_pos (by simpa using h4)]
     by_cases h5:c.args.length=0
     ·rw [if_pos (by simpa using h5),expr_is 1000000 N c.test ht (by omega) (by omega),Q0]
      congr 1
      rw [decide_eq_true ⟨h4,h5⟩,Bool.true_and]
     · rw [if_neg (by simpa using h5),decide_eq_false (fun h=>h5 h.2),Bool.false_and]
   · rw [if_neg (by simpa using h4),decide_eq_false (fun h=>h4 h.1),Bool.false_and]
  · rw [if_neg (by simpa using h3),if_neg h3]
end Go.Proofs.YtbgodclhmgmcgaaGreatDoor
