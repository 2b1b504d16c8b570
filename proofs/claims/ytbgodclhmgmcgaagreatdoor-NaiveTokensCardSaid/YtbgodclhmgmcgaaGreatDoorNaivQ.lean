import Derived.Test.YtbgodclhmgmcgaaGreatDoorNaivO
namespace Go.Proofs.YtbgodclhmgmcgaaGreatDoor
open Go Go.RowKit
theorem all_iter {σ:Type} {f:Nat×σ→Option ((Nat×σ)⊕(Unit⊕Bool))} {n:Nat} {p:Nat→Bool} (step : ∀ i s,i < n→∃ s',f (i,s)=if p i=true then some (.inl (i+1,s')) else some (.inr (.inr false)))(stop : ∀ s,f (n,s)=some (.inr (.inl ()))) :
   ∀ (m i fuel:Nat) (s : σ),i+m=n→m < fuel→Q1e f fuel (i,s)=some (if (List.range' i m).all p=true then .inl () else .inr false):=by
 intro m
 induction m with
 | zero =>
   intro i fuel s hi hf
   obtain ⟨fuel,rfl⟩ : ∃ q,fuel=q+1:=⟨fuel - 1,by omega⟩
   obtain rfl:i=n:=by omega
   rw [Q1c (stop s)];rfl
 | succ m ih =>
   intro i fuel s hi hf
   obtain ⟨fuel,rfl⟩ : ∃ q,fuel=q+1:=⟨fuel - 1,by omega⟩
   obtain ⟨s',hs⟩:=step i s (by omega)
   rw [List.range'_succ,List.all_cons]
   by_cases hp:p i=true
   ·rw [if_pos hp] at hs
    rw [Q2c hs,ih (i+1) fuel s' (by omega) (by omega),hp,Bool.true_and]
   ·rw [if_neg hp] at hs
    rw [Q1c hs,if_neg (by simp [hp])]
theorem all_iter1 {f:Nat→Option (Nat⊕(Unit⊕Bool))} {n:Nat} {p:Nat→Bool} (step : ∀ i,i < n→f i=if p i=true then some (.inl (i+1)) else some (.inr (.inr false)))(stop:f n=some (.inr (.inl ()))) :
   ∀ (m i fuel:Nat),i+m=n→m < fuel→Q1e f fuel i=some (if (List.range' i m).all p=true then .inl () else .inr false):=by
 intro m
 induction m with
 | zero =>
   intro i fuel hi hf
   obtain ⟨fuel,rfl⟩ : ∃ q,fuel=q+1:=⟨fuel - 1,by omega⟩
   obtain rfl:i=n:=by omega
   rw [Q1c stop];rfl
 | succ m ih =>
   intro i fuel hi hf
   obtain ⟨fuel,rfl⟩ : ∃ q,fuel=q+1:=⟨fuel - 1,by omega⟩
   have hs:=step i (by omega)
   rw [List.range'_succ,List.all_cons]
   by_cases hp:p i=true
   ·rw [if_pos hp] at hs
    rw [Q2c hs,ih (i+1) fuel (by omega) (by omega),hp,Bool.true_and]
   ·rw [if_neg hp] at hs
    rw [Q1c hs,if_neg (by simp [hp])]
theorem kind_is {N:Nat} {types:List Q8} {rules:List Qf} {a b:Int} {s:ByteArray} (hN : 9223372036854775808≤N)(hl:types.length≤1000000) :
  Q73 N types rules a b s=some (Q8f (fun t=>t.name.toList==s.toList) types 0):=by
 unfold Q73 Q6k
 rw [Q9w (l:=types) (p:=fun t=>t.name.toList==s.toList) (fun i hi=>by
  unfold Q3x Q7r
  rw [if_pos (by simpa using hi),List.getElem?_eq_getElem hi,Q0,Q0]
  by_cases hb:(types[i].name.toList==s.toList)=true
  · rw [if_pos hb,if_pos hb]
  · rw [if_neg hb,if_neg hb,Qr (by omega)]) (by
  unfold Q3x
  rw [if_neg (by simp)]) types.length 0 N (by omega) (by omega),Q0,List.drop_zero]
theorem rule_is {N:Nat} {types:List Q8} {rules:List Qf} {a b:Int} {s:ByteArray} (hN : 9223372036854775808≤N)(hl:rules.length≤1000000) :
  Q74 N types rules a b s=some (Q8f (fun t=>t.name.toList==s.toList) rules 0):=by
 unfold Q74 Q6j
 rw [Q9w (l:=rules) (p:=fun t=>t.name.toList==s.toList) (fun i hi=>by
  unfold Q3w Q7s
  rw [if_pos (by simpa using hi),List.getElem?_eq_getElem hi,Q0,Q0]
  by_cases hb:(rules[i].name.toList==s.toList)=true
  · rw [if_pos hb,if_pos hb]
  · rw [if_neg hb,if_neg hb,Qr (by omega)]) (by
  unfold Q3w
  rw [if_neg (by simp)]) rules.length 0 N (by omega) (by omega),Q0,List.drop_zero]
noncomputable def typeP (types:List Q8)(i:Nat):Bool:=match types[i]? with
 | some t=>Qa9 t.name && (decide (0≤t.fields∧t.fields≤6) && Q8f (fun x=>x.name.toList==t.name.toList) types 0==((i:Nat):Int))
 | none=>false
noncomputable def ruleP (types:List Q8)(rules:List Qf)(i:Nat):Bool:=match rules[i]? with
 | some r=>Q8f (fun x=>x.name.toList==r.name.toList) rules 0==((i:Nat):Int) && Qa5 types r
 | none=>false
noncomputable def Q79 (types:List Q8)(rules:List Qf):Bool :=
 decide (types.length≤32∧rules.length≤64) && ((List.range' 0 types.length).all (typeP types) && (List.range' 0 rules.length).all (ruleP types rules))
theorem rightRules_is {N:Nat} {types:List Q8} {rules:List Qf} (hN : 9223372036854775808 + 1000000 ≤ N) (hr : ∀ r ∈ rules,LightR r):Q9k N types rules = some (Q79 types rules):=by
  unfold Q9k Q79
  by_cases h1 : 32 < types.length
  · rw [if_pos (by simpa using h1),Q0,if_pos rfl,decide_eq_false (by omega)];rfl
  · rw [if_neg (by simpa using h1),Q0]
    by_cases h2 : 64 < rules.length
    · rw [if_pos (by simpa using h2),decide_eq_false (by omega)];rfl
    · rw [if_neg (by simpa using h2),decide_eq_true ⟨by omega,by omega⟩,Bool.true_and]
      rw [all_iter1 (f:=Q6Z N types rules) (n:=types.length) (p:=typeP types) (fun i hi=>by
        unfold Q6Z typeP
        rw [if_pos (by simpa using hi),List.getElem?_eq_getElem hi,Q0]
        have hc:Q8Y N types[i] types rules i=some (!(Qa9 types[i].name && (decide (0≤types[i].fields∧types[i].fields≤6) && Q8f (fun x=>x.name.toList==types[i].name.toList) types 0==((i:Nat):Int)))):=by
          unfold Q8Y
          rw [nameB_is,Q0]
          cases Qa9 types[i].name with
          | false=>rfl
          | true =>
            rw [if_neg (by simp),Bool.true_and]
            by_cases c1:types[i].fields < 0
            · rw [if_pos (by simpa using c1),decide_eq_false (by omega)];rfl
            · rw [if_neg (by simpa using c1)]
              by_cases c2:types[i].fields > 6
              · rw [if_pos (by simpa using c2),decide_eq_false (by omega)];rfl
              · rw [if_neg (by simpa using c2),kind_is (by omega) (by omega),Q0,decide_eq_true ⟨by omega,by omega⟩,Bool.true_and]
                rfl
        rw [hc,Q0]
        simp only
        by_cases hb:(Qa9 types[i].name && (decide (0≤types[i].fields∧types[i].fields≤6) && Q8f (fun x=>x.name.toList==types[i].name.toList) types 0==((i:Nat):Int)))=true
        · rw [if_neg (by rw [hb];simp),if_pos hb,Qr (by omega)]
        · rw [if_pos (by simpa only [Bool.not_eq_true',Bool.not_eq_true] using hb),if_neg hb]) (by
        unfold Q6Z
        rw [if_neg (by simp)]) types.length 0 N (by omega) (by omega)]
      cases (List.range' 0 types.length).all (typeP types) with
      | false=>rfl
      | true =>
        rw [if_pos rfl,Q1b,Bool.true_and]
        rw [all_iter (f:=Q70 N rules types) (n:=rules.length) (p:=ruleP types rules) (fun i s hi=>by
          obtain ⟨s1,s2⟩:=s
          unfold Q70 ruleP
          simp only
          rw [if_pos (by simpa using hi),List.getElem?_eq_getElem hi,Q0,rule_is (by omega) (by omega),Q0]
          simp only
          by_cases hb:(Q8f (fun x=>x.name.toList==rules[i].name.toList) rules 0==((i:Nat):Int))=true
          · have hb2:(Q8f (fun x=>x.name.toList == rules[i].name.toList) rules 0 != ((i:Nat):Int)) = false:=by unfold bne; rw [hb]; rfl
            simp only [hb2,Bool.false_eq_true,if_false,hb,Bool.true_and]
            obtain ⟨x,y,hw⟩:=whole_is (rules:=rules) (types:=types) (a:=s1) (b:=s2) hN (hr _ (List.getElem_mem hi))
            rw [hw,Q0]
            simp only
            rw [Q0]
            simp only
            cases Qa5 types rules[i] with
            | true=>exact ⟨(x,y),by rw [if_neg (by simp),if_pos rfl,Qr (by omega)]⟩
            | false=>exact ⟨(x,y),by rw [if_pos (by rfl),if_neg (by simp)]⟩
          · have hb3:(Q8f (fun x=>x.name.toList == rules[i].name.toList) rules 0 == ((i:Nat):Int)) = false:=by simpa only [Bool.not_eq_true] using hb
            have hb2:(Q8f (fun x=>x.name.toList==rules[i].name.toList) rules 0 !=((i:Nat):Int))=true:=by unfold bne;rw [hb3];rfl
            simp only [hb2,if_true,hb3,Bool.false_and,Q0,Bool.false_eq_true,if_false]
            exact ⟨(s1,s2),trivial⟩) (fun s=>by
          unfold Q70
          obtain ⟨s1,s2⟩:=s
          simp only
          rw [if_neg (by simp)]) rules.length 0 N (0,0) (by omega) (by omega)]
        cases (List.range' 0 rules.length).all (ruleP types rules) <;> rfl
theorem Qe3 {types:List Q8} {rules:List Qf} (h:Q79 types rules=true):rules.length≤64∧∀ r∈rules,r.conds.length≤8:=by
 unfold Q79 at h
 simp only [Bool.and_eq_true,decide_eq_true_eq] at h
 refine ⟨h.1.2,fun r hr=>?_⟩
 obtain ⟨i,hi,rfl⟩:=List.getElem_of_mem hr
 have h5:=List.all_eq_true.1 h.2.2 i (by simp [List.mem_range'_1];exact hi)
 unfold ruleP at h5
 rw [List.getElem?_eq_getElem hi] at h5
 simp only [Bool.and_eq_true] at h5
 have h6:=h5.2
 unfold Qa5 at h6
 simp only [Bool.and_eq_true,decide_eq_true_eq] at h6
 exact h6.1.2.2.2.1
noncomputable def factP (types:List Q8)(last:Int)(f:QP):Bool :=
 decide (last < f.id∧f.id≤1099511627776) && (Q3T types f.ty ((f.args.length:Nat):Int) && f.args.all QbJ)
noncomputable def Q9v (types:List Q8):Int→List QP→Bool
 | _,[]=>true
 | last,f :: l=>factP types last f && Q9v types f.id l
theorem factC_is {N:Nat} {types:List Q8} {f:QP} {last:Int} (hN : 9223372036854775808≤N)(hf:f.args.length≤4398046510976):Q90 N f last types=some (!factP types last f):=by
 unfold Q90 factP
 by_cases c1:f.id≤last
 · rw [if_pos (by simpa using c1),decide_eq_false (by omega)];rfl
 ·rw [if_neg (by simpa using c1)]
  by_cases c2:f.id > 1099511627776
  · rw [if_pos (by simpa using c2),decide_eq_false (by omega)];rfl
  ·rw [if_neg (by simpa using c2),decide_eq_true (show last < f.id ∧ f.id ≤ 1099511627776 from ⟨by omega,by omega⟩),Bool.true_and]
   unfold Q3T
   by_cases c3:f.ty < 0
   ·rw [if_pos (by simpa using c3)]
    have:decide (0≤f.ty)=false:=decide_eq_false (by omega)
    rw [this]
    cases types[f.ty.toNat]? <;> rfl
   ·rw [if_neg (by simpa using c3)]
    by_cases c4:f.ty ≥ ((types.length:Nat):Int)
    · rw [if_pos (by simpa using c4),List.getElem?_eq_none (by omega)];rfl
    ·have h4:f.ty.toNat < types.length:=by omega
     rw [if_neg (by simpa using c4),Qr (by omega),List.getElem?_eq_getElem h4,Q0]
     simp only
     rw [decide_eq_true (show 0≤f.ty by omega),Bool.true_and]
     by_cases c5:types[f.ty.toNat].fields=((f.args.length:Nat):Int)
     ·rw [if_neg (by simp [c5]),show (types[f.ty.toNat].fields==((f.args.length:Nat):Int))=true from by simpa using c5,Bool.true_and]
      unfold Q4J Q5X
      rw [Q9w (l:=f.args) (p:=fun v=>!QbJ v) (fun i hi=>by
       unfold Q3a Q9r
       rw [if_pos (by simpa using hi),List.getElem?_eq_getElem hi,Q0,Qen,Q0,Q0]
       by_cases hb:(!QbJ f.args[i])=true
       · rw [if_pos hb,if_pos hb]
       · rw [if_neg hb,if_neg hb,Qr (by omega)]) (by
       unfold Q3a
       rw [if_neg (by simp)]) f.args.length 0 N (by omega) (by omega),Q0,Q0,List.drop_zero,Qbs]
      rw [← all_any,Bool.not_not]
     ·have c6:(types[f.ty.toNat].fields==((f.args.length:Nat):Int))=false:=by simpa using c5
      rw [if_pos (by simp;exact fun h=>c5 h.symm),c6];rfl
theorem facts_iter {N:Nat} {types:List Q8} {l:List QP} (hN : 9223372036854775808≤N)(hl:l.length≤1000000000)(hf : ∀ f∈l,f.args.length≤4398046510976) :
   ∀ (m i fuel:Nat) (last:Int),i+m=l.length→m < fuel→Q1e (Q5D N l types) fuel (i,last)=some (if Q9v types last (l.drop i)=true then .inl () else .inr false):=by
 intro m
 induction m with
 | zero =>
   intro i fuel last hi hfu
   obtain ⟨fuel,rfl⟩ : ∃ q,fuel=q+1:=⟨fuel - 1,by omega⟩
   obtain rfl:i=l.length:=by omega
   rw [Q1c (o:=.inl ()) (by unfold Q5D;simp only;rw [if_neg (by simp)]),List.drop_length];rfl
 | succ m ih =>
   intro i fuel last hi hfu
   obtain ⟨fuel,rfl⟩ : ∃ q,fuel=q+1:=⟨fuel - 1,by omega⟩
   have h:i < l.length:=by omega
   rw [List.drop_eq_getElem_cons h,Q9v]
   have hs:Q5D N l types (i,last)=if factP types last l[i]=true then some (.inl (i+1,l[i].id)) else some (.inr (.inr false)):=by
    unfold Q5D
    simp only
    rw [if_pos (by simpa using h),List.getElem?_eq_getElem h,Q0,factC_is hN (hf _ (List.getElem_mem h)),Q0]
    cases factP types last l[i] with
    | true=>rw [if_neg (by simp),if_pos rfl,Qr (by omega)]
    | false=>rw [if_pos (by rfl),if_neg (by simp)]
   by_cases hb:factP types last l[i]=true
   ·rw [if_pos hb] at hs
    rw [Q2c hs,ih (i+1) fuel l[i].id (by omega) (by omega),hb,Bool.true_and]
   ·rw [if_neg hb] at hs
    rw [Q1c hs,if_neg (by simp [hb])]
theorem facts_is {N:Nat} {types:List Q8} {rules:List Qf} {l:List QP} (hN : 9223372036854775808≤N)(hl:l.length≤1000000000)(hf : ∀ f∈l,f.args.length≤4398046510976):Q9l N types rules l=some (Q9v types 0 l):=by
 unfold Q9l
 rw [facts_iter hN hl hf l.length 0 N 0 (by omega) (by omega),List.drop_zero]
 cases Q9v types 0 l <;> rfl
theorem new_is (N:Nat)(a:Int) : ∃ hs vs,Q6W N a=some (hs,vs)∧InvE hs vs:=by
 unfold Q6W
 by_cases c1:a < 0
 ·rw [if_pos (by simpa using c1),Q0,if_pos rfl]
  exact ⟨[],[],rfl,rfl,by simp,by simp⟩
 ·rw [if_neg (by simpa using c1),Q0]
  by_cases c2:a > 16
  ·rw [if_pos (by simpa using c2)]
   exact ⟨[],[],rfl,rfl,by simp,by simp⟩
  ·rw [if_neg (by simpa using c2),Qr (by omega),Qr (by omega),Qr (by omega),Qr (by omega)]
   refine ⟨_,_,rfl,by simp,by simp;omega,fun v hv=>?_⟩
   rw [(List.mem_replicate.1 hv).2]
   unfold okV Q20
   exact ⟨⟨by simp,by simp⟩,Nat.zero_le _⟩
end Go.Proofs.YtbgodclhmgmcgaaGreatDoor
