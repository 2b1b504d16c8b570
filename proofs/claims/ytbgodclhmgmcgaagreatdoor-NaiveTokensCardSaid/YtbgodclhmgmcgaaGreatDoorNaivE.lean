import Derived.Test.YtbgodclhmgmcgaaGreatDoorNaivS
import Derived.Test.YtbgodclhmgmcgaaGreatDoorNaivPD
namespace Go.Proofs.YtbgodclhmgmcgaaGreatDoor
open Go Go.RowKit
theorem exprs_is {N:Nat} {types:List Q8} {rules:List Qf} {vars facts:Int} {l:List Q4} (hN : 9223372036854775808+1000000≤N)(hl:Q2r l≤1000000):Q5B N types rules vars facts l=some (Q9O vars l):=by
 unfold Q5B Q52 Q6h
 have hll:=Q4o l
 rw [Q9w (l:=l) (p:=fun y=>!Q8m vars y) (fun i hi=>by
  unfold Q3u Q7w
  have hn:=Q55 (List.getElem_mem hi)
  rw [if_pos (by simpa using hi),List.getElem?_eq_getElem hi,Q0,expr_is 1000000 N l[i] (by omega) (by omega) (by omega),Q0,Q0]
  by_cases hb:(!Q8m vars l[i])=true
  · rw [if_pos hb,if_pos hb]
  · rw [if_neg hb,if_neg hb,Qr (by omega)]) (by
  unfold Q3u
  rw [if_neg (by simp)]) l.length 0 N (by omega) (by omega),Q0,Q0,List.drop_zero,Qbs,exprsB_any]
noncomputable def actB (types:List Q8)(vars facts:Int)(a:QO):Bool :=
 if a.kind=1 then decide (a.which=0) && (Q3T types a.type ((a.exprs.length:Nat):Int) && Q9O vars a.exprs)
 else if a.kind=2 then decide (a.type=0∧a.exprs.length=0∧0≤a.which∧a.which < facts)
 else if a.kind=3 then decide (a.type=0∧a.which=0∧0 < a.exprs.length) && Q9O vars a.exprs
 else decide (a.kind=4∧a.type=0∧a.which=0∧a.exprs.length=0)
theorem act_is {N:Nat} {types:List Q8} {rules:List Qf} {vars facts:Int} {a:QO} (hN : 9223372036854775808+1000000≤N)(ha:Q2r a.exprs≤1000000):Q7R N types rules vars facts a.kind a.type a.which a.exprs=some (actB types vars facts a):=by
 unfold Q7R actB
 by_cases h1:a.kind=1
 ·rw [if_pos (by simpa using h1),if_pos h1]
  by_cases h2:a.which=0
  ·rw [if_pos (by simpa using h2),typed_is,Q0,decide_eq_true h2,Bool.true_and]
   cases ht:Q3T types a.type ((a.exprs.length:Nat):Int) with
   | true=>rw [if_pos rfl,exprs_is hN ha,Q0,Bool.true_and]
   | false=>rw [if_neg (by simp),Bool.false_and]
  · rw [if_neg (by simpa using h2),decide_eq_false h2,Bool.false_and]
 ·rw [if_neg (by simpa using h1),if_neg h1]
  by_cases h2:a.kind=2
  ·rw [if_pos (by simpa using h2),if_pos h2]
   unfold Q9c
   by_cases c1:a.type=0
   ·rw [if_pos (by simpa using c1)]
    by_cases c2:a.exprs.length=0
    ·rw [if_pos (by simpa using c2)]
     by_cases c3 : 0≤a.which
     ·rw [if_pos (by simpa using c3),Q0]
      congr 1
      rw [Bool.eq_iff_iff];simp only [decide_eq_true_eq]
      exact ⟨fun h=>⟨c1,c2,c3,h⟩,fun h=>h.2.2.2⟩
     · rw [if_neg (by simpa using c3),Q0,decide_eq_false (fun h=>c3 h.2.2.1)]
    · rw [if_neg (by simpa using c2),Q0,decide_eq_false (fun h=>c2 h.2.1)]
   · rw [if_neg (by simpa using c1),Q0,decide_eq_false (fun h=>c1 h.1)]
  ·rw [if_neg (by simpa using h2),if_neg h2]
   by_cases h3:a.kind=3
   ·rw [if_pos (by simpa using h3),if_pos h3]
    unfold Q9d
    by_cases c1:a.type=0
    ·rw [if_pos (by simpa using c1)]
     by_cases c2:a.which=0
     ·rw [if_pos (by simpa using c2)]
      by_cases c3 : 0 < a.exprs.length
      · rw [if_pos (by simpa using c3),exprs_is hN ha,Q0,Q0,decide_eq_true ⟨c1,c2,c3⟩,Bool.true_and]
      · rw [if_neg (by simpa using c3),Q0,decide_eq_false (fun h=>c3 h.2.2),Bool.false_and]
     · rw [if_neg (by simpa using c2),Q0,decide_eq_false (fun h=>c2 h.2.1),Bool.false_and]
    · rw [if_neg (by simpa using c1),Q0,decide_eq_false (fun h=>c1 h.1),Bool.false_and]
   ·rw [if_neg (by simpa using h3),if_neg h3]
    unfold Q9e
    by_cases c0:a.kind=4
    ·rw [if_pos (by simpa using c0)]
     by_cases c1:a.type=0
     ·rw [if_pos (by simpa using c1)]
      by_cases c2:a.which=0
      ·rw [if_pos (by simpa using c2),Q0]
       congr 1
       rw [Bool.eq_iff_iff];simp only [decide_eq_true_eq,beq_iff_eq]
       exact ⟨fun h=>⟨c0,c1,c2,h⟩,fun h=>h.2.2.2⟩
      · rw [if_neg (by simpa using c2),Q0,decide_eq_false (fun h=>c2 h.2.2.1)]
     · rw [if_neg (by simpa using c1),Q0,decide_eq_false (fun h=>c1 h.2.1)]
    · rw [if_neg (by simpa using c0),Q0,decide_eq_false (fun h=>c0 h.1)]
theorem Qeh (types:List Q8)(vars facts:Int)(c:Qn):vars≤(Q3C types vars facts c).2.1∧(Q3C types vars facts c).2.1≤vars+((c.args.length:Nat):Int)∧facts≤(Q3C types vars facts c).2.2∧(Q3C types vars facts c).2.2≤facts+1:=by
 unfold Q3C
 have h:=QcV (c.kind==1) c.args vars
 split
 ·split
  ·split
   · simp only;split <;> omega
   · simp only;omega
  · simp only;omega
 · split <;> (simp only;omega)
noncomputable def Q4m (types:List Q8):List Qn→Int→Int→Bool×Int×Int
 | [],vars,facts=>(true,vars,facts)
 | c :: l,vars,facts=>if (Q3C types vars facts c).1=true then Q4m types l (Q3C types vars facts c).2.1 (Q3C types vars facts c).2.2 else (false,(Q3C types vars facts c).2.1,(Q3C types vars facts c).2.2)
theorem conds_iter {N:Nat} {types:List Q8} {rules:List Qf} {l:List Qn} (hN : 9223372036854775808+1000000≤N)(hl : ∀ c∈l,c.args.length≤1000∧Q8a c.test≤1000000)(hll:l.length≤100) :
   ∀ (m i fuel:Nat) (vars facts:Int),i + m = l.length → m < fuel → 0 ≤ vars ∧ vars + ((m:Nat):Int) * 1000 ≤ 1000000 → 0 ≤ facts ∧ facts + ((m:Nat):Int) ≤ 1000000 →
     Q1e (Q2Y N l types rules) fuel (i,vars,facts)=some (if (Q4m types (l.drop i) vars facts).1=true then .inl (Q4m types (l.drop i) vars facts).2 else .inr (Q4m types (l.drop i) vars facts)):=by
 intro m
 induction m with
 | zero =>
   intro i fuel vars facts hi hf hv hft
   obtain ⟨fuel,rfl⟩ : ∃ q,fuel=q+1:=⟨fuel - 1,by omega⟩
   obtain rfl:i=l.length:=by omega
   rw [Q1c (o:=.inl (vars,facts)) (by unfold Q2Y;simp only;rw [if_neg (by simp)]),List.drop_length]
   simp [Q4m]
 | succ m ih =>
   intro i fuel vars facts hi hf hv hft
   obtain ⟨fuel,rfl⟩ : ∃ q,fuel=q+1:=⟨fuel - 1,by omega⟩
   have h:i < l.length:=by omega
   obtain ⟨k1,k2⟩:=hl l[i] (List.getElem_mem h)
   have hc:=cond_is (rules:=rules) (types:=types) (vars:=vars) (facts:=facts) (c:=l[i]) hN (by omega) k2 (by omega) (by omega)
   have hcv:=Qeh types vars facts l[i]
   have hs:Q2Y N l types rules (i,vars,facts)=if (Q3C types vars facts l[i]).1=true then some (.inl (i+1,(Q3C types vars facts l[i]).2)) else some (.inr (.inr (Q3C types vars facts l[i]))):=by
     unfold Q2Y
     simp only
     rw [if_pos (by simpa using h),List.getElem?_eq_getElem h,Q0,hc,Q0]
     obtain ⟨b,x,y⟩:=Q3C types vars facts l[i]
     cases b with
     | true=>simp only [Bool.not_true,Bool.false_eq_true,if_false,if_true];rw [Qr (by omega)]
     | false=>simp only [Bool.not_false,Bool.false_eq_true,if_false,if_true]
   rw [List.drop_eq_getElem_cons h,Q4m]
   by_cases hb:(Q3C types vars facts l[i]).1=true
   · rw [if_pos hb] at hs ⊢
     rw [Q2c hs]
     exact ih (i+1) fuel (Q3C types vars facts l[i]).2.1 (Q3C types vars facts l[i]).2.2 (by omega) (by omega) (by omega) (by omega)
   · rw [if_neg hb] at hs ⊢
     rw [Q1c hs]
     have hb2:(Q3C types vars facts l[i]).1=false:=by simpa using hb
     simp only [Bool.false_eq_true,if_false]
     rw [← hb2]
noncomputable def Qa5 (types:List Q8)(r:Qf):Bool :=
 (Qa9 r.name && decide (-1000 ≤ r.salience ∧ r.salience ≤ 1000 ∧ r.conds.length ≤ 8 ∧ r.acts.length ≤ 8)) &&
  ((Q4m types r.conds 0 0).1 && (decide (r.vars=(Q4m types r.conds 0 0).2.1∧(Q4m types r.conds 0 0).2.1≤16) && r.acts.all (actB types (Q4m types r.conds 0 0).2.1 (Q4m types r.conds 0 0).2.2)))
structure LightR (r:Qf):Prop where
 conds : ∀ c∈r.conds,c.args.length≤1000∧Q8a c.test≤1000000
 acts : ∀ a∈r.acts,Q2r a.exprs≤1000000
theorem all_any {α : Type} {p : α→Bool} : ∀ l : List α,(!(l.any fun x=> !p x))=l.all p
 | []=>rfl
 | x :: l=>by rw [List.any_cons,List.all_cons,← all_any l];cases p x <;> simp
theorem whole_is {N:Nat} {types:List Q8} {rules:List Qf} {a b:Int} {r:Qf} (hN : 9223372036854775808+1000000≤N)(hr:LightR r) : ∃ x y,Q75 N types rules a b r.name r.salience r.vars r.conds r.acts=some (Qa5 types r,x,y):=by
 unfold Q75
 have hc1:Q7c N r.name r.salience r.conds r.acts = some (!(Qa9 r.name && decide (-1000 ≤ r.salience ∧ r.salience ≤ 1000 ∧ r.conds.length ≤ 8 ∧ r.acts.length ≤ 8))):=by
  unfold Q7c
  rw [nameB_is,Q0]
  cases Qa9 r.name with
  | false=>simp
  | true =>
    rw [if_neg (by simp),Bool.true_and]
    by_cases c1:r.salience < -1000
    · rw [if_pos (by simpa using c1),decide_eq_false (by omega)];rfl
    ·rw [if_neg (by simpa using c1)]
     by_cases c2:r.salience > 1000
     · rw [if_pos (by simpa using c2),decide_eq_false (by omega)];rfl
     ·rw [if_neg (by simpa using c2)]
      by_cases c3 : 8 < r.conds.length
      · rw [if_pos (by simpa using c3),decide_eq_false (by omega)];rfl
      ·rw [if_neg (by simpa using c3)]
       congr 1
       rw [Bool.eq_iff_iff];simp only [decide_eq_true_eq,Bool.not_eq_true',decide_eq_false_iff_not];omega
 rw [hc1,Q0]
 unfold Qa5
 by_cases hg:(Qa9 r.name && decide (-1000≤r.salience∧r.salience≤1000∧r.conds.length≤8∧r.acts.length≤8))=true
 ·rw [hg,if_neg (by simp)]
  have h8:r.conds.length≤8∧r.acts.length≤8:=by
    simp only [Bool.and_eq_true,decide_eq_true_eq] at hg
    exact ⟨hg.2.2.2.1,hg.2.2.2.2⟩
  rw [conds_iter (rules:=rules) hN hr.conds (by omega) r.conds.length 0 N 0 0 (by omega) (by omega) (by omega) (by omega),List.drop_zero]
  obtain ⟨q,x,y⟩:=Q4m types r.conds 0 0
  cases q with
  | false=>exact ⟨x,y,by simp only [Bool.false_eq_true,if_false];rw [Q1K];rfl⟩
  | true =>
    refine ⟨x,y,?_⟩
    simp only [if_true]
    rw [Q1b]
    simp only [Bool.true_and]
    by_cases c1:r.vars=x
    ·rw [if_pos (by simpa using c1)]
     by_cases c2:x≤16
     ·rw [if_pos (by simpa using c2)]
      unfold Q5p Q6Q
      rw [Q9w (l:=r.acts) (p:=fun z=>!actB types x y z) (fun i hi=>by
       unfold Q3P Q7x
       rw [if_pos (by simpa using hi),List.getElem?_eq_getElem hi,Q0,act_is hN (hr.acts _ (List.getElem_mem hi)),Q0,Q0]
       by_cases hb:(!actB types x y r.acts[i])=true
       · rw [if_pos hb,if_pos hb]
       · rw [if_neg hb,if_neg hb,Qr (by omega)]) (by
       unfold Q3P
       rw [if_neg (by simp)]) r.acts.length 0 N (by omega) (by omega),Q0,Q0,List.drop_zero,Qbs,all_any]
      rw [decide_eq_true ⟨c1,c2⟩,Bool.true_and]
     · rw [if_neg (by simpa using c2),decide_eq_false (fun h=>c2 h.2),Bool.false_and]
    · rw [if_neg (by simpa using c1),decide_eq_false (fun h=>c1 h.1),Bool.false_and]
 ·have hgf:(Qa9 r.name && decide (-1000≤r.salience∧r.salience≤1000∧r.conds.length≤8∧r.acts.length≤8))=false:=by simpa only [Bool.not_eq_true] using hg
  rw [hgf,if_pos (by rfl),Bool.false_and]
  exact ⟨0,0,rfl⟩
end Go.Proofs.YtbgodclhmgmcgaaGreatDoor
namespace Go.Proofs.YtbgodclhmgmcgaaGreatDoor
open Go Go.RowKit
theorem do_same {N N' : Nat} {op:Int} {l:List V} (hN : 9223372036854775808≤N)(hN' : 9223372036854775808≤N'):Q3S N op l=Q3S N' op l:=by
 by_cases h2:l.length≤2
 ·have e:Q1e (Q21 N l) N (0,false)=Q1e (Q21 N' l) N' (0,false):=by
   have e1:Q21 N l=Q21 N' l:=rfl
   rcases Nat.le_total N N' with h | h
   ·rcases loop_tot hN h2 with ⟨b,hb⟩ | hb
    · rw [hb];exact (QcX (by rw [e1] at hb;exact hb) h).symm
    · rw [hb];exact (QcX (by rw [e1] at hb;exact hb) h).symm
   ·rcases loop_tot hN' h2 with ⟨b,hb⟩ | hb
    · rw [hb];exact QcX (by rw [← e1] at hb;exact hb) h
    · rw [hb];exact QcX (by rw [← e1] at hb;exact hb) h
  unfold Q3S
  rw [e]
  rfl
 ·unfold Q3S
  rw [(c1_is N op).1,(c1_is N' op).1,Q0,Q0,bad_is]
  have hb:op < 1∨op > 11∨l.length≠(if op=4∨op=11 then 1 else 2):=.inr (.inr (by split <;> omega))
  rw [Q0,Q0,if_pos (by simpa using hb),if_pos (by simpa using hb)]
theorem both2 : ∀ (m N N' : Nat) (e:Q4) (vars:List V),ok_Api_ExprD e → Q8a e ≤ m → m ≤ 1000 → 9223372036854775808 + m ≤ N → 9223372036854775808 + m ≤ N' → (∀ v ∈ vars,okV v) → vars.length ≤ 1000000 →
   at_ (Q1o N) vars e=at_ (Q1o N') vars e:=by
 intro m
 induction m with
 | zero =>
   intro N N' e vars _ hn
   rw [Q56] at hn;omega
 | succ m ih =>
   intro N N' e vars hok hn hm hN hN' hv hvl
   obtain ⟨N,rfl⟩ : ∃ k,N=k+1:=⟨N - 1,by omega⟩
   obtain ⟨N',rfl⟩ : ∃ k,N' =k+1:=⟨N' - 1,by omega⟩
   obtain ⟨k,v,x,o,kids⟩:=e
   have hN1 : 9223372036854775808≤N:=by omega
   have hN2 : 9223372036854775808≤N':=by omega
   rw [Q56] at hn
   simp only at hn
   show Q42 N (Q1o N) k v.k v.n v.s x o kids vars=Q42 N' (Q1o N') k v.k v.n v.s x o kids vars
   unfold Q42
   by_cases k3:k=3
   ·subst k3
    simp only [show ((3:Int)==3)=true from rfl,if_true,show ((3:Int)==1)=false from rfl,show ((3:Int)==2)=false from rfl,Bool.false_eq_true,if_false]
    unfold Q72 Q8x
    have hkl:kids.length≤1000000:=by have:=Q4o kids;omega
    rw [lrow hN1 hkl,lrow hN2 hkl]
    obtain ⟨h4,g4⟩:=ok_kids hok
    simp only at h4 g4
    have hall:allR (at_ (Q1o N) vars) kids []=allR (at_ (Q1o N') vars) kids []:=by
     have : ∀ (l:List Q4) (acc:List V),(∀ y∈l,y∈kids)→allR (at_ (Q1o N) vars) l acc=allR (at_ (Q1o N') vars) l acc:=by
      intro l
      induction l with
      | nil=>intro acc _;rfl
      | cons y l ihl =>
        intro acc hy
        have hyk:=hy y (by simp)
        unfold allR
        rw [ih N N' y vars (g4 y hyk) (by have:=Q55 hyk;omega) (by omega) (by omega) (by omega) hv hvl]
        congr 1
        funext ⟨a,b,c,e⟩
        simp only
        rw [ihl _ (fun z hz=>hy z (by simp [hz]))]
     exact this kids [] (fun y hy=>hy)
    rw [hall]
    congr 1
    congr 1
    funext ⟨a,b⟩
    simp only
    split
    · rfl
    · rw [do_same hN1 hN2]
   ·have b3:(k==3)=false:=by simpa using k3
    simp only [b3,Bool.false_eq_true,if_false]
    rfl
end Go.Proofs.YtbgodclhmgmcgaaGreatDoor
