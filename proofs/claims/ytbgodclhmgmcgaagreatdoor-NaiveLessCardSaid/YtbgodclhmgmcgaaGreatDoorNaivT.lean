import Derived.Test.YtbgodclhmgmcgaaGreatDoorNaivS
namespace Go.Proofs.YtbgodclhmgmcgaaGreatDoor
open Go Go.RowKit
theorem exprs_is {N:Nat} {types:List Ql} {rules:List Qi} {vars facts:Int} {l:List Qm} (hN : 9223372036854775808 + 1000000 ≤ N) (hl:Q4A l ≤ 1000000):Q44 N types rules vars facts l = some (Qbp vars l):=by
 unfold Q44 Q3L Q4F
 have hll:=Qa7 l
 rw [Q85 (l:=l) (p:=fun y=>!exprB vars y) (fun i hi=>by
  unfold Q2T Q5M
  have hn:=Qa8 (List.getElem_mem hi)
  rw [if_pos (by simpa using hi),List.getElem?_eq_getElem hi,Q7,expr_is 1000000 N l[i] (by omega) (by omega) (by omega),Q7,Q7]
  by_cases hb:(!exprB vars l[i]) = true
  · rw [if_pos hb,if_pos hb]
  · rw [if_neg hb,if_neg hb,QY (by omega)]) (by
  unfold Q2T
  rw [if_neg (by simp)]) l.length 0 N (by omega) (by omega),Q7,Q7,List.drop_zero,Q9Y,exprsB_any]
noncomputable def actB (types:List Ql) (vars facts:Int) (a:Q19):Bool :=
 if a.kind = 1 then decide (a.which = 0) && (Qaj types a.type ((a.exprs.length:Nat):Int) && Qbp vars a.exprs)
 else if a.kind = 2 then decide (a.type = 0 ∧ a.exprs.length = 0 ∧ 0 ≤ a.which ∧ a.which < facts)
 else if a.kind = 3 then decide (a.type = 0 ∧ a.which = 0 ∧ 0 < a.exprs.length) && Qbp vars a.exprs
 else decide (a.kind = 4 ∧ a.type = 0 ∧ a.which = 0 ∧ a.exprs.length = 0)
theorem act_is {N:Nat} {types:List Ql} {rules:List Qi} {vars facts:Int} {a:Q19} (hN : 9223372036854775808 + 1000000 ≤ N) (ha:Q4A a.exprs ≤ 1000000):Q6h N types rules vars facts a.kind a.type a.which a.exprs = some (actB types vars facts a):=by
 unfold Q6h actB
 by_cases h1:a.kind = 1
 ·rw [if_pos (by simpa using h1),if_pos h1]
  by_cases h2:a.which = 0
  ·rw [if_pos (by simpa using h2),typed_is,Q7,decide_eq_true h2,Bool.true_and]
   cases ht:Qaj types a.type ((a.exprs.length:Nat):Int) with
   | true=>rw [if_pos rfl,exprs_is hN ha,Q7,Bool.true_and]
   | false=>rw [if_neg (by simp),Bool.false_and]
  · rw [if_neg (by simpa using h2),decide_eq_false h2,Bool.false_and]
 ·rw [if_neg (by simpa using h1),if_neg h1]
  by_cases h2:a.kind = 2
  ·rw [if_pos (by simpa using h2),if_pos h2]
   unfold Q7Q
   by_cases c1:a.type = 0
   ·rw [if_pos (by simpa using c1)]
    by_cases c2:a.exprs.length = 0
    ·rw [if_pos (by simpa using c2)]
     by_cases c3 : 0 ≤ a.which
     ·rw [if_pos (by simpa using c3),Q7]
      congr 1
      rw [Bool.eq_iff_iff]; simp only [decide_eq_true_eq]
      exact ⟨fun h=>⟨c1,c2,c3,h⟩,fun h=>h.2.2.2⟩
     · rw [if_neg (by simpa using c3),Q7,decide_eq_false (fun h=>c3 h.2.2.1)]
    · rw [if_neg (by simpa using c2),Q7,decide_eq_false (fun h=>c2 h.2.1)]
   · rw [if_neg (by simpa using c1),Q7,decide_eq_false (fun h=>c1 h.1)]
  ·rw [if_neg (by simpa using h2),if_neg h2]
   by_cases h3:a.kind = 3
   ·rw [if_pos (by simpa using h3),if_pos h3]
    unfold Q7R
    by_cases c1:a.type = 0
    ·rw [if_pos (by simpa using c1)]
     by_cases c2:a.which = 0
     ·rw [if_pos (by simpa using c2)]
      by_cases c3 : 0 < a.exprs.length
      · rw [if_pos (by simpa using c3),exprs_is hN ha,Q7,Q7,decide_eq_true ⟨c1,c2,c3⟩,Bool.true_and]
      · rw [if_neg (by simpa using c3),Q7,decide_eq_false (fun h=>c3 h.2.2),Bool.false_and]
     · rw [if_neg (by simpa using c2),Q7,decide_eq_false (fun h=>c2 h.2.1),Bool.false_and]
    · rw [if_neg (by simpa using c1),Q7,decide_eq_false (fun h=>c1 h.1),Bool.false_and]
   ·rw [if_neg (by simpa using h3),if_neg h3]
    unfold Q7S
    by_cases c0:a.kind = 4
    ·rw [if_pos (by simpa using c0)]
     by_cases c1:a.type = 0
     ·rw [if_pos (by simpa using c1)]
      by_cases c2:a.which = 0
      ·rw [if_pos (by simpa using c2),Q7]
       congr 1
       rw [Bool.eq_iff_iff]; simp only [decide_eq_true_eq,beq_iff_eq]
       exact ⟨fun h=>⟨c0,c1,c2,h⟩,fun h=>h.2.2.2⟩
      · rw [if_neg (by simpa using c2),Q7,decide_eq_false (fun h=>c2 h.2.2.1)]
     · rw [if_neg (by simpa using c1),Q7,decide_eq_false (fun h=>c1 h.2.1)]
    · rw [if_neg (by simpa using c0),Q7,decide_eq_false (fun h=>c0 h.1)]
theorem cond_vars (types:List Ql) (vars facts:Int) (c:QL):vars ≤ (Q8c types vars facts c).2.1 ∧ (Q8c types vars facts c).2.1 ≤ vars + ((c.args.length:Nat):Int) ∧ facts ≤ (Q8c types vars facts c).2.2 ∧ (Q8c types vars facts c).2.2 ≤ facts + 1:=by
 unfold Q8c
 have h:=args_vars (c.kind == 1) c.args vars
 split
 ·split
  ·split
   · simp only; split <;> omega
   · simp only; omega
  · simp only; omega
 · split <;> (simp only; omega)
noncomputable def Q9z (types:List Ql):List QL → Int → Int → Bool × Int × Int
 | [],vars,facts=>(true,vars,facts)
 | c :: l,vars,facts=>if (Q8c types vars facts c).1 = true then Q9z types l (Q8c types vars facts c).2.1 (Q8c types vars facts c).2.2 else (false,(Q8c types vars facts c).2.1,(Q8c types vars facts c).2.2)
theorem conds_iter {N:Nat} {types:List Ql} {rules:List Qi} {l:List QL} (hN : 9223372036854775808 + 1000000 ≤ N) (hl : ∀ c ∈ l,c.args.length ≤ 1000 ∧ nodes c.test ≤ 1000000) (hll:l.length ≤ 100) :
   ∀ (m i fuel:Nat) (vars facts:Int),i + m = l.length → m < fuel → 0 ≤ vars ∧ vars + ((m:Nat):Int) * 1000 ≤ 1000000 → 0 ≤ facts ∧ facts + ((m:Nat):Int) ≤ 1000000 →
     Q1h (Q2J N l types rules) fuel (i,vars,facts) = some (if (Q9z types (l.drop i) vars facts).1 = true then .inl (Q9z types (l.drop i) vars facts).2 else .inr (Q9z types (l.drop i) vars facts)):=by
 intro m
 induction m with
 | zero =>
   intro i fuel vars facts hi hf hv hft
   obtain ⟨fuel,rfl⟩ : ∃ q,fuel = q + 1:=⟨fuel - 1,by omega⟩
   obtain rfl:i = l.length:=by omega
   rw [Q2u (o:=.inl (vars,facts)) (by unfold Q2J; simp only; rw [if_neg (by simp)]),List.drop_length]
   simp [Q9z]
 | succ m ih =>
   intro i fuel vars facts hi hf hv hft
   obtain ⟨fuel,rfl⟩ : ∃ q,fuel = q + 1:=⟨fuel - 1,by omega⟩
   have h:i < l.length:=by omega
   obtain ⟨k1,k2⟩:=hl l[i] (List.getElem_mem h)
   have hc:=cond_is (rules:=rules) (types:=types) (vars:=vars) (facts:=facts) (c:=l[i]) hN (by omega) k2 (by omega) (by omega)
   have hcv:=cond_vars types vars facts l[i]
   have hs:Q2J N l types rules (i,vars,facts) = if (Q8c types vars facts l[i]).1 = true then some (.inl (i + 1,(Q8c types vars facts l[i]).2)) else some (.inr (.inr (Q8c types vars facts l[i]))):=by
     unfold Q2J
     simp only
     rw [if_pos (by simpa using h),List.getElem?_eq_getElem h,Q7,hc,Q7]
     obtain ⟨b,x,y⟩:=Q8c types vars facts l[i]
     cases b with
     | true=>simp only [Bool.not_true,Bool.false_eq_true,if_false,if_true]; rw [QY (by omega)]
     | false=>simp only [Bool.not_false,Bool.false_eq_true,if_false,if_true]
   rw [List.drop_eq_getElem_cons h,Q9z]
   by_cases hb:(Q8c types vars facts l[i]).1 = true
   · rw [if_pos hb] at hs ⊢
     rw [Q5C hs]
     exact ih (i + 1) fuel (Q8c types vars facts l[i]).2.1 (Q8c types vars facts l[i]).2.2 (by omega) (by omega) (by omega) (by omega)
   · rw [if_neg hb] at hs ⊢
     rw [Q2u hs]
     have hb2:(Q8c types vars facts l[i]).1 = false:=by simpa using hb
     simp only [Bool.false_eq_true,if_false]
     rw [← hb2]
noncomputable def wholeB (types:List Ql) (r:Qi):Bool :=
 (nameB r.name && decide (-1000 ≤ r.salience ∧ r.salience ≤ 1000 ∧ r.conds.length ≤ 8 ∧ r.acts.length ≤ 8)) &&
  ((Q9z types r.conds 0 0).1 && (decide (r.vars = (Q9z types r.conds 0 0).2.1 ∧ (Q9z types r.conds 0 0).2.1 ≤ 16) && r.acts.all (actB types (Q9z types r.conds 0 0).2.1 (Q9z types r.conds 0 0).2.2)))
structure LightR (r:Qi):Prop where
 conds : ∀ c ∈ r.conds,c.args.length ≤ 1000 ∧ nodes c.test ≤ 1000000
 acts : ∀ a ∈ r.acts,Q4A a.exprs ≤ 1000000
theorem all_any {α : Type} {p : α → Bool} : ∀ l : List α, (!(l.any fun x => !p x)) = l.all p
 | []=>rfl
 | x :: l=>by rw [List.any_cons,List.all_cons,← all_any l]; cases p x <;> simp
theorem whole_is {N:Nat} {types:List Ql} {rules:List Qi} {a b:Int} {r:Qi} (hN : 9223372036854775808 + 1000000 ≤ N) (hr:LightR r) : ∃ x y,Q5f N types rules a b r.name r.salience r.vars r.conds r.acts = some (wholeB types r,x,y):=by
 unfold Q5f
 have hc1:Q5t N r.name r.salience r.conds r.acts = some (!(nameB r.name && decide (-1000 ≤ r.salience ∧ r.salience ≤ 1000 ∧ r.conds.length ≤ 8 ∧ r.acts.length ≤ 8))):=by
  unfold Q5t
  rw [nameB_is,Q7]
  cases nameB r.name with
  | false=>simp
  | true =>
    rw [if_neg (by simp),Bool.true_and]
    by_cases c1:r.salience < -1000
    · rw [if_pos (by simpa using c1),decide_eq_false (by omega)]; rfl
    ·rw [if_neg (by simpa using c1)]
     by_cases c2:r.salience > 1000
     · rw [if_pos (by simpa using c2),decide_eq_false (by omega)]; rfl
     ·rw [if_neg (by simpa using c2)]
      by_cases c3 : 8 < r.conds.length
      · rw [if_pos (by simpa using c3),decide_eq_false (by omega)]; rfl
      ·rw [if_neg (by simpa using c3)]
       congr 1
       rw [Bool.eq_iff_iff]; simp only [decide_eq_true_eq,Bool.not_eq_true',decide_eq_false_iff_not]; omega
 rw [hc1,Q7]
 unfold wholeB
 by_cases hg:(nameB r.name && decide (-1000 ≤ r.salience ∧ r.salience ≤ 1000 ∧ r.conds.length ≤ 8 ∧ r.acts.length ≤ 8)) = true
 ·rw [hg,if_neg (by simp)]
  have h8:r.conds.length ≤ 8 ∧ r.acts.length ≤ 8:=by
    simp only [Bool.and_eq_true,decide_eq_true_eq] at hg
    exact ⟨hg.2.2.2.1,hg.2.2.2.2⟩
  rw [conds_iter (rules:=rules) hN hr.conds (by omega) r.conds.length 0 N 0 0 (by omega) (by omega) (by omega) (by omega),List.drop_zero]
  obtain ⟨q,x,y⟩:=Q9z types r.conds 0 0
  cases q with
  | false=>exact ⟨x,y,by simp only [Bool.false_eq_true,if_false]; rw [Q4B]; rfl⟩
  | true =>
    refine ⟨x,y,?_⟩
    simp only [if_true]
    rw [Q1W]
    simp only [Bool.true_and]
    by_cases c1:r.vars = x
    ·rw [if_pos (by simpa using c1)]
     by_cases c2:x ≤ 16
     ·rw [if_pos (by simpa using c2)]
      unfold Q3Y Q51
      rw [Q85 (l:=r.acts) (p:=fun z=>!actB types x y z) (fun i hi=>by
       unfold Q33 Q5N
       rw [if_pos (by simpa using hi),List.getElem?_eq_getElem hi,Q7,act_is hN (hr.acts _ (List.getElem_mem hi)),Q7,Q7]
       by_cases hb:(!actB types x y r.acts[i]) = true
       · rw [if_pos hb,if_pos hb]
       · rw [if_neg hb,if_neg hb,QY (by omega)]) (by
       unfold Q33
       rw [if_neg (by simp)]) r.acts.length 0 N (by omega) (by omega),Q7,Q7,List.drop_zero,Q9Y,all_any]
      rw [decide_eq_true ⟨c1,c2⟩,Bool.true_and]
     · rw [if_neg (by simpa using c2),decide_eq_false (fun h=>c2 h.2),Bool.false_and]
    · rw [if_neg (by simpa using c1),decide_eq_false (fun h=>c1 h.1),Bool.false_and]
 ·have hgf:(nameB r.name && decide (-1000 ≤ r.salience ∧ r.salience ≤ 1000 ∧ r.conds.length ≤ 8 ∧ r.acts.length ≤ 8)) = false:=by simpa only [Bool.not_eq_true] using hg
  rw [hgf,if_pos (by rfl),Bool.false_and]
  exact ⟨0,0,rfl⟩
end Go.Proofs.YtbgodclhmgmcgaaGreatDoor
