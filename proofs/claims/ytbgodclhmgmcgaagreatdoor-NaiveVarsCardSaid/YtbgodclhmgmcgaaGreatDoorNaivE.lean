import Derived.Test.YtbgodclhmgmcgaaGreatDoorNaivS
import Derived.Test.YtbgodclhmgmcgaaGreatDoorNaivPD
namespace Go.Proofs.YtbgodclhmgmcgaaGreatDoor
open Go Go.RowKit
theorem exprs_is {N:Nat} {types:List Qg} {rules:List Qj} {vars facts:Int} {l:List Qe} (hN : 9223372036854775808 + 1000000 ≤ N) (hl:Q3u l ≤ 1000000):Q3U N types rules vars facts l = some (Q76 vars l):=by
 unfold Q3U Q3z Q4n
 have hll:=Q6g l
 rw [Q6N (l:=l) (p:=fun y=>!Q5W vars y) (fun i hi=>by
  unfold Q2L Q5d
  have hn:=Q6h (List.getElem_mem hi)
  rw [if_pos (by simpa using hi),List.getElem?_eq_getElem hi,Q6,expr_is 1000000 N l[i] (by omega) (by omega) (by omega),Q6,Q6]
  by_cases hb:(!Q5W vars l[i]) = true
  · rw [if_pos hb,if_pos hb]
  · rw [if_neg hb,if_neg hb,QC (by omega)]) (by
  unfold Q2L
  rw [if_neg (by simp)]) l.length 0 N (by omega) (by omega),Q6,Q6,List.drop_zero,Q8i,exprsB_any]
noncomputable def actB (types:List Qg) (vars facts:Int) (a:Q20):Bool :=
 if a.kind = 1 then decide (a.which = 0) && (Q2Z types a.type ((a.exprs.length:Nat):Int) && Q76 vars a.exprs)
 else if a.kind = 2 then decide (a.type = 0 ∧ a.exprs.length = 0 ∧ 0 ≤ a.which ∧ a.which < facts)
 else if a.kind = 3 then decide (a.type = 0 ∧ a.which = 0 ∧ 0 < a.exprs.length) && Q76 vars a.exprs
 else decide (a.kind = 4 ∧ a.type = 0 ∧ a.which = 0 ∧ a.exprs.length = 0)
theorem act_is {N:Nat} {types:List Qg} {rules:List Qj} {vars facts:Int} {a:Q20} (hN : 9223372036854775808 + 1000000 ≤ N) (ha:Q3u a.exprs ≤ 1000000):Q5v N types rules vars facts a.kind a.type a.which a.exprs = some (actB types vars facts a):=by
 unfold Q5v actB
 by_cases h1:a.kind = 1
 ·rw [if_pos (by simpa using h1),if_pos h1]
  by_cases h2:a.which = 0
  ·rw [if_pos (by simpa using h2),typed_is,Q6,decide_eq_true h2,Bool.true_and]
   cases ht:Q2Z types a.type ((a.exprs.length:Nat):Int) with
   | true=>rw [if_pos rfl,exprs_is hN ha,Q6,Bool.true_and]
   | false=>rw [if_neg (by simp),Bool.false_and]
  · rw [if_neg (by simpa using h2),decide_eq_false h2,Bool.false_and]
 ·rw [if_neg (by simpa using h1),if_neg h1]
  by_cases h2:a.kind = 2
  ·rw [if_pos (by simpa using h2),if_pos h2]
   unfold Q6u
   by_cases c1:a.type = 0
   ·rw [if_pos (by simpa using c1)]
    by_cases c2:a.exprs.length = 0
    ·rw [if_pos (by simpa using c2)]
     by_cases c3 : 0 ≤ a.which
     ·rw [if_pos (by simpa using c3),Q6]
      congr 1
      rw [Bool.eq_iff_iff]; simp only [decide_eq_true_eq]
      exact ⟨fun h=>⟨c1,c2,c3,h⟩,fun h=>h.2.2.2⟩
     · rw [if_neg (by simpa using c3),Q6,decide_eq_false (fun h=>c3 h.2.2.1)]
    · rw [if_neg (by simpa using c2),Q6,decide_eq_false (fun h=>c2 h.2.1)]
   · rw [if_neg (by simpa using c1),Q6,decide_eq_false (fun h=>c1 h.1)]
  ·rw [if_neg (by simpa using h2),if_neg h2]
   by_cases h3:a.kind = 3
   ·rw [if_pos (by simpa using h3),if_pos h3]
    unfold Q6v
    by_cases c1:a.type = 0
    ·rw [if_pos (by simpa using c1)]
     by_cases c2:a.which = 0
     ·rw [if_pos (by simpa using c2)]
      by_cases c3 : 0 < a.exprs.length
      · rw [if_pos (by simpa using c3),exprs_is hN ha,Q6,Q6,decide_eq_true ⟨c1,c2,c3⟩,Bool.true_and]
      · rw [if_neg (by simpa using c3),Q6,decide_eq_false (fun h=>c3 h.2.2),Bool.false_and]
     · rw [if_neg (by simpa using c2),Q6,decide_eq_false (fun h=>c2 h.2.1),Bool.false_and]
    · rw [if_neg (by simpa using c1),Q6,decide_eq_false (fun h=>c1 h.1),Bool.false_and]
   ·rw [if_neg (by simpa using h3),if_neg h3]
    unfold Q6w
    by_cases c0:a.kind = 4
    ·rw [if_pos (by simpa using c0)]
     by_cases c1:a.type = 0
     ·rw [if_pos (by simpa using c1)]
      by_cases c2:a.which = 0
      ·rw [if_pos (by simpa using c2),Q6]
       congr 1
       rw [Bool.eq_iff_iff]; simp only [decide_eq_true_eq,beq_iff_eq]
       exact ⟨fun h=>⟨c0,c1,c2,h⟩,fun h=>h.2.2.2⟩
      · rw [if_neg (by simpa using c2),Q6,decide_eq_false (fun h=>c2 h.2.2.1)]
     · rw [if_neg (by simpa using c1),Q6,decide_eq_false (fun h=>c1 h.2.1)]
    · rw [if_neg (by simpa using c0),Q6,decide_eq_false (fun h=>c0 h.1)]
theorem Q9n (types:List Qg) (vars facts:Int) (c:QE):vars ≤ (Q2j types vars facts c).2.1 ∧ (Q2j types vars facts c).2.1 ≤ vars + ((c.args.length:Nat):Int) ∧ facts ≤ (Q2j types vars facts c).2.2 ∧ (Q2j types vars facts c).2.2 ≤ facts + 1:=by
 unfold Q2j
 have h:=Q9k (c.kind == 1) c.args vars
 split
 ·split
  ·split
   · simp only; split <;> omega
   · simp only; omega
  · simp only; omega
 · split <;> (simp only; omega)
noncomputable def Q2X (types:List Qg):List QE → Int → Int → Bool × Int × Int
 | [],vars,facts=>(true,vars,facts)
 | c :: l,vars,facts=>if (Q2j types vars facts c).1 = true then Q2X types l (Q2j types vars facts c).2.1 (Q2j types vars facts c).2.2 else (false,(Q2j types vars facts c).2.1,(Q2j types vars facts c).2.2)
theorem conds_iter {N:Nat} {types:List Qg} {rules:List Qj} {l:List QE} (hN : 9223372036854775808 + 1000000 ≤ N) (hl : ∀ c ∈ l,c.args.length ≤ 1000 ∧ Q7g c.test ≤ 1000000) (hll:l.length ≤ 100) :
   ∀ (m i fuel:Nat) (vars facts:Int),i + m = l.length → m < fuel → 0 ≤ vars ∧ vars + ((m:Nat):Int) * 1000 ≤ 1000000 → 0 ≤ facts ∧ facts + ((m:Nat):Int) ≤ 1000000 →
     Q19 (Q2x N l types rules) fuel (i,vars,facts) = some (if (Q2X types (l.drop i) vars facts).1 = true then .inl (Q2X types (l.drop i) vars facts).2 else .inr (Q2X types (l.drop i) vars facts)):=by
 intro m
 induction m with
 | zero =>
   intro i fuel vars facts hi hf hv hft
   obtain ⟨fuel,rfl⟩ : ∃ q,fuel = q + 1:=⟨fuel - 1,by omega⟩
   obtain rfl:i = l.length:=by omega
   rw [Q1a (o:=.inl (vars,facts)) (by unfold Q2x; simp only; rw [if_neg (by simp)]),List.drop_length]
   simp [Q2X]
 | succ m ih =>
   intro i fuel vars facts hi hf hv hft
   obtain ⟨fuel,rfl⟩ : ∃ q,fuel = q + 1:=⟨fuel - 1,by omega⟩
   have h:i < l.length:=by omega
   obtain ⟨k1,k2⟩:=hl l[i] (List.getElem_mem h)
   have hc:=cond_is (rules:=rules) (types:=types) (vars:=vars) (facts:=facts) (c:=l[i]) hN (by omega) k2 (by omega) (by omega)
   have hcv:=Q9n types vars facts l[i]
   have hs:Q2x N l types rules (i,vars,facts) = if (Q2j types vars facts l[i]).1 = true then some (.inl (i + 1,(Q2j types vars facts l[i]).2)) else some (.inr (.inr (Q2j types vars facts l[i]))):=by
     unfold Q2x
     simp only
     rw [if_pos (by simpa using h),List.getElem?_eq_getElem h,Q6,hc,Q6]
     obtain ⟨b,x,y⟩:=Q2j types vars facts l[i]
     cases b with
     | true=>simp only [Bool.not_true,Bool.false_eq_true,if_false,if_true]; rw [QC (by omega)]
     | false=>simp only [Bool.not_false,Bool.false_eq_true,if_false,if_true]
   rw [List.drop_eq_getElem_cons h,Q2X]
   by_cases hb:(Q2j types vars facts l[i]).1 = true
   · rw [if_pos hb] at hs ⊢
     rw [Q2f hs]
     exact ih (i + 1) fuel (Q2j types vars facts l[i]).2.1 (Q2j types vars facts l[i]).2.2 (by omega) (by omega) (by omega) (by omega)
   · rw [if_neg hb] at hs ⊢
     rw [Q1a hs]
     have hb2:(Q2j types vars facts l[i]).1 = false:=by simpa using hb
     simp only [Bool.false_eq_true,if_false]
     rw [← hb2]
noncomputable def Q6R (types:List Qg) (r:Qj):Bool :=
 (Q7s r.name && decide (-1000 ≤ r.salience ∧ r.salience ≤ 1000 ∧ r.conds.length ≤ 8 ∧ r.acts.length ≤ 8)) &&
  ((Q2X types r.conds 0 0).1 && (decide (r.vars = (Q2X types r.conds 0 0).2.1 ∧ (Q2X types r.conds 0 0).2.1 ≤ 16) && r.acts.all (actB types (Q2X types r.conds 0 0).2.1 (Q2X types r.conds 0 0).2.2)))
structure LightR (r:Qj):Prop where
 conds : ∀ c ∈ r.conds,c.args.length ≤ 1000 ∧ Q7g c.test ≤ 1000000
 acts : ∀ a ∈ r.acts,Q3u a.exprs ≤ 1000000
theorem all_any {α : Type} {p : α → Bool} : ∀ l : List α, (!(l.any fun x => !p x)) = l.all p
 | []=>rfl
 | x :: l=>by rw [List.any_cons,List.all_cons,← all_any l]; cases p x <;> simp
theorem whole_is {N:Nat} {types:List Qg} {rules:List Qj} {a b:Int} {r:Qj} (hN : 9223372036854775808 + 1000000 ≤ N) (hr:LightR r) : ∃ x y,Q4P N types rules a b r.name r.salience r.vars r.conds r.acts = some (Q6R types r,x,y):=by
 unfold Q4P
 have hc1:Q4W N r.name r.salience r.conds r.acts = some (!(Q7s r.name && decide (-1000 ≤ r.salience ∧ r.salience ≤ 1000 ∧ r.conds.length ≤ 8 ∧ r.acts.length ≤ 8))):=by
  unfold Q4W
  rw [nameB_is,Q6]
  cases Q7s r.name with
  | false=>simp
  | true =>
    rw [if_neg (by simp),Bool.true_and]
    by_cases c1:r.salience < -1000
    · rw [if_pos (by simpa using c1),decide_eq_false (by omega)]; rfl
    ·rw [if_neg (by simpa using c1)]
     by_cases c2:r.salience > 1000
     · rw [if_pos (by simpa using c2),decide_eq_false (by omega)]; rfl
     ·rw [if_neg (by simpa using c2)]
      by_cases c3 : 8 < r.conds.length
      · rw [if_pos (by simpa using c3),decide_eq_false (by omega)]; rfl
      ·rw [if_neg (by simpa using c3)]
       congr 1
       rw [Bool.eq_iff_iff]; simp only [decide_eq_true_eq,Bool.not_eq_true',decide_eq_false_iff_not]; omega
 rw [hc1,Q6]
 unfold Q6R
 by_cases hg:(Q7s r.name && decide (-1000 ≤ r.salience ∧ r.salience ≤ 1000 ∧ r.conds.length ≤ 8 ∧ r.acts.length ≤ 8)) = true
 ·rw [hg,if_neg (by simp)]
  have h8:r.conds.length ≤ 8 ∧ r.acts.length ≤ 8:=by
    simp only [Bool.and_eq_true,decide_eq_true_eq] at hg
    exact ⟨hg.2.2.2.1,hg.2.2.2.2⟩
  rw [conds_iter (rules:=rules) hN hr.conds (by omega) r.conds.length 0 N 0 0 (by omega) (by omega) (by omega) (by omega),List.drop_zero]
  obtain ⟨q,x,y⟩:=Q2X types r.conds 0 0
  cases q with
  | false=>exact ⟨x,y,by simp only [Bool.false_eq_true,if_false]; rw [Q1t]; rfl⟩
  | true =>
    refine ⟨x,y,?_⟩
    simp only [if_true]
    rw [Q18]
    simp only [Bool.true_and]
    by_cases c1:r.vars = x
    ·rw [if_pos (by simpa using c1)]
     by_cases c2:x ≤ 16
     ·rw [if_pos (by simpa using c2)]
      unfold Q3L Q4C
      rw [Q6N (l:=r.acts) (p:=fun z=>!actB types x y z) (fun i hi=>by
       unfold Q2W Q5e
       rw [if_pos (by simpa using hi),List.getElem?_eq_getElem hi,Q6,act_is hN (hr.acts _ (List.getElem_mem hi)),Q6,Q6]
       by_cases hb:(!actB types x y r.acts[i]) = true
       · rw [if_pos hb,if_pos hb]
       · rw [if_neg hb,if_neg hb,QC (by omega)]) (by
       unfold Q2W
       rw [if_neg (by simp)]) r.acts.length 0 N (by omega) (by omega),Q6,Q6,List.drop_zero,Q8i,all_any]
      rw [decide_eq_true ⟨c1,c2⟩,Bool.true_and]
     · rw [if_neg (by simpa using c2),decide_eq_false (fun h=>c2 h.2),Bool.false_and]
    · rw [if_neg (by simpa using c1),decide_eq_false (fun h=>c1 h.1),Bool.false_and]
 ·have hgf:(Q7s r.name && decide (-1000 ≤ r.salience ∧ r.salience ≤ 1000 ∧ r.conds.length ≤ 8 ∧ r.acts.length ≤ 8)) = false:=by simpa only [Bool.not_eq_true] using hg
  rw [hgf,if_pos (by rfl),Bool.false_and]
  exact ⟨0,0,rfl⟩
end Go.Proofs.YtbgodclhmgmcgaaGreatDoor
namespace Go.Proofs.YtbgodclhmgmcgaaGreatDoor
open Go Go.RowKit
theorem do_same {N N' : Nat} {op:Int} {l:List V} (hN : 9223372036854775808 ≤ N) (hN' : 9223372036854775808 ≤ N'):Q2Y N op l = Q2Y N' op l:=by
 by_cases h2:l.length ≤ 2
 ·have e:Q19 (Q1M N l) N (0,false) = Q19 (Q1M N' l) N' (0,false):=by
   have e1:Q1M N l = Q1M N' l:=rfl
   rcases Nat.le_total N N' with h | h
   ·rcases loop_tot hN h2 with ⟨b,hb⟩ | hb
    · rw [hb]; exact (Q9o (by rw [e1] at hb; exact hb) h).symm
    · rw [hb]; exact (Q9o (by rw [e1] at hb; exact hb) h).symm
   ·rcases loop_tot hN' h2 with ⟨b,hb⟩ | hb
    · rw [hb]; exact Q9o (by rw [← e1] at hb; exact hb) h
    · rw [hb]; exact Q9o (by rw [← e1] at hb; exact hb) h
  unfold Q2Y
  rw [e]
  rfl
 ·unfold Q2Y
  rw [(c1_is N op).1,(c1_is N' op).1,Q6,Q6,bad_is]
  have hb:op < 1 ∨ op > 11 ∨ l.length ≠ (if op = 4 ∨ op = 11 then 1 else 2):=.inr (.inr (by split <;> omega))
  rw [Q6,Q6,if_pos (by simpa using hb),if_pos (by simpa using hb)]
theorem both2 : ∀ (m N N' : Nat) (e:Qe) (vars:List V),ok_Api_ExprD e → Q7g e ≤ m → m ≤ 1000 → 9223372036854775808 + m ≤ N → 9223372036854775808 + m ≤ N' → (∀ v ∈ vars,okV v) → vars.length ≤ 1000000 →
   at_ (Q1m N) vars e = at_ (Q1m N') vars e:=by
 intro m
 induction m with
 | zero =>
   intro N N' e vars _ hn
   rw [Q5Y] at hn; omega
 | succ m ih =>
   intro N N' e vars hok hn hm hN hN' hv hvl
   obtain ⟨N,rfl⟩ : ∃ k,N = k + 1:=⟨N - 1,by omega⟩
   obtain ⟨N',rfl⟩ : ∃ k,N' = k + 1:=⟨N' - 1,by omega⟩
   obtain ⟨k,v,x,o,kids⟩:=e
   have hN1 : 9223372036854775808 ≤ N:=by omega
   have hN2 : 9223372036854775808 ≤ N':=by omega
   rw [Q5Y] at hn
   simp only at hn
   show Q38 N (Q1m N) k v.k v.n v.s x o kids vars = Q38 N' (Q1m N') k v.k v.n v.s x o kids vars
   unfold Q38
   by_cases k3:k = 3
   ·subst k3
    simp only [show ((3:Int) == 3) = true from rfl,if_true,show ((3:Int) == 1) = false from rfl,show ((3:Int) == 2) = false from rfl,Bool.false_eq_true,if_false]
    unfold Q4L Q62
    have hkl:kids.length ≤ 1000000:=by have:=Q6g kids; omega
    rw [lrow hN1 hkl,lrow hN2 hkl]
    obtain ⟨h4,g4⟩:=ok_kids hok
    simp only at h4 g4
    have hall:allR (at_ (Q1m N) vars) kids [] = allR (at_ (Q1m N') vars) kids []:=by
     have : ∀ (l:List Qe) (acc:List V),(∀ y ∈ l,y ∈ kids) → allR (at_ (Q1m N) vars) l acc = allR (at_ (Q1m N') vars) l acc:=by
      intro l
      induction l with
      | nil=>intro acc _; rfl
      | cons y l ihl =>
        intro acc hy
        have hyk:=hy y (by simp)
        unfold allR
        rw [ih N N' y vars (g4 y hyk) (by have:=Q6h hyk; omega) (by omega) (by omega) (by omega) hv hvl]
        congr 1
        funext ⟨a,b,c,e⟩
        simp only
        rw [ihl _ (fun z hz=>hy z (by simp [hz]))]
     exact this kids [] (fun y hy=>hy)
    rw [hall]
    congr 1
    congr 1
    funext ⟨a,b⟩
    simp only
    split
    · rfl
    · rw [do_same hN1 hN2]
   ·have b3:(k == 3) = false:=by simpa using k3
    simp only [b3,Bool.false_eq_true,if_false]
    rfl
end Go.Proofs.YtbgodclhmgmcgaaGreatDoor
