import Derived.Test.YtbgodclhmgmcgaaGreatDoorNaivO
namespace Go.Proofs.YtbgodclhmgmcgaaGreatDoor
open Go Go.RowKit
theorem all_iter {σ:Type} {f:Nat × σ → Option ((Nat × σ) ⊕ (Unit ⊕ Bool))} {n:Nat} {p:Nat → Bool} (step : ∀ i s,i < n → ∃ s',f (i,s) = if p i = true then some (.inl (i + 1,s')) else some (.inr (.inr false))) (stop : ∀ s,f (n,s) = some (.inr (.inl ()))) :
   ∀ (m i fuel:Nat) (s : σ),i + m = n → m < fuel → Q1g f fuel (i,s) = some (if (List.range' i m).all p = true then .inl () else .inr false):=by
 intro m
 induction m with
 | zero =>
   intro i fuel s hi hf
   obtain ⟨fuel,rfl⟩ : ∃ q,fuel = q + 1:=⟨fuel - 1,by omega⟩
   obtain rfl:i = n:=by omega
   rw [Q2k (stop s)]; rfl
 | succ m ih =>
   intro i fuel s hi hf
   obtain ⟨fuel,rfl⟩ : ∃ q,fuel = q + 1:=⟨fuel - 1,by omega⟩
   obtain ⟨s',hs⟩:=step i s (by omega)
   rw [List.range'_succ,List.all_cons]
   by_cases hp:p i = true
   ·rw [if_pos hp] at hs
    rw [Q4s hs,ih (i + 1) fuel s' (by omega) (by omega),hp,Bool.true_and]
   ·rw [if_neg hp] at hs
    rw [Q2k hs,if_neg (by simp [hp])]
theorem all_iter1 {f:Nat → Option (Nat ⊕ (Unit ⊕ Bool))} {n:Nat} {p:Nat → Bool} (step : ∀ i,i < n → f i = if p i = true then some (.inl (i + 1)) else some (.inr (.inr false))) (stop:f n = some (.inr (.inl ()))) :
   ∀ (m i fuel:Nat),i + m = n → m < fuel → Q1g f fuel i = some (if (List.range' i m).all p = true then .inl () else .inr false):=by
 intro m
 induction m with
 | zero =>
   intro i fuel hi hf
   obtain ⟨fuel,rfl⟩ : ∃ q,fuel = q + 1:=⟨fuel - 1,by omega⟩
   obtain rfl:i = n:=by omega
   rw [Q2k stop]; rfl
 | succ m ih =>
   intro i fuel hi hf
   obtain ⟨fuel,rfl⟩ : ∃ q,fuel = q + 1:=⟨fuel - 1,by omega⟩
   have hs:=step i (by omega)
   rw [List.range'_succ,List.all_cons]
   by_cases hp:p i = true
   ·rw [if_pos hp] at hs
    rw [Q4s hs,ih (i + 1) fuel (by omega) (by omega),hp,Bool.true_and]
   ·rw [if_neg hp] at hs
    rw [Q2k hs,if_neg (by simp [hp])]
theorem kind_is {N:Nat} {types:List Qk} {rules:List Qh} {a b:Int} {s:ByteArray} (hN : 9223372036854775808 ≤ N) (hl:types.length ≤ 1000000) :
  Q50 N types rules a b s = some (Q7g (fun t=>t.name.toList == s.toList) types 0):=by
 unfold Q50 Q4z
 rw [Q7W (l:=types) (p:=fun t=>t.name.toList == s.toList) (fun i hi=>by
  unfold Q2R Q5y
  rw [if_pos (by simpa using hi),List.getElem?_eq_getElem hi,Q7,Q7]
  by_cases hb:(types[i].name.toList == s.toList) = true
  · rw [if_pos hb,if_pos hb]
  · rw [if_neg hb,if_neg hb,Q15 (by omega)]) (by
  unfold Q2R
  rw [if_neg (by simp)]) types.length 0 N (by omega) (by omega),Q7,List.drop_zero]
theorem rule_is {N:Nat} {types:List Qk} {rules:List Qh} {a b:Int} {s:ByteArray} (hN : 9223372036854775808 ≤ N) (hl:rules.length ≤ 1000000) :
  Q51 N types rules a b s = some (Q7g (fun t=>t.name.toList == s.toList) rules 0):=by
 unfold Q51 Q4y
 rw [Q7W (l:=rules) (p:=fun t=>t.name.toList == s.toList) (fun i hi=>by
  unfold Q2Q Q5z
  rw [if_pos (by simpa using hi),List.getElem?_eq_getElem hi,Q7,Q7]
  by_cases hb:(rules[i].name.toList == s.toList) = true
  · rw [if_pos hb,if_pos hb]
  · rw [if_neg hb,if_neg hb,Q15 (by omega)]) (by
  unfold Q2Q
  rw [if_neg (by simp)]) rules.length 0 N (by omega) (by omega),Q7,List.drop_zero]
noncomputable def typeP (types:List Qk) (i:Nat):Bool:=match types[i]? with
 | some t=>nameB t.name && (decide (0 ≤ t.fields ∧ t.fields ≤ 6) && Q7g (fun x=>x.name.toList == t.name.toList) types 0 == ((i:Nat):Int))
 | none=>false
noncomputable def ruleP (types:List Qk) (rules:List Qh) (i:Nat):Bool:=match rules[i]? with
 | some r=>Q7g (fun x=>x.name.toList == r.name.toList) rules 0 == ((i:Nat):Int) && wholeB types r
 | none=>false
noncomputable def Q6M (types:List Qk) (rules:List Qh):Bool :=
 decide (types.length ≤ 32 ∧ rules.length ≤ 64) && ((List.range' 0 types.length).all (typeP types) && (List.range' 0 rules.length).all (ruleP types rules))
theorem rightRules_is {N:Nat} {types:List Qk} {rules:List Qh} (hN : 9223372036854775808 + 1000000 ≤ N) (hr : ∀ r ∈ rules,LightR r):Q6V N types rules = some (Q6M types rules):=by
  unfold Q6V Q6M
  by_cases h1 : 32 < types.length
  · rw [if_pos (by simpa using h1),Q7,if_pos rfl,decide_eq_false (by omega)]; rfl
  · rw [if_neg (by simpa using h1),Q7]
    by_cases h2 : 64 < rules.length
    · rw [if_pos (by simpa using h2),decide_eq_false (by omega)]; rfl
    · rw [if_neg (by simpa using h2),decide_eq_true ⟨by omega,by omega⟩,Bool.true_and]
      rw [all_iter1 (f:=Q4W N types rules) (n:=types.length) (p:=typeP types) (fun i hi=>by
        unfold Q4W typeP
        rw [if_pos (by simpa using hi),List.getElem?_eq_getElem hi,Q7]
        have hc:Q7z N types[i] types rules i = some (!(nameB types[i].name && (decide (0 ≤ types[i].fields ∧ types[i].fields ≤ 6) && Q7g (fun x=>x.name.toList == types[i].name.toList) types 0 == ((i:Nat):Int)))):=by
          unfold Q7z
          rw [nameB_is,Q7]
          cases nameB types[i].name with
          | false=>rfl
          | true =>
            rw [if_neg (by simp),Bool.true_and]
            by_cases c1:types[i].fields < 0
            · rw [if_pos (by simpa using c1),decide_eq_false (by omega)]; rfl
            · rw [if_neg (by simpa using c1)]
              by_cases c2:types[i].fields > 6
              · rw [if_pos (by simpa using c2),decide_eq_false (by omega)]; rfl
              · rw [if_neg (by simpa using c2),kind_is (by omega) (by omega),Q7,decide_eq_true ⟨by omega,by omega⟩,Bool.true_and]
                rfl
        rw [hc,Q7]
        simp only
        by_cases hb:(nameB types[i].name && (decide (0 ≤ types[i].fields ∧ types[i].fields ≤ 6) && Q7g (fun x=>x.name.toList == types[i].name.toList) types 0 == ((i:Nat):Int))) = true
        · rw [if_neg (by rw [hb]; simp),if_pos hb,Q15 (by omega)]
        · rw [if_pos (by simpa only [Bool.not_eq_true',Bool.not_eq_true] using hb),if_neg hb]) (by
        unfold Q4W
        rw [if_neg (by simp)]) types.length 0 N (by omega) (by omega)]
      cases (List.range' 0 types.length).all (typeP types) with
      | false=>rfl
      | true =>
        rw [if_pos rfl,Q1X,Bool.true_and]
        rw [all_iter (f:=Q4X N rules types) (n:=rules.length) (p:=ruleP types rules) (fun i s hi=>by
          obtain ⟨s1,s2⟩:=s
          unfold Q4X ruleP
          simp only
          rw [if_pos (by simpa using hi),List.getElem?_eq_getElem hi,Q7,rule_is (by omega) (by omega),Q7]
          simp only
          by_cases hb:(Q7g (fun x=>x.name.toList == rules[i].name.toList) rules 0 == ((i:Nat):Int)) = true
          · have hb2:(Q7g (fun x=>x.name.toList == rules[i].name.toList) rules 0 != ((i:Nat):Int)) = false:=by unfold bne; rw [hb]; rfl
            simp only [hb2,Bool.false_eq_true,if_false,hb,Bool.true_and]
            obtain ⟨x,y,hw⟩:=whole_is (rules:=rules) (types:=types) (a:=s1) (b:=s2) hN (hr _ (List.getElem_mem hi))
            rw [hw,Q7]
            simp only
            rw [Q7]
            simp only
            cases wholeB types rules[i] with
            | true=>exact ⟨(x,y),by rw [if_neg (by simp),if_pos rfl,Q15 (by omega)]⟩
            | false=>exact ⟨(x,y),by rw [if_pos (by rfl),if_neg (by simp)]⟩
          · have hb3:(Q7g (fun x=>x.name.toList == rules[i].name.toList) rules 0 == ((i:Nat):Int)) = false:=by simpa only [Bool.not_eq_true] using hb
            have hb2:(Q7g (fun x=>x.name.toList == rules[i].name.toList) rules 0 != ((i:Nat):Int)) = true:=by unfold bne; rw [hb3]; rfl
            simp only [hb2,if_true,hb3,Bool.false_and,Q7,Bool.false_eq_true,if_false]
            exact ⟨(s1,s2),trivial⟩) (fun s=>by
          unfold Q4X
          obtain ⟨s1,s2⟩:=s
          simp only
          rw [if_neg (by simp)]) rules.length 0 N (0,0) (by omega) (by omega)]
        cases (List.range' 0 rules.length).all (ruleP types rules) <;> rfl
theorem right_one {types:List Qk} {rules:List Qh} {k:Nat} (hk:k < rules.length) (h:Q6M types rules = true):Q6M types [rules[k]] = true:=by
 unfold Q6M at h ⊢
 simp only [Bool.and_eq_true,decide_eq_true_eq] at h ⊢
 obtain ⟨⟨h1,h2⟩,h3,h4⟩:=h
 refine ⟨⟨h1,by simp⟩,h3,?_⟩
 have h5:=List.all_eq_true.1 h4 k (by simp [List.mem_range'_1]; exact hk)
 unfold ruleP at h5
 rw [List.getElem?_eq_getElem hk] at h5
 simp only [Bool.and_eq_true] at h5
 simp [List.range',ruleP,Q7g,h5.2]
theorem right_conds {types:List Qk} {rules:List Qh} (h:Q6M types rules = true):rules.length ≤ 64 ∧ ∀ r ∈ rules,r.conds.length ≤ 8:=by
 unfold Q6M at h
 simp only [Bool.and_eq_true,decide_eq_true_eq] at h
 refine ⟨h.1.2,fun r hr=>?_⟩
 obtain ⟨i,hi,rfl⟩:=List.getElem_of_mem hr
 have h5:=List.all_eq_true.1 h.2.2 i (by simp [List.mem_range'_1]; exact hi)
 unfold ruleP at h5
 rw [List.getElem?_eq_getElem hi] at h5
 simp only [Bool.and_eq_true] at h5
 have h6:=h5.2
 unfold wholeB at h6
 simp only [Bool.and_eq_true,decide_eq_true_eq] at h6
 exact h6.1.2.2.2.1
noncomputable def factP (types:List Qk) (last:Int) (f:QE):Bool :=
 decide (last < f.id ∧ f.id ≤ 1099511627776) && (Qa7 types f.ty ((f.args.length:Nat):Int) && f.args.all rightB)
noncomputable def factsB (types:List Qk):Int → List QE → Bool
 | _,[]=>true
 | last,f :: l=>factP types last f && factsB types f.id l
theorem factC_is {N:Nat} {types:List Qk} {f:QE} {last:Int} (hN : 9223372036854775808 ≤ N) (hf:f.args.length ≤ 4398046510976):Q7B N f last types = some (!factP types last f):=by
 unfold Q7B factP
 by_cases c1:f.id ≤ last
 · rw [if_pos (by simpa using c1),decide_eq_false (by omega)]; rfl
 ·rw [if_neg (by simpa using c1)]
  by_cases c2:f.id > 1099511627776
  · rw [if_pos (by simpa using c2),decide_eq_false (by omega)]; rfl
  ·rw [if_neg (by simpa using c2),decide_eq_true (show last < f.id ∧ f.id ≤ 1099511627776 from ⟨by omega,by omega⟩),Bool.true_and]
   unfold Qa7
   by_cases c3:f.ty < 0
   ·rw [if_pos (by simpa using c3)]
    have:decide (0 ≤ f.ty) = false:=decide_eq_false (by omega)
    rw [this]
    cases types[f.ty.toNat]? <;> rfl
   ·rw [if_neg (by simpa using c3)]
    by_cases c4:f.ty ≥ ((types.length:Nat):Int)
    · rw [if_pos (by simpa using c4),List.getElem?_eq_none (by omega)]; rfl
    ·have h4:f.ty.toNat < types.length:=by omega
     rw [if_neg (by simpa using c4),Q15 (by omega),List.getElem?_eq_getElem h4,Q7]
     simp only
     rw [decide_eq_true (show 0 ≤ f.ty by omega),Bool.true_and]
     by_cases c5:types[f.ty.toNat].fields = ((f.args.length:Nat):Int)
     ·rw [if_neg (by simp [c5]),show (types[f.ty.toNat].fields == ((f.args.length:Nat):Int)) = true from by simpa using c5,Bool.true_and]
      unfold Q3o Q4b
      rw [Q7W (l:=f.args) (p:=fun v=>!rightB v) (fun i hi=>by
       unfold Q2G Q7U
       rw [if_pos (by simpa using hi),List.getElem?_eq_getElem hi,Q7,rightB_is,Q7,Q7]
       by_cases hb:(!rightB f.args[i]) = true
       · rw [if_pos hb,if_pos hb]
       · rw [if_neg hb,if_neg hb,Q15 (by omega)]) (by
       unfold Q2G
       rw [if_neg (by simp)]) f.args.length 0 N (by omega) (by omega),Q7,Q7,List.drop_zero,Q9M]
      rw [← all_any,Bool.not_not]
     ·have c6:(types[f.ty.toNat].fields == ((f.args.length:Nat):Int)) = false:=by simpa using c5
      rw [if_pos (by simp; exact fun h=>c5 h.symm),c6]; rfl
theorem facts_iter {N:Nat} {types:List Qk} {l:List QE} (hN : 9223372036854775808 ≤ N) (hl:l.length ≤ 1000000000) (hf : ∀ f ∈ l,f.args.length ≤ 4398046510976) :
   ∀ (m i fuel:Nat) (last:Int),i + m = l.length → m < fuel → Q1g (Q3U N l types) fuel (i,last) = some (if factsB types last (l.drop i) = true then .inl () else .inr false):=by
 intro m
 induction m with
 | zero =>
   intro i fuel last hi hfu
   obtain ⟨fuel,rfl⟩ : ∃ q,fuel = q + 1:=⟨fuel - 1,by omega⟩
   obtain rfl:i = l.length:=by omega
   rw [Q2k (o:=.inl ()) (by unfold Q3U; simp only; rw [if_neg (by simp)]),List.drop_length]; rfl
 | succ m ih =>
   intro i fuel last hi hfu
   obtain ⟨fuel,rfl⟩ : ∃ q,fuel = q + 1:=⟨fuel - 1,by omega⟩
   have h:i < l.length:=by omega
   rw [List.drop_eq_getElem_cons h,factsB]
   have hs:Q3U N l types (i,last) = if factP types last l[i] = true then some (.inl (i + 1,l[i].id)) else some (.inr (.inr false)):=by
    unfold Q3U
    simp only
    rw [if_pos (by simpa using h),List.getElem?_eq_getElem h,Q7,factC_is hN (hf _ (List.getElem_mem h)),Q7]
    cases factP types last l[i] with
    | true=>rw [if_neg (by simp),if_pos rfl,Q15 (by omega)]
    | false=>rw [if_pos (by rfl),if_neg (by simp)]
   by_cases hb:factP types last l[i] = true
   ·rw [if_pos hb] at hs
    rw [Q4s hs,ih (i + 1) fuel l[i].id (by omega) (by omega),hb,Bool.true_and]
   ·rw [if_neg hb] at hs
    rw [Q2k hs,if_neg (by simp [hb])]
theorem facts_is {N:Nat} {types:List Qk} {rules:List Qh} {l:List QE} (hN : 9223372036854775808 ≤ N) (hl:l.length ≤ 1000000000) (hf : ∀ f ∈ l,f.args.length ≤ 4398046510976):Q6X N types rules l = some (factsB types 0 l):=by
 unfold Q6X
 rw [facts_iter hN hl hf l.length 0 N 0 (by omega) (by omega),List.drop_zero]
 cases factsB types 0 l <;> rfl
theorem new_is (N:Nat) (a:Int) : ∃ hs vs,Q46 N a = some (hs,vs) ∧ InvE hs vs:=by
 unfold Q46
 by_cases c1:a < 0
 ·rw [if_pos (by simpa using c1),Q7,if_pos rfl]
  exact ⟨[],[],rfl,rfl,by simp,by simp⟩
 ·rw [if_neg (by simpa using c1),Q7]
  by_cases c2:a > 16
  ·rw [if_pos (by simpa using c2)]
   exact ⟨[],[],rfl,rfl,by simp,by simp⟩
  ·rw [if_neg (by simpa using c2),Q15 (by omega),Q15 (by omega),Q15 (by omega),Q15 (by omega)]
   refine ⟨_,_,rfl,by simp,by simp; omega,fun v hv=>?_⟩
   rw [(List.mem_replicate.1 hv).2]
   unfold okV Q28
   exact ⟨⟨by simp,by simp⟩,Nat.zero_le _⟩
end Go.Proofs.YtbgodclhmgmcgaaGreatDoor
