import Derived.Test.YtbgodclhmgmcgaaGreatDoorNaivX
namespace Go.Proofs.YtbgodclhmgmcgaaGreatDoor
open Go Go.RowKit
theorem newE_env {a:Int} (h0 : 0 ≤ a) (h16:a ≤ 16):newE a = (Q5V a.toNat 0,Q4w a.toNat []):=by
 unfold newE Q5V Q4w
 rw [if_pos ⟨h0,h16⟩]
 simp [Q5I]
theorem rule_doc {types:List Qg} {facts:List QP} (hF:Q9B types facts) {r:Qj} (hr:Q6R types r = true) (hcs : ∀ c ∈ r.conds,Q7g c.test ≤ 1000) :
  goR facts r = (docGo facts r.conds ⟨[],[]⟩).map (fun x=>(x.ids,Q4w r.vars.toNat x.vars)) ∧ costR facts r = Q5s facts r.conds ⟨[],[]⟩:=by
 unfold Q6R at hr
 simp only [Bool.and_eq_true,decide_eq_true_eq] at hr
 obtain ⟨_,hb,⟨hv,h16⟩,_⟩:=hr
 have hp:=Q6b types r.conds 0 0
 unfold goR costR
 rw [newE_env (by omega) (by omega)]
 exact go_doc hF.typed (w:=⟨[],[]⟩) (k:=0) hcs hb (by show (Q2X types r.conds 0 0).2.1 ≤ _; omega)
theorem push_iter {N:Nat} {L:List Qc} {i all n:Nat} (hL:L.length ≤ 1000000) : ∀ (m k fuel:Nat) (out:List QU),k + m = L.length → m < fuel → out.length ≤ 1000000 + k →
   Q19 (Q2g N L i all n) fuel (k,out) = some (.inl (all + n,out ++ (L.drop k).map fun w=>⟨((i:Nat):Int),w.ids⟩)):=by
 intro m
 induction m with
 | zero =>
   intro k fuel out hk hf _
   obtain ⟨fuel,rfl⟩ : ∃ q,fuel = q + 1:=⟨fuel - 1,by omega⟩
   obtain rfl:k = L.length:=by omega
   rw [Q1a (o:=.inl (all + n,out)) (by unfold Q2g; simp only; rw [if_neg (by simp)]),List.drop_length]
   simp
 | succ m ih =>
   intro k fuel out hk hf ho
   obtain ⟨fuel,rfl⟩ : ∃ q,fuel = q + 1:=⟨fuel - 1,by omega⟩
   have h:k < L.length:=by omega
   rw [Q2f (s':=(k + 1,out ++ [⟨((i:Nat):Int),L[k].ids⟩])) (by
    unfold Q2g
    simp only
    rw [if_pos (by simpa using h),List.getElem?_eq_getElem h,Q6,QC (by simp; omega),QC (by omega)]),ih (k + 1) fuel _ (by omega) (by omega) (by simp; omega),List.drop_eq_getElem_cons h,List.map_cons,List.append_assoc]
   rfl
theorem rtokens_iter {N:Nat} (hN : 9223372036855775808 ≤ N) {types:List Qg} {facts:List QP} (hF:Q9B types facts) {rules:List Qj} (hrl:rules.length ≤ 64) (hr : ∀ r ∈ rules,Q6R types r = true) (hcs : ∀ r ∈ rules,∀ c ∈ r.conds,CondL c) :
   ∀ (m i fuel all:Nat) (out:List QU),i + m = rules.length → m < fuel → all ≤ 4096 → out.length ≤ all + i →
     Q19 (Q1z N rules facts) fuel (i,all,out) = some (if all + sumR facts (rules.drop i) ≤ 4096 then .inl (out ++ flatR facts (rules.drop i) i) else .inr ([],204)):=by
 intro m
 induction m with
 | zero =>
   intro i fuel all out hi hf hall _
   obtain ⟨fuel,rfl⟩ : ∃ q,fuel = q + 1:=⟨fuel - 1,by omega⟩
   obtain rfl:i = rules.length:=by omega
   rw [Q1a (o:=.inl out) (by unfold Q1z; simp only; rw [if_neg (by simp)]),List.drop_length]
   simp [sumR,flatR,hall]
 | succ m ih =>
   intro i fuel all out hi hf hall ho
   obtain ⟨fuel,rfl⟩ : ∃ q,fuel = q + 1:=⟨fuel - 1,by omega⟩
   have h:i < rules.length:=by omega
   have hmem:=List.getElem_mem h
   obtain ⟨L,n,l1,l2,l3⟩:=ways_is hN hF (hr _ hmem) (hcs _ hmem)
   obtain ⟨d1,d2⟩:=rule_doc hF (hr _ hmem) (fun c hc=>(hcs _ hmem c hc).test.1)
   rw [List.drop_eq_getElem_cons h,sumR,flatR,d1,d2]
   by_cases hmany : 4096 < all + n
   · rw [Q1a (o:=.inr ([],204)) (by
      unfold Q1z Q3K
      simp only
      rw [if_pos (by simpa using h),List.getElem?_eq_getElem h,Q6,l1,Q6]
      simp only
      rw [QC (by omega),if_pos (by simpa using hmany),Q1t]),if_neg (by rcases l3 with l3 | l3 <;> omega)]
   · obtain ⟨l3,l4⟩ : L = docGo facts rules[i].conds ⟨[],[]⟩ ∧ n = Q5s facts rules[i].conds ⟨[],[]⟩:=by
      rcases l3 with l3 | l3
      · exact l3
      · omega
     have hg:=goR_len facts rules[i]
     rw [d1,d2,List.length_map,← l3,← l4] at hg
     have hp:=push_iter (N:=N) (L:=L) (i:=i) (all:=all) (n:=n) (by omega) L.length 0 N out (by omega) (by omega) (by omega)
     rw [List.drop_zero] at hp
     have hst:Q1z N rules facts (i,all,out) = some (.inl (i + 1,all + n,out ++ L.map fun w=>⟨((i:Nat):Int),w.ids⟩)):=by
      unfold Q1z Q3K
      simp only
      rw [if_pos (by simpa using h),List.getElem?_eq_getElem h,Q6,l1,Q6]
      simp only
      rw [QC (by omega),if_neg (by simpa using hmany),hp,Q18,QC (by omega)]
     rw [Q2f hst,ih (i + 1) fuel (all + n) _ (by omega) (by omega) (by omega) (by simp; omega),← l3,← l4]
     have e1:(L.map fun x=>(x.ids,Q4w rules[i].vars.toNat x.vars)).map (tokOf ((i:Nat):Int)) = L.map fun w=>⟨((i:Nat):Int),w.ids⟩:=by rw [List.map_map]; rfl
     rw [e1]
     by_cases h4:all + n + sumR facts (rules.drop (i + 1)) ≤ 4096
     · rw [if_pos h4,if_pos (by omega),List.append_assoc]
     · rw [if_neg h4,if_neg (by omega)]
theorem right_whole {types:List Qg} {rules:List Qj} (h:Q4T types rules = true) : ∀ r ∈ rules,Q6R types r = true:=by
 intro r hr
 unfold Q4T at h
 simp only [Bool.and_eq_true,decide_eq_true_eq] at h
 obtain ⟨i,hi,rfl⟩:=List.getElem_of_mem hr
 have h5:=List.all_eq_true.1 h.2.2 i (by simp [List.mem_range'_1]; exact hi)
 unfold ruleP at h5
 rw [List.getElem?_eq_getElem hi] at h5
 simp only [Bool.and_eq_true] at h5
 exact h5.2
theorem facts_typed {types:List Qg} : ∀ {l:List QP} {last:Int},Q6c types last l = true → ∀ f ∈ l,Q2Z types f.ty ((f.args.length:Nat):Int) = true
 | [],_,_,f,hf=>by cases hf
 | g :: l,last,h,f,hf=>by
   rw [Q6c] at h
   simp only [Bool.and_eq_true] at h
   rcases List.mem_cons.1 hf with rfl | hf
   ·have:=h.1
    unfold factP at this
    simp only [Bool.and_eq_true] at this
    exact this.2.1
   · exact facts_typed h.2 f hf
structure Q9C (types:List Qg) (rules:List Qj) (facts:List QP):Prop where
 tname : ∀ t ∈ types,t.name.size ≤ 9223372036854775807
 rules : ∀ r ∈ rules,ShortR r ∧ ∀ c ∈ r.conds,CondL c
 few:facts.length ≤ 1000
 args : ∀ f ∈ facts,f.args.length ≤ 4398046510976 ∧ ∀ v ∈ f.args,okV v
theorem shortV_okV {v:V} (h:okV v):Q9c v:=by have:=h.2; unfold Q9c; omega
theorem Q9C.facts {types:List Qg} {rules:List Qj} {facts:List QP} (h:Q9C types rules facts) (hf:Q6c types 0 facts = true):Q9B types facts:=⟨h.few,facts_typed hf,fun f hfm=>(h.args f hfm).2⟩
theorem rtokens_is {N:Nat} (hN : 9223372036854775808 + 2000000 ≤ N) {types:List Qg} {rules:List Qj} {facts:List QP} (hI:Q9C types rules facts) :
   Q3y N types rules facts = some (if Q9L types rules facts = true then (if sumR facts rules ≤ 4096 then (flatR facts rules 0,0) else ([],204)) else ([],2)):=by
 unfold Q3y Q9L
 rw [rright_rules (by omega) hI.tname (fun r hr=>(hI.rules r hr).1),Q6]
 have hfw:=hI.few
 cases hR:Q4T types rules with
 | false=>rfl
 | true =>
   rw [if_neg (by simp),rfacts_is (by omega) (by omega) (fun f hf=>⟨(hI.args f hf).1,fun v hv=>shortV_okV ((hI.args f hf).2 v hv)⟩),Q6,Q6,Bool.true_and]
   cases hF:Q6c types 0 facts with
   | false=>rfl
   | true =>
     obtain ⟨h64,_⟩:=right_conds hR
     rw [if_neg (by simp),if_pos rfl,rtokens_iter (by omega) (hI.facts hF) h64 (right_whole hR) (fun r hr=>(hI.rules r hr).2) rules.length 0 N 0 [] (by omega) (by omega) (by omega) (by simp),List.drop_zero,List.nil_append,Nat.zero_add]
     by_cases h4:sumR facts rules ≤ 4096
     · rw [if_pos h4,if_pos h4,Q18]
     · rw [if_neg h4,if_neg h4,Q1t]
theorem lightIn_of {types:List Qg} {rules:List Qj} {facts:List QP} (ht : ∀ t ∈ types,Q8c t) (hr : ∀ r ∈ rules,Q5P r) (hf : ∀ f ∈ facts,ok_FactD f) (hq : ∀ r ∈ rules,LightQ r) (h40:facts.length ≤ 40):Q9C types rules facts:={
 tname:=fun t h=>by have:=(ht t h).1; omega
 rules:=fun r h=>by
  have hk:=hr r h
  obtain ⟨q1,q2⟩:=hq r h
  exact ⟨⟨by have:=hk.1; omega,fun c hc=>⟨⟨by have:=(q1 c hc).1; omega,fun a ha=>shortV_of (((hk.2.2.2.1.2 c hc).2.2.1.2 a ha).2.2)⟩,by have:=(q1 c hc).2; omega,(hk.2.2.2.1.2 c hc).2.2.2⟩,fun a ha=>⟨by have:=q2 a ha; unfold LightA at this; omega,(hk.2.2.2.2.2 a ha).2.2.2.2⟩⟩,fun c hc=>⟨by have:=(q1 c hc).1; omega,by have:=(q1 c hc).2; omega,(hk.2.2.2.1.2 c hc).2.2.2⟩⟩
 few:=by omega
 args:=fun f h=>⟨(hf f h).2.2.1,fun v hv=>okV_of ((hf f h).2.2.2 v hv)⟩ }
end Go.Proofs.YtbgodclhmgmcgaaGreatDoor
