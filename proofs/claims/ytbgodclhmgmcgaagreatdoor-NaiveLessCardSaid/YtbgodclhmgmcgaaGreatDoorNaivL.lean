import Derived.Test.YtbgodclhmgmcgaaGreatDoorNaivQ
namespace Go.Proofs.YtbgodclhmgmcgaaGreatDoor
open Go Go.RowKit
theorem okV_of {v:V} (h:ok_V v):okV v:=⟨inK_i64 h.2.1,h.2.2⟩
def LightS (c:QL):Prop:=c.args.length ≤ 400 ∧ nodes c.test ≤ 400
def LightA (a:Q19):Prop:=Q4A a.exprs ≤ 400
theorem conds_light {N:Nat} (hN : 9223372036854775808 + 1000000 ≤ N) {r:Qi} (hr:Q6X r) {n0:Int} (h0 : 0 ≤ n0 ∧ n0 ≤ 100000000000000) :
  ∃ o,Q1h (Q2D N r) N (0,n0) = some o ∧ 0 ≤ o ∧ o ≤ 100000000000000 ∧ (o < 400 → n0 < 400 ∧ ∀ c ∈ r.conds,LightS c):=by
 have hlen:=hr.2.2.2.1.1
 refine Q5c (f:=Q2D N r) (fun s=>s.1 ≤ r.conds.length ∧ 0 ≤ s.2 ∧ s.2 ≤ 100000000000000 ∧ (s.2 < 400 → n0 < 400 ∧ ∀ c ∈ r.conds.take s.1,LightS c)) (fun s=>r.conds.length - s.1) _ (fun s hs=>?_) N (0,n0) ⟨Nat.zero_le _,h0.1,h0.2,fun h=>⟨h,by simp⟩⟩ (by simp only; omega)
 obtain ⟨i,n⟩:=s
 obtain ⟨g1,g2,g3,g4⟩:=hs
 simp only at g1 g2 g3 g4
 unfold Q2D
 simp only
 by_cases hi:i < r.conds.length
 ·rw [if_pos (by simpa using hi),Q7]
  by_cases hn:n < 400
  ·have hc:=hr.2.2.2.1.2 _ (List.getElem_mem hi)
   have hal:=hc.2.2.1.1
   obtain ⟨v,v1,v2,v3,v4⟩:=exprsof_is 401 N [r.conds[i].test] 400 (by intro y hy; rw [List.mem_singleton.1 hy]; exact hc.2.2.2) (by simp) (by omega) (by omega) (by omega) (by omega)
   rw [if_pos (by simpa using hn),List.getElem?_eq_getElem hi,Q7,QY (by omega),Q7,v1,Q7,QY (by omega),QY (by omega)]
   left
   refine ⟨_,rfl,⟨by simp only; omega,by simp only; omega,by simp only; omega,fun hlt=>?_⟩,by simp only; omega⟩
   simp only at hlt ⊢
   obtain ⟨k1,k2⟩:=g4 hn
   refine ⟨k1,fun c hcm=>?_⟩
   rw [List.take_add_one,List.getElem?_eq_getElem hi] at hcm
   rcases List.mem_append.1 hcm with hcm | hcm
   · exact k2 c hcm
   ·have hc1:c = r.conds[i]:=by simpa using hcm
    have hv:=v4 (by omega)
    simp only [Q4A,Nat.add_zero] at hv
    rw [hc1]
    exact ⟨by omega,by omega⟩
  ·rw [if_neg (by simpa using hn)]
   right
   exact ⟨n,rfl,g2,g3,fun h=>absurd h hn⟩
 ·rw [if_neg (by simpa using hi),Q7,if_neg (by simp)]
  right
  refine ⟨n,rfl,g2,g3,fun h=>?_⟩
  have:=g4 h
  rwa [List.take_of_length_le (by omega)] at this
theorem acts_light {N:Nat} (hN : 9223372036854775808 + 1000000 ≤ N) {r:Qi} (hr:Q6X r) {n0:Int} (h0 : 0 ≤ n0 ∧ n0 ≤ 100000000000000) :
  ∃ o,Q1h (Q2E N r) N (0,n0) = some o ∧ 0 ≤ o ∧ o ≤ 100000000000000 ∧ (o < 400 → n0 < 400 ∧ ∀ c ∈ r.acts,LightA c):=by
 have hlen:=hr.2.2.2.2.1
 refine Q5c (f:=Q2E N r) (fun s=>s.1 ≤ r.acts.length ∧ 0 ≤ s.2 ∧ s.2 ≤ 100000000000000 ∧ (s.2 < 400 → n0 < 400 ∧ ∀ c ∈ r.acts.take s.1,LightA c)) (fun s=>r.acts.length - s.1) _ (fun s hs=>?_) N (0,n0) ⟨Nat.zero_le _,h0.1,h0.2,fun h=>⟨h,by simp⟩⟩ (by simp only; omega)
 obtain ⟨i,n⟩:=s
 obtain ⟨g1,g2,g3,g4⟩:=hs
 simp only at g1 g2 g3 g4
 unfold Q2E
 simp only
 by_cases hi:i < r.acts.length
 ·rw [if_pos (by simpa using hi),Q7]
  by_cases hn:n < 400
  ·have hc:=hr.2.2.2.2.2 _ (List.getElem_mem hi)
   obtain ⟨v,v1,v2,v3,v4⟩:=exprsof_is 401 N r.acts[i].exprs 400 hc.2.2.2.2 hc.2.2.2.1 (by omega) (by omega) (by omega) (by omega)
   rw [if_pos (by simpa using hn),List.getElem?_eq_getElem hi,Q7,v1,Q7,QY (by omega),QY (by omega)]
   left
   refine ⟨_,rfl,⟨by simp only; omega,by simp only; omega,by simp only; omega,fun hlt=>?_⟩,by simp only; omega⟩
   simp only at hlt ⊢
   obtain ⟨k1,k2⟩:=g4 hn
   refine ⟨k1,fun c hcm=>?_⟩
   rw [List.take_add_one,List.getElem?_eq_getElem hi] at hcm
   rcases List.mem_append.1 hcm with hcm | hcm
   · exact k2 c hcm
   ·have hc1:c = r.acts[i]:=by simpa using hcm
    have hv:=v4 (by omega)
    rw [hc1]
    unfold LightA
    omega
  ·rw [if_neg (by simpa using hn)]
   right
   exact ⟨n,rfl,g2,g3,fun h=>absurd h hn⟩
 ·rw [if_neg (by simpa using hi),Q7,if_neg (by simp)]
  right
  refine ⟨n,rfl,g2,g3,fun h=>?_⟩
  have:=g4 h
  rwa [List.take_of_length_le (by omega)] at this
def LightQ (r:Qi):Prop:=(∀ c ∈ r.conds,LightS c) ∧ ∀ a ∈ r.acts,LightA a
theorem rules_light {N:Nat} (hN : 9223372036854775808 + 1000000 ≤ N) {rules:List Qi} (hr : ∀ r ∈ rules,Q6X r) (hl:rules.length ≤ 1759218604390) {n0:Int} (h0 : 0 ≤ n0 ∧ n0 ≤ 50000000000000) :
  ∃ o,Q1h (Q2C N rules) N (0,n0) = some o ∧ 0 ≤ o ∧ (o < 400 → ∀ r ∈ rules,LightQ r):=by
 refine Q5c (f:=Q2C N rules) (fun s=>s.1 ≤ rules.length ∧ 0 ≤ s.2 ∧ (s.2 < 400 → ∀ c ∈ rules.take s.1,LightQ c)) (fun s=>rules.length - s.1) _ (fun s hs=>?_) N (0,n0) ⟨Nat.zero_le _,h0.1,fun h=>by simp⟩ (by simp only; omega)
 obtain ⟨i,n⟩:=s
 obtain ⟨g1,g2,g4⟩:=hs
 simp only at g1 g2 g4
 unfold Q2C
 simp only
 by_cases hi:i < rules.length
 ·rw [if_pos (by simpa using hi),Q7]
  by_cases hn:n < 400
  ·have hc:=hr _ (List.getElem_mem hi)
   have c1:=hc.2.2.2.1.1
   have c2:=hc.2.2.2.2.1
   obtain ⟨v,v1,v2,v3,v4⟩:=conds_light hN hc (n0:=n + ((rules[i].conds.length:Nat):Int) + ((rules[i].acts.length:Nat):Int)) (by omega)
   obtain ⟨w,w1,w2,w3,w4⟩:=acts_light hN hc (n0:=v) ⟨v2,v3⟩
   unfold Q5Y
   rw [if_pos (by simpa using hn),List.getElem?_eq_getElem hi,Q7,QY (by omega),QY (by omega),v1,Q7,w1,Q7,QY (by omega)]
   left
   refine ⟨_,rfl,⟨by simp only; omega,by simp only; omega,fun hlt=>?_⟩,by simp only; omega⟩
   simp only at hlt ⊢
   intro c hcm
   rw [List.take_add_one,List.getElem?_eq_getElem hi] at hcm
   rcases List.mem_append.1 hcm with hcm | hcm
   · exact g4 hn c hcm
   ·have hc1:c = rules[i]:=by simpa using hcm
    rw [hc1]
    obtain ⟨x1,x2⟩:=w4 hlt
    exact ⟨(v4 x1).2,x2⟩
  ·rw [if_neg (by simpa using hn)]
   right
   exact ⟨n,rfl,g2,fun h=>absurd h hn⟩
 ·rw [if_neg (by simpa using hi),Q7,if_neg (by simp)]
  right
  refine ⟨n,rfl,g2,fun h=>?_⟩
  have:=g4 h
  rwa [List.take_of_length_le (by omega)] at this
theorem texts_light {N:Nat} (hN : 9223372036854775808 + 1000000 ≤ N) {l:List Qz} {i:Nat} (hi:i < l.length) (ha:l[i].args.length ≤ 20) :
  ∃ o,Q1h (Q2G N l i) N 0 = some o ∧ (o = .inl () ∨ o = .inr (.inr (.inr false))):=by
 refine Q5c (f:=Q2G N l i) (fun k=>k ≤ l[i].args.length) (fun k=>l[i].args.length - k) _ (fun k hk=>?_) N 0 (Nat.zero_le _) (by omega)
 unfold Q2G
 rw [List.getElem?_eq_getElem hi,Q7]
 by_cases h:k < l[i].args.length
 ·rw [if_pos (by simpa using h),Q7,List.getElem?_eq_getElem h,Q7]
  by_cases h2 : 100 < l[i].args[k].s.size
  ·rw [if_pos (by simpa using h2)]
   exact .inr ⟨_,rfl,.inr rfl⟩
  ·rw [if_neg (by simpa using h2),QY (by omega)]
   exact .inl ⟨_,rfl,by omega,by omega⟩
 ·rw [if_neg (by simpa using h)]
  exact .inr ⟨_,rfl,.inl rfl⟩
theorem facts_light {N:Nat} (hN : 9223372036854775808 + 1000000 ≤ N) {l:List Qz} (hl:l.length ≤ 140737488351232) :
  ∃ o,Q1h (Q2F N l) N 0 = some o ∧ (o = .inl () ∨ o = .inr false):=by
 refine Q5c (f:=Q2F N l) (fun k=>k ≤ l.length) (fun k=>l.length - k) _ (fun i hk=>?_) N 0 (Nat.zero_le _) (by omega)
 unfold Q2F
 by_cases h:i < l.length
 ·rw [if_pos (by simpa using h),List.getElem?_eq_getElem h,Q7]
  by_cases h2 : 20 < l[i].args.length
  ·rw [if_pos (by simpa using h2),Q4B]
   exact .inr ⟨_,rfl,.inr rfl⟩
  ·rw [if_neg (by simpa using h2)]
   obtain ⟨o,o1,o2⟩:=texts_light hN h (by omega)
   rw [o1]
   rcases o2 with rfl | rfl
   ·rw [Q1W,QY (by omega)]
    exact .inl ⟨_,rfl,by omega,by omega⟩
   ·rw [Q4B]
    exact .inr ⟨_,rfl,.inr rfl⟩
 ·rw [if_neg (by simpa using h)]
  exact .inr ⟨_,rfl,.inl rfl⟩
theorem light_is {N:Nat} (hN : 9223372036854775808 + 1000000 ≤ N) {R:Q84} (hR:QaN R) {l:List Qz} (hl:l.length ≤ 140737488351232) :
  ∃ b,Q42 N R.types R.rules l = some b ∧ (b = true → (∀ r ∈ R.rules,LightQ r) ∧ l.length ≤ 40):=by
 unfold Q42
 have t1:=hR.1.1
 have t2:=hR.2.1
 obtain ⟨o,o1,o2,o3⟩:=rules_light hN hR.2.2 t2 (n0:=((R.types.length + R.rules.length:Nat):Int)) (by omega)
 obtain ⟨p,p1,p2⟩:=facts_light hN hl
 rw [QY (by omega),o1,Q7,p1]
 rcases p2 with rfl | rfl
 ·rw [Q1W]
  by_cases h:o < 400
  ·rw [if_pos (by simpa using h)]
   exact ⟨_,rfl,fun hb=>⟨o3 h,by simpa using hb⟩⟩
  ·rw [if_neg (by simpa using h)]
   exact ⟨_,rfl,fun hb=>by cases hb⟩
 ·rw [Q4B]
  exact ⟨_,rfl,fun hb=>by cases hb⟩
theorem lightR_of {r:Qi} (h:LightQ r):LightR r:=⟨fun c hc=>⟨by have:=(h.1 c hc).1; omega,by have:=(h.1 c hc).2; omega⟩,fun a ha=>by have:=h.2 a ha; unfold LightA at this; omega⟩
theorem lightC_of {r:Qi} (h:LightQ r) (hr:Q6X r) {l:List Qz} (hl:l.length ≤ 40) (hf : ∀ f ∈ l,ok_FactD f):LightC r.conds l:={
 args:=fun c hc=>by have:=(h.1 c hc).1; omega
 test:=fun c hc=>⟨by have:=(h.1 c hc).2; omega,(hr.2.2.2.1.2 c hc).2.2.2⟩
 few:=by omega
 vals:=fun f hfm x hx=>okV_of ((hf f hfm).2.2.2 x hx) }
end Go.Proofs.YtbgodclhmgmcgaaGreatDoor
