import Derived.Test.YtbgodclhmgmcgaaGreatDoorNaivQ
import Derived.KernelRfl
namespace Go.Proofs.YtbgodclhmgmcgaaGreatDoor
open Go Go.RowKit
theorem okV_of {v:V} (h:ok_V v):okV v:=⟨inK_i64 h.2.1,h.2.2⟩
def LightS (c:Qn):Prop:=c.args.length≤400∧Q8a c.test≤400
def LightA (a:QO):Prop:=Q2r a.exprs≤400
theorem conds_light {N:Nat} (hN : 9223372036854775808+1000000≤N) {r:Qf} (hr:Q7z r) {n0:Int} (h0 : 0≤n0∧n0≤100000000000000) :
  ∃ o,Q1e (Q2O N r) N (0,n0)=some o∧0≤o∧o≤100000000000000∧(o < 400→n0 < 400∧∀ c∈r.conds,LightS c):=by
 have hlen:=hr.2.2.2.1.1
 refine Q7Q (f:=Q2O N r) (fun s=>s.1≤r.conds.length∧0≤s.2∧s.2≤100000000000000∧(s.2 < 400→n0 < 400∧∀ c∈r.conds.take s.1,LightS c)) (fun s=>r.conds.length - s.1) _ (fun s hs=>?_) N (0,n0) ⟨Nat.zero_le _,h0.1,h0.2,fun h=>⟨h,by simp⟩⟩ (by simp only;omega)
 obtain ⟨i,n⟩:=s
 obtain ⟨g1,g2,g3,g4⟩:=hs
 simp only at g1 g2 g3 g4
 unfold Q2O
 simp only
 by_cases hi:i < r.conds.length
 ·rw [if_pos (by simpa using hi),Q0]
  by_cases hn:n < 400
  ·have hc:=hr.2.2.2.1.2 _ (List.getElem_mem hi)
   have hal:=hc.2.2.1.1
   obtain ⟨v,v1,v2,v3,v4⟩:=exprsof_is 401 N [r.conds[i].test] 400 (by intro y hy;rw [List.mem_singleton.1 hy];exact hc.2.2.2) (by simp) (by omega) (by omega) (by omega) (by omega)
   rw [if_pos (by simpa using hn),List.getElem?_eq_getElem hi,Q0,Qr (by omega),Q0,v1,Q0,Qr (by omega),Qr (by omega)]
   left
   refine ⟨_,rfl,⟨by simp only;omega,by simp only;omega,by simp only;omega,fun hlt=>?_⟩,by simp only;omega⟩
   simp only at hlt ⊢
   obtain ⟨k1,k2⟩:=g4 hn
   refine ⟨k1,fun c hcm=>?_⟩
   rw [List.take_add_one,List.getElem?_eq_getElem hi] at hcm
   rcases List.mem_append.1 hcm with hcm | hcm
   · exact k2 c hcm
   ·have hc1:c=r.conds[i]:=by simpa using hcm
    have hv:=v4 (by omega)
    simp only [Q2r,Nat.add_zero] at hv
    rw [hc1]
    exact ⟨by omega,by omega⟩
  ·rw [if_neg (by simpa using hn)]
   right
   exact ⟨n,rfl,g2,g3,fun h=>absurd h hn⟩
 ·rw [if_neg (by simpa using hi),Q0,if_neg (by simp)]
  right
  refine ⟨n,rfl,g2,g3,fun h=>?_⟩
  have:=g4 h
  rwa [List.take_of_length_le (by omega)] at this
theorem acts_light {N:Nat} (hN : 9223372036854775808+1000000≤N) {r:Qf} (hr:Q7z r) {n0:Int} (h0 : 0≤n0∧n0≤100000000000000) :
  ∃ o,Q1e (Q2P N r) N (0,n0)=some o∧0≤o∧o≤100000000000000∧(o < 400→n0 < 400∧∀ c∈r.acts,LightA c):=by
 have hlen:=hr.2.2.2.2.1
 refine Q7Q (f:=Q2P N r) (fun s=>s.1≤r.acts.length∧0≤s.2∧s.2≤100000000000000∧(s.2 < 400→n0 < 400∧∀ c∈r.acts.take s.1,LightA c)) (fun s=>r.acts.length - s.1) _ (fun s hs=>?_) N (0,n0) ⟨Nat.zero_le _,h0.1,h0.2,fun h=>⟨h,by simp⟩⟩ (by simp only;omega)
 obtain ⟨i,n⟩:=s
 obtain ⟨g1,g2,g3,g4⟩:=hs
 simp only at g1 g2 g3 g4
 unfold Q2P
 simp only
 by_cases hi:i < r.acts.length
 ·rw [if_pos (by simpa using hi),Q0]
  by_cases hn:n < 400
  ·have hc:=hr.2.2.2.2.2 _ (List.getElem_mem hi)
   obtain ⟨v,v1,v2,v3,v4⟩:=exprsof_is 401 N r.acts[i].exprs 400 hc.2.2.2.2 hc.2.2.2.1 (by omega) (by omega) (by omega) (by omega)
   rw [if_pos (by simpa using hn),List.getElem?_eq_getElem hi,Q0,v1,Q0,Qr (by omega),Qr (by omega)]
   left
   refine ⟨_,rfl,⟨by simp only;omega,by simp only;omega,by simp only;omega,fun hlt=>?_⟩,by simp only;omega⟩
   simp only at hlt ⊢
   obtain ⟨k1,k2⟩:=g4 hn
   refine ⟨k1,fun c hcm=>?_⟩
   rw [List.take_add_one,List.getElem?_eq_getElem hi] at hcm
   rcases List.mem_append.1 hcm with hcm | hcm
   · exact k2 c hcm
   ·have hc1:c=r.acts[i]:=by simpa using hcm
    have hv:=v4 (by omega)
    rw [hc1]
    unfold LightA
    omega
  ·rw [if_neg (by simpa using hn)]
   right
   exact ⟨n,rfl,g2,g3,fun h=>absurd h hn⟩
 ·rw [if_neg (by simpa using hi),Q0,if_neg (by simp)]
  right
  refine ⟨n,rfl,g2,g3,fun h=>?_⟩
  have:=g4 h
  rwa [List.take_of_length_le (by omega)] at this
def LightQ (r:Qf):Prop:=(∀ c∈r.conds,LightS c)∧∀ a∈r.acts,LightA a
theorem rules_light {N:Nat} (hN : 9223372036854775808+1000000≤N) {rules:List Qf} (hr : ∀ r∈rules,Q7z r)(hl:rules.length≤1759218604390) {n0:Int} (h0 : 0≤n0∧n0≤50000000000000) :
  ∃ o,Q1e (Q2N N rules) N (0,n0)=some o∧0≤o∧(o < 400→∀ r∈rules,LightQ r):=by
 refine Q7Q (f:=Q2N N rules) (fun s=>s.1≤rules.length∧0≤s.2∧(s.2 < 400→∀ c∈rules.take s.1,LightQ c)) (fun s=>rules.length - s.1) _ (fun s hs=>?_) N (0,n0) ⟨Nat.zero_le _,h0.1,fun h=>by simp⟩ (by simp only;omega)
 obtain ⟨i,n⟩:=s
 obtain ⟨g1,g2,g4⟩:=hs
 simp only at g1 g2 g4
 unfold Q2N
 simp only
 by_cases hi:i < rules.length
 ·rw [if_pos (by simpa using hi),Q0]
  by_cases hn:n < 400
  ·have hc:=hr _ (List.getElem_mem hi)
   have c1:=hc.2.2.2.1.1
   have c2:=hc.2.2.2.2.1
   obtain ⟨v,v1,v2,v3,v4⟩:=conds_light hN hc (n0:=n+((rules[i].conds.length:Nat):Int)+((rules[i].acts.length:Nat):Int)) (by omega)
   obtain ⟨w,w1,w2,w3,w4⟩:=acts_light hN hc (n0:=v) ⟨v2,v3⟩
   unfold Q7B
   rw [if_pos (by simpa using hn),List.getElem?_eq_getElem hi,Q0,Qr (by omega),Qr (by omega),v1,Q0,w1,Q0,Qr (by omega)]
   left
   refine ⟨_,rfl,⟨by simp only;omega,by simp only;omega,fun hlt=>?_⟩,by simp only;omega⟩
   simp only at hlt ⊢
   intro c hcm
   rw [List.take_add_one,List.getElem?_eq_getElem hi] at hcm
   rcases List.mem_append.1 hcm with hcm | hcm
   · exact g4 hn c hcm
   ·have hc1:c=rules[i]:=by simpa using hcm
    rw [hc1]
    obtain ⟨x1,x2⟩:=w4 hlt
    exact ⟨(v4 x1).2,x2⟩
  ·rw [if_neg (by simpa using hn)]
   right
   exact ⟨n,rfl,g2,fun h=>absurd h hn⟩
 ·rw [if_neg (by simpa using hi),Q0,if_neg (by simp)]
  right
  refine ⟨n,rfl,g2,fun h=>?_⟩
  have:=g4 h
  rwa [List.take_of_length_le (by omega)] at this
theorem texts_light {N:Nat} (hN : 9223372036854775808+1000000≤N) {l:List QP} {i:Nat} (hi:i < l.length)(ha:l[i].args.length≤20) :
  ∃ o,Q1e (Q2R N l i) N 0=some o∧(o=.inl ()∨o=.inr (.inr (.inr false))):=by
 refine Q7Q (f:=Q2R N l i) (fun k=>k≤l[i].args.length) (fun k=>l[i].args.length - k) _ (fun k hk=>?_) N 0 (Nat.zero_le _) (by omega)
 unfold Q2R
 rw [List.getElem?_eq_getElem hi,Q0]
 by_cases h:k < l[i].args.length
 ·rw [if_pos (by simpa using h),Q0,List.getElem?_eq_getElem h,Q0]
  by_cases h2 : 100 < l[i].args[k].s.size
  ·rw [if_pos (by simpa using h2)]
   exact .inr ⟨_,rfl,.inr rfl⟩
  ·rw [if_neg (by simpa using h2),Qr (by omega)]
   exact .inl ⟨_,rfl,by omega,by omega⟩
 ·rw [if_neg (by simpa using h)]
  exact .inr ⟨_,rfl,.inl rfl⟩
theorem facts_light {N:Nat} (hN : 9223372036854775808+1000000≤N) {l:List QP} (hl:l.length≤140737488351232) :
  ∃ o,Q1e (Q2Q N l) N 0=some o∧(o=.inl ()∨o=.inr false):=by
 refine Q7Q (f:=Q2Q N l) (fun k=>k≤l.length) (fun k=>l.length - k) _ (fun i hk=>?_) N 0 (Nat.zero_le _) (by omega)
 unfold Q2Q
 by_cases h:i < l.length
 ·rw [if_pos (by simpa using h),List.getElem?_eq_getElem h,Q0]
  by_cases h2 : 20 < l[i].args.length
  ·rw [if_pos (by simpa using h2),Q1K]
   exact .inr ⟨_,rfl,.inr rfl⟩
  ·rw [if_neg (by simpa using h2)]
   obtain ⟨o,o1,o2⟩:=texts_light hN h (by omega)
   rw [o1]
   rcases o2 with rfl | rfl
   ·rw [Q1b,Qr (by omega)]
    exact .inl ⟨_,rfl,by omega,by omega⟩
   ·rw [Q1K]
    exact .inr ⟨_,rfl,.inr rfl⟩
 ·rw [if_neg (by simpa using h)]
  exact .inr ⟨_,rfl,.inl rfl⟩
theorem light_is {N:Nat} (hN : 9223372036854775808+1000000≤N) {R:Q9u} (hR:QcH R) {l:List QP} (hl:l.length≤140737488351232) :
  ∃ b,Q5u N R.types R.rules l=some b∧(b=true→(∀ r∈R.rules,LightQ r)∧l.length≤40):=by
 unfold Q5u
 have t1:=hR.1.1
 have t2:=hR.2.1
 obtain ⟨o,o1,o2,o3⟩:=rules_light hN hR.2.2 t2 (n0:=((R.types.length+R.rules.length:Nat):Int)) (by omega)
 obtain ⟨p,p1,p2⟩:=facts_light hN hl
 rw [Qr (by omega),o1,Q0,p1]
 rcases p2 with rfl | rfl
 ·rw [Q1b]
  by_cases h:o < 400
  ·rw [if_pos (by simpa using h)]
   exact ⟨_,rfl,fun hb=>⟨o3 h,by simpa using hb⟩⟩
  ·rw [if_neg (by simpa using h)]
   exact ⟨_,rfl,fun hb=>by cases hb⟩
 ·rw [Q1K]
  exact ⟨_,rfl,fun hb=>by cases hb⟩
theorem lightR_of {r:Qf} (h:LightQ r):LightR r:=⟨fun c hc=>⟨by have:=(h.1 c hc).1;omega,by have:=(h.1 c hc).2;omega⟩,fun a ha=>by have:=h.2 a ha;unfold LightA at this;omega⟩
theorem lightC_of {r:Qf} (h:LightQ r)(hr:Q7z r) {l:List QP} (hl:l.length≤40)(hf : ∀ f∈l,Qe1 f):LightC r.conds l:={
 args:=fun c hc=>by have:=(h.1 c hc).1;omega
 test:=fun c hc=>⟨by have:=(h.1 c hc).2;omega,(hr.2.2.2.1.2 c hc).2.2.2⟩
 few:=by omega
 vals:=fun f hfm x hx=>okV_of ((hf f hfm).2.2.2 x hx) }
end Go.Proofs.YtbgodclhmgmcgaaGreatDoor
namespace Go.Proofs.YtbgodclhmgmcgaaGreatDoor
open Go Go.RowKit
abbrev NF:Nat:=9223372036860000000
def newE (a:Int):List Bool×List V:=if 0≤a∧a≤16 then (List.replicate a.toNat false,List.replicate a.toNat ⟨0,0,⟨#[]⟩⟩) else ([],[])
theorem newE_is (N:Nat)(a:Int):Q6W N a=some (newE a)∧InvE (newE a).1 (newE a).2:=by
 have h1:Q6W N a=some (newE a):=by
  unfold Q6W newE
  by_cases c1:a < 0
  · rw [if_pos (by simpa using c1),Q0,if_pos rfl,if_neg (by omega)]
  ·rw [if_neg (by simpa using c1),Q0]
   by_cases c2:a > 16
   · rw [if_pos (by simpa using c2),if_neg (by omega)]
   · rw [if_neg (by simpa using c2),Qr (by omega),Qr (by omega),Qr (by omega),Qr (by omega),if_pos (by omega)]
 refine ⟨h1,?_⟩
 obtain ⟨hs,vs,h2,h3⟩:=new_is N a
 rw [h1] at h2
 rw [Option.some.inj h2]
 exact h3
noncomputable section
def costR (facts:List QP)(r:Qf):Nat:=Q4r (tells facts) facts r.conds (newE r.vars).1 (newE r.vars).2
def goR (facts:List QP)(r:Qf):List (List Int×List V):=goN (tells facts) facts r.conds (newE r.vars).1 (newE r.vars).2 []
def Qa8 (facts:List QP):List Qf→Nat→List Ql
 | [],_=>[]
 | r :: l,i=>(goR facts r).map (tokOf ((i:Nat):Int))++Qa8 facts l (i+1)
def sumR (facts:List QP):List Qf→Nat
 | []=>0
 | r :: l=>costR facts r+sumR facts l
end
theorem goR_len (facts:List QP)(r:Qf):(goR facts r).length≤costR facts r+1:=go_len _ _ _ _
theorem flatR_len (facts:List QP) : ∀ (l:List Qf)(i:Nat),(Qa8 facts l i).length≤sumR facts l+l.length
 | [],_=>by simp [Qa8]
 | r :: l,i=>by
   have:=flatR_len facts l (i+1)
   have:=goR_len facts r
   simp only [Qa8,sumR,List.length_append,List.length_map,List.length_cons]
   omega
noncomputable def rightT (types:List Q8)(rules:List Qf)(facts:List QP):Bool:=Q79 types rules && Q9v types 0 facts
theorem goN_ids {S:Tells} {facts:List QP} : ∀ {cs:List Qn} {hs:List Bool} {vs:List V} {ids:List Int} {x:List Int×List V},x∈goN S facts cs hs vs ids→x.1.length≤ids.length+cs.length∧(∀ i∈ids,i∈x.1)∧∀ i∈x.1,i∈ids∨∃ f∈facts,f.id=i
 | [],hs,vs,ids,x,h=>by
   rw [goN,List.mem_singleton] at h
   subst h
   exact ⟨by simp,fun _ h=>h,fun _ h=>.inl h⟩
 | c :: cs,hs,vs,ids,x,h=>by
   by_cases h3:c.kind=3
   ·rw [go3 h3] at h
    split at h
    ·obtain ⟨a,b⟩:=goN_ids h
     exact ⟨by simp;omega,b⟩
    · cases h
   ·by_cases h2:c.kind=2
    ·rw [go2 h3 h2] at h
     split at h
     · cases h
     ·obtain ⟨a,b⟩:=goN_ids h
      exact ⟨by simp;omega,b⟩
    ·rw [go1 h3 h2] at h
     obtain ⟨f,hf,hx⟩:=List.mem_flatMap.1 h
     unfold resF at hx
     split at hx
     ·obtain ⟨a,b,d⟩:=goN_ids hx
      refine ⟨by simp at a ⊢;omega,fun i hi=>b i (List.mem_append_left _ hi),fun i hi=>?_⟩
      rcases d i hi with hi | hi
      ·rcases List.mem_append.1 hi with hi | hi
       · exact .inl hi
       · exact .inr ⟨f,hf,(List.mem_singleton.1 hi).symm⟩
      · exact .inr hi
     · cases hx
theorem flatR_mem {facts:List QP} : ∀ {l:List Qf} {i:Nat} {t:Ql},t∈Qa8 facts l i ↔ ∃ k r,l[k]? =some r∧t.rule=((i+k:Nat):Int)∧∃ x∈goR facts r,t.ids=x.1
 | [],i,t=>by simp [Qa8]
 | r :: l,i,t=>by
   rw [Qa8,List.mem_append,flatR_mem (l:=l)]
   constructor
   ·rintro (h | ⟨k,q,h1,h2,h3⟩)
    · obtain ⟨x,hx,rfl⟩:=List.mem_map.1 h
      exact ⟨0,r,rfl,rfl,x,hx,rfl⟩
    · exact ⟨k+1,q,by simpa using h1,by rw [h2];omega,h3⟩
   ·rintro ⟨k,q,h1,h2,x,hx,h3⟩
    cases k with
    | zero =>
      left
      simp only [List.getElem?_cons_zero,Option.some.injEq] at h1
      subst h1
      refine List.mem_map.2 ⟨x,hx,?_⟩
      cases t
      simp only at h2 h3
      unfold tokOf
      rw [h2,h3];rfl
    | succ k =>
      right
      exact ⟨k,q,by simpa using h1,by rw [h2];omega,x,hx,h3⟩
theorem flatR_ids {facts:List QP} {l:List Qf} (hl : ∀ r∈l,r.conds.length≤8) {i:Nat} {t:Ql} (h:t∈Qa8 facts l i):t.ids.length≤8:=by
 obtain ⟨k,r,h1,_,x,hx,h2⟩:=flatR_mem.1 h
 have:=(goN_ids hx).1
 have:=hl r (List.mem_of_getElem? h1)
 rw [h2]
 simp at *
 omega
end Go.Proofs.YtbgodclhmgmcgaaGreatDoor
