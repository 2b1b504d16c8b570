import Derived.Test.YtbgodclhmgmcgaaGreatDoorNaivY
namespace Go.Proofs.YtbgodclhmgmcgaaGreatDoor
open Go Go.RowKit
theorem mid_is {a b:Int} (h0 : 0 ≤ a + b) (h1:a + b ≤ 9223372036854775807):IntKind.wrap .i64 (Int.fdiv (IntKind.wrap .u64 (a + b)) (2 ^ (1))) = (a + b) / 2:=by
 rw [IntWalk.u64_in _ ⟨h0,by omega⟩]
 have e:Int.fdiv (a + b) (2 ^ 1) = (a + b) / 2:=by
  rw [show (2:Int) ^ 1 = 2 from rfl,Int.fdiv_eq_ediv_of_nonneg _ (by omega)]
 rw [e,IntWalk.i64_in _ (by omega)]
theorem bs1_is {N:Nat} {f:QP} {id:Int}:Q5x N f.id f.ty f.args id = some (if f.id < id then -1 else if f.id > id then 1 else 0):=by
 unfold Q5x Q66 Q5X
 simp only [Q6,bne_self_eq_false,Bool.false_eq_true,if_false,decide_eq_true_eq]
 split
 · rfl
 · split <;> rfl
theorem bs_is {N : Nat} {l : List QP} {id : Int} (hN : 9223372036854775808 ≤ N) (hl : l.length ≤ 1000000) (hs : l.Pairwise (fun a b => a.id < b.id)) :
  (∃ (i:Nat) (x:QP),Q1J N l id = some ((i:Int),true) ∧ l[i]? = some x ∧ x.id = id) ∨ (∃ k,Q1J N l id = some (k,false) ∧ ∀ f ∈ l,f.id ≠ id):=by
 have asc : ∀ (i j:Nat) (x y:QP),i < j → l[i]? = some x → l[j]? = some y → x.id < y.id:=fun i j x y hij hx hy=>by
  obtain ⟨hi,rfl⟩:=List.getElem?_eq_some_iff.1 hx
  obtain ⟨hj,rfl⟩:=List.getElem?_eq_some_iff.1 hy
  exact List.pairwise_iff_getElem.1 hs i j hi hj hij
 obtain ⟨o, h1, h2⟩ := Q5u (f := Q1P N l id) (fun s => 0 ≤ s.2 ∧ s.2 ≤ s.1 ∧ s.1 ≤ l.length ∧ (∀ (i : Nat) x, (i : Int) < s.2 → l[i]? = some x → x.id < id) ∧ (∀ (i : Nat) x, s.1 ≤ (i : Int) → l[i]? = some x → id ≤ x.id)) (fun s => (s.1 - s.2).toNat)
  (fun o=>0 ≤ o ∧ o ≤ l.length ∧ (∀ (i:Nat) x,(i:Int) < o → l[i]? = some x → x.id < id) ∧ (∀ (i:Nat) x,o ≤ (i:Int) → l[i]? = some x → id ≤ x.id)) (fun s hs=>by
   obtain ⟨hi,lo⟩:=s
   obtain ⟨q1,q2,q3,q4,q5⟩:=hs
   simp only at q1 q2 q3 q4 q5
   unfold Q1P
   simp only
   by_cases hlt:lo < hi
   ·have hm:=mid_is (a:=lo) (b:=hi) (by omega) (by omega)
    rw [if_pos (by simpa using hlt),QC (by omega),hm,QC (by omega)]
    have hk:((lo + hi) / 2).toNat < l.length:=by omega
    have hx:=List.getElem?_eq_getElem hk
    rw [hx,Q6,bs1_is,Q6]
    by_cases hc:l[((lo + hi) / 2).toNat].id < id
    ·    left
         rw [if_pos hc]
         refine ⟨(hi,(lo + hi) / 2 + 1),by rw [if_pos (by simp),QC (by omega)],⟨by simp only; omega,by simp only; omega,q3,fun i x hi' hx'=>?_,q5⟩,by simp only; omega⟩
         simp only at hi'
         rcases Int.lt_or_le (i:Int) ((lo + hi) / 2) with h | h
         · exact Int.lt_trans (asc i _ x _ (by omega) hx' hx) hc
         ·have:i = ((lo + hi) / 2).toNat:=by omega
          subst this
          rw [hx] at hx'; cases hx'; exact hc
    ·    left
         rw [if_neg hc]
         refine ⟨((lo + hi) / 2,lo),?_,⟨q1,by simp only; omega,by simp only; omega,q4,fun i x hi' hx'=>?_⟩,by simp only; omega⟩
         · split <;> rfl
         ·simp only at hi'
          rcases Int.lt_or_le ((lo + hi) / 2) (i:Int) with h | h
          · have:=asc _ i _ x (by omega) hx hx'; omega
          ·have:i = ((lo + hi) / 2).toNat:=by omega
           subst this
           rw [hx] at hx'; cases hx'; omega
   ·right
    have:lo = hi:=by omega
    subst this
    exact ⟨lo,by rw [if_neg (by simp)],q1,q3,q4,q5⟩) N (((l.length:Nat):Int),0) ⟨by simp,by simp,by simp,fun i x hi=>by simp only at hi; omega,fun i x hi hx=>by
    have:=(List.getElem?_eq_some_iff.1 hx).1; simp only at hi; omega⟩ (by simp only; omega)
 obtain ⟨p1,p2,p3,p4⟩:=h2
 unfold Q1J
 rw [h1,Q6]
 by_cases hlt:o < (l.length:Int)
 ·have hk:o.toNat < l.length:=by omega
  have hx:=List.getElem?_eq_getElem hk
  rw [if_pos (by simpa using hlt),QC p1,hx,Q6,bs1_is,Q6]
  have h3:=p4 o.toNat _ (by omega) hx
  by_cases he:l[o.toNat].id = id
  ·left
   refine ⟨o.toNat,_,?_,hx,he⟩
   rw [if_neg (by omega),if_neg (by omega)]
   have:((o.toNat:Nat):Int) = o:=by omega
   rw [this]; rfl
  ·right
   refine ⟨o,?_,fun f hf e=>?_⟩
   · rw [if_neg (by omega),if_pos (by omega)]; rfl
   ·obtain ⟨j,hj⟩:=List.getElem?_of_mem hf
    rcases Nat.lt_trichotomy j o.toNat with h | h | h
    · have:=p3 j f (by omega) hj; omega
    · subst h; rw [hx] at hj; cases hj; exact he e
    · have:=asc _ j _ f h hx hj; omega
 ·right
  rw [if_neg (by simpa using hlt)]
  refine ⟨o,rfl,fun f hf e=>?_⟩
  obtain ⟨j,hj⟩:=List.getElem?_of_mem hf
  have hj2:=(List.getElem?_eq_some_iff.1 hj).1
  have:=p3 j f (by omega) hj; omega
theorem sameVals_is {N:Nat} {l m:List V} (hN : 9223372036854775808 ≤ N) (hl:l.length ≤ 1000000):Says (Q39 N l m) (l = m):=by
 unfold Q39
 refine Says.same hN (by omega) (fun hlen i x y hi hx hy=>⟨decide (x = y),by simp,?_⟩) (fun i hi=>?_)
 ·unfold Q2B
  rw [if_pos (by simpa using hi),hx,Q6,hy,Q6]
  by_cases h:x = y
  · rw [if_neg (by simp [h]),if_pos (by simpa using h),QC (by omega)]
  · rw [if_pos (by simpa using h),if_neg (by simpa using h)]
 ·unfold Q2B
  rw [if_neg (by simpa using hi)]
theorem rsame_is {N:Nat} (hN : 9223372036854775808 ≤ N) {l m:List Int} (hl:l.length ≤ 1000000):Says (Q4d N l m) (l = m):=by
 unfold Q4d
 refine Says.same hN (by omega) (fun hlen i x y hi hx hy=>⟨x == y,by simp,?_⟩) (fun i hi=>?_)
 ·unfold Q3p
  rw [if_pos (by simpa using hi),hx,Q6,hy,Q6]
  by_cases h:x = y
  · rw [if_neg (by simpa using h),if_pos (by simpa using h),QC (by omega)]
  · rw [if_pos (by simpa using h),if_neg (by simpa using h)]
 ·unfold Q3p
  rw [if_neg (by simpa using hi)]
theorem of_is {N : Nat} (hN : 9223372036854775808 ≤ N) {facts : List QP} (hfl : facts.length ≤ 1000) (hs : facts.Pairwise (fun a b => a.id < b.id)) {ids tids : List Int} :
  ∃ of,Q19 (Q26 N facts ids tids) N (0,[]) = some of ∧ ((of = [] ∧ (tids.length ≤ ids.length ∨ ∃ t,tids[ids.length]? = some t ∧ ∀ f ∈ facts,f.id ≠ t)) ∨ ∃ f t,of = [f] ∧ f ∈ facts ∧ tids[ids.length]? = some t ∧ f.id = t):=by
 by_cases hlen:ids.length < tids.length
 ·have ht:=List.getElem?_eq_getElem hlen
  generalize tids[ids.length] = t at ht
  obtain ⟨o, o1, o2⟩ := Q5u (f := Q26 N facts ids tids) (fun s => s.1 ≤ facts.length ∧ ((s.2 = [] ∧ ∀ f ∈ facts.take s.1, f.id ≠ t) ∨ ∃ f, s.2 = [f] ∧ f ∈ facts ∧ f.id = t)) (fun s => facts.length - s.1)
   (fun o=>(o = [] ∧ ∀ f ∈ facts,f.id ≠ t) ∨ ∃ f,o = [f] ∧ f ∈ facts ∧ f.id = t) (fun s hs=>by
    obtain ⟨i,of⟩:=s
    obtain ⟨q1,q2⟩:=hs
    simp only at q1 q2
    unfold Q26
    simp only
    by_cases hi:i < facts.length
    ·rw [if_pos (by simpa using hi),Q6,if_pos (by simpa using hlen),List.getElem?_eq_getElem hi,Q6,ht,Q6]
     have hmem:=List.getElem_mem hi
     by_cases he:facts[i].id = t
     ·    rw [if_pos (by simpa using he),Q6,Q6,QC (by omega)]
          exact .inl ⟨_,rfl,⟨by simp only; omega,.inr ⟨_,rfl,hmem,he⟩⟩,by simp only; omega⟩
     ·    rw [if_neg (by simpa using he),Q6,QC (by omega)]
          refine .inl ⟨_,rfl,⟨by simp only; omega,?_⟩,by simp only; omega⟩
          rcases q2 with ⟨rfl,q2⟩ | q2
          ·refine .inl ⟨rfl,fun f hf=>?_⟩
           simp only at hf
           rw [List.take_add_one,List.getElem?_eq_getElem hi] at hf
           rcases List.mem_append.1 hf with hf | hf
           · exact q2 f hf
           ·have:f = facts[i]:=by simpa using hf
            rw [this]; exact he
          · exact .inr q2
    ·rw [if_neg (by simpa using hi),Q6,if_neg (by simp)]
     refine .inr ⟨_,rfl,?_⟩
     rcases q2 with ⟨rfl,q2⟩ | q2
     ·    rw [List.take_of_length_le (by omega)] at q2
          exact .inl ⟨rfl,q2⟩
     · exact .inr q2) N (0,[]) ⟨Nat.zero_le _,.inl ⟨rfl,by simp⟩⟩ (by simp only; omega)
  refine ⟨o,o1,?_⟩
  rcases o2 with ⟨h1,h2⟩ | ⟨f,h1,h2,h3⟩
  · exact .inl ⟨h1,.inr ⟨t,ht,h2⟩⟩
  · exact .inr ⟨f,t,h1,h2,ht,h3⟩
 ·refine ⟨[],?_,.inl ⟨rfl,.inl (by omega)⟩⟩
  obtain ⟨M,rfl⟩ : ∃ q,N = q + 1:=⟨N - 1,by omega⟩
  refine Q1a ?_
  unfold Q26
  simp only
  by_cases h0 : 0 < facts.length
  · rw [if_pos (by simpa using h0),Q6,if_neg (by simpa using hlen)]
  · rw [if_neg (by simpa using h0),Q6,if_neg (by simp)]
theorem uniq_fact {facts:List QP} (hs:facts.Pairwise (fun a b=>a.id < b.id)) {f g:QP} (hf:f ∈ facts) (hg:g ∈ facts) (e:f.id = g.id):f = g:=by
 obtain ⟨i,hi,rfl⟩:=List.getElem_of_mem hf
 obtain ⟨j,hj,rfl⟩:=List.getElem_of_mem hg
 rcases Nat.lt_trichotomy i j with h | rfl | h
 · have:=List.pairwise_iff_getElem.1 hs i j hi hj h; omega
 · rfl
 · have:=List.pairwise_iff_getElem.1 hs j i hj hi h; omega
def VarR (types:List Qg) (r:Qj) (tids:List Int) (s:Nat × Nat × List Bool × List V) (t:Nat × List Int × List V):Prop :=
 s.1 = t.1 ∧ s.1 ≤ r.conds.length ∧ s.2.1 = t.2.1.length ∧ t.2.1 = tids.take s.2.1 ∧ s.2.1 ≤ tids.length ∧ s.2.1 ≤ s.1 ∧ s.2.2.1 = Q5V r.vars.toNat t.2.2.length ∧ s.2.2.2 = Q4w r.vars.toNat t.2.2 ∧ (∀ v ∈ t.2.2,okV v) ∧
  ∃ k,(Q2X types (r.conds.drop s.1) ((t.2.2.length:Nat):Int) k).1 = true ∧ (Q2X types (r.conds.drop s.1) ((t.2.2.length:Nat):Int) k).2.1 = r.vars
def VarQ (r:Qj) (tids:List Int) (x:(Nat × List Bool × List V) ⊕ (List V × Bool)) (y:(List Int × List V) ⊕ (List V × Bool)):Prop :=
 (x = .inr ([],false) ∧ y = .inr ([],false)) ∨ ∃ u ids vars,x = .inl (u,Q5V r.vars.toNat r.vars.toNat,vars) ∧ y = .inl (ids,vars) ∧ ids = tids.take u ∧ u ≤ tids.length ∧ vars.length = r.vars.toNat
theorem envV_all {n:Nat} {vars:List V} (h:vars.length = n):Q4w n vars = vars:=by unfold Q4w; simp [h]
theorem vars_step {N : Nat} (hN : 9223372036855775808 ≤ N) {types : List Qg} {rules : List Qj} {facts : List QP} (hF : Q9B types facts) (hs : facts.Pairwise (fun a b => a.id < b.id)) {a : Int} (ha : 0 ≤ a) {r : Qj} (hr : rules[a.toNat]? = some r) (h8 : r.conds.length ≤ 8) (h16 : r.vars ≤ 16) (h0 : 0 ≤ r.vars) (hcs : ∀ c ∈ r.conds, CondL c) {tids : List Int} (s : Nat × Nat × List Bool × List V) (t : Nat × List Int × List V) (hR : VarR types r tids s t) :
  (∃ s' t',Q4s N r facts tids s = some (.inl s') ∧ Q25 N a rules facts tids t = some (.inl t') ∧ VarR types r tids s' t' ∧ r.conds.length - s'.1 < r.conds.length - s.1) ∨
    (∃ x y,Q4s N r facts tids s = some (.inr x) ∧ Q25 N a rules facts tids t = some (.inr y) ∧ VarQ r tids x y):=by
 obtain ⟨k,u,hs1,vs1⟩:=s
 obtain ⟨k',ids,vars⟩:=t
 obtain ⟨r1,r2,r3,r4,r5,r5b,r6,r7,r8,kf,r9,r10⟩:=hR
 simp only at r1 r2 r3 r4 r5 r5b r6 r7 r8 r9 r10
 subst r1 r6 r7
 unfold Q4s Q25
 simp only
 rw [QC ha,hr,Q6]
 by_cases hk : ¬ k < r.conds.length
 ·right
  rw [if_neg (by simpa using hk),if_neg (by simpa using hk)]
  rw [List.drop_of_length_le (by omega)] at r9 r10
  have hlen:vars.length = r.vars.toNat:=by have:((vars.length:Nat):Int) = r.vars:=r10; omega
  refine ⟨_,_,rfl,rfl,.inr ⟨u,ids,vars,?_,rfl,r4,r5,hlen⟩⟩
  rw [hlen,envV_all hlen]
 replace hk:k < r.conds.length:=by omega
 rw [if_pos (by simpa using hk),if_pos (by simpa using hk),QC ha,Q6,List.getElem?_eq_getElem hk,Q6]
 unfold Q7Y
 rw [List.getElem?_eq_getElem hk,Q6]
 have hmem:=List.getElem_mem hk
 have hcl:=hcs _ hmem
 rw [List.drop_eq_getElem_cons hk] at r9 r10
 generalize r.conds[k] = c at *
 obtain ⟨h1,h2⟩:=conds_cons r9
 rw [h2] at r9 r10
 obtain ⟨hcr,hcv⟩:=condR_of h1
 have hcvb:=Q6b types (r.conds.drop (k + 1)) (Q2j types ((vars.length:Nat):Int) kf c).2.1 (Q2j types ((vars.length:Nat):Int) kf c).2.2
 have hcv2:=Q9n types ((vars.length:Nat):Int) kf c
 have hvn:vars.length ≤ r.vars.toNat:=by omega
 have hwo:WayOk ⟨ids,vars⟩:=⟨by show ids.length ≤ 1000; omega,by show vars.length ≤ 1000; omega,r8⟩
 have hel:(Q4w r.vars.toNat vars).length = r.vars.toNat:=envV_len hvn
 have hhl:(Q5V r.vars.toNat vars.length).length = r.vars.toNat:=envH_len hvn
 have hokE : ∀ v ∈ Q4w r.vars.toNat vars,okV v:=fun v hv=>by
  rcases List.mem_append.1 hv with hv | hv
  · exact r8 v hv
  · rw [(List.mem_replicate.1 hv).2]; exact ⟨zero64,Nat.zero_le _⟩
 by_cases h3:c.kind = 3
 ·have b3:(c.kind == 3) = true:=by simpa using h3
  have b1:(c.kind == 1) = false:=by simp [h3]
  simp only [b3,b1,if_true,Bool.false_eq_true,if_false,Q6]
  have hon:=ron_is (N:=N) hN (facts:=facts) (c:=c) (w:=⟨ids,vars⟩) hcr hF.typed hF.few hwo hcl
  rw [hon,Q6]
  obtain ⟨t1,t2⟩:=hcl.test
  obtain ⟨⟨kk,n,sx,e⟩,hev,_⟩:=both 1000 N c.test (Q4w r.vars.toNat vars) t2 t1 (by omega) (by omega) hokE (by omega)
  have hev2:Q1m N c.test.kind c.test.value.k c.test.value.n c.test.value.s c.test.var c.test.op c.test.kids (Q4w r.vars.toNat vars) = some (kk,n,sx,e):=hev
  have hsame:=both2 1000 N N0 c.test (Q4w r.vars.toNat vars) t2 t1 (by omega) (by omega) (by unfold N0; omega) hokE (by omega)
  have hd:=ev_env (n:=r.vars.toNat) (hcr.test h3) t1
  rw [← hsame,hev] at hd
  have hd2:docEv c vars = (e == 0 && (kk == 1 && n != 0)):=hd.symm
  rw [hev2,Q6]
  unfold Q5J
  rw [if_pos h3]
  simp only
  have hcond:(if (e != 0) = true then some true else if (kk != 1) = true then some true else some (n == 0)) = some (!(e == 0 && (kk == 1 && n != 0))):=by
    unfold bne
    cases (e == 0) <;> cases (kk == 1) <;> cases (n == 0) <;> rfl
  rw [hcond,Q6,← hd2]
  cases docEv c vars with
  | false =>
    right
    simp only [Bool.not_false,if_true,Bool.false_eq_true,if_false]
    rw [Q1t]
    exact ⟨_,_,rfl,rfl,.inl ⟨rfl,rfl⟩⟩
  | true =>
    left
    simp only [Bool.not_true,Bool.false_eq_true,if_false,if_true]
    rw [Q18,QC (by omega),if_neg (by simp),show ([⟨ids,vars⟩] : List Qc)[0]? = some ⟨ids,vars⟩ from rfl,Q6,QC (by omega)]
    refine ⟨_,_,rfl,rfl,⟨rfl,by simp only; omega,r3,r4,r5,by simp only; omega,rfl,rfl,r8,(Q2j types ((vars.length:Nat):Int) kf c).2.2,?_,?_⟩,by simp only; omega⟩
    · rw [if_pos h3] at hcv
      rw [hcv] at r9
      exact r9
    · rw [if_pos h3] at hcv
      rw [hcv] at r10
      exact r10
 ·have b3:(c.kind == 3) = false:=by simpa using h3
  simp only [b3,Bool.false_eq_true,if_false]
  rw [if_neg h3] at hcv
  by_cases h2k:c.kind = 2
  · have b2:(c.kind == 2) = true:=by simpa using h2k
    have b1:(c.kind == 1) = false:=by simp [h2k]
    simp only [b2,b1,if_true,Bool.false_eq_true,if_false,Q6]
    have hon:=ron_is (N:=N) hN (facts:=facts) (c:=c) (w:=⟨ids,vars⟩) hcr hF.typed hF.few hwo hcl
    rw [hon,Q6]
    have hfew:=hF.few
    have hca:=hcl.args
    rw [some_is hN (c:=c) (facts:=facts) (hs:=Q5V r.vars.toNat vars.length) (vs:=Q4w r.vars.toNat vars) (by omega) (by omega) (by omega) (by omega),Q6]
    have hsm:(facts.any fun f=>(Q6x c f (Q5V r.vars.toNat vars.length) (Q4w r.vars.toNat vars)).isSome) = facts.any fun f=>(docM c f vars).isSome:=by
      have hm : ∀ f ∈ facts,Q6x c f (Q5V r.vars.toNat vars.length) (Q4w r.vars.toNat vars) = (docM c f vars).map fun v=>(Q5V r.vars.toNat v.length,Q4w r.vars.toNat v):=fun f hfm=>match_env hcr h3 (hF.typed f hfm) (by omega)
      rw [Bool.eq_iff_iff,List.any_eq_true,List.any_eq_true]
      exact ⟨fun ⟨f,a,b⟩=>⟨f,a,by rw [hm f a] at b; simpa using b⟩,fun ⟨f,a,b⟩=>⟨f,a,by rw [hm f a]; simpa using b⟩⟩
    rw [hsm]
    unfold Q5J
    rw [if_neg h3,if_pos h2k]
    simp only
    cases (facts.any fun f=>(docM c f vars).isSome) with
    | true =>
      right
      simp only [if_true]
      rw [Q1t]
      exact ⟨_,_,rfl,rfl,.inl ⟨rfl,rfl⟩⟩
    | false =>
      left
      simp only [Bool.false_eq_true,if_false]
      rw [Q18,QC (by omega),if_neg (by simp),show ([⟨ids,vars⟩] : List Qc)[0]? = some ⟨ids,vars⟩ from rfl,Q6,QC (by omega)]
      have hb:=(hcr.typed h3).2
      rw [b1] at hb hcv
      rw [not_binds hb] at hcv
      refine ⟨_,_,rfl,rfl,⟨rfl,by simp only; omega,r3,r4,r5,by simp only; omega,rfl,rfl,r8,(Q2j types ((vars.length:Nat):Int) kf c).2.2,?_,?_⟩,by simp only; omega⟩
      ·rw [hcv] at r9
       exact r9
      ·rw [hcv] at r10
       exact r10
  · have h1k:c.kind = 1:=by have:=hcr.kind; omega
    have b2:(c.kind == 2) = false:=by simpa using h2k
    have b1:(c.kind == 1) = true:=by simpa using h1k
    simp only [b2,b1,if_true,Bool.false_eq_true,if_false]
    obtain ⟨of,o1,o2⟩:=of_is (N:=N) (by omega) hF.few hs (ids:=ids) (tids:=tids)
    rw [o1,Q6]
    have hof : ∀ f ∈ of,f ∈ facts:=fun f hf=>by
      rcases o2 with ⟨h,_⟩ | ⟨g,t,h,hg,_⟩
      · rw [h] at hf; cases hf
      · rw [h] at hf; rw [List.mem_singleton.1 hf]; exact hg
    have hofl:of.length ≤ 1:=by
      rcases o2 with ⟨h,_⟩ | ⟨g,t,h,_⟩ <;> rw [h] <;> simp
    have hon:=ron_is (N:=N) hN (facts:=of) (c:=c) (w:=⟨ids,vars⟩) hcr (fun f hf=>hF.typed f (hof f hf)) (by omega) hwo hcl
    rw [hon,Q6]
    unfold Q5J
    rw [if_neg h3,if_neg h2k]
    by_cases hu:tids.length ≤ u
    · right
      rw [if_pos (by simpa using hu),Q1t]
      have:of = []:=by
       rcases o2 with ⟨h,_⟩ | ⟨g,t,h,_,ht,_⟩
       · exact h
       · rw [List.getElem?_eq_none (by omega)] at ht; cases ht
      rw [this]
      exact ⟨_,_,rfl,rfl,.inl ⟨rfl,rfl⟩⟩
    · have hu2:u < tids.length:=by omega
      have htu:tids[ids.length]? = some tids[u]:=by rw [← r3]; exact List.getElem?_eq_getElem hu2
      rw [if_neg (by simpa using hu),List.getElem?_eq_getElem hu2,Q6]
      have hfew:=hF.few
      rcases bs_is (N:=N) (l:=facts) (id:=tids[u]) (by omega) (by omega) hs with ⟨i,x,p1,p2,p3⟩ | ⟨kk,p1,p2⟩
      ·have hxm:=List.mem_of_getElem? p2
       obtain ⟨f,hof1⟩ : ∃ f,of = [x]:=by
         rcases o2 with ⟨_,h | ⟨t,ht,h⟩⟩ | ⟨f,t,h,hfm,ht,hft⟩
         · omega
         · rw [htu] at ht; cases ht; exact absurd p3 (h x hxm)
         ·rw [htu] at ht; cases ht
          exact ⟨f,by rw [h,uniq_fact hs hfm hxm (by rw [hft,p3])]⟩
       rw [p1,Q6,hof1]
       simp only [Bool.not_true,Bool.false_eq_true,if_false]
       rw [QC (by omega),Int.toNat_natCast,p2,Q6]
       have hca:=hcl.args
       obtain ⟨ma,mb,hm1,hm2⟩:=match_is (N:=N) (by omega) (c:=c) (f:=x) (hs:=Q5V r.vars.toNat vars.length) (vs:=Q4w r.vars.toNat vars) (by omega) (by omega) (by omega)
       have hme:=match_env (n:=r.vars.toNat) hcr h3 (hF.typed x hxm) (by omega)
       rw [hm1,Q6]
       rw [hme] at hm2 ⊢
       cases hd:docM c x vars with
       | none =>
         right
         simp only [Option.map_none,Option.isSome_none,Bool.not_false,if_true]
         rw [Q1t]
         refine ⟨_,_,rfl,?_,.inl ⟨rfl,rfl⟩⟩
         simp [hd]
       | some v =>
         left
         rw [hd] at hm2
         obtain ⟨hm3,_,_⟩:=hm2 _ rfl
         have e1:Q5V r.vars.toNat v.length = ma:=congrArg Prod.fst hm3
         have e2:Q4w r.vars.toNat v = mb:=congrArg Prod.snd hm3
         have hvl:=docM_len hcr h3 hd
         rw [← hcv] at hvl
         simp only [Option.map_some,Option.isSome_some,Bool.not_true,Bool.false_eq_true,if_false]
         rw [QC (by omega),Q18,QC (by omega)]
         have hfm:([x].filterMap fun f=>(docM c f vars).map fun v=>(⟨ids ++ [f.id],v⟩ : Qc)) = [⟨ids ++ [x.id],v⟩]:=by simp [hd]
         rw [hfm,if_neg (by simp),show ([⟨ids ++ [x.id],v⟩] : List Qc)[0]? = some ⟨ids ++ [x.id],v⟩ from rfl,Q6,QC (by omega),← e1,← e2]
         refine ⟨_,_,rfl,rfl,⟨rfl,by simp only; omega,by simp only [List.length_append,List.length_singleton]; omega,?_,by simp only; omega,by simp only; omega,rfl,rfl,?_,(Q2j types ((vars.length:Nat):Int) kf c).2.2,?_,?_⟩,by simp only; omega⟩
         ·simp only
          rw [List.take_add_one,← r4,List.getElem?_eq_getElem hu2,p3]; rfl
         · exact (docOn_ok (facts:=[x]) (c:=c) (w:=⟨ids,vars⟩) (x:=⟨ids ++ [x.id],v⟩) (fun f hf=>by rw [List.mem_singleton.1 hf]; exact hF.vals x hxm) r8 (by unfold Q5J; rw [if_neg h3,if_neg h2k]; simp [hd])).1
         · rw [← hvl] at r9; exact r9
         · rw [← hvl] at r10; exact r10
      ·right
       have hof1:of = []:=by
         rcases o2 with ⟨h,_⟩ | ⟨f,t,h,hfm,ht,hft⟩
         · exact h
         · rw [htu] at ht; cases ht; exact absurd hft (p2 f hfm)
       rw [p1,Q6,hof1]
       simp only [Bool.not_false,if_true]
       rw [Q1t]
       exact ⟨_,_,rfl,rfl,.inl ⟨rfl,rfl⟩⟩
theorem varsC_is {N:Nat} (hN : 9223372036854775808 + 1000000 ≤ N) {types:List Qg} {rules:List Qj} {facts:List QP} (hI:Q9C types rules facts) (hq : ∀ r ∈ rules,LightQ r) (a:Int) :
  Q6H N types rules facts a = some (!(Q9L types rules facts && decide (0 ≤ a ∧ a < ((rules.length:Nat):Int)))) ∧ Q4m N types rules facts a = some (!(Q9L types rules facts && decide (0 ≤ a ∧ a < ((rules.length:Nat):Int)))):=by
 have hfw:=hI.few
 have hend:(if (decide (a < 0)) = true then some true else some (decide (a ≥ ((rules.length:Nat):Int)))) = some (!decide (0 ≤ a ∧ a < ((rules.length:Nat):Int))):=by
  by_cases c1:a < 0
  · rw [if_pos (by simpa using c1),decide_eq_false (by omega)]; rfl
  ·rw [if_neg (by simpa using c1)]
   congr 1
   rw [Bool.eq_iff_iff]; simp only [decide_eq_true_eq,Bool.not_eq_true',decide_eq_false_iff_not]; omega
 unfold Q6H Q4m Q9L
 rw [rightRules_is (by omega) (fun r h=>lightR_of (hq r h)),rright_rules (by omega) hI.tname (fun r hr=>(hI.rules r hr).1),Q6,Q6]
 rw [facts_is (by omega) (by omega) (fun f hf=>(hI.args f hf).1),rfacts_is (by omega) (by omega) (fun f hf=>⟨(hI.args f hf).1,fun v hv=>shortV_okV ((hI.args f hf).2 v hv)⟩),Q6]
 cases Q4T types rules <;> cases Q6c types 0 facts <;> first | exact ⟨rfl,rfl⟩ | exact ⟨hend,hend⟩
theorem vars_both {N:Nat} (hN : 9223372036854775808 + 2000000 ≤ N) {types:List Qg} {rules:List Qj} {facts:List QP} (hI:Q9C types rules facts) (hq : ∀ r ∈ rules,LightQ r) (a:Int) {tids:List Int} (htl:tids.length ≤ 1000) :
  ∃ v b,Q7a N types rules a tids facts = some (v,b) ∧ Q4b N types rules a tids facts = some (v,b) ∧ v.length ≤ 1000:=by
 obtain ⟨c1,c2⟩:=varsC_is (N:=N) (by omega) hI hq a
 unfold Q7a Q4b
 rw [c1,c2,Q6,Q6]
 by_cases hg:(Q9L types rules facts && decide (0 ≤ a ∧ a < ((rules.length:Nat):Int))) = true
 ·rw [hg,if_neg (by simp),if_neg (by simp)]
  simp only [Bool.and_eq_true,decide_eq_true_eq] at hg
  obtain ⟨hT,h0,h1⟩:=hg
  unfold Q9L at hT
  simp only [Bool.and_eq_true] at hT
  obtain ⟨hR,hFb⟩:=hT
  have hk:a.toNat < rules.length:=by omega
  have hr:=List.getElem?_eq_getElem hk
  have hmem:=List.getElem_mem hk
  generalize rules[a.toNat] = r at hr hmem
  have hw:=right_whole hR r hmem
  unfold Q6R at hw
  simp only [Bool.and_eq_true,decide_eq_true_eq] at hw
  obtain ⟨⟨_,_,_,h8,_⟩,hb,⟨hv,h16⟩,_⟩:=hw
  have hp:=Q6b types r.conds 0 0
  rw [QC h0,hr,Q6,(newE_is N r.vars).1,newE_env (by omega) (by omega),Q6]
  simp only
  obtain ⟨_,hs⟩:=facts_up hFb
  obtain ⟨x,y,q1,q2,q3⟩:=iter_two (f:=Q4s N r facts tids) (g:=Q25 N a rules facts tids) (VarR types r tids) (fun s=>r.conds.length - s.1) (VarQ r tids) (fun s t hst=>vars_step (by omega) (hI.facts hFb) hs h0 hr h8 (by omega) (by omega) (hI.rules r hmem).2 s t hst) N (0,0,Q5V r.vars.toNat 0,Q4w r.vars.toNat []) (0,[],[]) ⟨rfl,Nat.zero_le _,rfl,by simp,Nat.zero_le _,Nat.le_refl _,rfl,rfl,by simp,0,by simpa using hb,by simpa using hv.symm⟩ (by simp only; omega)
  rw [q1,q2]
  rcases q3 with ⟨rfl,rfl⟩ | ⟨u,ids,vars,rfl,rfl,q4,q5,q6⟩
  ·rw [Q1t,Q1t]
   exact ⟨[],false,rfl,rfl,by simp⟩
  ·rw [Q18,Q18]
   simp only
   have hil:ids.length = u:=by rw [q4,List.length_take]; omega
   obtain ⟨b,b1,b2⟩:=rsame_is (N:=N) (by omega) (l:=ids) (m:=tids) (by omega)
   rw [b1,Q6]
   by_cases hu:u < tids.length
   ·rw [if_pos (by simpa using hu)]
    cases b with
    | true=>have:=b2.1 rfl; rw [this] at hil; omega
    | false=>exact ⟨[],false,rfl,rfl,by simp⟩
   ·rw [if_neg (by simpa using hu)]
    have:ids = tids:=by rw [q4,List.take_of_length_le (by omega)]
    rw [b2.2 this]
    exact ⟨vars,true,rfl,rfl,by omega⟩
 ·simp only [Bool.not_eq_true] at hg
  rw [hg]
  exact ⟨[],false,rfl,rfl,by simp⟩
theorem pick_is1 {N:Nat} {o k:Int} (hk : 0 < k) (hk2:k ≤ 1000000) : ∃ v:Nat,Q4R N o k = some ((v:Nat):Int) ∧ ((v:Nat):Int) < k:=by
 unfold Q4R
 have h1:=Int.tmod_lt_of_pos o hk
 rw [if_neg (by simp; omega),QC (by omega)]
 by_cases hm:Int.tmod o k < 0
 ·have h2 : -k < Int.tmod o k:=Int.lt_tmod_of_pos o hk
  rw [if_pos (by simpa using hm),QC (by omega),Q6]
  exact ⟨(Int.tmod o k + k).toNat,by rw [Int.toNat_of_nonneg (by omega)],by omega⟩
 ·rw [if_neg (by simpa using hm),Q6]
  exact ⟨(Int.tmod o k).toNat,by rw [Int.toNat_of_nonneg (by omega)],by omega⟩
theorem naivvars_arg (R:Q6M) (hR:Q9b R) (t:QU) (_:QaP t) (k:Int) (_:inK .i64 k) (l:List QP) (hl:l.length ≤ 140737488351232 ∧ ∀ y ∈ l,ok_FactD y):Q2V 9223372036860000000 R.types R.rules t.rule t.ids k l = some true:=by
 have hN : 9223372036854775808 + 2000000 ≤ NF:=by decide
 show Q2V NF R.types R.rules t.rule t.ids k l = some true
 unfold Q2V
 obtain ⟨b,hb,hL⟩:=light_is (N:=NF) (by omega) hR hl.1
 rw [hb,Q6]
 cases b with
 | false=>rfl
 | true =>
   obtain ⟨hq,h40⟩:=hL rfl
   rw [if_neg (by simp),Q6]
   by_cases h50 : 50 < t.ids.length
   · rw [if_pos (by simpa using h50)]
   ·rw [if_neg (by simpa using h50)]
    have hI:Q9C R.types R.rules l:=lightIn_of hR.1.2 hR.2.2 hl.2 hq h40
    rw [rtokens_is hN hI,Q6]
    generalize hA:(if Q9L R.types R.rules l = true then (if sumR l R.rules ≤ 4096 then (flatR l R.rules 0,0) else (([] : List QU),204)) else (([] : List QU),2)) = A
    obtain ⟨la,ea⟩:=A
    simp only
    have hla:la.length ≤ 100000 ∧ ∀ x ∈ la,x.ids.length ≤ 8:=by
     split at hA
     ·rename_i hT
      unfold Q9L at hT
      simp only [Bool.and_eq_true] at hT
      obtain ⟨h64,h8⟩:=right_conds hT.1
      split at hA
      ·cases hA
       have:=flatR_len l R.rules 0
       exact ⟨by omega,fun x hx=>flatR_ids h8 hx⟩
      · cases hA; exact ⟨by simp,by simp⟩
     · cases hA; exact ⟨by simp,by simp⟩
    have hC : ∃ r ids,Q3e NF la k t.rule t.ids = some (r,ids) ∧ ids.length ≤ 1000:=by
     unfold Q3e
     by_cases h0 : 0 < la.length
     ·rw [if_pos (by simpa using h0),Q6]
      by_cases hk:k > 0
      ·obtain ⟨v,hv,hvk⟩:=pick_is1 (N:=NF) (o:=k) (k:=((la.length:Nat):Int)) (by omega) (by omega)
       have hvl:v < la.length:=by omega
       rw [if_pos (by simpa using hk),hv,Q6,QC (by omega),Int.toNat_natCast,List.getElem?_eq_getElem hvl,Q6]
       exact ⟨_,_,rfl,by have:=hla.2 _ (List.getElem_mem hvl); omega⟩
      ·rw [if_neg (by simpa using hk)]
       exact ⟨_,_,rfl,by omega⟩
     ·rw [if_neg (by simpa using h0),Q6,if_neg (by simp)]
      exact ⟨_,_,rfl,by omega⟩
    obtain ⟨r,ids,hC1,hC2⟩:=hC
    rw [hC1,Q6]
    simp only
    obtain ⟨v,b,v1,v2,v3⟩:=vars_both hN hI hq r hC2
    rw [v1,Q6,v2,Q6]
    simp only
    rw [if_pos (by simp),(sameVals_is (N:=NF) (by omega) (by omega)).eq_true rfl,Q6]
end Go.Proofs.YtbgodclhmgmcgaaGreatDoor
