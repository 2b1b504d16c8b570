import Derived.Test.YtbgodclhmgmcgaaGreatDoorNaivL
import Derived.KernelRfl
namespace Go.Proofs.YtbgodclhmgmcgaaGreatDoor
open Go Go.RowKit
abbrev NF:Nat:=9223372036860000000
theorem aw_f:Q5u NF = some true:=by kernel_rfl
def newE (a:Int):List Bool × List V:=if 0 ≤ a ∧ a ≤ 16 then (List.replicate a.toNat false,List.replicate a.toNat ⟨0,0,⟨#[]⟩⟩) else ([],[])
theorem newE_is (N:Nat) (a:Int):Q4j N a = some (newE a) ∧ InvE (newE a).1 (newE a).2:=by
 have h1:Q4j N a = some (newE a):=by
  unfold Q4j newE
  by_cases c1:a < 0
  · rw [if_pos (by simpa using c1),Q7,if_pos rfl,if_neg (by omega)]
  ·rw [if_neg (by simpa using c1),Q7]
   by_cases c2:a > 16
   · rw [if_pos (by simpa using c2),if_neg (by omega)]
   · rw [if_neg (by simpa using c2),QY (by omega),QY (by omega),QY (by omega),QY (by omega),if_pos (by omega)]
 refine ⟨h1,?_⟩
 obtain ⟨hs,vs,h2,h3⟩:=new_is N a
 rw [h1] at h2
 rw [Option.some.inj h2]
 exact h3
noncomputable section
def costR (facts:List Qz) (r:Qi):Nat:=Q3Z (tells facts) facts r.conds (newE r.vars).1 (newE r.vars).2
def goR (facts:List Qz) (r:Qi):List (List Int × List V):=goN (tells facts) facts r.conds (newE r.vars).1 (newE r.vars).2 []
def Q3F (facts:List Qz):List Qi → Nat → List Qv
 | [],_=>[]
 | r :: l,i=>(goR facts r).map (tokOf ((i:Nat):Int)) ++ Q3F facts l (i + 1)
def sumR (facts:List Qz):List Qi → Nat
 | []=>0
 | r :: l=>costR facts r + sumR facts l
end
theorem goR_len (facts:List Qz) (r:Qi):(goR facts r).length ≤ costR facts r + 1:=go_len _ _ _ _
theorem flatR_len (facts:List Qz) : ∀ (l:List Qi) (i:Nat),(Q3F facts l i).length ≤ sumR facts l + l.length
 | [],_=>by simp [Q3F]
 | r :: l,i=>by
   have:=flatR_len facts l (i + 1)
   have:=goR_len facts r
   simp only [Q3F,sumR,List.length_append,List.length_map,List.length_cons]
   omega
theorem all_is {N:Nat} (hN : 9223372036854775808 + 2000000 ≤ N) {types:List Ql} {rules:List Qi} {facts:List Qz} (hr : ∀ r ∈ rules,LightC r.conds facts ∧ r.conds.length ≤ 1000) (hf:facts.length ≤ 1000) (hrl:rules.length ≤ 1000) :
  Q7t N types rules facts [] = some (if sumR facts rules ≤ 4096 then .inr (Q3F facts rules 0) else .inl ()):=by
 have key : ∀ (m i fuel left:Nat) (out:List Qv),i + m = rules.length → m < fuel → left ≤ 4096 → out.length ≤ 4096 + i →
    out.length + left ≤ 4096 + i → Q1h (Q3H N rules facts) fuel (i,((left:Nat):Int),out) = some (if sumR facts (rules.drop i) ≤ left then .inl (out ++ Q3F facts (rules.drop i) i) else .inr (.inl ())):=by
  intro m
  induction m with
  | zero =>
    intro i fuel left out hi hfu h1 h2 h3
    obtain ⟨fuel,rfl⟩ : ∃ q,fuel = q + 1:=⟨fuel - 1,by omega⟩
    obtain rfl:i = rules.length:=by omega
    rw [Q2u (o:=.inl out) (by unfold Q3H; simp only; rw [if_neg (by simp)]),List.drop_length]
    simp [sumR,Q3F]
  | succ m ih =>
    intro i fuel left out hi hfu h1 h2 h3
    obtain ⟨fuel,rfl⟩ : ∃ q,fuel = q + 1:=⟨fuel - 1,by omega⟩
    have h:i < rules.length:=by omega
    obtain ⟨hL,hcl⟩:=hr _ (List.getElem_mem h)
    obtain ⟨hn,hI⟩:=newE_is N rules[i].vars
    have hon:=on_is (okTells hL) hcl (by omega) rules[i].acts rules[i].name rules[i].salience rules[i].vars ((i:Nat):Int) rules[i].conds.length N 0 (newE rules[i].vars).1 (newE rules[i].vars).2 [] left out (by omega) (by omega) hI (by simp) (by omega)
    simp only [Nat.lt_irrefl,if_false,Nat.zero_add,List.drop_zero] at hon
    have hon2:Q2k N (newE rules[i].vars).1 (newE rules[i].vars).2 rules[i].name rules[i].salience rules[i].vars rules[i].conds rules[i].acts facts ([] : List Int) ((left:Nat):Int) out ((i:Nat):Int) 0 = some (if costR facts rules[i] ≤ left then .inl (((left - costR facts rules[i] : Nat):Int),out ++ (goR facts rules[i]).map (tokOf ((i:Nat):Int))) else .inr ()):=hon
    rw [List.drop_eq_getElem_cons h,sumR,Q3F]
    have hg:=goR_len facts rules[i]
    by_cases hc:costR facts rules[i] ≤ left
    ·rw [if_pos hc] at hon2
     rw [Q5C (s':=(i + 1,((left - costR facts rules[i] : Nat):Int),out ++ (goR facts rules[i]).map (tokOf ((i:Nat):Int)))) (by
      unfold Q3H
      simp only
      rw [if_pos (by simpa using h),List.getElem?_eq_getElem h,Q7,hn,Q7,hon2,Q7]
      simp only
      rw [QY (by omega)]),ih (i + 1) fuel (left - costR facts rules[i]) _ (by omega) (by omega) (by omega) (by simp; omega) (by simp; omega)]
     by_cases h4:sumR facts (rules.drop (i + 1)) ≤ left - costR facts rules[i]
     · rw [if_pos h4,if_pos (by omega),List.append_assoc]
     · rw [if_neg h4,if_neg (by omega)]
    ·rw [if_neg hc] at hon2
     rw [Q2u (o:=.inr (.inl ())) (by
      unfold Q3H
      simp only
      rw [if_pos (by simpa using h),List.getElem?_eq_getElem h,Q7,hn,Q7,hon2,Q7]),if_neg (by omega)]
 unfold Q7t
 have hk:=key rules.length 0 N 4096 [] (by omega) (by omega) (by omega) (by simp) (by simp)
 rw [List.drop_zero,List.nil_append] at hk
 rw [show ((4096:Nat):Int) = (4096:Int) from rfl] at hk
 rw [hk]
 by_cases h4:sumR facts rules ≤ 4096
 · rw [if_pos h4,if_pos h4,Q1W]
 · rw [if_neg h4,if_neg h4,Q4B]
noncomputable def rightT (types:List Ql) (rules:List Qi) (facts:List Qz):Bool:=Q8Y types rules && Qbq types 0 facts
theorem tokens_is {N:Nat} (hN : 9223372036854775808 + 2000000 ≤ N) {types:List Ql} {rules:List Qi} {facts:List Qz} (hr : ∀ r ∈ rules,LightQ r ∧ LightC r.conds facts) (hf:facts.length ≤ 1000) (ha : ∀ f ∈ facts,f.args.length ≤ 4398046510976) :
   Q5g N types rules facts = some (if rightT types rules facts = true then (if sumR facts rules ≤ 4096 then (Q3F facts rules 0,0) else ([],204)) else ([],2)):=by
 unfold Q5g rightT
 rw [rightRules_is (by omega) (fun r h=>lightR_of (hr r h).1),Q7]
 cases hR:Q8Y types rules with
 | false=>rfl
 | true =>
   rw [if_neg (by simp),facts_is (by omega) (by omega) ha,Q7,Q7,Bool.true_and]
   cases hF:Qbq types 0 facts with
   | false=>rfl
   | true =>
     obtain ⟨h64,h8⟩:=right_conds hR
     rw [if_neg (by simp),if_pos rfl,all_is hN (fun r h=>⟨(hr r h).2,by have:=h8 r h; omega⟩) hf (by omega),Q7]
     by_cases h4:sumR facts rules ≤ 4096
     · rw [if_pos h4,if_pos h4]
     · rw [if_neg h4,if_neg h4]
theorem goN_ids {S:Tells} {facts:List Qz} : ∀ {cs:List QL} {hs:List Bool} {vs:List V} {ids:List Int} {x:List Int × List V},x ∈ goN S facts cs hs vs ids → x.1.length ≤ ids.length + cs.length ∧ (∀ i ∈ ids,i ∈ x.1) ∧ ∀ i ∈ x.1,i ∈ ids ∨ ∃ f ∈ facts,f.id = i
 | [],hs,vs,ids,x,h=>by
   rw [goN,List.mem_singleton] at h
   subst h
   exact ⟨by simp,fun _ h=>h,fun _ h=>.inl h⟩
 | c :: cs,hs,vs,ids,x,h=>by
   by_cases h3:c.kind = 3
   ·rw [go3 h3] at h
    split at h
    ·obtain ⟨a,b⟩:=goN_ids h
     exact ⟨by simp; omega,b⟩
    · cases h
   ·by_cases h2:c.kind = 2
    ·rw [go2 h3 h2] at h
     split at h
     · cases h
     ·obtain ⟨a,b⟩:=goN_ids h
      exact ⟨by simp; omega,b⟩
    ·rw [go1 h3 h2] at h
     obtain ⟨f,hf,hx⟩:=List.mem_flatMap.1 h
     unfold resF at hx
     split at hx
     ·obtain ⟨a,b,d⟩:=goN_ids hx
      refine ⟨by simp at a ⊢; omega,fun i hi=>b i (List.mem_append_left _ hi),fun i hi=>?_⟩
      rcases d i hi with hi | hi
      ·rcases List.mem_append.1 hi with hi | hi
       · exact .inl hi
       · exact .inr ⟨f,hf,(List.mem_singleton.1 hi).symm⟩
      · exact .inr hi
     · cases hx
theorem Q8S {facts:List Qz} : ∀ {l:List Qi} {i:Nat} {t:Qv},t ∈ Q3F facts l i ↔ ∃ k r,l[k]? = some r ∧ t.rule = ((i + k:Nat):Int) ∧ ∃ x ∈ goR facts r,t.ids = x.1
 | [],i,t=>by simp [Q3F]
 | r :: l,i,t=>by
   rw [Q3F,List.mem_append,Q8S (l:=l)]
   constructor
   ·rintro (h | ⟨k,q,h1,h2,h3⟩)
    · obtain ⟨x,hx,rfl⟩:=List.mem_map.1 h
      exact ⟨0,r,rfl,rfl,x,hx,rfl⟩
    · exact ⟨k + 1,q,by simpa using h1,by rw [h2]; omega,h3⟩
   ·rintro ⟨k,q,h1,h2,x,hx,h3⟩
    cases k with
    | zero =>
      left
      simp only [List.getElem?_cons_zero,Option.some.injEq] at h1
      subst h1
      refine List.mem_map.2 ⟨x,hx,?_⟩
      cases t
      simp only at h2 h3
      unfold tokOf
      rw [h2,h3]; rfl
    | succ k =>
      right
      exact ⟨k,q,by simpa using h1,by rw [h2]; omega,x,hx,h3⟩
theorem flatR_ids {facts:List Qz} {l:List Qi} (hl : ∀ r ∈ l,r.conds.length ≤ 8) {i:Nat} {t:Qv} (h:t ∈ Q3F facts l i):t.ids.length ≤ 8:=by
 obtain ⟨k,r,h1,_,x,hx,h2⟩:=Q8S.1 h
 have:=(goN_ids hx).1
 have:=hl r (List.mem_of_getElem? h1)
 rw [h2]
 simp at *
 omega
theorem pick_is {N:Nat} {o k:Int} (hk : 0 < k) (hk2:k ≤ 1000) : ∃ v:Nat,Q5j N o k = some ((v:Nat):Int) ∧ ((v:Nat):Int) < k:=by
 unfold Q5j
 have h1:=Int.tmod_lt_of_pos o hk
 rw [if_neg (by simp; omega),QY (by omega)]
 by_cases hm:Int.tmod o k < 0
 ·have h2 : -k < Int.tmod o k:=Int.lt_tmod_of_pos o hk
  rw [if_pos (by simpa using hm),QY (by omega),Q7]
  exact ⟨(Int.tmod o k + k).toNat,by rw [Int.toNat_of_nonneg (by omega)],by omega⟩
 ·rw [if_neg (by simpa using hm),Q7]
  exact ⟨(Int.tmod o k).toNat,by rw [Int.toNat_of_nonneg (by omega)],by omega⟩
theorem sameInts_is {N:Nat} (hN : 9223372036854775808 ≤ N) {l m:List Int} (hl:l.length ≤ 1000000):Says (Q3I N l m) (l = m):=by
 unfold Q3I
 refine Says.same hN (by omega) (fun hlen i x y hi hx hy=>⟨x == y,by simp,?_⟩) (fun i hi=>?_)
 ·unfold Q31
  rw [if_pos (by simpa using hi),hx,Q7,hy,Q7]
  by_cases h:x = y
  · rw [if_neg (by simpa using h),if_pos (by simpa using h),QY (by omega)]
  · rw [if_pos (by simpa using h),if_neg (by simpa using h)]
 ·unfold Q31
  rw [if_neg (by simpa using hi)]
theorem sameTok_is {N:Nat} (hN : 9223372036854775808 ≤ N) {a b:Int} {l m:List Int} (hl:l.length ≤ 1000000):Says (Q3m N a l b m) (a = b ∧ l = m):=by
 unfold Q3m
 exact Says.and (sameInts_is hN hl).id (by simp)
end Go.Proofs.YtbgodclhmgmcgaaGreatDoor
