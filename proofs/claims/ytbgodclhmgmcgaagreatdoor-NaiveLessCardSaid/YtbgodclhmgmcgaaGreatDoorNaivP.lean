import Derived.Test.YtbgodclhmgmcgaaGreatDoorXM
import Derived.Test.YtbgodclhmgmcgaaGreatDoorExprN
namespace Go.Proofs.YtbgodclhmgmcgaaGreatDoor
open Go Go.RowKit
structure Tells where
 mt:QL → List Bool → List V → Qz → Option (List Bool × List V)
 ev:QL → List V → Bool
 sm:QL → List Bool → List V → Bool
section
variable (S:Tells) (facts:List Qz)
def goN:List QL → List Bool → List V → List Int → List (List Int × List V)
 | [],_,vs,ids=>[(ids,vs)]
 | c :: cs,hs,vs,ids =>
   if c.kind = 3 then (if S.ev c vs then goN cs hs vs ids else [])
   else if c.kind = 2 then (if S.sm c hs vs then [] else goN cs hs vs ids)
   else facts.flatMap fun f => match S.mt c hs vs f with
    | some p=>goN cs p.1 p.2 (ids ++ [f.id])
    | none=>[]
def Q3Z:List QL → List Bool → List V → Nat
 | [],_,_=>0
 | c :: cs,hs,vs =>
   if c.kind = 3 then (if S.ev c vs then 1 + Q3Z cs hs vs else 0)
   else if c.kind = 2 then (if S.sm c hs vs then 0 else 1 + Q3Z cs hs vs)
   else (facts.map fun f => match S.mt c hs vs f with
    | some p=>1 + Q3Z cs p.1 p.2
    | none=>0).sum
def resF (c:QL) (cs:List QL) (hs:List Bool) (vs:List V) (ids:List Int) (f:Qz):List (List Int × List V):=match S.mt c hs vs f with
 | some p=>goN S facts cs p.1 p.2 (ids ++ [f.id])
 | none=>[]
def cosF (c:QL) (cs:List QL) (hs:List Bool) (vs:List V) (f:Qz):Nat:=match S.mt c hs vs f with
 | some p=>1 + Q3Z S facts cs p.1 p.2
 | none=>0
end
def tokOf (r:Int) (x:List Int × List V):Qv:=⟨r,x.1⟩
theorem flat_len {α β:Type} {l:List α} {g : α → List β} {h : α → Nat} (hl : ∀ x ∈ l,(g x).length ≤ h x):(l.flatMap g).length ≤ (l.map h).sum:=by
 induction l with
 | nil=>simp
 | cons x l ih =>
   rw [List.flatMap_cons,List.length_append,List.map_cons,List.sum_cons]
   have:=ih fun y hy=>hl y (List.mem_cons_of_mem _ hy)
   have:=hl x List.mem_cons_self
   omega
theorem go_len {S:Tells} {facts:List Qz} : ∀ (cs:List QL) (hs:List Bool) (vs:List V) (ids:List Int),(goN S facts cs hs vs ids).length ≤ Q3Z S facts cs hs vs + 1
 | [],hs,vs,ids=>by simp [goN,Q3Z]
 | c :: cs,hs,vs,ids=>by
   unfold goN Q3Z
   split
   ·split
    · have:=go_len (S:=S) (facts:=facts) cs hs vs ids; omega
    · simp
   ·split
    ·split
     · simp
     · have:=go_len (S:=S) (facts:=facts) cs hs vs ids; omega
    ·refine Nat.le_succ_of_le (flat_len fun f _=>?_)
     cases hm:S.mt c hs vs f with
     | some p=>have:=go_len (S:=S) (facts:=facts) cs p.1 p.2 (ids ++ [f.id]); simp only; omega
     | none=>simp
section
variable {S:Tells} {facts:List Qz} {c:QL} {cs:List QL} {hs:List Bool} {vs:List V} {ids:List Int}
theorem cost3 (h:c.kind = 3):Q3Z S facts (c :: cs) hs vs = if S.ev c vs then 1 + Q3Z S facts cs hs vs else 0:=by rw [Q3Z,if_pos h]
theorem cost2 (h3 : ¬ c.kind = 3) (h:c.kind = 2):Q3Z S facts (c :: cs) hs vs = if S.sm c hs vs then 0 else 1 + Q3Z S facts cs hs vs:=by rw [Q3Z,if_neg h3,if_pos h]
theorem cost1 (h3 : ¬ c.kind = 3) (h : ¬ c.kind = 2):Q3Z S facts (c :: cs) hs vs = (facts.map (cosF S facts c cs hs vs)).sum:=by rw [Q3Z,if_neg h3,if_neg h]; rfl
theorem go3 (h:c.kind = 3):goN S facts (c :: cs) hs vs ids = if S.ev c vs then goN S facts cs hs vs ids else []:=by rw [goN,if_pos h]
theorem go2 (h3 : ¬ c.kind = 3) (h:c.kind = 2):goN S facts (c :: cs) hs vs ids = if S.sm c hs vs then [] else goN S facts cs hs vs ids:=by rw [goN,if_neg h3,if_pos h]
theorem go1 (h3 : ¬ c.kind = 3) (h : ¬ c.kind = 2):goN S facts (c :: cs) hs vs ids = facts.flatMap (resF S facts c cs hs vs ids):=by rw [goN,if_neg h3,if_neg h]; rfl
end
structure OkS (S:Tells) (I:List Bool → List V → Prop) (conds:List QL) (facts:List Qz):Prop where
 mt : ∀ N,9223372036855775808 ≤ N → ∀ c ∈ conds,c.kind ≠ 3 → c.kind ≠ 2 → ∀ f ∈ facts,∀ hs vs,I hs vs →
  ∃ a b,Q3U N c.kind c.type c.args c.test.kind c.test.value.k c.test.value.n c.test.value.s c.test.var c.test.op c.test.kids f.id f.ty f.args hs vs = some (a,b,(S.mt c hs vs f).isSome) ∧ ∀ p,S.mt c hs vs f = some p → p = (a,b) ∧ I a b
 ev : ∀ N,9223372036855775808 ≤ N → ∀ c ∈ conds,c.kind = 3 → ∀ hs vs,I hs vs →
  ∃ k n s e,Q2j N c.test.kind c.test.value.k c.test.value.n c.test.value.s c.test.var c.test.op c.test.kids vs = some (k,n,s,e) ∧ S.ev c vs = (e == 0 && (k == 1 && n != 0))
 sm : ∀ N,9223372036855775808 ≤ N → ∀ c ∈ conds,c.kind = 2 → ∀ hs vs,I hs vs →
  Q5i N c.kind c.type c.args c.test.kind c.test.value.k c.test.value.n c.test.value.s c.test.var c.test.op c.test.kids hs vs facts = some (S.sm c hs vs)
 len : ∀ hs vs,I hs vs → vs.length ≤ 1000
abbrev RC:=(List Bool) → (List V) → ByteArray → Int → Int → (List QL) → (List Q19) → (List Qz) → (List Int) → Int → (List Qv) → Int → Int → Option ((Int × (List Qv)) ⊕ Unit)
theorem loop_is {S:Tells} {I:List Bool → List V → Prop} {conds:List QL} {facts:List Qz} (ok:OkS S I conds facts) {rc:RC} {c:QL} (hcm:c ∈ conds) (h3:c.kind ≠ 3) (h2:c.kind ≠ 2) {cs:List QL} {hs:List Bool} {vs:List V} (hI:I hs vs) {ids:List Int}
   (hids:ids.length ≤ 100000) {acts:List Q19} {a2:ByteArray} {a3 a4 ri:Int} {k M:Nat} (hk:k ≤ 100000) (hM : 9223372036855775808 ≤ M) (hfl:facts.length ≤ 100000) (B:Nat)
   (hrc : ∀ f ∈ facts,∀ p,S.mt c hs vs f = some p → I p.1 p.2 → ∀ (left:Nat) (out:List Qv),out.length + left ≤ B →
     rc p.1 p.2 a2 a3 a4 conds acts facts (ids ++ [f.id]) ((left:Nat):Int) out ri ((k + 1:Nat):Int) = some (if 1 + Q3Z S facts cs p.1 p.2 ≤ left then .inl (((left - (1 + Q3Z S facts cs p.1 p.2):Nat):Int),out ++ (goN S facts cs p.1 p.2 (ids ++ [f.id])).map (tokOf ri)) else .inr ())) :
   ∀ (m i fuel:Nat) (hj:List Bool) (vj:List V) (ij:List Int) (left:Nat) (out:List Qv),i + m = facts.length → m < fuel → out.length + left ≤ B →
     ∃ hj' vj' ij',Q1h (Q24 M facts c hs vs ids ((k:Nat):Int) rc a2 a3 a4 conds acts ri) fuel (i,hj,vj,ij,((left:Nat):Int),out) =
       some (if ((facts.drop i).map (cosF S facts c cs hs vs)).sum ≤ left then .inl (hj',vj',ij',((left - ((facts.drop i).map (cosF S facts c cs hs vs)).sum:Nat):Int),out ++ ((facts.drop i).flatMap (resF S facts c cs hs vs ids)).map (tokOf ri)) else .inr (.inr ())):=by
 intro m
 induction m with
 | zero =>
   intro i fuel hj vj ij left out him hfu _
   obtain ⟨fuel,rfl⟩ : ∃ q,fuel = q + 1:=⟨fuel - 1,by omega⟩
   refine ⟨hj,vj,ij,?_⟩
   rw [Q2u (o:=.inl (hj,vj,ij,((left:Nat):Int),out)) (by unfold Q24; simp only; rw [if_neg (by simp; omega)]),List.drop_of_length_le (by omega)]
   simp
 | succ m ih =>
   intro i fuel hj vj ij left out him hfu hB
   obtain ⟨fuel,rfl⟩ : ∃ q,fuel = q + 1:=⟨fuel - 1,by omega⟩
   have hi:i < facts.length:=by omega
   have hmem:facts[i] ∈ facts:=List.getElem_mem hi
   obtain ⟨a,b,hm,hp⟩:=ok.mt M hM c hcm h3 h2 facts[i] hmem hs vs hI
   have hd:facts.drop i = facts[i] :: facts.drop (i + 1):=List.drop_eq_getElem_cons hi
   rw [hd,List.map_cons,List.sum_cons,List.flatMap_cons]
   cases hmt:S.mt c hs vs facts[i] with
   | none =>
     have e1:cosF S facts c cs hs vs facts[i] = 0:=by unfold cosF; rw [hmt]
     have e2:resF S facts c cs hs vs ids facts[i] = []:=by unfold resF; rw [hmt]
     rw [e1,e2,Nat.zero_add,List.nil_append]
     obtain ⟨x,y,z,hx⟩:=ih (i + 1) fuel hj vj ij left out (by omega) (by omega) hB
     refine ⟨x,y,z,?_⟩
     rw [Q5C (s':=(i + 1,hj,vj,ij,((left:Nat):Int),out)),hx]
     unfold Q24
     simp only
     rw [if_pos (by simpa using hi)]
     unfold Q4q
     rw [List.getElem?_eq_getElem hi,Q7,hm,Q7]
     simp only [hmt,Option.isSome_none]
     rw [if_pos (by rfl),Q1W,QY (by omega)]
   | some p =>
     obtain ⟨hpe,hpI⟩:=hp p hmt
     have e1:cosF S facts c cs hs vs facts[i] = 1 + Q3Z S facts cs p.1 p.2:=by unfold cosF; rw [hmt]
     have e2:resF S facts c cs hs vs ids facts[i] = goN S facts cs p.1 p.2 (ids ++ [facts[i].id]):=by unfold resF; rw [hmt]
     have hpI' : I p.1 p.2:=by rw [hpe]; exact hpI
     have hr:=hrc facts[i] hmem p hmt hpI' left out hB
     rw [e1,e2]
     have ha:a = p.1:=by rw [hpe]
     have hb:b = p.2:=by rw [hpe]
     have hC5:Q4q M facts i c hs vs hj vj ij ((left:Nat):Int) out ids ((k:Nat):Int) rc a2 a3 a4 conds acts ri =
        if 1 + Q3Z S facts cs p.1 p.2 ≤ left then some (.inl (p.1,p.2,ids ++ [facts[i].id],((left - (1 + Q3Z S facts cs p.1 p.2):Nat):Int),out ++ (goN S facts cs p.1 p.2 (ids ++ [facts[i].id])).map (tokOf ri))) else some (.inr (.inr (.inr (.inr ())))):=by
       unfold Q4q
       rw [List.getElem?_eq_getElem hi,Q7,hm,Q7]
       simp only [hmt,Option.isSome_some]
       rw [if_neg (by simp),QY (by omega),QY (by simp; omega),QY (by omega),List.take_of_length_le (Nat.le_refl _),ha,hb,show ((k:Nat):Int) + 1 = ((k + 1:Nat):Int) from by omega,hr,Q7]
       by_cases hle : 1 + Q3Z S facts cs p.1 p.2 ≤ left
       · rw [if_pos hle,if_pos hle]
       · rw [if_neg hle,if_neg hle]
     by_cases hle : 1 + Q3Z S facts cs p.1 p.2 ≤ left
     · rw [if_pos hle] at hC5
       have hlen:=go_len (S:=S) (facts:=facts) cs p.1 p.2 (ids ++ [facts[i].id])
       obtain ⟨x,y,z,hx⟩:=ih (i + 1) fuel p.1 p.2 (ids ++ [facts[i].id]) (left - (1 + Q3Z S facts cs p.1 p.2)) (out ++ (goN S facts cs p.1 p.2 (ids ++ [facts[i].id])).map (tokOf ri)) (by omega) (by omega) (by simp; omega)
       refine ⟨x,y,z,?_⟩
       rw [Q5C (s':=(i + 1,p.1,p.2,ids ++ [facts[i].id],((left - (1 + Q3Z S facts cs p.1 p.2):Nat):Int),out ++ (goN S facts cs p.1 p.2 (ids ++ [facts[i].id])).map (tokOf ri))),hx]
       ·by_cases h4:((facts.drop (i + 1)).map (cosF S facts c cs hs vs)).sum ≤ left - (1 + Q3Z S facts cs p.1 p.2)
        · rw [if_pos h4,if_pos (by omega),List.map_append,List.append_assoc,Nat.sub_sub]
        · rw [if_neg h4,if_neg (by omega)]
       ·unfold Q24
        simp only
        rw [if_pos (by simpa using hi),hC5,Q1W,QY (by omega)]
     · rw [if_neg hle] at hC5
       refine ⟨hj,vj,ij,?_⟩
       rw [Q2u (o:=.inr (.inr ())),if_neg (by omega)]
       unfold Q24
       simp only
       rw [if_pos (by simpa using hi),hC5,Q4B]
theorem c1N_is {M k left:Nat} (hl:left ≤ 1000000000000000):Q5O M ((k:Nat):Int) ((left:Nat):Int) = if 0 < k ∧ left = 0 then some (.inr (.inr ())) else some (.inl ((left - (if 0 < k then 1 else 0):Nat):Int)):=by
 unfold Q5O
 by_cases hk : 0 < k
 ·rw [if_pos (by simpa using hk),QY (by omega)]
  by_cases h0:left = 0
  · rw [if_pos (by simp [h0]),if_pos ⟨hk,h0⟩]
  · rw [if_neg (by simp; omega),if_neg (fun h=>h0 h.2),if_pos hk,show ((left:Nat):Int) - 1 = ((left - 1:Nat):Int) from by omega]
 · rw [if_neg (by simpa using hk),if_neg (fun h=>hk h.1),if_neg hk,Nat.sub_zero]
theorem on_is {S:Tells} {I:List Bool → List V → Prop} {conds:List QL} {facts:List Qz} (ok:OkS S I conds facts) (hcl:conds.length ≤ 1000) (hfl:facts.length ≤ 100000) (acts:List Q19) (a2:ByteArray) (a3 a4 ri:Int) :
   ∀ (j N k:Nat) (hs:List Bool) (vs:List V) (ids:List Int) (left:Nat) (out:List Qv),k + j = conds.length → 9223372036855775808 + j < N → I hs vs → ids.length ≤ 1000 + k → out.length + left ≤ 4000000000000 →
     Q2k N hs vs a2 a3 a4 conds acts facts ids ((left:Nat):Int) out ri ((k:Nat):Int) =
       some (if (if 0 < k then 1 else 0) + Q3Z S facts (conds.drop k) hs vs ≤ left then .inl (((left - ((if 0 < k then 1 else 0) + Q3Z S facts (conds.drop k) hs vs):Nat):Int),out ++ (goN S facts (conds.drop k) hs vs ids).map (tokOf ri)) else .inr ()):=by
 intro j
 induction j with
 | zero =>
   intro N k hs vs ids left out hkj hN hI hids hB
   obtain ⟨M,rfl⟩ : ∃ q,N = q + 1:=⟨N - 1,by omega⟩
   show Q2s M (Q2k M) hs vs a2 a3 a4 conds acts facts ids ((left:Nat):Int) out ri ((k:Nat):Int) = _
   unfold Q2s
   rw [c1N_is (by omega),List.drop_of_length_le (by omega)]
   have hv:=ok.len hs vs hI
   have e0:Q3Z S facts [] hs vs = 0:=by rw [Q3Z]
   have p0 : 0 < k → (if 0 < k then 1 else 0) = 1:=fun h=>if_pos h
   have p1 : ¬ 0 < k → (if 0 < k then 1 else 0) = 0:=fun h=>if_neg h
   rw [e0,Nat.add_zero]
   generalize (if 0 < k then 1 else 0) = pre at p0 p1 ⊢
   by_cases h0 : 0 < k ∧ left = 0
   · rw [if_pos h0,Q4B,if_neg (by have:=p0 h0.1; omega)]
   · have hp:pre ≤ left:=by
       by_cases hk : 0 < k
       · have:=p0 hk
         have:left ≠ 0:=fun e=>h0 ⟨hk,e⟩
         omega
       · have:=p1 hk; omega
     rw [if_neg h0,Q1W,if_pos (by simp; omega),if_pos hp]
     unfold Q97 Q7J
     rw [QY (by omega),QY (by omega),QY (by simp; omega),Q7,Q7]
     simp [goN,tokOf]
 | succ j ih =>
   intro N k hs vs ids left out hkj hN hI hids hB
   obtain ⟨M,rfl⟩ : ∃ q,N = q + 1:=⟨N - 1,by omega⟩
   show Q2s M (Q2k M) hs vs a2 a3 a4 conds acts facts ids ((left:Nat):Int) out ri ((k:Nat):Int) = _
   unfold Q2s
   have hk:k < conds.length:=by omega
   have hmem:conds[k] ∈ conds:=List.getElem_mem hk
   have hd:conds.drop k = conds[k] :: conds.drop (k + 1):=List.drop_eq_getElem_cons hk
   rw [c1N_is (by omega)]
   by_cases h0 : 0 < k ∧ left = 0
   · rw [if_pos h0,Q4B,if_neg (by rw [if_pos h0.1]; omega)]
   rw [if_neg h0,Q1W,if_neg (by simp; omega),QY (by omega),show ((k:Nat):Int).toNat = k from by omega,List.getElem?_eq_getElem hk,Q7]
   have hp:(if 0 < k then 1 else 0) ≤ left:=by split <;> omega
   generalize hpre:(if 0 < k then 1 else 0) = pre at hp ⊢
   have hk1:((k:Nat):Int) + 1 = ((k + 1:Nat):Int):=by omega
   have pos1 : ∀ n:Nat,(if 0 < n + 1 then 1 else 0) = 1:=fun n=>if_pos (Nat.succ_pos n)
   by_cases h3:conds[k].kind = 3
   · obtain ⟨x,n,s,e,he,hev⟩:=ok.ev M (by omega) conds[k] hmem h3 hs vs hI
     rw [if_pos (by simpa using h3),he,Q7]
     have hb:(if (e == 0) = true then (if (x == 1) = true then some (n != 0) else some false) else some false) = some (S.ev conds[k] vs):=by
       rw [hev]
       cases (e == 0) <;> cases (x == 1) <;> rfl
     simp only
     rw [hb,Q7]
     have eC:Q3Z S facts (conds.drop k) hs vs = if S.ev conds[k] vs then 1 + Q3Z S facts (conds.drop (k + 1)) hs vs else 0:=by rw [hd,cost3 h3]
     have eG:goN S facts (conds.drop k) hs vs ids = if S.ev conds[k] vs then goN S facts (conds.drop (k + 1)) hs vs ids else []:=by rw [hd,go3 h3]
     rw [eC,eG]
     cases hT:S.ev conds[k] vs with
     | true =>
       have hr:=ih M (k + 1) hs vs ids (left - pre) out (by omega) (by omega) hI (by omega) (by omega)
       rw [pos1] at hr
       rw [if_pos rfl,QY (by omega),hk1,hr,Q7]
       simp only [if_true]
       by_cases hle : 1 + Q3Z S facts (conds.drop (k + 1)) hs vs ≤ left - pre
       · rw [if_pos hle,if_pos (by omega),Nat.sub_sub]
       · rw [if_neg hle,if_neg (by omega)]
     | false =>
       rw [if_neg (by simp),if_pos (by simp; omega)]
       simp
   · rw [if_neg (by simpa using h3)]
     by_cases h2:conds[k].kind = 2
     · rw [if_pos (by simpa using h2),ok.sm M (by omega) conds[k] hmem h2 hs vs hI,Q7]
       have eC:Q3Z S facts (conds.drop k) hs vs = if S.sm conds[k] hs vs then 0 else 1 + Q3Z S facts (conds.drop (k + 1)) hs vs:=by rw [hd,cost2 h3 h2]
       have eG:goN S facts (conds.drop k) hs vs ids = if S.sm conds[k] hs vs then [] else goN S facts (conds.drop (k + 1)) hs vs ids:=by rw [hd,go2 h3 h2]
       rw [eC,eG]
       cases hT:S.sm conds[k] hs vs with
       | false =>
         have hr:=ih M (k + 1) hs vs ids (left - pre) out (by omega) (by omega) hI (by omega) (by omega)
         rw [pos1] at hr
         rw [if_pos (show (!false) = true from rfl),QY (by omega),hk1,hr,Q7]
         simp only [Bool.false_eq_true,if_false]
         by_cases hle : 1 + Q3Z S facts (conds.drop (k + 1)) hs vs ≤ left - pre
         · rw [if_pos hle,if_pos (by omega),Nat.sub_sub]
         · rw [if_neg hle,if_neg (by omega)]
       | true =>
         rw [if_neg (by simp)]
         simp only [if_true]
         rw [if_pos (by omega)]
         simp
     · rw [if_neg (by simpa using h2)]
       have eC:Q3Z S facts (conds.drop k) hs vs = (facts.map (cosF S facts conds[k] (conds.drop (k + 1)) hs vs)).sum:=by rw [hd,cost1 h3 h2]
       have eG:goN S facts (conds.drop k) hs vs ids = facts.flatMap (resF S facts conds[k] (conds.drop (k + 1)) hs vs ids):=by rw [hd,go1 h3 h2]
       rw [eC,eG]
       obtain ⟨x,y,z,hx⟩:=loop_is ok hmem h3 h2 (cs:=conds.drop (k + 1)) hI (ids:=ids) (by omega) (acts:=acts) (a2:=a2) (a3:=a3) (a4:=a4) (ri:=ri) (k:=k) (M:=M) (by omega) (by omega) hfl 4000000000000 (rc:=Q2k M) (fun f _ p _ hpI left2 out2 hB2=>by
         have hr:=ih M (k + 1) p.1 p.2 (ids ++ [f.id]) left2 out2 (by omega) (by omega) hpI (by simp; omega) hB2
         rw [pos1] at hr
         exact hr) facts.length 0 M hs vs ids (left - pre) out (by omega) (by omega) (by omega)
       rw [List.drop_zero] at hx
       rw [hx]
       by_cases hle:(facts.map (cosF S facts conds[k] (conds.drop (k + 1)) hs vs)).sum ≤ left - pre
       · rw [if_pos hle,Q1W,if_pos (by omega),Nat.sub_sub]
       · rw [if_neg hle,Q4B,if_neg (by omega)]
end Go.Proofs.YtbgodclhmgmcgaaGreatDoor
