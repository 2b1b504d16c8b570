import Derived.Test.YtbgodclhmgmcgaaGreatDoorNaivX
import Derived.Test.YtbgodclhmgmcgaaGreatDoorNaivPD
namespace Go.Proofs.YtbgodclhmgmcgaaGreatDoor
open Go Go.RowKit
theorem newE_env {a:Int} (h0 : 0≤a)(h16:a≤16):newE a=(envH a.toNat 0,Q8N a.toNat []):=by
 unfold newE envH Q8N
 rw [if_pos ⟨h0,h16⟩]
 simp [Q87]
theorem rule_doc {types:List Q8} {facts:List QP} (hF:FactsOk types facts) {r:Qf} (hr:Qa5 types r=true)(hcs : ∀ c∈r.conds,Q8a c.test≤1000) :
  goR facts r=(docGo facts r.conds ⟨[],[]⟩).map (fun x=>(x.ids,Q8N r.vars.toNat x.vars))∧costR facts r=Q7O facts r.conds ⟨[],[]⟩:=by
 unfold Qa5 at hr
 simp only [Bool.and_eq_true,decide_eq_true_eq] at hr
 obtain ⟨_,hb,⟨hv,h16⟩,_⟩:=hr
 have hp:=QaA types r.conds 0 0
 unfold goR costR
 rw [newE_env (by omega) (by omega)]
 exact go_doc hF.typed (w:=⟨[],[]⟩) (k:=0) hcs hb (by show (Q4m types r.conds 0 0).2.1≤_;omega)
theorem push_iter {N:Nat} {L:List Q9} {i all n:Nat} (hL:L.length≤1000000) : ∀ (m k fuel:Nat)(out:List Ql),k+m=L.length→m < fuel→out.length≤1000000+k→
   Q1e (Q2A N L i all n) fuel (k,out)=some (.inl (all+n,out++(L.drop k).map fun w=>⟨((i:Nat):Int),w.ids⟩)):=by
 intro m
 induction m with
 | zero =>
   intro k fuel out hk hf _
   obtain ⟨fuel,rfl⟩ : ∃ q,fuel=q+1:=⟨fuel - 1,by omega⟩
   obtain rfl:k=L.length:=by omega
   rw [Q1c (o:=.inl (all+n,out)) (by unfold Q2A;simp only;rw [if_neg (by simp)]),List.drop_length]
   simp
 | succ m ih =>
   intro k fuel out hk hf ho
   obtain ⟨fuel,rfl⟩ : ∃ q,fuel=q+1:=⟨fuel - 1,by omega⟩
   have h:k < L.length:=by omega
   rw [Q2c (s':=(k+1,out++[⟨((i:Nat):Int),L[k].ids⟩])) (by
    unfold Q2A
    simp only
    rw [if_pos (by simpa using h),List.getElem?_eq_getElem h,Q0,Qr (by simp;omega),Qr (by omega)]),ih (k+1) fuel _ (by omega) (by omega) (by simp;omega),List.drop_eq_getElem_cons h,List.map_cons,List.append_assoc]
   rfl
theorem rtokens_iter {N:Nat} (hN : 9223372036855775808≤N) {types:List Q8} {facts:List QP} (hF:FactsOk types facts) {rules:List Qf} (hrl:rules.length≤64)(hr : ∀ r∈rules,Qa5 types r=true)(hcs : ∀ r∈rules,∀ c∈r.conds,CondL c) :
   ∀ (m i fuel all:Nat) (out:List Ql),i + m = rules.length → m < fuel → all ≤ 4096 → out.length ≤ all + i →
     Q1e (Q1M N rules facts) fuel (i,all,out)=some (if all+sumR facts (rules.drop i)≤4096 then .inl (out++Qa8 facts (rules.drop i) i) else .inr ([],204)):=by
 intro m
 induction m with
 | zero =>
   intro i fuel all out hi hf hall _
   obtain ⟨fuel,rfl⟩ : ∃ q,fuel=q+1:=⟨fuel - 1,by omega⟩
   obtain rfl:i=rules.length:=by omega
   rw [Q1c (o:=.inl out) (by unfold Q1M;simp only;rw [if_neg (by simp)]),List.drop_length]
   simp [sumR,Qa8,hall]
 | succ m ih =>
   intro i fuel all out hi hf hall ho
   obtain ⟨fuel,rfl⟩ : ∃ q,fuel=q+1:=⟨fuel - 1,by omega⟩
   have h:i < rules.length:=by omega
   have hmem:=List.getElem_mem h
   obtain ⟨L,n,l1,l2,l3⟩:=ways_is hN hF (hr _ hmem) (hcs _ hmem)
   obtain ⟨d1,d2⟩:=rule_doc hF (hr _ hmem) (fun c hc=>(hcs _ hmem c hc).test.1)
   rw [List.drop_eq_getElem_cons h,sumR,Qa8,d1,d2]
   by_cases hmany : 4096 < all+n
   · rw [Q1c (o:=.inr ([],204)) (by
      unfold Q1M Q5o
      simp only
      rw [if_pos (by simpa using h),List.getElem?_eq_getElem h,Q0,l1,Q0]
      simp only
      rw [Qr (by omega),if_pos (by simpa using hmany),Q1K]),if_neg (by rcases l3 with l3 | l3 <;> omega)]
   · obtain ⟨l3,l4⟩ : L = docGo facts rules[i].conds ⟨[],[]⟩ ∧ n = Q7O facts rules[i].conds ⟨[],[]⟩:=by
      rcases l3 with l3 | l3
      · exact l3
      · omega
     have hg:=goR_len facts rules[i]
     rw [d1,d2,List.length_map,← l3,← l4] at hg
     have hp:=push_iter (N:=N) (L:=L) (i:=i) (all:=all) (n:=n) (by omega) L.length 0 N out (by omega) (by omega) (by omega)
     rw [List.drop_zero] at hp
     have hst:Q1M N rules facts (i,all,out)=some (.inl (i+1,all+n,out++L.map fun w=>⟨((i:Nat):Int),w.ids⟩)):=by
      unfold Q1M Q5o
      simp only
      rw [if_pos (by simpa using h),List.getElem?_eq_getElem h,Q0,l1,Q0]
      simp only
      rw [Qr (by omega),if_neg (by simpa using hmany),hp,Q1b,Qr (by omega)]
     rw [Q2c hst,ih (i+1) fuel (all+n) _ (by omega) (by omega) (by omega) (by simp;omega),← l3,← l4]
     have e1:(L.map fun x=>(x.ids,Q8N rules[i].vars.toNat x.vars)).map (tokOf ((i:Nat):Int))=L.map fun w=>⟨((i:Nat):Int),w.ids⟩:=by rw [List.map_map];rfl
     rw [e1]
     by_cases h4:all+n+sumR facts (rules.drop (i+1))≤4096
     · rw [if_pos h4,if_pos (by omega),List.append_assoc]
     · rw [if_neg h4,if_neg (by omega)]
theorem right_whole {types:List Q8} {rules:List Qf} (h:Q79 types rules=true) : ∀ r∈rules,Qa5 types r=true:=by
 intro r hr
 unfold Q79 at h
 simp only [Bool.and_eq_true,decide_eq_true_eq] at h
 obtain ⟨i,hi,rfl⟩:=List.getElem_of_mem hr
 have h5:=List.all_eq_true.1 h.2.2 i (by simp [List.mem_range'_1];exact hi)
 unfold ruleP at h5
 rw [List.getElem?_eq_getElem hi] at h5
 simp only [Bool.and_eq_true] at h5
 exact h5.2
theorem facts_typed {types:List Q8} : ∀ {l:List QP} {last:Int},Q9v types last l=true→∀ f∈l,Q3T types f.ty ((f.args.length:Nat):Int)=true
 | [],_,_,f,hf=>by cases hf
 | g :: l,last,h,f,hf=>by
   rw [Q9v] at h
   simp only [Bool.and_eq_true] at h
   rcases List.mem_cons.1 hf with rfl | hf
   ·have:=h.1
    unfold factP at this
    simp only [Bool.and_eq_true] at this
    exact this.2.1
   · exact facts_typed h.2 f hf
structure LightIn (types:List Q8) (rules:List Qf) (facts:List QP):Prop where
 tname : ∀ t∈types,t.name.size≤9223372036854775807
 rules : ∀ r∈rules,ShortR r∧∀ c∈r.conds,CondL c
 few:facts.length≤1000
 args : ∀ f∈facts,f.args.length≤4398046510976∧∀ v∈f.args,okV v
theorem shortV_okV {v:V} (h:okV v):QcI v:=by have:=h.2;unfold QcI;omega
theorem LightIn.facts {types:List Q8} {rules:List Qf} {facts:List QP} (h:LightIn types rules facts)(hf:Q9v types 0 facts=true):FactsOk types facts:=⟨h.few,facts_typed hf,fun f hfm=>(h.args f hfm).2⟩
theorem rtokens_is {N:Nat} (hN : 9223372036854775808+2000000≤N) {types:List Q8} {rules:List Qf} {facts:List QP} (hI:LightIn types rules facts) :
   Q51 N types rules facts=some (if rightT types rules facts=true then (if sumR facts rules≤4096 then (Qa8 facts rules 0,0) else ([],204)) else ([],2)):=by
 unfold Q51 rightT
 rw [rright_rules (by omega) hI.tname (fun r hr=>(hI.rules r hr).1),Q0]
 have hfw:=hI.few
 cases hR:Q79 types rules with
 | false=>rfl
 | true =>
   rw [if_neg (by simp),rfacts_is (by omega) (by omega) (fun f hf=>⟨(hI.args f hf).1,fun v hv=>shortV_okV ((hI.args f hf).2 v hv)⟩),Q0,Q0,Bool.true_and]
   cases hF:Q9v types 0 facts with
   | false=>rfl
   | true =>
     obtain ⟨h64,_⟩:=Qe3 hR
     rw [if_neg (by simp),if_pos rfl,rtokens_iter (by omega) (hI.facts hF) h64 (right_whole hR) (fun r hr=>(hI.rules r hr).2) rules.length 0 N 0 [] (by omega) (by omega) (by omega) (by simp),List.drop_zero,List.nil_append,Nat.zero_add]
     by_cases h4:sumR facts rules≤4096
     · rw [if_pos h4,if_pos h4,Q1b]
     · rw [if_neg h4,if_neg h4,Q1K]
theorem lightIn_of {types:List Q8} {rules:List Qf} {facts:List QP} (ht : ∀ t∈types,Qb9 t)(hr : ∀ r∈rules,Q7z r)(hf : ∀ f∈facts,Qe1 f)(hq : ∀ r∈rules,LightQ r)(h40:facts.length≤40):LightIn types rules facts:={
 tname:=fun t h=>by have:=(ht t h).1;omega
 rules:=fun r h=>by
  have hk:=hr r h
  obtain ⟨q1,q2⟩:=hq r h
  exact ⟨⟨by have:=hk.1;omega,fun c hc=>⟨⟨by have:=(q1 c hc).1;omega,fun a ha=>shortV_of (((hk.2.2.2.1.2 c hc).2.2.1.2 a ha).2.2)⟩,by have:=(q1 c hc).2;omega,(hk.2.2.2.1.2 c hc).2.2.2⟩,fun a ha=>⟨by have:=q2 a ha;unfold LightA at this;omega,(hk.2.2.2.2.2 a ha).2.2.2.2⟩⟩,fun c hc=>⟨by have:=(q1 c hc).1;omega,by have:=(q1 c hc).2;omega,(hk.2.2.2.1.2 c hc).2.2.2⟩⟩
 few:=by omega
 args:=fun f h=>⟨(hf f h).2.2.1,fun v hv=>okV_of ((hf f h).2.2.2 v hv)⟩ }
end Go.Proofs.YtbgodclhmgmcgaaGreatDoor
namespace Go.Proofs.YtbgodclhmgmcgaaGreatDoor
open Go Go.RowKit
abbrev RC:=(List Bool)→(List V)→ByteArray→Int→Int→(List Qn)→(List QO)→(List QP)→(List Int)→Int→(List Ql)→Int→Int→Option ((Int×(List Ql))⊕Unit)
theorem loop_is {S:Tells} {I:List Bool → List V → Prop} {conds:List Qn} {facts:List QP} (ok:OkS S I conds facts) {rc:RC} {c:Qn} (hcm:c ∈ conds) (h3:c.kind ≠ 3) (h2:c.kind ≠ 2) {cs:List Qn} {hs:List Bool} {vs:List V} (hI:I hs vs) {ids:List Int}
   (hids:ids.length≤100000) {acts:List QO} {a2:ByteArray} {a3 a4 ri:Int} {k M:Nat} (hk:k≤100000) (hM : 9223372036855775808≤M) (hfl:facts.length≤100000) (B:Nat)
   (hrc : ∀ f∈facts,∀ p,S.mt c hs vs f=some p→I p.1 p.2→∀ (left:Nat) (out:List Ql),out.length+left≤B→
     rc p.1 p.2 a2 a3 a4 conds acts facts (ids++[f.id]) ((left:Nat):Int) out ri ((k+1:Nat):Int)=some (if 1+Q4r S facts cs p.1 p.2≤left then .inl (((left - (1+Q4r S facts cs p.1 p.2):Nat):Int),out++(goN S facts cs p.1 p.2 (ids++[f.id])).map (tokOf ri)) else .inr ())) :
   ∀ (m i fuel:Nat) (hj:List Bool) (vj:List V) (ij:List Int) (left:Nat) (out:List Ql),i + m = facts.length → m < fuel → out.length + left ≤ B →
     ∃ hj' vj' ij',Q1e (Q2t M facts c hs vs ids ((k:Nat):Int) rc a2 a3 a4 conds acts ri) fuel (i,hj,vj,ij,((left:Nat):Int),out) =
       some (if ((facts.drop i).map (cosF S facts c cs hs vs)).sum≤left then .inl (hj',vj',ij',((left - ((facts.drop i).map (cosF S facts c cs hs vs)).sum:Nat):Int),out++((facts.drop i).flatMap (resF S facts c cs hs vs ids)).map (tokOf ri)) else .inr (.inr ())):=by
 intro m
 induction m with
 | zero =>
   intro i fuel hj vj ij left out him hfu _
   obtain ⟨fuel,rfl⟩ : ∃ q,fuel=q+1:=⟨fuel - 1,by omega⟩
   refine ⟨hj,vj,ij,?_⟩
   rw [Q1c (o:=.inl (hj,vj,ij,((left:Nat):Int),out)) (by unfold Q2t;simp only;rw [if_neg (by simp;omega)]),List.drop_of_length_le (by omega)]
   simp
 | succ m ih =>
   intro i fuel hj vj ij left out him hfu hB
   obtain ⟨fuel,rfl⟩ : ∃ q,fuel=q+1:=⟨fuel - 1,by omega⟩
   have hi:i < facts.length:=by omega
   have hmem:facts[i]∈facts:=List.getElem_mem hi
   obtain ⟨a,b,hm,hp⟩:=ok.mt M hM c hcm h3 h2 facts[i] hmem hs vs hI
   have hd:facts.drop i=facts[i] :: facts.drop (i+1):=List.drop_eq_getElem_cons hi
   rw [hd,List.map_cons,List.sum_cons,List.flatMap_cons]
   cases hmt:S.mt c hs vs facts[i] with
   | none =>
     have e1:cosF S facts c cs hs vs facts[i]=0:=by unfold cosF;rw [hmt]
     have e2:resF S facts c cs hs vs ids facts[i]=[]:=by unfold resF;rw [hmt]
     rw [e1,e2,Nat.zero_add,List.nil_append]
     obtain ⟨x,y,z,hx⟩:=ih (i+1) fuel hj vj ij left out (by omega) (by omega) hB
     refine ⟨x,y,z,?_⟩
     rw [Q2c (s':=(i+1,hj,vj,ij,((left:Nat):Int),out)),hx]
     unfold Q2t
     simp only
     rw [if_pos (by simpa using hi)]
     unfold Q66
     rw [List.getElem?_eq_getElem hi,Q0,hm,Q0]
     simp only [hmt,Option.isSome_none]
     rw [if_pos (by rfl),Q1b,Qr (by omega)]
   | some p =>
     obtain ⟨hpe,hpI⟩:=hp p hmt
     have e1:cosF S facts c cs hs vs facts[i]=1+Q4r S facts cs p.1 p.2:=by unfold cosF;rw [hmt]
     have e2:resF S facts c cs hs vs ids facts[i]=goN S facts cs p.1 p.2 (ids++[facts[i].id]):=by unfold resF;rw [hmt]
     have hpI' : I p.1 p.2:=by rw [hpe];exact hpI
     have hr:=hrc facts[i] hmem p hmt hpI' left out hB
     rw [e1,e2]
     have ha:a=p.1:=by rw [hpe]
     have hb:b=p.2:=by rw [hpe]
     have hC5:Q66 M facts i c hs vs hj vj ij ((left:Nat):Int) out ids ((k:Nat):Int) rc a2 a3 a4 conds acts ri=
        if 1+Q4r S facts cs p.1 p.2≤left then some (.inl (p.1,p.2,ids++[facts[i].id],((left - (1+Q4r S facts cs p.1 p.2):Nat):Int),out++(goN S facts cs p.1 p.2 (ids++[facts[i].id])).map (tokOf ri))) else some (.inr (.inr (.inr (.inr ())))):=by
       unfold Q66
       rw [List.getElem?_eq_getElem hi,Q0,hm,Q0]
       simp only [hmt,Option.isSome_some]
       rw [if_neg (by simp),Qr (by omega),Qr (by simp;omega),Qr (by omega),List.take_of_length_le (Nat.le_refl _),ha,hb,show ((k:Nat):Int)+1=((k+1:Nat):Int) from by omega,hr,Q0]
       by_cases hle : 1+Q4r S facts cs p.1 p.2≤left
       · rw [if_pos hle,if_pos hle]
       · rw [if_neg hle,if_neg hle]
     by_cases hle : 1+Q4r S facts cs p.1 p.2≤left
     · rw [if_pos hle] at hC5
       have hlen:=go_len (S:=S) (facts:=facts) cs p.1 p.2 (ids++[facts[i].id])
       obtain ⟨x,y,z,hx⟩:=ih (i+1) fuel p.1 p.2 (ids++[facts[i].id]) (left - (1+Q4r S facts cs p.1 p.2)) (out++(goN S facts cs p.1 p.2 (ids++[facts[i].id])).map (tokOf ri)) (by omega) (by omega) (by simp;omega)
       refine ⟨x,y,z,?_⟩
       rw [Q2c (s':=(i+1,p.1,p.2,ids++[facts[i].id],((left - (1+Q4r S facts cs p.1 p.2):Nat):Int),out++(goN S facts cs p.1 p.2 (ids++[facts[i].id])).map (tokOf ri))),hx]
       ·by_cases h4:((facts.drop (i+1)).map (cosF S facts c cs hs vs)).sum≤left - (1+Q4r S facts cs p.1 p.2)
        · rw [if_pos h4,if_pos (by omega),List.map_append,List.append_assoc,Nat.sub_sub]
        · rw [if_neg h4,if_neg (by omega)]
       ·unfold Q2t
        simp only
        rw [if_pos (by simpa using hi),hC5,Q1b,Qr (by omega)]
     · rw [if_neg hle] at hC5
       refine ⟨hj,vj,ij,?_⟩
       rw [Q1c (o:=.inr (.inr ())),if_neg (by omega)]
       unfold Q2t
       simp only
       rw [if_pos (by simpa using hi),hC5,Q1K]
theorem c1N_is {M k left:Nat} (hl:left≤1000000000000000):Q7y M ((k:Nat):Int) ((left:Nat):Int)=if 0 < k∧left=0 then some (.inr (.inr ())) else some (.inl ((left - (if 0 < k then 1 else 0):Nat):Int)):=by
 unfold Q7y
 by_cases hk : 0 < k
 ·rw [if_pos (by simpa using hk),Qr (by omega)]
  by_cases h0:left=0
  · rw [if_pos (by simp [h0]),if_pos ⟨hk,h0⟩]
  · rw [if_neg (by simp;omega),if_neg (fun h=>h0 h.2),if_pos hk,show ((left:Nat):Int) - 1=((left - 1:Nat):Int) from by omega]
 · rw [if_neg (by simpa using hk),if_neg (fun h=>hk h.1),if_neg hk,Nat.sub_zero]
theorem on_is {S:Tells} {I:List Bool→List V→Prop} {conds:List Qn} {facts:List QP} (ok:OkS S I conds facts)(hcl:conds.length≤1000)(hfl:facts.length≤100000)(acts:List QO)(a2:ByteArray)(a3 a4 ri:Int) :
   ∀ (j N k:Nat) (hs:List Bool) (vs:List V) (ids:List Int) (left:Nat) (out:List Ql),k + j = conds.length → 9223372036855775808 + j < N → I hs vs → ids.length ≤ 1000 + k → out.length + left ≤ 4000000000000 →
     Q35 N hs vs a2 a3 a4 conds acts facts ids ((left:Nat):Int) out ri ((k:Nat):Int)=
       some (if (if 0 < k then 1 else 0)+Q4r S facts (conds.drop k) hs vs≤left then .inl (((left - ((if 0 < k then 1 else 0)+Q4r S facts (conds.drop k) hs vs):Nat):Int),out++(goN S facts (conds.drop k) hs vs ids).map (tokOf ri)) else .inr ()):=by
 intro j
 induction j with
 | zero =>
   intro N k hs vs ids left out hkj hN hI hids hB
   obtain ⟨M,rfl⟩ : ∃ q,N=q+1:=⟨N - 1,by omega⟩
   show Q3R M (Q35 M) hs vs a2 a3 a4 conds acts facts ids ((left:Nat):Int) out ri ((k:Nat):Int)=_
   unfold Q3R
   rw [c1N_is (by omega),List.drop_of_length_le (by omega)]
   have hv:=ok.len hs vs hI
   have e0:Q4r S facts [] hs vs=0:=by rw [Q4r]
   have p0 : 0 < k→(if 0 < k then 1 else 0)=1:=fun h=>if_pos h
   have p1 : ¬ 0 < k→(if 0 < k then 1 else 0)=0:=fun h=>if_neg h
   rw [e0,Nat.add_zero]
   generalize (if 0 < k then 1 else 0)=pre at p0 p1 ⊢
   by_cases h0 : 0 < k∧left=0
   · rw [if_pos h0,Q1K,if_neg (by have:=p0 h0.1;omega)]
   · have hp:pre ≤ left:=by
       by_cases hk : 0 < k
       · have:=p0 hk
         have:left≠0:=fun e=>h0 ⟨hk,e⟩
         omega
       · have:=p1 hk;omega
     rw [if_neg h0,Q1b,if_pos (by simp;omega),if_pos hp]
     unfold Qav Q8Z
     rw [Qr (by omega),Qr (by omega),Qr (by simp;omega),Q0,Q0]
     simp [goN,tokOf]
 | succ j ih =>
   intro N k hs vs ids left out hkj hN hI hids hB
   obtain ⟨M,rfl⟩ : ∃ q,N=q+1:=⟨N - 1,by omega⟩
   show Q3R M (Q35 M) hs vs a2 a3 a4 conds acts facts ids ((left:Nat):Int) out ri ((k:Nat):Int)=_
   unfold Q3R
   have hk:k < conds.length:=by omega
   have hmem:conds[k]∈conds:=List.getElem_mem hk
   have hd:conds.drop k=conds[k] :: conds.drop (k+1):=List.drop_eq_getElem_cons hk
   rw [c1N_is (by omega)]
   by_cases h0 : 0 < k∧left=0
   · rw [if_pos h0,Q1K,if_neg (by rw [if_pos h0.1];omega)]
   rw [if_neg h0,Q1b,if_neg (by simp;omega),Qr (by omega),show ((k:Nat):Int).toNat=k from by omega,List.getElem?_eq_getElem hk,Q0]
   have hp:(if 0 < k then 1 else 0)≤left:=by split <;> omega
   generalize hpre:(if 0 < k then 1 else 0)=pre at hp ⊢
   have hk1:((k:Nat):Int)+1=((k+1:Nat):Int):=by omega
   have pos1 : ∀ n:Nat,(if 0 < n+1 then 1 else 0)=1:=fun n=>if_pos (Nat.succ_pos n)
   by_cases h3:conds[k].kind=3
   · obtain ⟨x,n,s,e,he,hev⟩:=ok.ev M (by omega) conds[k] hmem h3 hs vs hI
     rw [if_pos (by simpa using h3),he,Q0]
     have hb:(if (e==0)=true then (if (x==1)=true then some (n !=0) else some false) else some false)=some (S.ev conds[k] vs):=by
       rw [hev]
       cases (e==0) <;> cases (x==1) <;> rfl
     simp only
     rw [hb,Q0]
     have eC:Q4r S facts (conds.drop k) hs vs=if S.ev conds[k] vs then 1+Q4r S facts (conds.drop (k+1)) hs vs else 0:=by rw [hd,cost3 h3]
     have eG:goN S facts (conds.drop k) hs vs ids=if S.ev conds[k] vs then goN S facts (conds.drop (k+1)) hs vs ids else []:=by rw [hd,go3 h3]
     rw [eC,eG]
     cases hT:S.ev conds[k] vs with
     | true =>
       have hr:=ih M (k+1) hs vs ids (left - pre) out (by omega) (by omega) hI (by omega) (by omega)
       rw [pos1] at hr
       rw [if_pos rfl,Qr (by omega),hk1,hr,Q0]
       simp only [if_true]
       by_cases hle : 1+Q4r S facts (conds.drop (k+1)) hs vs≤left - pre
       · rw [if_pos hle,if_pos (by omega),Nat.sub_sub]
       · rw [if_neg hle,if_neg (by omega)]
     | false =>
       rw [if_neg (by simp),if_pos (by simp;omega)]
       simp
   · rw [if_neg (by simpa using h3)]
     by_cases h2:conds[k].kind=2
     · rw [if_pos (by simpa using h2),ok.sm M (by omega) conds[k] hmem h2 hs vs hI,Q0]
       have eC:Q4r S facts (conds.drop k) hs vs=if S.sm conds[k] hs vs then 0 else 1+Q4r S facts (conds.drop (k+1)) hs vs:=by rw [hd,cost2 h3 h2]
       have eG:goN S facts (conds.drop k) hs vs ids=if S.sm conds[k] hs vs then [] else goN S facts (conds.drop (k+1)) hs vs ids:=by rw [hd,go2 h3 h2]
       rw [eC,eG]
       cases hT:S.sm conds[k] hs vs with
       | false =>
         have hr:=ih M (k+1) hs vs ids (left - pre) out (by omega) (by omega) hI (by omega) (by omega)
         rw [pos1] at hr
         rw [if_pos (show (!false)=true from rfl),Qr (by omega),hk1,hr,Q0]
         simp only [Bool.false_eq_true,if_false]
         by_cases hle : 1+Q4r S facts (conds.drop (k+1)) hs vs≤left - pre
         · rw [if_pos hle,if_pos (by omega),Nat.sub_sub]
         · rw [if_neg hle,if_neg (by omega)]
       | true =>
         rw [if_neg (by simp)]
         simp only [if_true]
         rw [if_pos (by omega)]
         simp
     · rw [if_neg (by simpa using h2)]
       have eC:Q4r S facts (conds.drop k) hs vs=(facts.map (cosF S facts conds[k] (conds.drop (k+1)) hs vs)).sum:=by rw [hd,cost1 h3 h2]
       have eG:goN S facts (conds.drop k) hs vs ids=facts.flatMap (resF S facts conds[k] (conds.drop (k+1)) hs vs ids):=by rw [hd,go1 h3 h2]
       rw [eC,eG]
       obtain ⟨x,y,z,hx⟩:=loop_is ok hmem h3 h2 (cs:=conds.drop (k+1)) hI (ids:=ids) (by omega) (acts:=acts) (a2:=a2) (a3:=a3) (a4:=a4) (ri:=ri) (k:=k) (M:=M) (by omega) (by omega) hfl 4000000000000 (rc:=Q35 M) (fun f _ p _ hpI left2 out2 hB2=>by
         have hr:=ih M (k+1) p.1 p.2 (ids++[f.id]) left2 out2 (by omega) (by omega) hpI (by simp;omega) hB2
         rw [pos1] at hr
         exact hr) facts.length 0 M hs vs ids (left - pre) out (by omega) (by omega) (by omega)
       rw [List.drop_zero] at hx
       rw [hx]
       by_cases hle:(facts.map (cosF S facts conds[k] (conds.drop (k+1)) hs vs)).sum≤left - pre
       · rw [if_pos hle,Q1b,if_pos (by omega),Nat.sub_sub]
       · rw [if_neg hle,Q1K,if_neg (by omega)]
end Go.Proofs.YtbgodclhmgmcgaaGreatDoor
