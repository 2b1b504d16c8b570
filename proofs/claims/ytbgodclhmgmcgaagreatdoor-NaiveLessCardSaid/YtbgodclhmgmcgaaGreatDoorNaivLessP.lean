import Derived.Test.YtbgodclhmgmcgaaGreatDoorNaivU
namespace Go.Proofs.YtbgodclhmgmcgaaGreatDoor
open Go Go.RowKit
section
variable {fs gs:List Qz} {q:Int}
theorem less_down (hs0 : ∀ f ∈ gs,f ∈ fs) : ∀ {cs:List QL} {hs:List Bool} {vs:List V} {ids:List Int} {x:List Int × List V},(∀ c ∈ cs,c.kind ≠ 2) → x ∈ goN (tells gs) gs cs hs vs ids → x ∈ goN (tells fs) fs cs hs vs ids
 | [],hs,vs,ids,x,_,h=>by rw [goN] at h ⊢; exact h
 | c :: cs,hs,vs,ids,x,hn,h=>by
   have hn2 : ∀ c ∈ cs,c.kind ≠ 2:=fun c hc=>hn c (List.mem_cons_of_mem _ hc)
   by_cases h3:c.kind = 3
   ·rw [go3 h3] at h ⊢
    split at h
    ·rename_i he
     rw [if_pos (by exact he)]
     exact less_down hs0 hn2 h
    · cases h
   ·have h2 : ¬ c.kind = 2:=hn c List.mem_cons_self
    rw [go1 h3 h2] at h ⊢
    obtain ⟨f,hf,hx⟩:=List.mem_flatMap.1 h
    refine List.mem_flatMap.2 ⟨f,hs0 f hf,?_⟩
    unfold resF at hx ⊢
    show x ∈ (match Q7z c f hs vs with | some p=>goN (tells fs) fs cs p.1 p.2 (ids ++ [f.id]) | none=>[])
    have hx2:x ∈ (match Q7z c f hs vs with | some p=>goN (tells gs) gs cs p.1 p.2 (ids ++ [f.id]) | none=>[]):=hx
    cases hm:Q7z c f hs vs with
    | some p=>rw [hm] at hx2; exact less_down hs0 hn2 hx2
    | none=>rw [hm] at hx2; cases hx2
theorem less_up (hs0 : ∀ f ∈ gs,f ∈ fs) (hs1 : ∀ f ∈ fs,f.id ≠ q → f ∈ gs) : ∀ {cs:List QL} {hs:List Bool} {vs:List V} {ids:List Int} {x:List Int × List V},x ∈ goN (tells fs) fs cs hs vs ids → q ∉ x.1 → x ∈ goN (tells gs) gs cs hs vs ids
 | [],hs,vs,ids,x,h,_=>by rw [goN] at h ⊢; exact h
 | c :: cs,hs,vs,ids,x,h,hq=>by
   by_cases h3:c.kind = 3
   ·rw [go3 h3] at h ⊢
    split at h
    ·rename_i he
     rw [if_pos (by exact he)]
     exact less_up hs0 hs1 h hq
    · cases h
   ·by_cases h2:c.kind = 2
    ·rw [go2 h3 h2] at h ⊢
     split at h
     · cases h
     · rename_i he
       have he2 : ¬ (gs.any fun f=>(Q7z c f hs vs).isSome) = true:=fun ha=>he (by
        obtain ⟨f,hf,hm⟩:=List.any_eq_true.1 ha
        exact List.any_eq_true.2 ⟨f,hs0 f hf,hm⟩)
       rw [if_neg (by exact he2)]
       exact less_up hs0 hs1 h hq
    ·rw [go1 h3 h2] at h ⊢
     obtain ⟨f,hf,hx⟩:=List.mem_flatMap.1 h
     have hx2:x ∈ (match Q7z c f hs vs with | some p=>goN (tells fs) fs cs p.1 p.2 (ids ++ [f.id]) | none=>[]):=hx
     cases hm:Q7z c f hs vs with
     | some p =>
       rw [hm] at hx2
       have hin:=(goN_ids hx2).2.1 f.id (by simp)
       refine List.mem_flatMap.2 ⟨f,hs1 f hf (fun e=>hq (e ▸ hin)),?_⟩
       show x ∈ (match Q7z c f hs vs with | some p=>goN (tells gs) gs cs p.1 p.2 (ids ++ [f.id]) | none=>[])
       rw [hm]
       exact less_up hs0 hs1 hx2 hq
     | none=>rw [hm] at hx2; cases hx2
end
theorem facts_up {types : List Ql} : ∀ {l : List Qz} {last : Int}, Qbq types last l = true → (∀ f ∈ l, last < f.id) ∧ l.Pairwise (fun a b => a.id < b.id)
 | [],_,_=>⟨by simp,List.Pairwise.nil⟩
 | f :: l,last,h=>by
   rw [Qbq] at h
   simp only [Bool.and_eq_true] at h
   have hf:last < f.id:=by
    have:=h.1
    unfold factP at this
    simp only [Bool.and_eq_true,decide_eq_true_eq] at this
    exact this.1.1
   obtain ⟨a,b⟩:=facts_up h.2
   refine ⟨fun g hg=>?_,List.Pairwise.cons a b⟩
   rcases List.mem_cons.1 hg with rfl | hg
   · exact hf
   · have:=a g hg; omega
theorem id_inj {l:List Qz} (h:l.Pairwise (fun a b=>a.id < b.id)) {i j:Nat} (hi:i < l.length) (hj:j < l.length) (e:l[i].id = l[j].id):i = j:=by
 rcases Nat.lt_trichotomy i j with hlt | rfl | hlt
 · have:=List.pairwise_iff_getElem.1 h i j hi hj hlt; omega
 · rfl
 · have:=List.pairwise_iff_getElem.1 h j i hj hi hlt; omega
theorem has_is {N:Nat} (hN : 9223372036854775808 ≤ N) {l:List Qv} (hl:l.length ≤ 1000000) (ht : ∀ t ∈ l,t.ids.length ≤ 1000000) (r:Int) (ids:List Int):Says (Q3S N l r ids) (⟨r,ids⟩ ∈ l):=by
 unfold Q3S
 have key : ∃ o,Q1h (Q2Z N l r ids) N 0 = some o ∧ ((o = .inl () ∧ ⟨r,ids⟩ ∉ l) ∨ (o = .inr true ∧ ⟨r,ids⟩ ∈ l)):=by
  refine Q5c (f:=Q2Z N l r ids) (fun i=>i ≤ l.length ∧ ⟨r,ids⟩ ∉ l.take i) (fun i=>l.length - i) _ (fun i hi=>?_) N 0 ⟨Nat.zero_le _,by simp⟩ (by omega)
  obtain ⟨h1,h2⟩:=hi
  unfold Q2Z
  by_cases h:i < l.length
  ·rw [if_pos (by simpa using h),List.getElem?_eq_getElem h,Q7]
   obtain ⟨b,b1,b2⟩:=sameTok_is (N:=N) hN (a:=l[i].rule) (l:=l[i].ids) (b:=r) (m:=ids) (ht _ (List.getElem_mem h))
   rw [b1,Q7]
   cases b with
   | true =>
     rw [if_pos rfl]
     right
     refine ⟨_,rfl,.inr ⟨rfl,?_⟩⟩
     obtain ⟨e1,e2⟩:=b2.1 rfl
     have:(⟨r,ids⟩ : Qv) = l[i]:=by rw [← e1,← e2]
     rw [this]
     exact List.getElem_mem h
   | false =>
     rw [if_neg (by simp),QY (by omega)]
     left
     refine ⟨_,rfl,⟨by omega,fun hm=>?_⟩,by omega⟩
     rw [List.take_add_one,List.getElem?_eq_getElem h] at hm
     rcases List.mem_append.1 hm with hm | hm
     · exact h2 hm
     ·have hm2:(⟨r,ids⟩ : Qv) = l[i]:=by simpa using hm
      have:=b2.2 (by rw [← hm2]; exact ⟨rfl,rfl⟩)
      cases this
  ·rw [if_neg (by simpa using h)]
   right
   refine ⟨_,rfl,.inl ⟨rfl,?_⟩⟩
   rwa [List.take_of_length_le (by omega)] at h2
 obtain ⟨o,o1,o2⟩:=key
 rw [o1]
 rcases o2 with ⟨rfl,h⟩ | ⟨rfl,h⟩
 · exact ⟨false,rfl,by simp [h]⟩
 · exact ⟨true,rfl,by simp [h]⟩
theorem with_is {N:Nat} (hN : 9223372036854775808 ≤ N) {l:List Qv} {i v:Nat} {fs:List Qz} (hi:i < l.length) (hv:v < fs.length) (ht:l[i].ids.length ≤ 1000000) :
  Q1h (Q2g N l i ((v:Nat):Int) fs) N (0,false) = some (l[i].ids.any fun x=>x == fs[v].id):=by
 obtain ⟨o,o1,o2⟩:=Q5c (f:=Q2g N l i ((v:Nat):Int) fs) (fun s=>s.1 ≤ l[i].ids.length ∧ s.2 = ((l[i].ids.take s.1).any fun x=>x == fs[v].id)) (fun s=>l[i].ids.length - s.1) (fun o=>o = l[i].ids.any fun x=>x == fs[v].id) (fun s hs=>by
  obtain ⟨k,b⟩:=s
  obtain ⟨h1,h2⟩:=hs
  simp only at h1 h2
  unfold Q2g
  simp only
  rw [List.getElem?_eq_getElem hi,Q7]
  by_cases h:k < l[i].ids.length
  ·rw [if_pos (by simpa using h)]
   have hc:Q3g N b l i k ((v:Nat):Int) fs = some (b || l[i].ids[k] == fs[v].id):=by
    unfold Q3g
    cases b with
    | true=>rfl
    | false=>rw [if_neg (by simp),List.getElem?_eq_getElem hi,Q7,List.getElem?_eq_getElem h,Q7,QY (by omega),Int.toNat_natCast,List.getElem?_eq_getElem hv,Q7,Bool.false_or]
   rw [hc,Q7,QY (by omega)]
   left
   refine ⟨_,rfl,⟨by simp only; omega,?_⟩,by simp only; omega⟩
   simp only
   rw [List.take_add_one,List.getElem?_eq_getElem h,List.any_append,h2]
   simp
  ·rw [if_neg (by simpa using h)]
   right
   refine ⟨b,rfl,?_⟩
   rw [h2,List.take_of_length_le (by omega)]) N (0,false) ⟨Nat.zero_le _,by simp⟩ (by simp only; omega)
 rw [o1,o2]
theorem not_is {N:Nat} (hN : 9223372036854775808 ≤ N) {r:Qi} (hr:r.conds.length ≤ 1000000) :
  Q1h (Q2i N r) N (0,false) = some (r.conds.any fun c=>c.kind == 2):=by
 obtain ⟨o,o1,o2⟩:=Q5c (f:=Q2i N r) (fun s=>s.1 ≤ r.conds.length ∧ s.2 = ((r.conds.take s.1).any fun c=>c.kind == 2)) (fun s=>r.conds.length - s.1) (fun o=>o = r.conds.any fun c=>c.kind == 2) (fun s hs=>by
  obtain ⟨k,b⟩:=s
  obtain ⟨h1,h2⟩:=hs
  simp only at h1 h2
  unfold Q2i
  simp only
  by_cases h:k < r.conds.length
  ·rw [if_pos (by simpa using h)]
   have hc:(if b = true then some true else Qc (r.conds[k]?) fun x129=>some (x129.kind == 2)) = some (b || r.conds[k].kind == 2):=by
    cases b with
    | true=>rfl
    | false=>rw [if_neg (by simp),List.getElem?_eq_getElem h,Q7,Bool.false_or]
   rw [hc,Q7,QY (by omega)]
   left
   refine ⟨_,rfl,⟨by simp only; omega,?_⟩,by simp only; omega⟩
   simp only
   rw [List.take_add_one,List.getElem?_eq_getElem h,List.any_append,h2]
   simp
  ·rw [if_neg (by simpa using h)]
   right
   refine ⟨b,rfl,?_⟩
   rw [h2,List.take_of_length_le (by omega)]) N (0,false) ⟨Nat.zero_le _,by simp⟩ (by simp only; omega)
 rw [o1,o2]
theorem without_is {N v:Nat} {l:List Qz} (hv:v < l.length) (hl:l.length ≤ 1000000):Q3o N l ((v:Nat):Int) = some ():=by
 unfold Q3o
 rw [QY (by omega),QY (by omega),QY (by simp; omega),QY (by omega),QY (by omega),QY (by omega),QY (by simp; omega)]
theorem naivless_arg (R:Q84) (hR:QaN R) (l:List Qz) (hl:l.length ≤ 140737488351232 ∧ ∀ y ∈ l,ok_FactD y) (k:Int) (_:inK .i64 k):Q32 9223372036860000000 R.types R.rules l k = some true:=by
  have hN : 9223372036854775808 + 2000000 ≤ NF:=by decide
  show Q32 NF R.types R.rules l k = some true
  unfold Q32
  rw [aw_f,Q7,if_neg (by simp)]
  obtain ⟨b,hb,hL⟩:=light_is (N:=NF) (by omega) hR hl.1
  rw [hb,Q7]
  cases b with
  | false=>rfl
  | true =>
    obtain ⟨hq,h40⟩:=hL rfl
    have hall : ∀ r ∈ R.rules,LightQ r ∧ LightC r.conds l:=fun r hr=>⟨hq r hr,lightC_of (hq r hr) (hR.2.2 r hr) h40 hl.2⟩
    have hargs : ∀ f ∈ l,f.args.length ≤ 4398046510976:=fun f hf=>(hl.2 f hf).2.2.1
    rw [if_neg (by simp),Q7]
    by_cases h0:l.length = 0
    · rw [if_pos (by simpa using h0)]
    · rw [if_neg (by simpa using h0),tokens_is hN hall (by omega) hargs,Q7]
      obtain ⟨v,hv,hvk⟩:=pick_is (N:=NF) (o:=k) (k:=((l.length:Nat):Int)) (by omega) (by omega)
      have hvl:v < l.length:=by omega
      generalize hA:(if rightT R.types R.rules l = true then (if sumR l R.rules ≤ 4096 then (Q3F l R.rules 0,0) else (([] : List Qv),204)) else (([] : List Qv),2)) = A
      obtain ⟨la,ea⟩:=A
      simp only
      rw [hv,Q7,without_is hvl (by omega),Q7]
      have hgs:(([] : List Qz) ++ (l.take ((v:Nat):Int).toNat)) ++ (l.drop (((v:Nat):Int) + 1).toNat) = l.eraseIdx v:=by
        rw [List.nil_append,Int.toNat_natCast,show (((v:Nat):Int) + 1).toNat = v + 1 from by omega,List.eraseIdx_eq_take_drop_succ]
      rw [hgs]
      have hsub : ∀ f ∈ l.eraseIdx v,f ∈ l:=fun f hf=>List.mem_of_mem_eraseIdx hf
      have hglen:(l.eraseIdx v).length ≤ l.length:=by rw [List.length_eraseIdx]; split <;> omega
      have hallg : ∀ r ∈ R.rules,LightQ r ∧ LightC r.conds (l.eraseIdx v):=fun r hr=>⟨hq r hr,lightC_of (hq r hr) (hR.2.2 r hr) (by omega) (fun f hf=>hl.2 f (hsub f hf))⟩
      rw [tokens_is hN hallg (by omega) (fun f hf=>hargs f (hsub f hf)),Q7]
      generalize hB:(if rightT R.types R.rules (l.eraseIdx v) = true then (if sumR (l.eraseIdx v) R.rules ≤ 4096 then (Q3F (l.eraseIdx v) R.rules 0,0) else (([] : List Qv),204)) else (([] : List Qv),2)) = B
      obtain ⟨lb,eb⟩:=B
      simp only
      unfold Q4P
      by_cases hT:rightT R.types R.rules l = true
      · rw [if_pos hT] at hA
        have hT2:=hT
        unfold rightT at hT2
        simp only [Bool.and_eq_true] at hT2
        obtain ⟨hr1,hr2⟩:=hT2
        obtain ⟨h64,h8⟩:=right_conds hr1
        by_cases hs:sumR l R.rules ≤ 4096
        · rw [if_pos hs] at hA
          cases hA
          by_cases hG:rightT R.types R.rules (l.eraseIdx v) = true
          · rw [if_pos hG] at hB
            by_cases hs2:sumR (l.eraseIdx v) R.rules ≤ 4096
            · rw [if_pos hs2] at hB
              cases hB
              have hlen:=flatR_len l R.rules 0
              have hlen2:=flatR_len (l.eraseIdx v) R.rules 0
              rw [if_neg (by simp),if_neg (by simp),QY (by omega),Q7]
              by_cases h600 : 600 < (Q3F l R.rules 0).length + (Q3F (l.eraseIdx v) R.rules 0).length
              · rw [if_pos (by simpa using h600)]
              · rw [if_neg (by simpa using h600)]
                obtain ⟨_,hpw⟩:=facts_up hr2
                have hs1 : ∀ f ∈ l,f.id ≠ l[v].id → f ∈ l.eraseIdx v:=fun f hf hne=>by
                  obtain ⟨i,hi,rfl⟩:=List.getElem_of_mem hf
                  rw [List.mem_eraseIdx_iff_getElem]
                  exact ⟨i,hi,fun e=>hne (by subst e; rfl),rfl⟩
                have hne : ∀ f ∈ l.eraseIdx v,f.id ≠ l[v].id:=fun f hf e=>by
                  rw [List.mem_eraseIdx_iff_getElem] at hf
                  obtain ⟨i,hi,hiv,rfl⟩:=hf
                  exact hiv (id_inj hpw hi hvl e)
                have ids1 : ∀ t ∈ Q3F l R.rules 0,t.ids.length ≤ 1000000:=fun t ht=>by have:=flatR_ids h8 ht; omega
                have ids2 : ∀ t ∈ Q3F (l.eraseIdx v) R.rules 0,t.ids.length ≤ 1000000:=fun t ht=>by have:=flatR_ids h8 ht; omega
                rw [iter_look (f:=Q2f NF (Q3F l R.rules 0) ((v:Nat):Int) l (Q3F (l.eraseIdx v) R.rules 0)) (Q3F l R.rules 0).length (fun i hi=>by
                  have hmem:=List.getElem_mem hi
                  unfold Q2f
                  rw [if_pos (by simpa using hi),with_is (by omega) hi hvl (ids1 _ hmem),Q7,List.getElem?_eq_getElem hi,Q7]
                  obtain ⟨c,c1,c2⟩:=has_is (N:=NF) (by omega) (l:=Q3F (l.eraseIdx v) R.rules 0) (by omega) ids2 (Q3F l R.rules 0)[i].rule (Q3F l R.rules 0)[i].ids
                  rw [c1,Q7,if_neg,QY (by omega)]
                  intro hbad
                  simp only [beq_iff_eq] at hbad
                  obtain ⟨kk,r,h1,h2,x,hx,h3⟩:=Q8S.1 hmem
                  cases c with
                  | true =>
                    have hin:(Q3F l R.rules 0)[i] ∈ Q3F (l.eraseIdx v) R.rules 0:=c2.1 rfl
                    obtain ⟨_,r2,_,_,y,hy,h4⟩:=Q8S.1 hin
                    obtain ⟨z,hz,hz2⟩:=List.any_eq_true.1 hbad.symm
                    rw [h4] at hz
                    rcases (goN_ids hy).2.2 z hz with hz3 | ⟨f,hf,hf2⟩
                    · cases hz3
                    · exact hne f hf (by rw [hf2]; simpa using hz2)
                  | false =>
                    have hq2:l[v].id ∉ x.1:=fun hin=>by
                      have:((Q3F l R.rules 0)[i].ids.any fun x=>x == l[v].id) = true:=List.any_eq_true.2 ⟨l[v].id,by rw [h3]; exact hin,by simp⟩
                      rw [this] at hbad; cases hbad
                    have hin:(Q3F l R.rules 0)[i] ∈ Q3F (l.eraseIdx v) R.rules 0:=Q8S.2 ⟨kk,r,h1,h2,x,less_up hsub hs1 hx hq2,h3⟩
                    have:=c2.2 hin
                    cases this) (by
                  unfold Q2f
                  rw [if_neg (by simp)]) (by omega),Q1W]
                rw [iter_look (f:=Q2h NF (Q3F (l.eraseIdx v) R.rules 0) R.rules (Q3F l R.rules 0)) (Q3F (l.eraseIdx v) R.rules 0).length (fun i hi=>by
                  have hmem:=List.getElem_mem hi
                  obtain ⟨kk,r,h1,h2,x,hx,h3⟩:=Q8S.1 hmem
                  unfold Q2h
                  rw [if_pos (by simpa using hi),List.getElem?_eq_getElem hi,Q7,QY (by omega),show (Q3F (l.eraseIdx v) R.rules 0)[i].rule.toNat = kk from by omega,h1,Q7]
                  have hrm:=List.mem_of_getElem? h1
                  have:=h8 r hrm
                  rw [not_is (by omega) (by omega),Q7]
                  cases hnot:(r.conds.any fun c=>c.kind == 2) with
                  | true=>rw [if_neg (by simp),Q7,if_neg (by simp),QY (by omega)]
                  | false =>
                    obtain ⟨c,c1,c2⟩:=has_is (N:=NF) (by omega) (l:=Q3F l R.rules 0) (by omega) ids1 (Q3F (l.eraseIdx v) R.rules 0)[i].rule (Q3F (l.eraseIdx v) R.rules 0)[i].ids
                    have hin:(Q3F (l.eraseIdx v) R.rules 0)[i] ∈ Q3F l R.rules 0:=Q8S.2 ⟨kk,r,h1,h2,x,less_down hsub (fun c hc e=>by
                      have:(r.conds.any fun c=>c.kind == 2) = true:=List.any_eq_true.2 ⟨c,hc,by simpa using e⟩
                      rw [this] at hnot; cases hnot) hx,h3⟩
                    rw [if_pos (by rfl),Q7,c1,Q7,c2.2 hin,Q7,if_neg (by simp),QY (by omega)]) (by
                  unfold Q2h
                  rw [if_neg (by simp)]) (by omega),Q1W]
            · rw [if_neg hs2] at hB; cases hB; rfl
          · rw [if_neg hG] at hB; cases hB; rfl
        · rw [if_neg hs] at hA; cases hA; rfl
      · rw [if_neg hT] at hA; cases hA; rfl
end Go.Proofs.YtbgodclhmgmcgaaGreatDoor
