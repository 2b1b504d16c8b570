import Derived.Test.YtjfpefddanmliaaGreatSesLP
import Derived.Test.YtjfpefddanmliaaGreatSesKP
namespace Go.Proofs.YtjfpefddanmliaaGreat
open Go.RowKit
def ReplyD.came (x:ReplyD):Prop:=x.facts.length ≤ 140737488351232 ∧ x.said.length ≤ 140737488351232 ∧ ∀ f ∈ x.facts,f.args.length ≤ 140737488351232
theorem great_is {N:Nat} {x:ReplyD} (hN : 9223372036854775808 ≤ N) (hx:x.came) : ∃ b,Q3K N x.err x.num x.facts x.said = some b ∧ (b = false → x.tiny):=by
  obtain ⟨h1,h2,h3⟩:=hx
  obtain ⟨o, h4, h5⟩ := Q47 (f := Q3N N x.facts) (fun s => s.1 ≤ x.facts.length ∧ x.facts.length + x.said.length ≤ s.2 ∧ s.2 ≤ 1000000000000000 ∧ ∀ f ∈ x.facts.take s.1, f.args.length ≤ s.2) (fun s => x.facts.length - s.1)
    (fun o=>o ≤ 200 → x.tiny) (fun s hs=>by
      obtain ⟨i,n⟩:=s
      obtain ⟨hi,hn,hb,ha⟩:=hs
      simp only at hi hn hb ha
      unfold Q3N
      by_cases h:i < x.facts.length ∧ n ≤ 200
      · left
        have e:(if (decide (i < x.facts.length)) = true then some (decide (n ≤ 200)) else some false) = some true:=by
          rw [if_pos (by simpa using h.1)]; simp [h.2]
        have hy:=List.getElem?_eq_getElem h.1
        have hm:=h3 _ (List.getElem_mem h.1)
        refine ⟨(i + 1,n + x.facts[i].args.length),?_,⟨by simp only; omega,by simp only; omega,by simp only; omega,fun f hf=>?_⟩,by simp only; omega⟩
        · simp only [e,Q9,if_true,hy]
          rw [QC (by omega),QC (by omega)]
        · simp only at hf ⊢
          rw [List.take_add_one,hy] at hf
          rcases List.mem_append.1 hf with hf | hf
          · have:=ha f hf; omega
          · simp at hf; subst hf; omega
      · right
        have e:(if (decide (i < x.facts.length)) = true then some (decide (n ≤ 200)) else some false) = some false:=by
          by_cases h0:i < x.facts.length
          · rw [if_pos (by simpa using h0)]; simp; omega
          · rw [if_neg (by simpa using h0)]
        refine ⟨n,by simp only [e,Q9,Bool.false_eq_true,if_false],fun hle=>?_⟩
        have hil:i = x.facts.length:=by omega
        rw [hil,List.take_length] at ha
        exact ⟨by omega,by omega,fun f hf=>by have:=ha f hf; omega⟩) N (0,x.facts.length + x.said.length) ⟨by simp,by simp,by simp only; omega,by simp⟩ (by simp only; omega)
  unfold Q3K
  rw [QC (by omega),h4]
  exact ⟨_,rfl,fun hb=>h5 (by simpa using hb)⟩
theorem ofL_same (N:Nat) (l:List SessD) (a:Int):Q3d N l a = Q3P N l a:=by
  funext ⟨u,v⟩
  unfold Q3d Q5N Q3P
  simp only
  by_cases h:u < l.length
  · rw [if_pos (by simpa using h),if_pos (by simpa using h),List.getElem?_eq_getElem h]
    simp only [Q9]
  · rw [if_neg (by simpa using h),if_neg (by simpa using h)]
section
variable {N:Nat} (hN : 9223372036854775808 ≤ N)
include hN
theorem of2_is {l:List SessD} (hl:l.length ≤ 1000) (ht : ∀ y ∈ l,y.r.tiny) (a:Int) : ∃ r,Q5A N a l = some r ∧ Q3p N a l = some r ∧ (∀ v,r = .inr v → v = l ∧ TabT l a):=by
  unfold Q5A Q3p
  rw [ofL_same,all_is hN (by omega) (fun y hy=>(ht y hy).fit),Q6r hN (by omega) ht]
  by_cases h:a < 1 ∨ a > 1099511627777 ∨ 32 < l.length
  · have e:(if (decide (a < 1)) = true then some true else (if (decide (a > 1099511627777)) = true then some true else some (decide (32 < l.length)))) = some true:=by
      by_cases h1:a < 1
      · rw [if_pos (by simpa using h1)]
      · rw [if_neg (by simpa using h1)]
        by_cases h2:a > 1099511627777
        · rw [if_pos (by simpa using h2)]
        · rw [if_neg (by simpa using h2),decide_eq_true (by omega)]
    rw [e]
    exact ⟨.inl (),rfl,rfl,fun v hv=>by cases hv⟩
  · have e:(if (decide (a < 1)) = true then some true else (if (decide (a > 1099511627777)) = true then some true else some (decide (32 < l.length)))) = some false:=by
      rw [if_neg (by simp; omega),if_neg (by simp; omega),decide_eq_false (by omega)]
    rw [e]
    simp only [Q9,Bool.false_eq_true,if_false]
    obtain ⟨o,h1,h2⟩:=Q47 (f:=Q3P N l a) (fun s=>s.1 ≤ l.length) (fun s=>l.length - s.1) (fun o=>o = .inl () ∨ o = .inr (.inl ())) (fun s hs=>by
      obtain ⟨i,v⟩:=s
      simp only at hs
      unfold Q3P
      simp only
      by_cases h:i < l.length
      · rw [if_pos (by simpa using h),List.getElem?_eq_getElem h,Q9]
        have hj : ∃ j,(if (decide (l[i].id ≤ v)) = true then some true else (if (decide (l[i].id ≥ a)) = true then some true else some (decide (l[i].seq < 0)))) = some j:=by
          split
          · exact ⟨_,rfl⟩
          · split
            · exact ⟨_,rfl⟩
            · exact ⟨_,rfl⟩
        obtain ⟨j,hj⟩:=hj
        rw [hj,Q9]
        cases j
        · left
          exact ⟨(i + 1,l[i].id),by rw [if_neg (by simp),QC (by omega)],by simp only; omega,by simp only; omega⟩
        · right
          exact ⟨_,by rw [if_pos rfl],.inr rfl⟩
      · right
        exact ⟨_,by rw [if_neg (by simpa using h)],.inl rfl⟩) N (0,0) (Nat.zero_le _) (by simp only; omega)
    rw [h1]
    rcases h2 with rfl | rfl
    · exact ⟨.inr l,rfl,rfl,fun v hv=>by cases hv; exact ⟨rfl,by omega,by omega,by omega,ht⟩⟩
    · exact ⟨.inl (),rfl,rfl,fun v hv=>by cases hv⟩
omit hN in
theorem okS_of {l:List SessD} (hl:l.length ≤ 1000) (ht : ∀ y ∈ l,y.r.tiny):okS l:=⟨by omega,fun s hs=>⟨(ht s hs).okF,by have:=(ht s hs).2.1; omega⟩⟩
variable (aw:Q20 N = some true)
include aw
theorem livesC_is {l:List SessD} (hl:l.length ≤ 1000) (ht : ∀ y ∈ l,y.r.tiny) (b:Bool) (a:Int):Q2w N b l a = some (.inr true) ∨ ∃ L nx,Q2w N b l a = some (.inl (L,nx,L,nx)) ∧ TabT L nx:=by
  unfold Q2w
  cases b
  · right
    exact ⟨[],1,by rw [if_neg (by simp)],by omega,by omega,by simp,fun s hs=>by simp at hs⟩
  · obtain ⟨r,h1,h2,h3⟩:=of2_is hN hl ht a
    have hk:=keptSessions_is hN (okS_of hl ht)
    obtain ⟨o,hov⟩:=overSessions_is hN (okS_of hl ht)
    rw [if_pos rfl,lentSessions_is hN (okS_of hl ht),Q9,QC (by rw [lS_len]; omega),lS_to,h1,Q9]
    cases r with
    | inl u =>
      left
      simp only
      rw [h2,Q9]
      simp only
      rw [hk,Q9,if_neg (by simp),Q9,if_neg (by simp),aw,Q9]
    | inr v =>
      right
      obtain ⟨rfl,hT⟩:=h3 v rfl
      simp only
      rw [h2,Q9]
      simp only
      rw [hk,Q9,if_neg (by simp),Q9,if_neg (by simp),hov,Q9]
      exact ⟨_,_,rfl,hT⟩
theorem seslives_is (a:Int) (l:List SessD) (b:Bool) (m:List Ropewalklaw27_DoD) (hl : ∀ x ∈ l,x.r.came) (hm : ∀ x ∈ m,x.reply.came):QY N a l b m = some true:=by
  obtain ⟨o,h1,h2⟩:=Q47 (f:=Q2p N l) (fun i=>i ≤ l.length ∧ i ≤ 41 ∧ ∀ y ∈ l.take i,y.r.tiny) (fun i=>41 - i) (fun o=>o = .inr true ∨ (o = .inl () ∧ l.length ≤ 41 ∧ ∀ y ∈ l,y.r.tiny)) (fun i hi=>by
    obtain ⟨hi,h41,ha⟩:=hi
    unfold Q2p
    by_cases h:i < l.length
    · rw [if_pos (by simpa using h)]
      by_cases h4 : 40 < i
      · right
        exact ⟨_,by rw [if_pos (by simpa using h4),Q9,if_pos rfl,aw,Q9],.inl rfl⟩
      · obtain ⟨g,hg1,hg2⟩:=great_is hN (hl _ (List.getElem_mem h))
        rw [if_neg (by simpa using h4),List.getElem?_eq_getElem h,Q9,hg1,Q9,Q9]
        cases g
        · left
          refine ⟨i + 1,by rw [if_neg (by simp),QC (by omega)],⟨by omega,by omega,fun y hy=>?_⟩,by omega⟩
          rw [List.take_add_one,List.getElem?_eq_getElem h] at hy
          rcases List.mem_append.1 hy with hy | hy
          · exact ha y hy
          · simp at hy; subst hy; exact hg2 rfl
        · right
          exact ⟨_,by rw [if_pos rfl,aw,Q9],.inl rfl⟩
    · right
      refine ⟨_,by rw [if_neg (by simpa using h)],.inr ⟨rfl,by omega,fun y hy=>?_⟩⟩
      rw [List.take_of_length_le (by omega)] at ha
      exact ha y hy) N 0 ⟨by omega,by omega,by simp⟩ (by omega)
  unfold QY
  rw [h1]
  rcases h2 with rfl | ⟨rfl,hlen,htiny⟩
  · rfl
  · simp only [Q7X]
    rw [show Q6p N = some () from rfl,show Q5i N = some () from rfl,Q9,Q9]
    rcases livesC_is hN aw (l:=l) (by omega) htiny b a with h3 | ⟨L,nx,h3,hT⟩
    · rw [h3]; rfl
    · rw [h3]
      simp only [Q7X]
      obtain ⟨o, h4, h5⟩ := Q47 (f := Q2r N m) (fun s => s.1 ≤ 120 ∧ TabT s.2.1 s.2.2.1 ∧ s.2.2.2.1 = s.2.1 ∧ s.2.2.2.2 = s.2.2.1) (fun s => 120 - s.1)
        (fun o=>(∃ L nx,o = .inl (L,nx,L,nx) ∧ TabT L nx) ∨ o = .inr true) (fun s hs=>by
          obtain ⟨i,L,nx,L2,nx2⟩:=s
          obtain ⟨hi,ht,e1,e2⟩:=hs
          simp only at hi ht e1 e2
          subst e1; subst e2
          unfold Q2r
          simp only
          by_cases h:i < m.length ∧ i < 120
          · have e:(if (decide (i < m.length)) = true then some (decide (i < 120)) else some false) = some true:=by
              rw [if_pos (by simpa using h.1)]; simp [h.2]
            have hy:=List.getElem?_eq_getElem h.1
            obtain ⟨g,hg1,hg2⟩:=great_is hN (hm _ (List.getElem_mem h.1))
            rw [e,Q9,if_pos rfl,hy,Q9,hg1,Q9]
            cases g with
            | true=>right; exact ⟨_,by rw [if_pos rfl,aw,Q9],.inr rfl⟩
            | false =>
              left
              obtain ⟨L',nx',hd,ht'⟩:=step_is hN ht m[i].op m[i].id m[i].seq m[i].reply.err m[i].reply.num (fs:=m[i].reply.facts) (sd:=m[i].reply.said) (hg2 rfl)
              refine ⟨(i + 1,L',nx',L',nx'),?_,⟨by simp only; omega,ht',rfl,rfl⟩,by simp only; omega⟩
              rw [if_neg (by simp),Q9,hd,Q9]
              simp only
              rw [if_neg (by simp),alike_is hN ht',Q9,Q9]
              simp only
              rw [if_neg (by simp),QC (by omega)]
          · right
            have e:(if (decide (i < m.length)) = true then some (decide (i < 120)) else some false) = some false:=by
              by_cases h0:i < m.length
              · rw [if_pos (by simpa using h0)]; simp; omega
              · rw [if_neg (by simpa using h0)]
            exact ⟨_,by rw [e,Q9,if_neg (by simp)],.inl ⟨_,_,rfl,ht⟩⟩) N (0,L,nx,L,nx) ⟨by simp,hT,rfl,rfl⟩ (by simp only; omega)
      rw [h4]
      rcases h5 with ⟨L,nx,rfl,ht⟩ | rfl
      · simp only [Q7X]
        have hlen:=ht.len
        rw [All_is hN (by omega) ht.fit ht.pos,Q9,Q9,QC ⟨by simp,fun y hy=>by
          simp at hy
          subst hy
          exact ⟨by omega,fun u hu=>⟨by have:=(ht.tiny u hu).1; omega,fun f hf=>by have:=(ht.tiny u hu).2.2 f hf; unfold Q6n; omega,by have:=(ht.tiny u hu).2.1; omega⟩⟩⟩,alike_is hN ht,Q9,if_pos rfl,aw,Q9]
      · rfl
end
theorem awake_is:Q20 9223372036854775808 = some true:=by kernel_rfl
end Go.Proofs.YtjfpefddanmliaaGreat
