import Derived.Test.YtjfpefddanmliaaGreatSesSP
import Derived.Test.YtjfpefddanmliaaGreatKeepV
namespace Go.Proofs.YtjfpefddanmliaaGreat
open Go.RowKit
def ReplyD.tiny (x:ReplyD):Prop:=x.facts.length ≤ 200 ∧ x.said.length ≤ 200 ∧ ∀ f ∈ x.facts,f.args.length ≤ 200
theorem ReplyD.tiny.fit {x:ReplyD} (h:x.tiny):x.fit:=⟨by have:=h.1; omega,by have:=h.2.1; omega,fun f hf=>by have:=h.2.2 f hf; omega⟩
theorem ReplyD.tiny.okF {x:ReplyD} (h:x.tiny):okF x.facts:=⟨by have:=h.1; omega,fun f hf=>by have:=h.2.2 f hf; omega⟩
theorem tiny_new (n:Int):(sesNew n).r.tiny:=⟨by simp [sesNew],by simp [sesNew],fun f hf=>by simp [sesNew] at hf⟩
structure TabT (L:List SessD) (nx:Int):Prop where
  pos : 0 < nx
  top:nx ≤ 1099511627777
  len:L.length ≤ 32
  tiny : ∀ s ∈ L,s.r.tiny
theorem TabT.fit {L:List SessD} {nx:Int} (h:TabT L nx) : ∀ s ∈ L,s.r.fit:=fun s hs=>(h.tiny s hs).fit
theorem tabT_sub {L M:List SessD} {nx:Int} (h:TabT L nx) (hs:M.Sublist L):TabT M nx:=⟨h.pos,h.top,Nat.le_trans hs.length_le h.len,fun s hm=>h.tiny s (hs.subset hm)⟩
section
variable {N:Nat} (hN : 9223372036854775808 ≤ N)
include hN
theorem Q85 {a b:Int} {fs:List FactD} {sd:List V} (h:(⟨a,b,fs,sd⟩ : ReplyD).tiny):Q2A N a b fs sd = some fs:=by
  unfold Q2A Q38
  have h2:=h.2.1
  simp only at h2
  rw [copyFacts_is (by omega) h.okF,Q9,QC (by simp; omega)]; rfl
theorem Q6r {l:List SessD} (hl:l.length ≤ 1000000) (ht : ∀ y ∈ l,y.r.tiny):Q1J N l = some l:=by
  unfold Q1J
  rw [Q6R l.length (fun i=>l.getD i ⟨0,0,⟨0,0,[],[]⟩⟩) [] (fun i hi=>by
    unfold Q2O Q4j
    have:=ht _ (List.getElem_mem hi)
    simp only
    rw [if_pos (by simpa using hi),List.getElem?_eq_getElem hi,Q9,Q85 hN (a:=l[i].r.err) (b:=l[i].r.num) (fs:=l[i].r.facts) (sd:=l[i].r.said) this,Q9,Q9,QC (by simp; omega),QC (by omega)]
    simp [hi]) (by unfold Q2O; simp only; rw [if_neg (by simp)]) (by omega)]
  rw [Q9,List.nil_append]
  have:=Q8z l (fun x=>x) ⟨0,0,⟨0,0,[],[]⟩⟩
  rw [this,List.map_id']
theorem place_is {l:List SessD} {nx id:Int} (hl:l.length ≤ 9223372036854775807):Q1C N l nx id = some (Q1o l id):=by
  obtain ⟨o, h1, h2⟩ := Q47 (f := Q27 N l id) (fun i => i ≤ l.length ∧ ∀ y ∈ l.take i, y.id ≠ id) (fun i => l.length - i)
    (fun o=>o = .inr (Q1o l id) ∨ (o = .inl () ∧ Q1o l id = -1)) (fun i hi=>by
      unfold Q27
      by_cases hlt:i < l.length
      · have hx:=List.getElem?_eq_getElem hlt
        rw [if_pos (by simpa using hlt),hx]
        simp only [Q9]
        by_cases he:l[i].id = id
        · right
          exact ⟨_,by rw [if_pos (by simpa using he)],.inl (by rw [placeOf_at hi.2 hx he])⟩
        · left
          exact ⟨i + 1,by rw [if_neg (by simpa using he),QC (by omega)],⟨by omega,noId_step hi.2 hx he⟩,by omega⟩
      · right
        exact ⟨_,by rw [if_neg (by simpa using hlt)],.inr ⟨rfl,Q82 (noId_all hi.2 (by omega))⟩⟩) N 0 ⟨by omega,by simp⟩ (by omega)
  unfold Q1C
  rw [h1]
  rcases h2 with rfl | ⟨rfl,h3⟩
  · rfl
  · rw [h3]; rfl
variable {L:List SessD} {nx:Int} (ht:TabT L nx)
include ht
theorem open2_is : ∃ a e L' nx',Q3T N L nx = some (a,e,L',nx') ∧ Q3v N L nx = some (a,e,L',nx') ∧ TabT L' nx':=by
  have h1:=ht.pos
  have h2:=ht.top
  have h3:=ht.len
  unfold Q3T Q3v
  rw [known_is,Q9,if_neg (by simp; omega)]
  by_cases h : 32 ≤ L.length
  · rw [if_pos (by simpa using h)]
    simp only [Q9,if_true]
    exact ⟨_,_,_,_,rfl,rfl,ht⟩
  · rw [if_neg (by simpa using h)]
    simp only [Q9]
    by_cases h4:nx > 1099511627776
    · rw [if_pos (by simpa using h4)]
      exact ⟨_,_,_,_,rfl,if_pos (by simpa using h4),ht⟩
    · rw [if_neg (by simpa using h4),Q6r hN (by omega) ht.tiny]
      simp only [Q9]
      rw [QC (by simp; omega),QC (by omega),QC (by omega),if_neg (by simpa using h4)]
      refine ⟨_,_,_,_,rfl,rfl,by omega,by omega,by simp; omega,fun s hs=>?_⟩
      rcases List.mem_append.1 hs with hs | hs
      · exact ht.tiny s hs
      · simp at hs; subst hs; exact tiny_new nx
theorem expire2_is (id:Int) : ∃ e L',Q1U N L nx id = some (e,L') ∧ Q2v N L nx id = some (e,L') ∧ TabT L' nx:=by
  have h1:=ht.pos
  have h3:=ht.len
  obtain ⟨e,he,h⟩:=Expire_is (N:=N) (l:=L) (nx:=nx) (id:=id) hN (by omega) h1
  refine ⟨e,_,h,?_,?_⟩
  · unfold Q2v Q8q at *
    rw [place_is hN (by omega),Q9]
    rcases Int.lt_or_le (Q1o L id) 0 with h0 | h0
    · rw [if_pos h0] at he ⊢
      rw [if_pos (by simpa using h0)]
      have:e = 303:=by omega
      rw [this]
    · have hlt:=placeOf_lt h0
      rw [if_neg (by omega)] at he
      rw [if_neg (show ¬ (Q1o L id < 0) by omega),if_neg (by simp; omega),QC h0,QC (by omega),Q6r hN (by rw [List.length_take]; omega) (fun y hy=>ht.tiny y (List.mem_of_mem_take hy)),Q9,QC (by omega),QC (by omega),QC (by omega),QC (by rw [List.length_take,List.length_drop]; omega)]
      have:e = 0:=by omega
      rw [this,show (Q1o L id + 1).toNat = (Q1o L id).toNat + 1 by omega]
  · refine tabT_sub ht ?_
    unfold Q8q
    split
    · exact List.Sublist.refl _
    · have q:(L.take (Q1o L id).toNat ++ L.drop ((Q1o L id).toNat + 1)).Sublist (L.take (Q1o L id).toNat ++ L.drop (Q1o L id).toNat) :=
        List.Sublist.append (List.Sublist.refl _) (List.drop_sublist_drop_left _ (by omega))
      rwa [List.take_append_drop] at q
theorem ask2_is (id seq:Int) : ∃ r b e,Q1E N L nx id seq = some (r.err,r.num,r.facts,r.said,b,e) ∧ Q2Y N L nx id seq = some (r.err,r.num,r.facts,r.said,b,e) ∧ (r:ReplyD).tiny:=by
  have h1:=ht.pos
  have h3:=ht.len
  have hnil:(⟨0,0,[],[]⟩ : ReplyD).tiny:=tiny_new 0
  unfold Q1E Q2Y
  rw [at_is hN (by omega) h1,place_is hN (by omega),Q9,Q9]
  rcases Int.lt_or_le (Q1o L id) 0 with h0 | h0
  · rw [if_pos h0,if_pos (by simpa using h0)]
    exact ⟨⟨0,0,[],[]⟩,false,303,rfl,rfl,hnil⟩
  · obtain ⟨s,q1,q2,_⟩:=ask_some (seq:=seq) h0
    have hs:=ht.tiny s (List.mem_of_getElem? q1)
    rw [if_neg (by omega),if_neg (by simp; omega)]
    simp only [bne_self_eq_false,Bool.false_eq_true,if_false,QC h0,q1,Q9,decide_eq_true_eq,beq_iff_eq,own_is hN hs.fit,Q85 hN (a:=s.r.err) (b:=s.r.num) hs]
    by_cases c1:seq < 1
    · simp only [c1,if_true,Q9]
      exact ⟨⟨0,0,[],[]⟩,false,304,rfl,rfl,hnil⟩
    · by_cases c2:seq < s.seq
      · simp only [c1,c2,if_true,if_false,Q9,decide_true]
        exact ⟨⟨0,0,[],[]⟩,false,304,rfl,rfl,hnil⟩
      · by_cases c3:seq = s.seq
        · subst c3
          simp only [c1,if_false,Q9,if_true,Int.lt_irrefl,decide_false,Bool.false_eq_true]
          exact ⟨s.r,true,0,rfl,rfl,hs⟩
        · simp only [c1,c2,c3,if_false,Q9,decide_false,Bool.false_eq_true]
          exact ⟨⟨0,0,[],[]⟩,false,0,rfl,rfl,hnil⟩
theorem done2_is (id seq a b:Int) {fs:List FactD} {sd:List V} (hx:(⟨a,b,fs,sd⟩ : ReplyD).tiny) : ∃ e L',Q3V N L nx id seq a b fs sd = some (e,L') ∧ Q2J N L nx id seq a b fs sd = some (e,L') ∧ TabT L' nx:=by
  have h1:=ht.pos
  have h3:=ht.len
  unfold Q3V Q2J
  rw [at_is hN (by omega) h1,place_is hN (by omega),Q9,Q9]
  rcases Int.lt_or_le (Q1o L id) 0 with h0 | h0
  · rw [if_pos h0,if_pos (by simpa using h0)]
    exact ⟨303,L,rfl,rfl,ht⟩
  · obtain ⟨s,q1,q2,_⟩:=ask_some (seq:=seq) h0
    rw [if_neg (by omega),if_neg (by simp; omega)]
    simp only [bne_self_eq_false,Bool.false_eq_true,if_false,QC h0,q1,Q9,decide_eq_true_eq,own_is hN hx.fit,Q6r hN (show L.length ≤ 1000000 by omega) ht.tiny,Q85 hN hx]
    by_cases c1:seq < 1
    · simp only [c1,if_true,Q9]
      exact ⟨304,L,rfl,rfl,ht⟩
    · by_cases c2:seq ≤ s.seq
      · simp only [c1,c2,if_true,if_false,Q9,decide_true]
        exact ⟨304,L,rfl,rfl,ht⟩
      · simp only [c1,c2,if_false,Q9,decide_false,Bool.false_eq_true]
        refine ⟨0,_,rfl,rfl,h1,ht.top,by simpa using h3,fun t hm=>?_⟩
        rcases List.mem_or_eq_of_mem_set hm with hm | rfl
        · exact ht.tiny t hm
        · exact hx
theorem alike_is:Q3L N L nx L nx = some true:=by
  have h1:=ht.pos
  have h3:=ht.len
  unfold Q3L Q57
  rw [known_is,Q9,if_neg (by simp; omega),Q9,if_pos (by simp),All_is hN (by omega) ht.fit h1,Q9,(sameSessions_is hN (by omega) ht.fit).eq_true rfl]
  rfl
theorem step_is (op id seq a b:Int) {fs:List FactD} {sd:List V} (hx:(⟨a,b,fs,sd⟩ : ReplyD).tiny) : ∃ L' nx',Q3W N L nx L nx op id seq a b fs sd = some (true,L',nx',L',nx') ∧ TabT L' nx':=by
  obtain ⟨y,hy,_⟩:=Pick_is (N:=N) (x:=op) (n:=6) (by omega)
  have hsd:sd.length ≤ 200:=hx.2.1
  unfold Q3W
  rw [hy,Q9]
  by_cases c0:y = 0
  · obtain ⟨p,e,L',nx',g1,g2,g3⟩:=open2_is hN ht
    rw [if_pos (by simpa using c0),g1,Q9]
    simp only
    rw [g2,Q9]
    simp only
    rw [if_pos (by simp),show (e == e) = true by simp]
    exact ⟨_,_,rfl,g3⟩
  · rw [if_neg (by simpa using c0)]
    by_cases c1:y = 1
    · obtain ⟨e,L',g1,g2,g3⟩:=expire2_is hN ht id
      rw [if_pos (by simpa using c1),g1,Q9]
      simp only
      rw [g2,Q9]
      simp only
      rw [show (e == e) = true by simp]
      exact ⟨_,_,rfl,g3⟩
    · rw [if_neg (by simpa using c1)]
      have hj:(if (y == 2) = true then some (y == 2) else some (y == 3)) = some (decide (y = 2 ∨ y = 3)):=by
        by_cases c2:y = 2
        · rw [if_pos (by simpa using c2)]; simp [c2]
        · rw [if_neg (by simpa using c2)]; by_cases h3:y = 3 <;> simp [c2,h3]
      rw [hj,Q9]
      by_cases c2:y = 2 ∨ y = 3
      · obtain ⟨e,L',g1,g2,g3⟩:=done2_is hN ht id seq a b hx
        obtain ⟨o,g4,_⟩:=overFacts_is (N:=N) (by omega) hx.okF
        obtain ⟨o2,g5,_⟩:=Q7H (N:=N) (l:=sd ++ Q6e) (k:=sd.length) (by omega) (by simp [Q5M]; omega) (by simp [Q5M])
        have hl:Q24 N a b fs sd = some (lF fs,sd ++ Q6e):=by
          unfold Q24
          rw [lentFacts_is (by omega) hx.okF,Q9,Q7M (by omega) (by omega)]; rfl
        have hk:Q1Q N a b (lF fs) fs.length (sd ++ Q6e) sd.length a b fs sd = some true:=by
          unfold Q1Q Q1P Q2Z
          rw [if_pos (by simp),if_pos (by simp),Q8D (by omega) hx.okF,Q9,if_pos rfl,Q5Z (by omega) (by omega),Q9,Q9,Q9,if_pos rfl,keptFacts_is (by omega) hx.okF,Q9,if_pos rfl,Q7Q (by omega) (by omega)]
          rfl
        have e1:((lF fs).map Q3k).take fs.length = fs:=lF_to
        have e2:(sd ++ Q6e).take sd.length = sd:=by rw [List.take_left']; rfl
        rw [if_pos (by simpa using c2),hl,Q9]
        simp only
        have hc:Q49 N fs (lF fs) sd (sd ++ Q6e) L nx id seq a b L nx = some (true,L',L'):=by
          unfold Q49
          rw [QC (by rw [lF_len]; omega),QC (by simp),e1,e2,g1,Q9]
          simp only
          rw [g2,Q9]
          simp only
          rw [if_pos (by simp),hk]; rfl
        rw [hc,Q9]
        simp only
        unfold Q2U
        rw [g4,Q9,g5,Q9,Q9]
        exact ⟨_,_,rfl,g3⟩
      · obtain ⟨r,q,e,g1,g2,g3⟩:=ask2_is hN ht id seq
        rw [if_neg (by simpa using c2),g1,Q9]
        simp only
        rw [g2,Q9]
        simp only
        rw [Q9]
        have hc:Q42 N q q e e r.err r.num r.facts r.said r.err r.num r.facts r.said r.err r.num r.facts r.said = some true:=by
          unfold Q42
          have hr : ∀ u ∈ [r],Q6v u:=fun u hu=>by
            simp at hu; subst hu
            unfold Q6v Q6n
            have k1:=g3.1
            have k2:=g3.2.1
            exact ⟨by omega,fun f hf=>by have:=g3.2.2 f hf; omega,by omega⟩
          rw [if_pos (by simp),if_pos (by simp),(sameReply_is hN g3.fit).eq_true rfl,Q9,if_pos rfl,QC ⟨by simp,fun y hy=>by
            simp at hy
            rcases hy with rfl | rfl <;> exact ⟨by simp,hr⟩⟩]
        rw [hc,Q9]
        exact ⟨_,_,rfl,ht⟩
end
end Go.Proofs.YtjfpefddanmliaaGreat
