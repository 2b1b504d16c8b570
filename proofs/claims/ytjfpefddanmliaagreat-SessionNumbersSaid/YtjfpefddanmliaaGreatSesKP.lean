import Derived.Test.YtjfpefddanmliaaGreatKeepV
import Derived.Test.YtjfpefddanmliaaGreatXM
namespace Go.Proofs.YtjfpefddanmliaaGreat
open Go.RowKit
section sessions
variable {N:Nat} {l:List SessD}
def sS (s:SessD):SessDS:=⟨s.id,s.seq,⟨s.r.err,s.r.num,s.r.facts.map sF,tailF,s.r.said,Q6e⟩⟩
def mkS (z:Int):SessDS:=⟨IntKind.wrap .i64 ((IntKind.wrap .i64 (1000003 * (IntKind.wrap .i64 (1 + 7)))) + z),0,⟨0,0,[],[],[],[]⟩⟩
def tailS:List SessDS:=(List.range 12).map fun i=>mkS ((i:Nat):Int)
theorem tailS_len:tailS.length = 12:=by simp [tailS]
theorem tailS_at {i:Nat} (h:i < 12):tailS[i]? = some (mkS ((i:Nat):Int)):=by simp [tailS,h]
def lS (l:List SessD):List SessDS:=l.map sS ++ tailS
theorem lS_len:(lS l).length = l.length + 12:=by simp [lS,tailS_len]
theorem lS_at {i:Nat} (h:i < l.length):(lS l)[i]? = some (sS l[i]):=by unfold lS; rw [List.getElem?_append_left (by simpa using h)]; simp [h]
theorem lS_tail {i:Nat} (h:l.length ≤ i) (h2:i < l.length + 12):(lS l)[i]? = some (mkS (((i:Nat):Int) - ((l.length:Nat):Int))):=by
  unfold lS
  rw [List.getElem?_append_right (by simpa using h),List.length_map,tailS_at (by omega)]
  congr 2; omega
theorem map_sF (l:List FactD):(l.map sF).map Q3k = l:=by
  rw [List.map_map,show (Q3k ∘ sF) = id from by funext f; rfl,List.map_id]
theorem to_sS (s:SessD):Q3E (sS s) = s:=by
  unfold Q3E to_ReplyD sS
  simp only [map_sF]
theorem lS_to:((lS l).map Q3E).take l.length = l:=by
  unfold lS
  rw [List.map_append,List.map_map,List.take_append_of_le_length (by simp)]
  have:(Q3E ∘ sS) = id:=by funext f; exact to_sS f
  rw [this,List.map_id,List.take_length]
def okS (l:List SessD):Prop:=l.length ≤ 1000000 ∧ ∀ s ∈ l,okF s.r.facts ∧ s.r.said.length ≤ 1000000000
theorem lF_take {l:List FactD}:(lF l).take l.length = l.map sF:=by
  unfold lF
  rw [List.take_left' (by simp)]
theorem lF_drop {l:List FactD}:(lF l).drop l.length = tailF:=by
  unfold lF
  rw [List.drop_left' (by simp)]
variable (hN : 9223372036854775808 ≤ N)
include hN
theorem lentReply_is {a b:Int} {fs:List FactD} {sd:List V} (h:okF fs) (h2:sd.length ≤ 1000000000):Q24 N a b fs sd = some (lF fs,sd ++ Q6e):=by
  unfold Q24
  rw [lentFacts_is (by omega) h,Q9,Q7M (by omega) h2]; rfl
theorem Q8E {a b:Int} {fs:List FactD} {sd:List V} (h:okF fs) (h2:sd.length ≤ 1000000000):Q1P N a b (lF fs) fs.length (sd ++ Q6e) sd.length a b fs sd = some true:=by
  unfold Q1P Q2Z
  rw [if_pos (by simp),if_pos (by simp),Q8D (by omega) h,Q9,if_pos rfl,Q5Z (by omega) h2]; rfl
theorem keptReply_is {a b:Int} {fs:List FactD} {sd:List V} (h:okF fs) (h2:sd.length ≤ 1000000000):Q1Q N a b (lF fs) fs.length (sd ++ Q6e) sd.length a b fs sd = some true:=by
  unfold Q1Q
  rw [Q8E hN h h2,Q9,if_pos rfl,keptFacts_is (by omega) h,Q9,if_pos rfl,Q7Q (by omega) h2]; rfl
theorem keptSession_is {s:SessD} (h:okF s.r.facts) (h2:s.r.said.length ≤ 1000000000):Q3j N (sS s).id (sS s).seq (sS s).r.err (sS s).r.num ((sS s).r.facts ++ (sS s).r.factsT) (sS s).r.facts.length ((sS s).r.said ++ (sS s).r.saidT) (sS s).r.said.length s.id s.seq s.r.err s.r.num s.r.facts s.r.said = some true:=by
  unfold Q3j Q1A
  have e:(sS s).r.facts.length = s.r.facts.length:=by simp [sS]
  have e2:(sS s).r.facts ++ (sS s).r.factsT = lF s.r.facts:=rfl
  have e3:(sS s).r.said ++ (sS s).r.saidT = s.r.said ++ Q6e:=rfl
  have e4:(sS s).r.said.length = s.r.said.length:=rfl
  rw [e,e2,e3,e4,if_pos (by simp [sS]),if_pos (by simp [sS]),show (sS s).r.err = s.r.err from rfl,show (sS s).r.num = s.r.num from rfl,Q8E hN h h2,Q9,Q9,if_pos rfl,keptReply_is hN h h2]; rfl
theorem sameFactsW_nil:Q2b N [] 0 [] = some true:=by
  unfold Q2b
  rw [if_neg (by simp),Q6S 0 (fun i hi=>absurd hi (by omega)) (by unfold Q2e; rw [if_neg (by simp)]) (by omega)]
  rfl
theorem markSession_same {z:Int}:Q1A N (mkS z).id (mkS z).seq (mkS z).r.err (mkS z).r.num ((mkS z).r.facts ++ (mkS z).r.factsT) (mkS z).r.facts.length ((mkS z).r.said ++ (mkS z).r.saidT) (mkS z).r.said.length (mkS z).id 0 0 0 [] [] = some true:=by
  unfold Q1A Q1P Q2Z
  have h:=Q5Z (N:=N) (l:=[]) (t:=[]) (by omega) (by simp)
  simp only [mkS,List.append_nil,List.length_nil] at h ⊢
  rw [if_pos (by simp),if_pos (by simp),if_pos (by simp),if_pos (by simp),sameFactsW_nil hN,Q9,if_pos rfl,h]; rfl
theorem lentSessions_is (hl:okS l):Q3s N l = some (lS l):=by
  obtain ⟨h1,h2⟩:=hl
  unfold Q3s
  rw [QC (by omega),QC (by omega),Q6R l.length (fun i=>sS (l.getD i ⟨0,0,⟨0,0,[],[]⟩⟩)) [] (fun i hi=>by
    unfold Q2N Q4i
    have hs:=h2 _ (List.getElem_mem hi)
    simp only
    rw [if_pos (by simpa using hi),List.getElem?_eq_getElem hi,Q9,lentReply_is hN hs.1 hs.2,Q9]
    simp only
    rw [Q9]
    simp only
    rw [QC (by rw [lF_len]; omega),QC (by simp),QC (by simp; omega),QC (by omega),lF_take,lF_drop]
    simp [sS,hi]) (by unfold Q2N; simp only; rw [if_neg (by simp)]) (by omega),Q9,List.nil_append,Q8z l sS ⟨0,0,⟨0,0,[],[]⟩⟩,Q6R 12 (fun i=>mkS ((i:Nat):Int)) (l.map sS) (fun i hi=>by
    unfold Q2M
    simp only
    rw [if_pos (by simpa using hi),show Q1z N 1 ((i:Nat):Int) = some () from rfl,Q9,QC (by simp; omega),QC (by omega)]
    rfl) (by unfold Q2M; simp only; rw [if_neg (by simp)]) (by omega),Q9,QC (by simp)]
  rfl
theorem keptSessions_is (hl:okS l):Q2f N (lS l) l.length l = some true:=by
  obtain ⟨h1,h2⟩:=hl
  have ht:(lS l).take (l.length + 12) = lS l:=List.take_of_length_le (by rw [lS_len]; omega)
  unfold Q2f
  rw [if_neg (by simp),QC (by omega),QC (by rw [lS_len]; omega),Q6S (l.length + 12) (fun i hi=>by
    unfold Q2u Q4f
    rw [ht,if_pos (by rw [lS_len]; simpa using hi)]
    by_cases h:i < l.length
    · have hs:=h2 _ (List.getElem_mem h)
      rw [if_pos (by simpa using h),lS_at h,Q9,List.getElem?_eq_getElem h,Q9,keptSession_is hN hs.1 hs.2,Q9,if_neg (by simp),if_neg (by simp; omega),Q9,if_neg (by simp),QC (by omega)]
    · rw [if_neg (by simpa using h),if_pos (by simp; omega),lS_tail (by omega) hi,Q9,QC (by omega),show Q1z N 1 (((i:Nat):Int) - ((l.length:Nat):Int)) = some () from rfl,Q9]
      have:=markSession_same (N:=N) (z:=((i:Nat):Int) - ((l.length:Nat):Int)) hN
      simp only [mkS] at this ⊢
      rw [this,Q9,Q9,if_neg (by simp),QC (by omega)])
    (by unfold Q2u; rw [ht,if_neg (by rw [lS_len]; simp)]) (by omega)]
  rfl
theorem overSession_is {s:SessD} (h:okF s.r.facts) (h2:s.r.said.length ≤ 1000000000) : ∃ o,Q3l N (sS s).id (sS s).seq (sS s).r.err (sS s).r.num ((sS s).r.facts ++ (sS s).r.factsT) (sS s).r.facts.length ((sS s).r.said ++ (sS s).r.saidT) (sS s).r.said.length = some o:=by
  unfold Q3l Q2U
  have e:(sS s).r.facts.length = s.r.facts.length:=by simp [sS]
  have e2:(sS s).r.facts ++ (sS s).r.factsT = lF s.r.facts:=rfl
  have e3:(sS s).r.said ++ (sS s).r.saidT = s.r.said ++ Q6e:=rfl
  have e4:(sS s).r.said.length = s.r.said.length:=rfl
  obtain ⟨o,g1,_⟩:=overFacts_is (N:=N) (by omega) h
  obtain ⟨o2,g2,_⟩:=Q7H (N:=N) (l:=s.r.said ++ Q6e) (k:=s.r.said.length) (by omega) (by simp [Q5M]; omega) (by simp [Q5M])
  exact ⟨_,by rw [e,e2,e3,e4,g1,Q9,g2,Q9]; rfl⟩
theorem overSessions_is (hl:okS l) : ∃ o,Q30 N (lS l) l.length = some o:=by
  obtain ⟨h1,h2⟩:=hl
  have hlen:=lS_len (l:=l)
  obtain ⟨m,g1,g2⟩:=Q47 (f:=Q2q N l.length) (fun s=>s.1 ≤ l.length ∧ s.2.length = (lS l).length ∧ ∀ j,s.1 ≤ j → j < l.length → s.2[j]? = (lS l)[j]?) (fun s=>l.length - s.1) (fun o=>o.length = (lS l).length) (fun s hs=>by
    obtain ⟨i,m⟩:=s
    obtain ⟨hi,hm,hj⟩:=hs
    simp only at hi hm hj
    unfold Q2q
    simp only
    by_cases h:i < l.length
    · left
      have hs:=h2 _ (List.getElem_mem h)
      obtain ⟨⟨o1,o2⟩,ho⟩:=overSession_is (N:=N) (s:=l[i]) hN hs.1 hs.2
      refine ⟨_,by rw [if_pos (by simpa using h),hj i (Nat.le_refl _) h,lS_at h,Q9,QC h,ho,Q9]; simp only; rw [QC (by omega)],⟨by simp only; omega,by simpa using hm,fun j hij hjl=>?_⟩,by simp only; omega⟩
      simp only at hij ⊢
      rw [List.getElem?_set_ne (by omega)]; exact hj j (by omega) hjl
    · right
      exact ⟨m,by rw [if_neg (by simpa using h)],hm⟩) N (0,lS l) ⟨Nat.zero_le _,rfl,fun _ _ _=>rfl⟩ (by simp only; omega)
  unfold Q30
  rw [g1,Q9,QC (by omega),QC (by omega)]
  obtain ⟨q,hq,_⟩:=Q47 (f:=Q2x N l.length) (fun s=>s.1 ≤ l.length + 12 ∧ s.2.length = (lS l).length) (fun s=>l.length + 12 - s.1) (fun _=>True) (fun s hs=>by
    obtain ⟨i,q⟩:=s
    obtain ⟨hi,hm⟩:=hs
    simp only at hi hm
    unfold Q2x
    simp only
    by_cases h:i < l.length + 12
    · left
      refine ⟨_,by rw [if_pos (by simpa using h),show Q1z N 2 ((i:Nat):Int) = some () from rfl,Q9,List.getElem?_eq_getElem (by omega),Q9,QC h,QC (by omega)],⟨by simp only; omega,by simpa using hm⟩,by simp only; omega⟩
    · right
      exact ⟨q,by rw [if_neg (by simpa using h)],trivial⟩) N (0,m) ⟨Nat.zero_le _,g2⟩ (by simp only; omega)
  exact ⟨q,hq⟩
end sessions
end Go.Proofs.YtjfpefddanmliaaGreat
