import Derived.Test.YtjfpefddanmliaaGreatXM
import Derived.Test.YtjfpefddanmliaaGreatPlain2
namespace Go.Proofs.YtjfpefddanmliaaGreat
open Go.RowKit
section values
variable {N:Nat} {l:List V}
def mkV (z:Int):V:=⟨0,IntKind.wrap .i64 ((IntKind.wrap .i64 (1000003 * (IntKind.wrap .i64 (1 + 7)))) + z),(⟨#[]⟩ : ByteArray)⟩
def Q6e:List V:=(List.range 12).map fun i=>mkV ((i:Nat):Int)
theorem Q5M:Q6e.length = 12:=by simp [Q6e]
theorem tailV_at {i:Nat} (h:i < 12):Q6e[i]? = some (mkV ((i:Nat):Int)):=by simp [Q6e,h]
theorem Q7M (hN : 100 ≤ N) (hl:l.length ≤ 1000000000):Q37 N l = some (l ++ Q6e):=by
  unfold Q37
  rw [QC (by omega),QC (by omega),QC (by simp; omega),Q6R 12 (fun i=>mkV ((i:Nat):Int)) l (fun i hi=>by
    unfold Q3m
    simp only
    rw [if_pos (by simpa using hi),show Q1N N 1 ((i:Nat):Int) = some () from rfl,Q9,QC (by simp; omega),QC (by omega)]
    rfl) (by unfold Q3m; simp only; rw [if_neg (by simp)]) (by omega)]
  rw [Q9,QC (by simp)]; rfl
theorem Q7Q (hN : 2000000000 ≤ N) (hl:l.length ≤ 1000000000):Q2E N (l ++ Q6e) l.length l = some true:=by
  unfold Q2E
  rw [if_neg (by simp),QC (by omega),QC (by simp [Q5M]),Q6S (l.length + 12) (fun i hi=>by
    unfold Q2Q Q4y
    rw [take_all Q5M,if_pos (by simp [Q5M]; omega)]
    by_cases h:i < l.length
    · rw [if_pos (by simpa using h),app_l h,Q9,List.getElem?_eq_getElem h,Q9,if_neg (by simp),if_neg (by simp; omega),Q9,if_neg (by simp),QC (by omega)]
    · rw [if_neg (by simpa using h),if_pos (by simp; omega),app_r (by omega),tailV_at (by omega),Q9,QC (by omega),show Q1N N 1 (((i:Nat):Int) - ((l.length:Nat):Int)) = some () from rfl,Q9,Q9,
        if_neg (by rw [show (((i - l.length:Nat):Int)) = ((i:Nat):Int) - ((l.length:Nat):Int) by omega]; simp [mkV]),QC (by omega)])
    (by unfold Q2Q; rw [take_all Q5M,if_neg (by simp [Q5M])]) (by omega)]
  rfl
theorem Q5Z {t:List V} (hN : 2000000000 ≤ N) (hl:l.length ≤ 1000000000):Q2C N (l ++ t) l.length l = some true:=by
  unfold Q2C
  rw [if_neg (by simp),Q6S l.length (fun i hi=>by
    unfold Q2T
    rw [if_pos (by simpa using hi),QC hi,app_l hi,Q9,List.getElem?_eq_getElem hi,Q9,if_neg (by simp),QC (by omega)])
    (by unfold Q2T; rw [if_neg (by simp)]) (by omega)]
  rfl
theorem Q7H {k:Nat} (hN : 2000000000 ≤ N) (hl:l.length ≤ 1000000012) (hk:k + 12 ≤ l.length) : ∃ o,Q2G N l k = some o ∧ o.length = l.length:=by
  unfold Q2G
  rw [QC (by omega),QC hk]
  refine Q47 (f:=Q2R N k) (fun s=>s.1 ≤ k + 12 ∧ s.2.length = l.length) (fun s=>k + 12 - s.1) (fun o=>o.length = l.length) (fun s hs=>?_) N (0,l) ⟨Nat.zero_le _,rfl⟩ (by simp only; omega)
  obtain ⟨i,m⟩:=s
  obtain ⟨hi,hm⟩:=hs
  simp only at hi hm
  unfold Q2R
  simp only
  by_cases h:i < k + 12
  · left
    refine ⟨_,by rw [if_pos (by simpa using h),show Q1N N 2 ((i:Nat):Int) = some () from rfl,Q9,List.getElem?_eq_getElem (by omega),Q9,QC h,QC (by omega)],⟨by simp only; omega,by simpa using hm⟩,by simp only; omega⟩
  · right
    exact ⟨m,by rw [if_neg (by simpa using h)],hm⟩
end values
section facts
variable {N:Nat} {l:List FactD}
def sF (f:FactD):FactDS:=⟨f.id,f.ty,f.args,Q6e⟩
def mkF (z:Int):FactDS:=⟨IntKind.wrap .i64 ((IntKind.wrap .i64 (1000003 * (IntKind.wrap .i64 (1 + 7)))) + z),0,[],[]⟩
def tailF:List FactDS:=(List.range 12).map fun i=>mkF ((i:Nat):Int)
theorem tailF_len:tailF.length = 12:=by simp [tailF]
theorem tailF_at {i:Nat} (h:i < 12):tailF[i]? = some (mkF ((i:Nat):Int)):=by simp [tailF,h]
def lF (l:List FactD):List FactDS:=l.map sF ++ tailF
theorem lF_len:(lF l).length = l.length + 12:=by simp [lF,tailF_len]
theorem lF_at {i:Nat} (h:i < l.length):(lF l)[i]? = some (sF l[i]):=by unfold lF; rw [List.getElem?_append_left (by simpa using h)]; simp [h]
theorem lF_tail {i:Nat} (h:l.length ≤ i) (h2:i < l.length + 12):(lF l)[i]? = some (mkF (((i:Nat):Int) - ((l.length:Nat):Int))):=by
  unfold lF
  rw [List.getElem?_append_right (by simpa using h),List.length_map,tailF_at (by omega)]
  congr 2; omega
theorem lF_to:((lF l).map Q3k).take l.length = l:=by
  unfold lF
  rw [List.map_append,List.map_map,List.take_append_of_le_length (by simp)]
  have:(Q3k ∘ sF) = id:=by funext f; rfl
  rw [this,List.map_id,List.take_length]
def okF (l:List FactD):Prop:=l.length ≤ 1000000000 ∧ ∀ f ∈ l,f.args.length ≤ 1000000000
theorem lentFact_is {f:FactD} (hN : 100 ≤ N) (hl:f.args.length ≤ 1000000000):Q4a N f.id f.ty f.args = some (f.args ++ Q6e):=by
  unfold Q4a
  rw [Q7M hN hl]; rfl
theorem lentFacts_is (hN : 2000000000 ≤ N) (hl:okF l):Q3U N l = some (lF l):=by
  obtain ⟨h1,h2⟩:=hl
  unfold Q3U
  rw [QC (by omega),QC (by omega),Q6R l.length (fun i=>sF (l.getD i ⟨0,0,[]⟩)) [] (fun i hi=>by
    unfold Q3u
    simp only
    rw [if_pos (by simpa using hi),List.getElem?_eq_getElem hi,Q9,lentFact_is (by omega) (h2 _ (List.getElem_mem hi)),Q9,QC (by simp),QC (by simp; omega),QC (by omega)]
    simp [sF,hi]) (by unfold Q3u; simp only; rw [if_neg (by simp)]) (by omega),Q9,List.nil_append,Q8z l sF ⟨0,0,[]⟩,Q6R 12 (fun i=>mkF ((i:Nat):Int)) (l.map sF) (fun i hi=>by
    unfold Q3w
    simp only
    rw [if_pos (by simpa using hi),show Q1V N 1 ((i:Nat):Int) = some () from rfl,Q9,QC (by simp; omega),QC (by omega)]
    rfl) (by unfold Q3w; simp only; rw [if_neg (by simp)]) (by omega),Q9,QC (by simp)]
  rfl
theorem Q8i {f:FactD} (hN : 2000000000 ≤ N) (hl:f.args.length ≤ 1000000000):Q1i N f.id f.ty (f.args ++ Q6e) f.args.length f.id f.ty f.args = some true:=by
  unfold Q1i
  rw [if_pos (by simp),if_pos (by simp),Q5Z hN hl]; rfl
theorem keptFact_is {f:FactD} (hN : 2000000000 ≤ N) (hl:f.args.length ≤ 1000000000):Q36 N f.id f.ty (f.args ++ Q6e) f.args.length f.id f.ty f.args = some true:=by
  unfold Q36
  rw [Q8i hN hl,Q9,if_pos rfl,Q7Q hN hl]; rfl
theorem markFact_same {z:Int} (hN : 2000000000 ≤ N):Q1i N (mkF z).id (mkF z).ty ((mkF z).args ++ (mkF z).argsT) (mkF z).args.length (mkF z).id 0 [] = some true:=by
  have:=Q8i (N:=N) (f:=⟨(mkF z).id,0,[]⟩) hN (by simp)
  unfold Q1i at this ⊢
  rw [if_pos (by simp),if_pos (by simp [mkF])]
  have h:=Q5Z (N:=N) (l:=[]) (t:=[]) hN (by simp)
  simp only [mkF,List.append_nil,List.length_nil] at h ⊢
  rw [h]; rfl
theorem keptFacts_is (hN : 2000000000 ≤ N) (hl:okF l):Q3D N (lF l) l.length l = some true:=by
  obtain ⟨h1,h2⟩:=hl
  have ht:(lF l).take (l.length + 12) = lF l:=List.take_of_length_le (by rw [lF_len]; omega)
  unfold Q3D
  rw [if_neg (by simp),QC (by omega),QC (by rw [lF_len]; omega),Q6S (l.length + 12) (fun i hi=>by
    unfold Q2W Q4D
    rw [ht,if_pos (by rw [lF_len]; simpa using hi)]
    by_cases h:i < l.length
    · rw [if_pos (by simpa using h),lF_at h,Q9,List.getElem?_eq_getElem h,Q9,show Q36 N (sF l[i]).id (sF l[i]).ty ((sF l[i]).args ++ (sF l[i]).argsT) (sF l[i]).args.length l[i].id l[i].ty l[i].args = some true from keptFact_is hN (h2 _ (List.getElem_mem h)),Q9,if_neg (by simp),if_neg (by simp; omega),Q9,if_neg (by simp),QC (by omega)]
    · rw [if_neg (by simpa using h),if_pos (by simp; omega),lF_tail (by omega) hi,Q9,QC (by omega),show Q1V N 1 (((i:Nat):Int) - ((l.length:Nat):Int)) = some () from rfl,Q9]
      have:=markFact_same (N:=N) (z:=((i:Nat):Int) - ((l.length:Nat):Int)) hN
      simp only [mkF] at this ⊢
      rw [this,Q9,Q9,if_neg (by simp),QC (by omega)])
    (by unfold Q2W; rw [ht,if_neg (by rw [lF_len]; simp)]) (by omega)]
  rfl
theorem Q8D (hN : 2000000000 ≤ N) (hl:okF l):Q2b N (lF l) l.length l = some true:=by
  obtain ⟨h1,h2⟩:=hl
  unfold Q2b
  rw [if_neg (by simp),Q6S l.length (fun i hi=>by
    unfold Q2e
    rw [if_pos (by simpa using hi),QC hi,lF_at hi,Q9,List.getElem?_eq_getElem hi,Q9,show Q1i N (sF l[i]).id (sF l[i]).ty ((sF l[i]).args ++ (sF l[i]).argsT) (sF l[i]).args.length l[i].id l[i].ty l[i].args = some true from Q8i hN (h2 _ (List.getElem_mem hi)),Q9,if_neg (by simp),QC (by omega)])
    (by unfold Q2e; rw [if_neg (by simp)]) (by omega)]
  rfl
theorem overFact_is {x:FactDS} (hN : 2000000000 ≤ N) (hx:x.argsT.length = 12 ∧ x.args.length ≤ 1000000000) : ∃ o,Q3M N x.id x.ty (x.args ++ x.argsT) x.args.length = some o:=by
  unfold Q3M
  obtain ⟨o,h,_⟩:=Q7H (N:=N) (l:=x.args ++ x.argsT) (k:=x.args.length) hN (by simp; omega) (by simp; omega)
  exact ⟨o,by rw [h]; rfl⟩
theorem overFacts_is (hN : 2000000000 ≤ N) (hl:okF l) : ∃ o,Q3F N (lF l) l.length = some o ∧ o.length = (lF l).length:=by
  obtain ⟨h1,h2⟩:=hl
  have hlen:=lF_len (l:=l)
  obtain ⟨m,g1,g2⟩:=Q47 (f:=Q33 N l.length) (fun s=>s.1 ≤ l.length ∧ s.2.length = (lF l).length ∧ ∀ j,s.1 ≤ j → j < l.length → s.2[j]? = (lF l)[j]?) (fun s=>l.length - s.1) (fun o=>o.length = (lF l).length) (fun s hs=>by
    obtain ⟨i,m⟩:=s
    obtain ⟨hi,hm,hj⟩:=hs
    simp only at hi hm hj
    unfold Q33
    simp only
    by_cases h:i < l.length
    · left
      obtain ⟨o,ho⟩:=overFact_is (N:=N) (x:=sF l[i]) hN ⟨by simp [sF,Q5M],h2 _ (List.getElem_mem h)⟩
      refine ⟨_,by rw [if_pos (by simpa using h),hj i (Nat.le_refl _) h,lF_at h,Q9,QC h,ho,Q9,QC (by omega)],⟨by simp only; omega,by simpa using hm,fun j hij hjl=>?_⟩,by simp only; omega⟩
      simp only at hij ⊢
      rw [List.getElem?_set_ne (by omega)]; exact hj j (by omega) hjl
    · right
      exact ⟨m,by rw [if_neg (by simpa using h)],hm⟩) N (0,lF l) ⟨Nat.zero_le _,rfl,fun _ _ _=>rfl⟩ (by simp only; omega)
  unfold Q3F
  rw [g1,Q9,QC (by omega),QC (by omega)]
  refine Q47 (f:=Q2X N l.length) (fun s=>s.1 ≤ l.length + 12 ∧ s.2.length = (lF l).length) (fun s=>l.length + 12 - s.1) (fun o=>o.length = (lF l).length) (fun s hs=>?_) N (0,m) ⟨Nat.zero_le _,g2⟩ (by simp only; omega)
  obtain ⟨i,q⟩:=s
  obtain ⟨hi,hm⟩:=hs
  simp only at hi hm
  unfold Q2X
  simp only
  by_cases h:i < l.length + 12
  · left
    refine ⟨_,by rw [if_pos (by simpa using h),show Q1V N 2 ((i:Nat):Int) = some () from rfl,Q9,List.getElem?_eq_getElem (by omega),Q9,QC h,QC (by omega)],⟨by simp only; omega,by simpa using hm⟩,by simp only; omega⟩
  · right
    exact ⟨q,by rw [if_neg (by simpa using h)],hm⟩
theorem copyFacts_is (hN : 2000000000 ≤ N) (hl:okF l):Q3S N l = some l:=by
  obtain ⟨h1,h2⟩:=hl
  unfold Q3S
  rw [Q6R l.length (fun i=>l.getD i ⟨0,0,[]⟩) [] (fun i hi=>by
    unfold Q3t Q4K Q38
    have:=h2 _ (List.getElem_mem hi)
    simp only
    rw [if_pos (by simpa using hi),List.getElem?_eq_getElem hi,Q9,QC (by simp; omega),Q9,Q9,QC (by simp; omega),QC (by omega)]
    simp [hi]) (by unfold Q3t; simp only; rw [if_neg (by simp)]) (by omega)]
  rw [Q9,List.nil_append]
  have:=Q8z l (fun x=>x) ⟨0,0,[]⟩
  rw [this,List.map_id']
end facts
end Go.Proofs.YtjfpefddanmliaaGreat
