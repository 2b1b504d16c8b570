import Derived.Test.YtgangmegcejllaaGreatDoorPdqC
namespace Go.Proofs.YtgangmegcejllaaGreatDoor
open Go Go.RowKit
theorem up_go {f:Int → Option (Int ⊕ Int)} {p:Q1 → Bool} {d:Array Q1} {j B:Nat} (h : ∀ i:Nat,i ≤ B → f ((i:Nat):Int) = if (decide (i ≤ j) && p d[i]!) = true then some (.inl ((i + 1:Nat):Int)) else some (.inr ((i:Nat):Int))) (hB:j < B) :
   ∀ (k i:Nat),j + 1 - i ≤ k → i ≤ B → ∀ fuel,k < fuel → Q1o f fuel ((i:Nat):Int) = some ((Sort.scanUp p d j i:Nat):Int):=by
 intro k
 induction k with
 | zero =>
   intro i hk hi fuel hf
   obtain ⟨fuel,rfl⟩ : ∃ f,fuel = f + 1:=⟨fuel - 1,by omega⟩
   have hc : ¬ (decide (i ≤ j) && p d[i]!) = true:=by rw [decide_eq_false (by omega)]; simp
   have:=h i hi
   rw [if_neg hc] at this
   rw [Sort.scanUp,if_neg hc,Q15 this]
 | succ k ih =>
   intro i hk hi fuel hf
   obtain ⟨fuel,rfl⟩ : ∃ f,fuel = f + 1:=⟨fuel - 1,by omega⟩
   have:=h i hi
   rw [Sort.scanUp]
   by_cases hc:(decide (i ≤ j) && p d[i]!) = true
   ·have hij:i ≤ j:=by rw [Bool.and_eq_true,decide_eq_true_eq] at hc; exact hc.1
    rw [if_pos hc] at this ⊢
    rw [Q1Y this]
    exact ih (i + 1) (by omega) (by omega) fuel (by omega)
   ·rw [if_neg hc] at this ⊢
    rw [Q15 this]
theorem down_go {f:Int → Option (Int ⊕ Int)} {p:Q1 → Bool} {d:Array Q1} {i B:Nat} (hi : 1 ≤ i) (h : ∀ j:Nat,j ≤ B → f ((j:Nat):Int) = if (decide (i ≤ j) && p d[j]!) = true then some (.inl (((j:Nat):Int) - 1)) else some (.inr ((j:Nat):Int))) :
   ∀ (j:Nat),j ≤ B → ∀ fuel,j < fuel → Q1o f fuel ((j:Nat):Int) = some ((Sort.scanDown p d i j:Nat):Int):=by
 intro j
 induction j with
 | zero =>
   intro hj fuel hf
   obtain ⟨fuel,rfl⟩ : ∃ f,fuel = f + 1:=⟨fuel - 1,by omega⟩
   have:=h 0 hj
   rw [if_neg (by rw [decide_eq_false (by omega)]; simp)] at this
   rw [Q15 this]
   rfl
 | succ j ih =>
   intro hj fuel hf
   obtain ⟨fuel,rfl⟩ : ∃ f,fuel = f + 1:=⟨fuel - 1,by omega⟩
   have:=h (j + 1) hj
   unfold Sort.scanDown
   by_cases hc:(decide (i ≤ j + 1) && p d[j + 1]!) = true
   ·rw [if_pos hc] at this ⊢
    rw [Q1Y this,show ((j + 1:Nat):Int) - 1 = ((j:Nat):Int) by omega]
    exact ih (by omega) fuel (by omega)
   ·rw [if_neg hc] at this ⊢
    rw [Q15 this]
section
variable {N:Nat} {s:List Int} (hN : 1000000 ≤ N)
include hN
theorem pa_up {d:Array Q1} (hd:QT d) (hs:d.size ≤ 999) {a j:Nat} (ha:a < d.size) (hj:j < d.size) {i:Nat} (hi:i ≤ 1000) :
  Q1o (Q2B N ((j:Nat):Int) d.toList ((a:Nat):Int) s) N ((i:Nat):Int) = some ((Sort.scanUp (fun x=>ltT s x d[a]!) d j i:Nat):Int):=by
 refine up_go (B:=1000) (fun i hi=>?_) (by omega) 2000 i (by omega) hi N (by omega)
 unfold Q2B Q4n
 simp only [Int.toNat_natCast]
 by_cases h:i ≤ j
 ·rw [if_pos (decide_eq_true (by omega)),Qg (by omega),rd (by omega),Q8,Qg (by omega),rd (by omega),Q8,cmpQ hN hd,Q8,Q8,Qg (by omega),decide_eq_true h,Bool.true_and]
  unfold ltT
  rfl
 · rw [if_neg (by rw [decide_eq_true_eq]; omega),Q8,if_neg (by simp),decide_eq_false h,Bool.false_and,if_neg (by simp)]
theorem pa_down {d:Array Q1} (hd:QT d) (hs:d.size ≤ 999) {a i:Nat} (ha:a < d.size) (hi : 1 ≤ i) {j:Nat} (hj:j < d.size) :
  Q1o (Q2C N ((i:Nat):Int) d.toList ((a:Nat):Int) s) N ((j:Nat):Int) = some ((Sort.scanDown (fun x=>!ltT s x d[a]!) d i j:Nat):Int):=by
 refine down_go (B:=d.size - 1) hi (fun j hj=>?_) j (by omega) N (by omega)
 unfold Q2C Q4o
 simp only [Int.toNat_natCast]
 by_cases h:i ≤ j
 ·rw [if_pos (decide_eq_true (by omega)),Qg (by omega),rd (by omega),Q8,Qg (by omega),rd (by omega),Q8,cmpQ hN hd,Q8,Q8,Qg (by omega),decide_eq_true h,Bool.true_and]
  unfold ltT
  rfl
 · rw [if_neg (by rw [decide_eq_true_eq]; omega),Q8,if_neg (by simp),decide_eq_false h,Bool.false_and,if_neg (by simp)]
theorem pa_loop (a:Nat) : ∀ (k i j:Nat) (d:Array Q1),j + 1 - i ≤ k → QT d → d.size ≤ 999 → a < d.size → j < d.size → 1 ≤ i → i ≤ 1000 → ∀ fuel,k < fuel →
   Q1o (Q1D N ((a:Nat):Int) s) fuel (((j:Nat):Int),((i:Nat):Int),d.toList) = some ((((Sort.partLoop (ltT s) a i j d).1:Nat):Int),(Sort.partLoop (ltT s) a i j d).2.toList) ∧ (Sort.partLoop (ltT s) a i j d).1 < d.size ∧ (Sort.partLoop (ltT s) a i j d).2.size = d.size ∧ QT (Sort.partLoop (ltT s) a i j d).2:=by
 intro k
 induction k with
 | zero =>
   intro i j d hk hd hs ha hj hi hi2 fuel hf
   obtain ⟨fuel,rfl⟩ : ∃ f,fuel = f + 1:=⟨fuel - 1,by omega⟩
   have g1:=Sort.scanUp_ge (fun x=>ltT s x d[a]!) d j i
   have g2:=Sort.scanDown_le (fun x=>!ltT s x d[a]!) d (Sort.scanUp (fun x=>ltT s x d[a]!) d j i) j
   rw [Sort.partLoop_eq,if_pos (by omega)]
   refine ⟨?_,by omega,rfl,hd⟩
   rw [Q15]
   unfold Q1D
   simp only
   rw [pa_up hN hd hs ha hj hi2,Q8,pa_down hN hd hs ha (by omega) hj,Q8,if_pos (decide_eq_true (by omega))]
 | succ k ih =>
   intro i j d hk hd hs ha hj hi hi2 fuel hf
   obtain ⟨fuel,rfl⟩ : ∃ f,fuel = f + 1:=⟨fuel - 1,by omega⟩
   have g1:=Sort.scanUp_ge (fun x=>ltT s x d[a]!) d j i
   have g2:=Sort.scanDown_le (fun x=>!ltT s x d[a]!) d (Sort.scanUp (fun x=>ltT s x d[a]!) d j i) j
   rw [Sort.partLoop_eq]
   by_cases h:Sort.scanUp (fun x=>ltT s x d[a]!) d j i > Sort.scanDown (fun x=>!ltT s x d[a]!) d (Sort.scanUp (fun x=>ltT s x d[a]!) d j i) j
   ·rw [if_pos h]
    refine ⟨?_,by simp only; omega,rfl,hd⟩
    rw [Q15]
    unfold Q1D
    simp only
    rw [pa_up hN hd hs ha hj hi2,Q8,pa_down hN hd hs ha (by omega) hj,Q8,if_pos (decide_eq_true (by omega))]
   ·have hst:Q1D N ((a:Nat):Int) s (((j:Nat):Int),((i:Nat):Int),d.toList) = some (.inl (((Sort.scanDown (fun x=>!ltT s x d[a]!) d (Sort.scanUp (fun x=>ltT s x d[a]!) d j i) j - 1:Nat):Int),((Sort.scanUp (fun x=>ltT s x d[a]!) d j i + 1:Nat):Int),(Sort.swp d (Sort.scanUp (fun x=>ltT s x d[a]!) d j i) (Sort.scanDown (fun x=>!ltT s x d[a]!) d (Sort.scanUp (fun x=>ltT s x d[a]!) d j i) j)).toList)):=by
     unfold Q1D
     simp only
     rw [pa_up hN hd hs ha hj hi2,Q8,pa_down hN hd hs ha (by omega) hj,Q8]
     generalize Sort.scanDown (fun x=>!ltT s x d[a]!) d (Sort.scanUp (fun x=>ltT s x d[a]!) d j i) j = j2 at *
     generalize Sort.scanUp (fun x=>ltT s x d[a]!) d j i = i2 at *
     simp only [Int.toNat_natCast]
     rw [if_neg (by rw [decide_eq_true_eq]; omega),Qg (by omega),rd (by omega),Q8,Qg (by omega),rd (by omega),Q8,Qg (by omega),Q8,Qg (by omega),Q65 (by simp; omega),Qg (by omega),Qg (by omega),Q8b,show ((j2:Nat):Int) - 1 = ((j2 - 1:Nat):Int) by omega]
     rfl
    rw [if_neg h,Q1Y hst]
    have q:=hd.swp (i:=Sort.scanUp (fun x=>ltT s x d[a]!) d j i) (j:=Sort.scanDown (fun x=>!ltT s x d[a]!) d (Sort.scanUp (fun x=>ltT s x d[a]!) d j i) j) (by omega) (by omega)
    have:=ih (Sort.scanUp (fun x=>ltT s x d[a]!) d j i + 1) (Sort.scanDown (fun x=>!ltT s x d[a]!) d (Sort.scanUp (fun x=>ltT s x d[a]!) d j i) j - 1) _ (by omega) q (by rw [Sort.swp_size]; omega) (by rw [Sort.swp_size]; omega) (by rw [Sort.swp_size]; omega) (by omega) (by omega) fuel (by omega)
    rw [Sort.swp_size] at this
    exact this
theorem part_is {a b p:Nat} {d:Array Q1} (hd:QT d) (hb:b ≤ d.size) (ha:a < b) (hp:p < d.size) (hs:d.size ≤ 999) :
  Q2n N d.toList ((a:Nat):Int) ((b:Nat):Int) ((p:Nat):Int) s = some ((((Sort.partition (ltT s) d a b p).1:Nat):Int),(Sort.partition (ltT s) d a b p).2.1,(Sort.partition (ltT s) d a b p).2.2.toList) ∧ QT (Sort.partition (ltT s) d a b p).2.2:=by
 have hq:=hd.swp (i:=a) (j:=p) (by omega) hp
 have hsz:(Sort.swp d a p).size = d.size:=Sort.swp_size ..
 have g1:=Sort.scanUp_ge (fun x=>ltT s x (Sort.swp d a p)[a]!) (Sort.swp d a p) (b - 1) (a + 1)
 have g2:=Sort.scanDown_le (fun x=>!ltT s x (Sort.swp d a p)[a]!) (Sort.swp d a p) (Sort.scanUp (fun x=>ltT s x (Sort.swp d a p)[a]!) (Sort.swp d a p) (b - 1) (a + 1)) (b - 1)
 have u1:Q1o (Q2z N ((b:Nat):Int) d.toList ((a:Nat):Int) d[p]! ((p:Nat):Int) d[a]! s) N (((a:Nat):Int) + 1) = some ((Sort.scanUp (fun x=>ltT s x (Sort.swp d a p)[a]!) (Sort.swp d a p) (b - 1) (a + 1):Nat):Int):=by
  rw [show ((a:Nat):Int) + 1 = ((a + 1:Nat):Int) by omega]
  refine up_go (B:=1000) (fun i hi=>?_) (by omega) 2000 (a + 1) (by omega) (by omega) N (by omega)
  unfold Q2z Q4u
  simp only [Int.toNat_natCast,← Q8b]
  by_cases h:i ≤ b - 1
  ·rw [if_pos (decide_eq_true (by omega)),Qg (by omega),rd (by omega),Q8,Qg (by omega),rd (by omega),Q8,cmpQ hN hq,Q8,Q8,Qg (by omega),decide_eq_true h,Bool.true_and]
   unfold ltT
   rfl
  · rw [if_neg (by rw [decide_eq_true_eq]; omega),Q8,if_neg (by simp),decide_eq_false h,Bool.false_and,if_neg (by simp)]
 have u2 : ∀ i:Nat,1 ≤ i → Q1o (Q2A N ((i:Nat):Int) d.toList ((a:Nat):Int) d[p]! ((p:Nat):Int) d[a]! s) N (((b:Nat):Int) - 1) = some ((Sort.scanDown (fun x=>!ltT s x (Sort.swp d a p)[a]!) (Sort.swp d a p) i (b - 1):Nat):Int):=by
  intro i hi
  rw [show ((b:Nat):Int) - 1 = ((b - 1:Nat):Int) by omega]
  refine down_go (B:=b - 1) hi (fun j hj=>?_) (b - 1) (by omega) N (by omega)
  unfold Q2A Q4v
  simp only [Int.toNat_natCast,← Q8b]
  by_cases h:i ≤ j
  ·rw [if_pos (decide_eq_true (by omega)),Qg (by omega),rd (by omega),Q8,Qg (by omega),rd (by omega),Q8,cmpQ hN hq,Q8,Q8,Qg (by omega),decide_eq_true h,Bool.true_and]
   unfold ltT
   rfl
  · rw [if_neg (by rw [decide_eq_true_eq]; omega),Q8,if_neg (by simp),decide_eq_false h,Bool.false_and,if_neg (by simp)]
 unfold Q2n Sort.partition
 simp only [Int.toNat_natCast]
 rw [Qg (by omega),rd (by omega),Q8,Qg (by omega),rd (by omega),Q8,Qg (by omega),Q8,Qg (by omega),Q65 (by simp; omega),Qg (by omega),Qg (by omega),u1,Q8,u2 _ (by omega),Q8]
 generalize Sort.scanDown (fun x=>!ltT s x (Sort.swp d a p)[a]!) (Sort.swp d a p) (Sort.scanUp (fun x=>ltT s x (Sort.swp d a p)[a]!) (Sort.swp d a p) (b - 1) (a + 1)) (b - 1) = j2 at *
 generalize Sort.scanUp (fun x=>ltT s x (Sort.swp d a p)[a]!) (Sort.swp d a p) (b - 1) (a + 1) = i2 at *
 clear u1 u2
 simp only [Int.toNat_natCast,← Q8b]
 by_cases h:i2 > j2
 ·rw [if_pos (decide_eq_true (by omega)),if_pos h,Qg (by omega),rd (by omega),Q8,Qg (by omega),rd (by omega),Q8,Qg (by omega),Q8,Qg (by omega),Q65 (by simp; omega)]
  refine ⟨?_,hq.swp (by omega) (by omega)⟩
  rw [Q8b (d:=Sort.swp d a p) (i:=j2)]
 ·have hq2:=hq.swp (i:=i2) (j:=j2) (by omega) (by omega)
  have hl:=pa_loop (s:=s) hN a 2000 (i2 + 1) (j2 - 1) (Sort.swp (Sort.swp d a p) i2 j2) (by omega) hq2 (by rw [Sort.swp_size]; omega) (by rw [Sort.swp_size]; omega) (by rw [Sort.swp_size]; omega) (by omega) (by omega) N (by omega)
  rw [Sort.swp_size,hsz] at hl
  rw [if_neg (by rw [decide_eq_true_eq]; omega),if_neg h,Qg (by omega),rd (by omega),Q8,Qg (by omega),rd (by omega),Q8,Qg (by omega),Q8,Qg (by omega),Q65 (by simp; omega),Qg (by omega),Qg (by omega),← Q8b,show ((j2:Nat):Int) - 1 = ((j2 - 1:Nat):Int) by omega,show ((i2:Nat):Int) + 1 = ((i2 + 1:Nat):Int) by omega,hl.1,Q8]
  generalize Sort.partLoop (ltT s) a (i2 + 1) (j2 - 1) (Sort.swp (Sort.swp d a p) i2 j2) = r at *
  obtain ⟨r1,r2⟩:=r
  simp only at hl ⊢
  refine ⟨?_,hl.2.2.2.swp (by omega) (by omega)⟩
  simp only [Int.toNat_natCast]
  rw [Qg (by omega),rd (by omega),Q8,Qg (by omega),rd (by omega),Q8,Qg (by omega),Q8,Qg (by omega),Q65 (by simp; omega),Q8b]
theorem pe_up {d:Array Q1} (hd:QT d) (hs:d.size ≤ 999) {a j:Nat} (ha:a < d.size) (hj:j < d.size) {i:Nat} (hi:i ≤ 1000) :
  Q1o (Q2c N ((j:Nat):Int) ((a:Nat):Int) d.toList s) N ((i:Nat):Int) = some ((Sort.scanUp (fun x=>!ltT s d[a]! x) d j i:Nat):Int):=by
 refine up_go (B:=1000) (fun i hi=>?_) (by omega) 2000 i (by omega) hi N (by omega)
 unfold Q2c Q3P
 simp only [Int.toNat_natCast]
 by_cases h:i ≤ j
 ·rw [if_pos (decide_eq_true (by omega)),Qg (by omega),rd (by omega),Q8,Qg (by omega),rd (by omega),Q8,cmpQ hN hd,Q8,Q8,Qg (by omega),decide_eq_true h,Bool.true_and]
  unfold ltT
  rfl
 · rw [if_neg (by rw [decide_eq_true_eq]; omega),Q8,if_neg (by simp),decide_eq_false h,Bool.false_and,if_neg (by simp)]
theorem pe_down {d:Array Q1} (hd:QT d) (hs:d.size ≤ 999) {a i:Nat} (ha:a < d.size) (hi : 1 ≤ i) {j:Nat} (hj:j < d.size) :
  Q1o (Q2d N ((i:Nat):Int) ((a:Nat):Int) d.toList s) N ((j:Nat):Int) = some ((Sort.scanDown (fun x=>ltT s d[a]! x) d i j:Nat):Int):=by
 refine down_go (B:=d.size - 1) hi (fun j hj=>?_) j (by omega) N (by omega)
 unfold Q2d Q3Q
 simp only [Int.toNat_natCast]
 by_cases h:i ≤ j
 ·rw [if_pos (decide_eq_true (by omega)),Qg (by omega),rd (by omega),Q8,Qg (by omega),rd (by omega),Q8,cmpQ hN hd,Q8,Q8,Qg (by omega),decide_eq_true h,Bool.true_and]
  unfold ltT
  rfl
 · rw [if_neg (by rw [decide_eq_true_eq]; omega),Q8,if_neg (by simp),decide_eq_false h,Bool.false_and,if_neg (by simp)]
theorem pe_loop (a:Nat) : ∀ (k i j:Nat) (d:Array Q1),j + 1 - i ≤ k → QT d → d.size ≤ 999 → a < d.size → j < d.size → 1 ≤ i → i ≤ 1000 → ∀ fuel,k < fuel →
   Q1o (Q1q N ((a:Nat):Int) s) fuel (((j:Nat):Int),((i:Nat):Int),d.toList) = some ((((Sort.partEqLoop (ltT s) a i j d).1:Nat):Int),(Sort.partEqLoop (ltT s) a i j d).2.toList) ∧ QT (Sort.partEqLoop (ltT s) a i j d).2:=by
 intro k
 induction k with
 | zero =>
   intro i j d hk hd hs ha hj hi hi2 fuel hf
   obtain ⟨fuel,rfl⟩ : ∃ f,fuel = f + 1:=⟨fuel - 1,by omega⟩
   have g1:=Sort.scanUp_ge (fun x=>!ltT s d[a]! x) d j i
   have g2:=Sort.scanDown_le (fun x=>ltT s d[a]! x) d (Sort.scanUp (fun x=>!ltT s d[a]! x) d j i) j
   rw [Sort.partEqLoop_eq,if_pos (by omega)]
   refine ⟨?_,hd⟩
   rw [Q15]
   unfold Q1q
   simp only
   rw [pe_up hN hd hs ha hj hi2,Q8,pe_down hN hd hs ha (by omega) hj,Q8,if_pos (decide_eq_true (by omega))]
 | succ k ih =>
   intro i j d hk hd hs ha hj hi hi2 fuel hf
   obtain ⟨fuel,rfl⟩ : ∃ f,fuel = f + 1:=⟨fuel - 1,by omega⟩
   have g1:=Sort.scanUp_ge (fun x=>!ltT s d[a]! x) d j i
   have g2:=Sort.scanDown_le (fun x=>ltT s d[a]! x) d (Sort.scanUp (fun x=>!ltT s d[a]! x) d j i) j
   rw [Sort.partEqLoop_eq]
   by_cases h:Sort.scanUp (fun x=>!ltT s d[a]! x) d j i > Sort.scanDown (fun x=>ltT s d[a]! x) d (Sort.scanUp (fun x=>!ltT s d[a]! x) d j i) j
   ·rw [if_pos h]
    refine ⟨?_,hd⟩
    rw [Q15]
    unfold Q1q
    simp only
    rw [pe_up hN hd hs ha hj hi2,Q8,pe_down hN hd hs ha (by omega) hj,Q8,if_pos (decide_eq_true (by omega))]
   ·have hst:Q1q N ((a:Nat):Int) s (((j:Nat):Int),((i:Nat):Int),d.toList) = some (.inl (((Sort.scanDown (fun x=>ltT s d[a]! x) d (Sort.scanUp (fun x=>!ltT s d[a]! x) d j i) j - 1:Nat):Int),((Sort.scanUp (fun x=>!ltT s d[a]! x) d j i + 1:Nat):Int),(Sort.swp d (Sort.scanUp (fun x=>!ltT s d[a]! x) d j i) (Sort.scanDown (fun x=>ltT s d[a]! x) d (Sort.scanUp (fun x=>!ltT s d[a]! x) d j i) j)).toList)):=by
     unfold Q1q
     simp only
     rw [pe_up hN hd hs ha hj hi2,Q8,pe_down hN hd hs ha (by omega) hj,Q8]
     generalize Sort.scanDown (fun x=>ltT s d[a]! x) d (Sort.scanUp (fun x=>!ltT s d[a]! x) d j i) j = j2 at *
     generalize Sort.scanUp (fun x=>!ltT s d[a]! x) d j i = i2 at *
     simp only [Int.toNat_natCast]
     rw [if_neg (by rw [decide_eq_true_eq]; omega),Qg (by omega),rd (by omega),Q8,Qg (by omega),rd (by omega),Q8,Qg (by omega),Q8,Qg (by omega),Q65 (by simp; omega),Qg (by omega),Qg (by omega),Q8b,show ((j2:Nat):Int) - 1 = ((j2 - 1:Nat):Int) by omega]
     rfl
    rw [if_neg h,Q1Y hst]
    have q:=hd.swp (i:=Sort.scanUp (fun x=>!ltT s d[a]! x) d j i) (j:=Sort.scanDown (fun x=>ltT s d[a]! x) d (Sort.scanUp (fun x=>!ltT s d[a]! x) d j i) j) (by omega) (by omega)
    exact ih (Sort.scanUp (fun x=>!ltT s d[a]! x) d j i + 1) (Sort.scanDown (fun x=>ltT s d[a]! x) d (Sort.scanUp (fun x=>!ltT s d[a]! x) d j i) j - 1) _ (by omega) q (by rw [Sort.swp_size]; omega) (by rw [Sort.swp_size]; omega) (by rw [Sort.swp_size]; omega) (by omega) (by omega) fuel (by omega)
theorem parteq_is {a b p:Nat} {d:Array Q1} (hd:QT d) (hb:b ≤ d.size) (ha:a < b) (hp:p < d.size) (hs:d.size ≤ 999) :
  Q21 N d.toList ((a:Nat):Int) ((b:Nat):Int) ((p:Nat):Int) s = some ((((Sort.partitionEqual (ltT s) d a b p).1:Nat):Int),(Sort.partitionEqual (ltT s) d a b p).2.toList) ∧ QT (Sort.partitionEqual (ltT s) d a b p).2:=by
 have hq:=hd.swp (i:=a) (j:=p) (by omega) hp
 have hl:=pe_loop (s:=s) hN a 2000 (a + 1) (b - 1) (Sort.swp d a p) (by omega) hq (by rw [Sort.swp_size]; omega) (by rw [Sort.swp_size]; omega) (by rw [Sort.swp_size]; omega) (by omega) (by omega) N (by omega)
 unfold Q21 Sort.partitionEqual
 refine ⟨?_,hl.2⟩
 simp only [Int.toNat_natCast]
 rw [Qg (by omega),rd (by omega),Q8,Qg (by omega),rd (by omega),Q8,Qg (by omega),Q8,Qg (by omega),Q65 (by simp; omega),Qg (by omega),Qg (by omega),← Q8b,show ((b:Nat):Int) - 1 = ((b - 1:Nat):Int) by omega,show ((a:Nat):Int) + 1 = ((a + 1:Nat):Int) by omega,hl.1,Q8]
end
end Go.Proofs.YtgangmegcejllaaGreatDoor
