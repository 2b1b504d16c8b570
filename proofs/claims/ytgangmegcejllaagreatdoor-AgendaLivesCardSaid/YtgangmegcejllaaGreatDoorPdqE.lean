import Derived.Test.YtgangmegcejllaaGreatDoorPdqD
namespace Go.Proofs.YtgangmegcejllaaGreatDoor
open Go Go.RowKit
theorem scanSorted_rng {lt:Q1 → Q1 → Bool} {d:Array Q1} {b:Nat} : ∀ (k i:Nat),b - i ≤ k → i ≤ b → i ≤ Sort.scanSorted lt d b i ∧ Sort.scanSorted lt d b i ≤ b:=by
 intro k
 induction k with
 | zero =>
   intro i hk hi
   rw [Sort.scanSorted,if_neg (by rw [decide_eq_false (by omega)]; simp)]
   omega
 | succ k ih =>
   intro i hk hi
   rw [Sort.scanSorted]
   by_cases hc:(decide (i < b) && !lt d[i]! d[i - 1]!) = true
   ·rw [if_pos hc]
    have hib:i < b:=by rw [Bool.and_eq_true,decide_eq_true_eq] at hc; exact hc.1
    have:=ih (i + 1) (by omega) (by omega)
    omega
   · rw [if_neg hc]; omega
section
variable {N:Nat} {s:List Int} (hN : 1000000 ≤ N)
include hN
theorem sc_is {d:Array Q1} (hd:QT d) (hs:d.size ≤ 999) {b:Nat} (hb:b ≤ d.size) : ∀ (k i:Nat),b - i ≤ k → 1 ≤ i → i ≤ 1000 → ∀ fuel,k < fuel →
   Q1o (Q1B N ((b:Nat):Int) d.toList s) fuel ((i:Nat):Int) = some ((Sort.scanSorted (ltT s) d b i:Nat):Int):=by
 have st : ∀ i:Nat,1 ≤ i → i ≤ 1000 → Q1B N ((b:Nat):Int) d.toList s ((i:Nat):Int) = if (decide (i < b) && !ltT s d[i]! d[i - 1]!) = true then some (.inl ((i + 1:Nat):Int)) else some (.inr ((i:Nat):Int)):=by
   intro i hi hi2
   unfold Q1B Q38
   simp only [show ((i:Nat):Int) - 1 = ((i - 1:Nat):Int) by omega,Int.toNat_natCast]
   by_cases h:i < b
   ·rw [if_pos (decide_eq_true (by omega)),Qg (by omega),rd (by omega),Q8,Qg (by omega),Qg (by omega),rd (by omega),Q8,cmpQ hN hd,Q8,Q8,Qg (by omega),decide_eq_true h,Bool.true_and]
    unfold ltT
    rfl
   · rw [if_neg (by rw [decide_eq_true_eq]; omega),Q8,if_neg (by simp),decide_eq_false h,Bool.false_and,if_neg (by simp)]
 intro k
 induction k with
 | zero =>
   intro i hk hi hi2 fuel hf
   obtain ⟨fuel,rfl⟩ : ∃ f,fuel = f + 1:=⟨fuel - 1,by omega⟩
   have hc : ¬ (decide (i < b) && !ltT s d[i]! d[i - 1]!) = true:=by rw [decide_eq_false (by omega)]; simp
   have:=st i hi hi2
   rw [if_neg hc] at this
   rw [Sort.scanSorted,if_neg hc,Q15 this]
 | succ k ih =>
   intro i hk hi hi2 fuel hf
   obtain ⟨fuel,rfl⟩ : ∃ f,fuel = f + 1:=⟨fuel - 1,by omega⟩
   have:=st i hi hi2
   rw [Sort.scanSorted]
   by_cases hc:(decide (i < b) && !ltT s d[i]! d[i - 1]!) = true
   ·have hib:i < b:=by rw [Bool.and_eq_true,decide_eq_true_eq] at hc; exact hc.1
    rw [if_pos hc] at this ⊢
    rw [Q1Y this]
    exact ih (i + 1) (by omega) (by omega) (by omega) fuel (by omega)
   ·rw [if_neg hc] at this ⊢
    rw [Q15 this]
theorem sd_is : ∀ (j:Nat) (d:Array Q1),QT d → d.size ≤ 999 → j < d.size → ∀ fuel,j < fuel →
   Q1o (Q1h N s) fuel (((j:Nat):Int),d.toList) = some (Sort.shiftDown (ltT s) j d).toList ∧ (Sort.shiftDown (ltT s) j d).size = d.size ∧ QT (Sort.shiftDown (ltT s) j d):=by
 intro j
 induction j with
 | zero =>
   intro d hd hs hj fuel hf
   obtain ⟨fuel,rfl⟩ : ∃ f,fuel = f + 1:=⟨fuel - 1,by omega⟩
   refine ⟨?_,rfl,hd⟩
   rw [Q15]
   unfold Q1h
   simp only
   rw [if_neg (by rw [decide_eq_true_eq]; omega)]
   rfl
 | succ j ih =>
   intro d hd hs hj fuel hf
   obtain ⟨fuel,rfl⟩ : ∃ f,fuel = f + 1:=⟨fuel - 1,by omega⟩
   have e1:((j + 1:Nat):Int) - 1 = ((j:Nat):Int):=by omega
   have hst:Q1h N s (((j + 1:Nat):Int),d.toList) = if (!ltT s d[j + 1]! d[j]!) = true then some (.inr d.toList) else some (.inl (((j:Nat):Int),(Sort.swp d (j + 1) j).toList)):=by
    unfold Q1h
    simp only [e1,Int.toNat_natCast]
    rw [if_pos (decide_eq_true (by omega)),Qg (by omega),rd (by omega),Q8,Qg (by omega),Qg (by omega),rd (by omega),Q8,cmpQ hN hd,Q8]
    unfold ltT
    by_cases hc:cfT s d[j + 1]! d[j]! < 0
    · rw [if_neg (by simp [hc]),if_neg (by simp [hc]),Qg (by omega),Qg (by omega),Qg (by omega),Q8,Qg (by omega),Q8,Qg (by omega),Q8,Qg (by omega),Q65 (by simp; omega),Qg (by omega),Q8b]
    · rw [if_pos (by simp [hc]),if_pos (by simp [hc])]
   unfold Sort.shiftDown
   by_cases h:(!ltT s d[j + 1]! d[j]!) = true
   ·rw [if_pos h] at hst ⊢
    exact ⟨Q15 hst,rfl,hd⟩
   ·rw [if_neg h] at hst ⊢
    rw [Q1Y hst]
    have:=ih (Sort.swp d (j + 1) j) (hd.swp hj (by omega)) (by rw [Sort.swp_size]; omega) (by rw [Sort.swp_size]; omega) fuel (by omega)
    rw [Sort.swp_size] at this
    exact this
theorem su_is {b:Nat} (z:Int) : ∀ (k j:Nat) (d:Array Q1),b - j ≤ k → QT d → d.size ≤ 999 → b ≤ d.size → 1 ≤ j → j ≤ 1000 → ∀ fuel,k < fuel →
   Q1o (Q1c N ((b:Nat):Int) s z) fuel (((j:Nat):Int),d.toList) = some (.inl (z,(Sort.shiftUp (ltT s) b j d).toList)) ∧ (Sort.shiftUp (ltT s) b j d).size = d.size ∧ QT (Sort.shiftUp (ltT s) b j d):=by
 intro k
 induction k with
 | zero =>
   intro j d hk hd hs hb hj hj2 fuel hf
   obtain ⟨fuel,rfl⟩ : ∃ f,fuel = f + 1:=⟨fuel - 1,by omega⟩
   rw [Sort.shiftUp,if_neg (by omega)]
   refine ⟨?_,rfl,hd⟩
   rw [Q15]
   unfold Q1c
   simp only
   rw [if_neg (by rw [decide_eq_true_eq]; omega)]
 | succ k ih =>
   intro j d hk hd hs hb hj hj2 fuel hf
   obtain ⟨fuel,rfl⟩ : ∃ f,fuel = f + 1:=⟨fuel - 1,by omega⟩
   rw [Sort.shiftUp]
   by_cases hjb:j < b
   ·have e1:((j:Nat):Int) - 1 = ((j - 1:Nat):Int):=by omega
    have hst:Q1c N ((b:Nat):Int) s z (((j:Nat):Int),d.toList) = if (!ltT s d[j]! d[j - 1]!) = true then some (.inr (.inl (z,d.toList))) else some (.inl (((j + 1:Nat):Int),(Sort.swp d j (j - 1)).toList)):=by
     unfold Q1c
     simp only [e1,Int.toNat_natCast]
     rw [if_pos (decide_eq_true (by omega)),Qg (by omega),rd (by omega),Q8,Qg (by omega),Qg (by omega),rd (by omega),Q8,cmpQ hN hd,Q8]
     unfold ltT
     by_cases hc:cfT s d[j]! d[j - 1]! < 0
     ·rw [if_neg (by simp [hc]),if_neg (by simp [hc]),Qg (by omega),Qg (by omega),Qg (by omega),Q8,Qg (by omega),Q8,Qg (by omega),Q8,Qg (by omega),Q65 (by simp; omega),Qg (by omega),Q8b]
      rfl
     · rw [if_pos (by simp [hc]),if_pos (by simp [hc])]
    rw [if_pos hjb]
    by_cases h:(!ltT s d[j]! d[j - 1]!) = true
    ·rw [if_pos h] at hst ⊢
     exact ⟨Q15 hst,rfl,hd⟩
    ·rw [if_neg h] at hst ⊢
     rw [Q1Y hst]
     have:=ih (j + 1) (Sort.swp d j (j - 1)) (by omega) (hd.swp (by omega) (by omega)) (by rw [Sort.swp_size]; omega) (by rw [Sort.swp_size]; omega) (by omega) (by omega) fuel (by omega)
     rw [Sort.swp_size] at this
     exact this
   ·rw [if_neg hjb]
    refine ⟨?_,rfl,hd⟩
    rw [Q15]
    unfold Q1c
    simp only
    rw [if_neg (by rw [decide_eq_true_eq]; omega)]
theorem pi_go {a b:Nat} (hab:a < b) : ∀ (st i:Nat) (d:Array Q1),st ≤ 5 → QT d → d.size ≤ 999 → b ≤ d.size → a + 1 ≤ i → i ≤ b → ∀ fuel,st < fuel →
   Q5x (Q1o (Q1b N ((b:Nat):Int) s ((a:Nat):Int)) fuel (5 - st,((i:Nat):Int),d.toList)) (fun l=>some (false,l)) = some ((Sort.partialIns (ltT s) a b st i d).2,(Sort.partialIns (ltT s) a b st i d).1.toList) ∧ (Sort.partialIns (ltT s) a b st i d).1.size = d.size ∧ QT (Sort.partialIns (ltT s) a b st i d).1:=by
 intro st
 induction st with
 | zero =>
   intro i d h5 hd hs hb hi hi2 fuel hf
   obtain ⟨fuel,rfl⟩ : ∃ f,fuel = f + 1:=⟨fuel - 1,by omega⟩
   refine ⟨?_,rfl,hd⟩
   rw [Q15 (o:=.inl d.toList)]
   · rfl
   ·unfold Q1b
    simp only
    rw [if_neg (by simp)]
 | succ st ih =>
   intro i d h5 hd hs hb hi hi2 fuel hf
   obtain ⟨fuel,rfl⟩ : ∃ f,fuel = f + 1:=⟨fuel - 1,by omega⟩
   have g:=scanSorted_rng (lt:=ltT s) (d:=d) (b:=b) (b - i) i (by omega) hi2
   have hsc:=sc_is (s:=s) hN hd hs hb (b - i) i (by omega) (by omega) (by omega) N (by omega)
   rw [Sort.partialIns_succ]
   generalize Sort.scanSorted (ltT s) d b i = i2 at *
   have hu:decide (5 - (st + 1) < 5) = true:=decide_eq_true (by omega)
   by_cases h1:i2 = b
   ·rw [if_pos h1]
    refine ⟨?_,rfl,hd⟩
    rw [Q15 (o:=.inr (true,d.toList))]
    · rfl
    ·unfold Q1b Q1P
     simp only
     rw [if_pos hu,hsc,Q8,if_pos (by simp [h1])]
     rfl
   ·rw [if_neg h1]
    by_cases h2:b - a < 50
    ·rw [if_pos h2]
     refine ⟨?_,rfl,hd⟩
     rw [Q15 (o:=.inr (false,d.toList))]
     · rfl
     ·unfold Q1b Q1P
      simp only
      rw [if_pos hu,hsc,Q8,if_neg (by simp; omega),Qg (by omega),if_pos (decide_eq_true (by omega))]
      rfl
    ·rw [if_neg h2]
     have q1:=hd.swp (i:=i2) (j:=i2 - 1) (by omega) (by omega)
     have z1:(Sort.swp d i2 (i2 - 1)).size = d.size:=Sort.swp_size ..
     have e1:((i2:Nat):Int) - 1 = ((i2 - 1:Nat):Int):=by omega
     have hdn:(Qf (gd (-9223372036854775808 ≤ ((i2:Nat):Int) - ((a:Nat):Int) ∧ ((i2:Nat):Int) - ((a:Nat):Int) ≤ 9223372036854775807) (if decide (((i2:Nat):Int) - ((a:Nat):Int) ≥ 2) = true then gd (-9223372036854775808 ≤ ((i2 - 1:Nat):Int) ∧ ((i2 - 1:Nat):Int) ≤ 9223372036854775807) (Q1o (Q1h N s) N (((i2 - 1:Nat):Int),(Sort.swp d i2 (i2 - 1)).toList)) else some (Sort.swp d i2 (i2 - 1)).toList)) (fun l=>some l) = some (Sort.fixDown (ltT s) a i2 (Sort.swp d i2 (i2 - 1))).toList) ∧ (Sort.fixDown (ltT s) a i2 (Sort.swp d i2 (i2 - 1))).size = d.size ∧ QT (Sort.fixDown (ltT s) a i2 (Sort.swp d i2 (i2 - 1))):=by
      unfold Sort.fixDown
      rw [Qg (by omega)]
      by_cases h:i2 - a ≥ 2
      ·have:=sd_is (s:=s) hN (i2 - 1) (Sort.swp d i2 (i2 - 1)) q1 (by omega) (by omega) N (by omega)
       rw [if_pos (decide_eq_true (by omega)),Qg (by omega),if_pos h,this.1,Q8]
       exact ⟨rfl,by rw [this.2.1,z1],this.2.2⟩
      ·rw [if_neg (by rw [decide_eq_true_eq]; omega),if_neg h,Q8]
       exact ⟨rfl,z1,q1⟩
     generalize hD:Sort.fixDown (ltT s) a i2 (Sort.swp d i2 (i2 - 1)) = D at *
     have hup:((if decide (((b:Nat):Int) - ((i2:Nat):Int) ≥ 2) = true then gd (-9223372036854775808 ≤ ((i2:Nat):Int) + 1 ∧ ((i2:Nat):Int) + 1 ≤ 9223372036854775807) (Q1o (Q1c N ((b:Nat):Int) s ((i2:Nat):Int)) N (((i2:Nat):Int) + 1,D.toList)) else some (.inl (((i2:Nat):Int),D.toList))) = some (.inl (((i2:Nat):Int),(Sort.fixUp (ltT s) b i2 D).toList))) ∧ (Sort.fixUp (ltT s) b i2 D).size = D.size ∧ QT (Sort.fixUp (ltT s) b i2 D):=by
      unfold Sort.fixUp
      by_cases h:b - i2 ≥ 2
      ·have:=su_is (s:=s) (b:=b) hN ((i2:Nat):Int) (b - (i2 + 1)) (i2 + 1) D (by omega) hdn.2.2 (by omega) (by omega) (by omega) (by omega) N (by omega)
       rw [if_pos (decide_eq_true (by omega)),Qg (by omega),if_pos h,show ((i2:Nat):Int) + 1 = ((i2 + 1:Nat):Int) by omega,this.1]
       exact ⟨rfl,this.2⟩
      ·rw [if_neg (by rw [decide_eq_true_eq]; omega),if_neg h]
       exact ⟨rfl,rfl,hdn.2.2⟩
     have hst:Q1b N ((b:Nat):Int) s ((a:Nat):Int) (5 - (st + 1),((i:Nat):Int),d.toList) = some (.inl (5 - st,((i2:Nat):Int),(Sort.fixUp (ltT s) b i2 D).toList)):=by
      unfold Q1b Q1P
      simp only
      rw [if_pos hu,hsc,Q8,if_neg (by simp; omega),Qg (by omega),if_neg (by rw [decide_eq_true_eq]; omega)]
      simp only [e1,Int.toNat_natCast]
      rw [Qg (by omega),Qg (by omega),Qg (by omega),rd (by omega),Q8,Qg (by omega),rd (by omega),Q8,Qg (by omega),Q8,Qg (by omega),Q65 (by simp; omega),← Q8b]
      have hdn1:=hdn.1
      obtain ⟨x,hx1,hx2⟩:=Q7 hdn1
      cases hx2
      rw [hx1,Q8,Qg (by omega),hup.1,Q4H,Qg (by omega),show 5 - (st + 1) + 1 = 5 - st by omega]
     rw [Q1Y hst]
     have:=ih i2 (Sort.fixUp (ltT s) b i2 D) (by omega) hup.2.2 (by omega) (by omega) (by omega) (by omega) fuel (by omega)
     rw [hup.2.1,hdn.2.1] at this
     exact this
theorem pi_is {a b:Nat} {d:Array Q1} (hd:QT d) (hb:b ≤ d.size) (ha:a < b) (hs:d.size ≤ 999) :
  Q22 N d.toList ((a:Nat):Int) ((b:Nat):Int) s = some ((Sort.partialInsertionSort (ltT s) d a b).2,(Sort.partialInsertionSort (ltT s) d a b).1.toList) ∧ QT (Sort.partialInsertionSort (ltT s) d a b).1:=by
 have:=pi_go (s:=s) hN ha 5 (a + 1) d (by omega) hd hs hb (by omega) (by omega) N (by omega)
 unfold Q22 Sort.partialInsertionSort
 rw [Qg (by omega),show ((a:Nat):Int) + 1 = ((a + 1:Nat):Int) by omega]
 exact ⟨this.1,this.2.2⟩
end
end Go.Proofs.YtgangmegcejllaaGreatDoor
