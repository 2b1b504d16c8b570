import Derived.Test.YtgangmegcejllaaGreatDoorPdqA
namespace Go.Proofs.YtgangmegcejllaaGreatDoor
open Go Go.RowKit
instance:Inhabited Q1:=⟨⟨0,[]⟩⟩
def QT (d:Array Q1):Prop:=∀ i:Nat,(d[i]!).ids.length ≤ 400
theorem QT.swp {d:Array Q1} (h:QT d) {i j:Nat} (hi:i < d.size) (hj:j < d.size):QT (Sort.swp d i j):=fun k=>by
 rw [Sort.swp_get d hi hj]
 split
 · exact h i
 ·split
  · exact h j
  · exact h k
theorem rd {d:Array Q1} {i:Nat} (h:i < d.size):d.toList[i]? = some d[i]!:=by
 rw [Array.getElem?_toList,Array.getElem?_eq_getElem h,getElem!_pos d i h]
theorem Q8b {d:Array Q1} {i j:Nat}:(Sort.swp d i j).toList = (d.toList.set i d[j]!).set j d[i]!:=by simp [Sort.swp]
theorem Q65 {α β:Type} {l:List α} {i:Nat} {m:Option β} (h:i < l.length):(Qf (l[i]?) fun _=>m) = m:=by rw [List.getElem?_eq_getElem h,Q8]
section
variable {N:Nat} {s:List Int} (hN : 1000000 ≤ N)
include hN
theorem cmpQ {d:Array Q1} (h:QT d) (i j:Nat):Q17 N s d[i]!.rule d[i]!.ids d[j]!.rule d[j]!.ids = some (cfT s d[i]! d[j]!) :=
 order_is hN (Nat.le_trans (h i) (by omega)) (Nat.le_trans (h j) (by omega))
theorem ins2 (a:Nat) : ∀ (j:Nat) (d:Array Q1),QT d → j < d.size → d.size ≤ 1000 → ∀ fuel,j < fuel →
   Q1o (Q1E N ((a:Nat):Int) s) fuel (((j:Nat):Int),d.toList) = some (Sort.insInner (ltT s) a j d).toList:=by
 intro j
 induction j with
 | zero =>
   intro d hd hj hs fuel hf
   obtain ⟨fuel,rfl⟩ : ∃ f,fuel = f + 1:=⟨fuel - 1,by omega⟩
   rw [Q15 (o:=d.toList) (by
    unfold Q1E Q2V
    simp only
    rw [if_neg (by rw [decide_eq_true_eq]; omega),Q8,if_neg (by simp)])]
   rfl
 | succ j ih =>
   intro d hd hj hs fuel hf
   obtain ⟨fuel,rfl⟩ : ∃ f,fuel = f + 1:=⟨fuel - 1,by omega⟩
   have e1:((j + 1:Nat):Int) - 1 = ((j:Nat):Int):=by omega
   have hst:Q1E N ((a:Nat):Int) s (((j + 1:Nat):Int),d.toList) = if (decide (j + 1 > a) && ltT s d[j + 1]! d[j]!) = true then some (.inl (((j:Nat):Int),(Sort.swp d (j + 1) j).toList)) else some (.inr d.toList):=by
    unfold Q1E Q2V
    simp only [e1,Int.toNat_natCast]
    by_cases h:j + 1 > a
    ·rw [if_pos (decide_eq_true (by omega)),Qg (by omega),rd hj,Q8,Qg (by omega),Qg (by omega),rd (by omega),Q8,cmpQ hN hd,Q8,Q8,decide_eq_true h,Bool.true_and]
     unfold ltT
     by_cases hc:cfT s d[j + 1]! d[j]! < 0
     · rw [if_pos (decide_eq_true hc),if_pos (decide_eq_true hc),Qg (by omega),Qg (by omega),Qg (by omega),Q8,Qg (by omega),Q8,Qg (by omega),Q8,Qg (by omega),Q65 (by simp; omega),Qg (by omega),Q8b]
     · rw [if_neg (by rw [decide_eq_true_eq]; exact hc),if_neg (by rw [decide_eq_true_eq]; exact hc)]
    · rw [if_neg (by rw [decide_eq_true_eq]; omega),Q8,if_neg (by simp),decide_eq_false h,Bool.false_and,if_neg (by simp)]
   unfold Sort.insInner
   by_cases h:(decide (j + 1 > a) && ltT s d[j + 1]! d[j]!) = true
   ·rw [if_pos h] at hst ⊢
    rw [Q1Y hst]
    exact ih _ (hd.swp hj (by omega)) (by rw [Sort.swp_size]; omega) (by rw [Sort.swp_size]; omega) fuel (by omega)
   ·rw [if_neg h] at hst ⊢
    rw [Q15 hst]
omit hN in
theorem Q99 {lt:Q1 → Q1 → Bool} (a:Nat) : ∀ (j:Nat) (d:Array Q1),(Sort.insInner lt a j d).size = d.size
 | 0,_=>rfl
 | j + 1,d=>by
   unfold Sort.insInner
   split
   · rw [Q99 a j,Sort.swp_size]
   · rfl
omit hN in
theorem insInner_QT {lt:Q1 → Q1 → Bool} (a:Nat) : ∀ (j:Nat) (d:Array Q1),j < d.size → QT d → QT (Sort.insInner lt a j d)
 | 0,_,_,h=>h
 | j + 1,d,hj,h=>by
   unfold Sort.insInner
   split
   · exact insInner_QT a j _ (by rw [Sort.swp_size]; omega) (h.swp hj (by omega))
   · exact h
theorem ins1 (a b:Nat) : ∀ (k i:Nat) (d:Array Q1),b - i ≤ k → QT d → b ≤ d.size → d.size ≤ 1000 → i ≤ 1000 → ∀ fuel,k < fuel →
   Q1o (Q1s N ((b:Nat):Int) ((a:Nat):Int) s) fuel (((i:Nat):Int),d.toList) = some (Sort.insOuter (ltT s) a b i d).toList:=by
 intro k
 induction k with
 | zero =>
   intro i d hk hd hb hs hi fuel hf
   obtain ⟨fuel,rfl⟩ : ∃ f,fuel = f + 1:=⟨fuel - 1,by omega⟩
   unfold Sort.insOuter
   rw [if_neg (by omega),Q15]
   unfold Q1s
   simp only
   rw [if_neg (by rw [decide_eq_true_eq]; omega)]
 | succ k ih =>
   intro i d hk hd hb hs hi fuel hf
   obtain ⟨fuel,rfl⟩ : ∃ f,fuel = f + 1:=⟨fuel - 1,by omega⟩
   unfold Sort.insOuter
   by_cases h:i < b
   ·have hst:Q1s N ((b:Nat):Int) ((a:Nat):Int) s (((i:Nat):Int),d.toList) = some (.inl (((i + 1:Nat):Int),(Sort.insInner (ltT s) a i d).toList)):=by
     unfold Q1s
     simp only
     rw [if_pos (decide_eq_true (by omega)),ins2 hN a i d hd (by omega) hs N (by omega),Q8,Qg (by omega)]
     rfl
    rw [if_pos h,Q1Y hst]
    exact ih (i + 1) _ (by omega) (insInner_QT a i d (by omega) hd) (by rw [Q99]; exact hb) (by rw [Q99]; exact hs) (by omega) fuel (by omega)
   ·rw [if_neg h,Q15]
    unfold Q1s
    simp only
    rw [if_neg (by rw [decide_eq_true_eq]; omega)]
theorem ins_is {a b:Nat} {d:Array Q1} (hd:QT d) (hb:b ≤ d.size) (ha:a ≤ b) (hs:d.size ≤ 999) :
  Q2v N d.toList ((a:Nat):Int) ((b:Nat):Int) s = some (Sort.insertionSort (ltT s) d a b).toList:=by
 unfold Q2v Sort.insertionSort
 rw [Qg (by omega)]
 exact ins1 hN a b b (a + 1) d (by omega) hd hb (by omega) (by omega) N (by omega)
end
end Go.Proofs.YtgangmegcejllaaGreatDoor
namespace Go.Proofs.YtgangmegcejllaaGreatDoor
open Go Go.RowKit
theorem wrap_s {z:Int} (h : -1000000 ≤ z ∧ z ≤ 1000000):IntKind.wrap .i64 z = z:=by
 have:=i64_in (x:=z) ⟨by omega,by omega⟩
 injection this
section
variable {N:Nat} {s:List Int} (hN : 1000000 ≤ N)
include hN
theorem siftC {d:Array Q1} (hd:QT d) (hs:d.size ≤ 1000) {hi F r:Nat} (hF:F + hi ≤ d.size) (hr:r ≤ 1000) :
  Q3t N ((r:Nat):Int) ((hi:Nat):Int) ((F:Nat):Int) d.toList s = some (decide (2 * r + 1 + 1 < hi) && ltT s d[F + (2 * r + 1)]! d[F + (2 * r + 1) + 1]!):=by
 have e2:((F:Nat):Int) + (2 * ((r:Nat):Int) + 1) = ((F + (2 * r + 1):Nat):Int):=by omega
 have e3:((F + (2 * r + 1):Nat):Int) + 1 = ((F + (2 * r + 1) + 1:Nat):Int):=by omega
 unfold Q3t
 simp only [e2,e3,Int.toNat_natCast]
 rw [Qg (by omega)]
 by_cases h : 2 * r + 1 + 1 < hi
 ·rw [if_pos (decide_eq_true (by omega)),Qg (by omega),Qg (by omega),rd (by omega),Q8,Qg (by omega),Qg (by omega),Qg (by omega),rd (by omega),Q8,cmpQ hN hd,Q8,decide_eq_true h,Bool.true_and]
  rfl
 · rw [if_neg (by rw [decide_eq_true_eq]; omega),decide_eq_false h,Bool.false_and]
theorem siftS {d:Array Q1} (hd:QT d) (hs:d.size ≤ 1000) {hi F r c:Nat} (hF:F + hi ≤ d.size) (hr:r ≤ 1000) (hr2 : 2 * r + 1 < hi)
  (hc:c = if (decide (2 * r + 1 + 1 < hi) && ltT s d[F + (2 * r + 1)]! d[F + (2 * r + 1) + 1]!) = true then 2 * r + 2 else 2 * r + 1) :
  Q1G N ((hi:Nat):Int) ((F:Nat):Int) s (((r:Nat):Int),d.toList) =
   if ltT s d[F + r]! d[F + c]! = true then some (.inl (((c:Nat):Int),(Sort.swp d (F + r) (F + c)).toList)) else some (.inr d.toList):=by
 have hcl:c < hi:=by
  rw [hc]
  split
  ·rename_i h
   rw [Bool.and_eq_true,decide_eq_true_eq] at h
   omega
  · omega
 unfold Q1G
 simp only
 rw [Qg (by omega),Qg (by omega),if_neg (by rw [decide_eq_true_eq]; omega),siftC hN hd hs hF hr,Q8]
 have hb:(if (decide (2 * r + 1 + 1 < hi) && ltT s d[F + (2 * r + 1)]! d[F + (2 * r + 1) + 1]!) = true then gd (-9223372036854775808 ≤ 2 * ((r:Nat):Int) + 1 + 1 ∧ 2 * ((r:Nat):Int) + 1 + 1 ≤ 9223372036854775807) (some (2 * ((r:Nat):Int) + 1 + 1)) else some (2 * ((r:Nat):Int) + 1)) = some ((c:Nat):Int):=by
  rw [hc]
  split
  · rw [Qg (by omega)]; congr 1
  · congr 1
 rw [hb,Q8]
 have e1:((F:Nat):Int) + ((r:Nat):Int) = ((F + r:Nat):Int):=by omega
 have e2:((F:Nat):Int) + ((c:Nat):Int) = ((F + c:Nat):Int):=by omega
 simp only [e1,e2,Int.toNat_natCast]
 rw [Qg (by omega),Qg (by omega),rd (by omega),Q8,Qg (by omega),Qg (by omega),rd (by omega),Q8,cmpQ hN hd,Q8]
 unfold ltT
 by_cases h:cfT s d[F + r]! d[F + c]! < 0
 · rw [if_neg (by simp [h]),if_pos (decide_eq_true h),Qg (by omega),Qg (by omega),Qg (by omega),Qg (by omega),Q8,Qg (by omega),Qg (by omega),Q8,Qg (by omega),Q8,Qg (by omega),Q65 (by simp; omega),Q8b]
 · rw [if_pos (by simp [h]),if_neg (by simp [h])]
theorem sift_is (hi F:Nat) : ∀ (k r:Nat) (d:Array Q1),hi - r ≤ k → QT d → F + hi ≤ d.size → d.size ≤ 1000 → r ≤ 1000 → ∀ fuel,k < fuel →
   Q1o (Q1G N ((hi:Nat):Int) ((F:Nat):Int) s) fuel (((r:Nat):Int),d.toList) = some (Sort.siftDown (ltT s) hi F r d).toList:=by
 intro k
 induction k with
 | zero =>
   intro r d hk hd hF hs hr fuel hf
   obtain ⟨fuel,rfl⟩ : ∃ f,fuel = f + 1:=⟨fuel - 1,by omega⟩
   rw [Sort.siftDown,dif_pos (by omega),Q15]
   unfold Q1G
   simp only
   rw [Qg (by omega),Qg (by omega),if_pos (decide_eq_true (by omega))]
 | succ k ih =>
   intro r d hk hd hF hs hr fuel hf
   obtain ⟨fuel,rfl⟩ : ∃ f,fuel = f + 1:=⟨fuel - 1,by omega⟩
   rw [Sort.siftDown]
   by_cases h : 2 * r + 1 ≥ hi
   ·rw [dif_pos h,Q15]
    unfold Q1G
    simp only
    rw [Qg (by omega),Qg (by omega),if_pos (decide_eq_true (by omega))]
   ·rw [dif_neg h]
    have hst:=siftS (s:=s) hN hd hs hF hr (by omega) rfl
    by_cases hc:(decide (2 * r + 1 + 1 < hi) && ltT s d[F + (2 * r + 1)]! d[F + (2 * r + 1) + 1]!) = true
    ·have hc2 : 2 * r + 2 < hi:=by
      rw [Bool.and_eq_true,decide_eq_true_eq] at hc
      omega
     rw [if_pos hc] at hst ⊢
     by_cases hl:ltT s d[F + r]! d[F + (2 * r + 2)]! = true
     ·rw [if_pos hl] at hst
      rw [if_neg (by simp [hl]),dif_pos hc2,Q1Y hst]
      exact ih (2 * r + 2) _ (by omega) (hd.swp (by omega) (by omega)) (by rw [Sort.swp_size]; omega) (by rw [Sort.swp_size]; omega) (by omega) fuel (by omega)
     ·rw [if_neg hl] at hst
      rw [if_pos (by simp [hl]),Q15 hst]
    ·rw [if_neg hc] at hst ⊢
     by_cases hl:ltT s d[F + r]! d[F + (2 * r + 1)]! = true
     ·rw [if_pos hl] at hst
      rw [if_neg (by simp [hl]),Q1Y hst]
      exact ih (2 * r + 1) _ (by omega) (hd.swp (by omega) (by omega)) (by rw [Sort.swp_size]; omega) (by rw [Sort.swp_size]; omega) (by omega) fuel (by omega)
     ·rw [if_neg hl] at hst
      rw [if_pos (by simp [hl]),Q15 hst]
omit hN in
theorem sift_keep {lt:Q1 → Q1 → Bool} (hi F:Nat) : ∀ (k r:Nat) (d:Array Q1),hi - r ≤ k → F + hi ≤ d.size → (Sort.siftDown lt hi F r d).size = d.size ∧ (QT d → QT (Sort.siftDown lt hi F r d)):=by
 intro k
 induction k with
 | zero=>intro r d hk hF; rw [Sort.siftDown,dif_pos (by omega)]; exact ⟨rfl,id⟩
 | succ k ih =>
   intro r d hk hF
   rw [Sort.siftDown]
   by_cases h : 2 * r + 1 ≥ hi
   · rw [dif_pos h]; exact ⟨rfl,id⟩
   ·rw [dif_neg h]
    have go : ∀ c,r < c → c < hi → (Sort.siftDown lt hi F c (Sort.swp d (F + r) (F + c))).size = d.size ∧ (QT d → QT (Sort.siftDown lt hi F c (Sort.swp d (F + r) (F + c)))):=fun c h1 h2=>by
     have:=ih c (Sort.swp d (F + r) (F + c)) (by omega) (by rw [Sort.swp_size]; exact hF)
     rw [Sort.swp_size] at this
     exact ⟨this.1,fun hq=>this.2 (hq.swp (by omega) (by omega))⟩
    split
    ·split
     · exact ⟨rfl,id⟩
     ·split
      · exact go _ (by omega) (by omega)
      · exact ⟨rfl,id⟩
    ·split
     · exact ⟨rfl,id⟩
     · exact go _ (by omega) (by omega)
theorem hb_is (a b:Nat) (hab:a ≤ b) : ∀ (k:Nat) (d:Array Q1),QT d → b ≤ d.size → d.size ≤ 1000 → k ≤ 1000 → ∀ fuel,k < fuel →
   Q1o (Q1S N ((b:Nat):Int) ((a:Nat):Int) s) fuel (((k:Nat):Int) - 1,d.toList) = some (Sort.heapBuild (ltT s) (b - a) a k d).toList ∧ (Sort.heapBuild (ltT s) (b - a) a k d).size = d.size ∧ QT (Sort.heapBuild (ltT s) (b - a) a k d):=by
 intro k
 induction k with
 | zero =>
   intro d hd hb hs hk fuel hf
   obtain ⟨fuel,rfl⟩ : ∃ f,fuel = f + 1:=⟨fuel - 1,by omega⟩
   refine ⟨?_,rfl,hd⟩
   rw [Q15]
   unfold Q1S
   simp only
   rw [if_neg (by rw [decide_eq_true_eq]; omega)]
   rfl
 | succ k ih =>
   intro d hd hb hs hk fuel hf
   obtain ⟨fuel,rfl⟩ : ∃ f,fuel = f + 1:=⟨fuel - 1,by omega⟩
   have kp:=sift_keep (lt:=ltT s) (b - a) a (b - a - k) k d (by omega) (by omega)
   have e1:((k + 1:Nat):Int) - 1 = ((k:Nat):Int):=by omega
   have e2:((b:Nat):Int) - ((a:Nat):Int) = ((b - a:Nat):Int):=by omega
   have hst:Q1S N ((b:Nat):Int) ((a:Nat):Int) s (((k + 1:Nat):Int) - 1,d.toList) = some (.inl (((k:Nat):Int) - 1,(Sort.siftDown (ltT s) (b - a) a k d).toList)):=by
    unfold Q1S
    simp only [e1,e2]
    rw [if_pos (decide_eq_true (by omega))]
    unfold Q2u
    rw [sift_is hN (b - a) a (b - a - k) k d (by omega) hd (by omega) hs (by omega) N (by omega),Q8,Qg (by omega)]
   rw [Q1Y hst]
   have:=ih (Sort.siftDown (ltT s) (b - a) a k d) (kp.2 hd) (by rw [kp.1]; exact hb) (by rw [kp.1]; exact hs) (by omega) fuel (by omega)
   rw [kp.1] at this
   exact this
theorem hp_is (a b:Nat) (hab:a ≤ b) : ∀ (k:Nat) (d:Array Q1),QT d → a + k ≤ d.size → d.size ≤ 1000 → k ≤ 1000 → ∀ fuel,k < fuel →
   Q1o (Q1T N ((a:Nat):Int) s) fuel (((k:Nat):Int) - 1,d.toList) = some (Sort.heapPop (ltT s) a k d).toList:=by
 intro k
 induction k with
 | zero =>
   intro d hd hb hs hk fuel hf
   obtain ⟨fuel,rfl⟩ : ∃ f,fuel = f + 1:=⟨fuel - 1,by omega⟩
   rw [Q15]
   unfold Q1T
   simp only
   rw [if_neg (by rw [decide_eq_true_eq]; omega)]
   rfl
 | succ k ih =>
   intro d hd hb hs hk fuel hf
   obtain ⟨fuel,rfl⟩ : ∃ f,fuel = f + 1:=⟨fuel - 1,by omega⟩
   have q:=hd.swp (i:=a) (j:=a + k) (by omega) (by omega)
   have kp:=sift_keep (lt:=ltT s) k a k 0 (Sort.swp d a (a + k)) (by omega) (by rw [Sort.swp_size]; omega)
   rw [Sort.swp_size] at kp
   have e1:((k + 1:Nat):Int) - 1 = ((k:Nat):Int):=by omega
   have e2:((a:Nat):Int) + ((k:Nat):Int) = ((a + k:Nat):Int):=by omega
   have hst:Q1T N ((a:Nat):Int) s (((k + 1:Nat):Int) - 1,d.toList) = some (.inl (((k:Nat):Int) - 1,(Sort.siftDown (ltT s) k a 0 (Sort.swp d a (a + k))).toList)):=by
    unfold Q1T
    simp only [e1,e2,Int.toNat_natCast]
    rw [if_pos (decide_eq_true (by omega)),Qg (by omega),Qg (by omega),Qg (by omega),rd (by omega),Q8,Qg (by omega),rd (by omega),Q8,Qg (by omega),Q8,Qg (by omega),Q65 (by simp; omega),← Q8b]
    unfold Q2u
    have:=sift_is (s:=s) hN k a k 0 (Sort.swp d a (a + k)) (by omega) q (by rw [Sort.swp_size]; omega) (by rw [Sort.swp_size]; omega) (by omega) N (by omega)
    rw [show ((0:Nat):Int) = 0 from rfl] at this
    rw [this,Q8,Qg (by omega)]
   rw [Q1Y hst]
   exact ih _ (kp.2 q) (by rw [kp.1]; omega) (by rw [kp.1]; exact hs) (by omega) fuel (by omega)
theorem heap_is {a b:Nat} {d:Array Q1} (hd:QT d) (hb:b ≤ d.size) (ha:a ≤ b) (hs:d.size ≤ 999) :
  Q34 N d.toList ((a:Nat):Int) ((b:Nat):Int) s = some (Sort.heapSort (ltT s) d a b).toList:=by
 have e2:((b:Nat):Int) - ((a:Nat):Int) = ((b - a:Nat):Int):=by omega
 have e3:IntKind.wrap .i64 (Int.tdiv (((b - a:Nat):Int) - 1) 2) = (((b - a - 1) / 2 + 1:Nat):Int) - 1:=by
  by_cases h:b - a = 0
  · rw [h]; decide
  · rw [show ((b - a:Nat):Int) - 1 = ((b - a - 1:Nat):Int) by omega,Int.tdiv_eq_ediv_of_nonneg (by omega),wrap_s (by omega)]; omega
 have h1:=hb_is (s:=s) hN a b ha ((b - a - 1) / 2 + 1) d hd hb (by omega) (by omega) N (by omega)
 unfold Q34 Sort.heapSort
 simp only [e2,e3]
 rw [Qg (by omega),Qg (by omega),h1.1,Q8,Qg (by omega)]
 exact hp_is hN a b ha (b - a) _ h1.2.2 (by rw [h1.2.1]; omega) (by rw [h1.2.1]; omega) (by omega) N (by omega)
omit hN in
theorem rev1 : ∀ (k i j:Nat) (d:Array Q1),j - i ≤ k → j < d.size → d.size ≤ 1000 → ∀ fuel,k < fuel →
   Q1o (Q1u N) fuel (((j:Nat):Int),((i:Nat):Int),d.toList) = some (Sort.reverseLoop i j d).toList:=by
 intro k
 induction k with
 | zero =>
   intro i j d hk hj hs fuel hf
   obtain ⟨fuel,rfl⟩ : ∃ f,fuel = f + 1:=⟨fuel - 1,by omega⟩
   rw [Sort.reverseLoop,if_neg (by omega),Q15]
   unfold Q1u
   simp only
   rw [if_neg (by rw [decide_eq_true_eq]; omega)]
 | succ k ih =>
   intro i j d hk hj hs fuel hf
   obtain ⟨fuel,rfl⟩ : ∃ f,fuel = f + 1:=⟨fuel - 1,by omega⟩
   rw [Sort.reverseLoop]
   by_cases h:i < j
   ·have hst:Q1u N (((j:Nat):Int),((i:Nat):Int),d.toList) = some (.inl (((j - 1:Nat):Int),((i + 1:Nat):Int),(Sort.swp d i j).toList)):=by
     unfold Q1u
     simp only [Int.toNat_natCast]
     rw [if_pos (decide_eq_true (by omega)),Qg (by omega),rd (by omega),Q8,Qg (by omega),rd (by omega),Q8,Qg (by omega),Q8,Qg (by omega),Q65 (by simp; omega),Qg (by omega),Qg (by omega),Q8b,show ((j:Nat):Int) - 1 = ((j - 1:Nat):Int) by omega]
     rfl
    rw [if_pos h,Q1Y hst]
    exact ih (i + 1) (j - 1) _ (by omega) (by rw [Sort.swp_size]; omega) (by rw [Sort.swp_size]; omega) fuel (by omega)
   ·rw [if_neg h,Q15]
    unfold Q1u
    simp only
    rw [if_neg (by rw [decide_eq_true_eq]; omega)]
theorem rev_is {a b:Nat} {d:Array Q1} (hb:b ≤ d.size) (ha:a < b) (hs:d.size ≤ 999) :
  Q2D N d.toList ((a:Nat):Int) ((b:Nat):Int) s = some (Sort.reverseRange d a b).toList:=by
 unfold Q2D Sort.reverseRange
 rw [Qg (by omega),show ((b:Nat):Int) - 1 = ((b - 1:Nat):Int) by omega]
 exact rev1 (b - 1) a (b - 1) d (by omega) (by omega) (by omega) N (by omega)
end
end Go.Proofs.YtgangmegcejllaaGreatDoor
