import Derived.Test.YtgangmegcejllaaGreatDoorAgSetZ
namespace Go.Proofs.YtgangmegcejllaaGreatDoor
open Go Go.RowKit
theorem text_num {n:Int}:(if n < 0 then 45 :: decF 20 n.natAbs else decF 20 n.toNat) = (Q6P n).data.toList:=by
 unfold Q6P; simp
def valD (l:List UInt8):Nat:=l.foldl (fun a b=>a * 10 + (b.toNat - 48)) 0
theorem dig_val (u:Nat) (h:u < 10):(UInt8.ofNat (48 + u)).toNat = 48 + u:=by
 rw [UInt8.toNat_ofNat']; omega
theorem dec_val : ∀ (f u:Nat),u < 10 ^ (f + 1) → valD (decF (f + 1) u) = u
 | f,u,hu=>by
   unfold decF
   by_cases h:u < 10
   ·rw [if_pos h]
    simp only [valD,List.foldl_cons,List.foldl_nil,dig_val u h]; omega
   ·rw [if_neg h]
    cases f with
    | zero=>simp at hu; omega
    | succ f =>
      have ih:=dec_val f (u / 10) (by rw [Nat.pow_succ] at hu; omega)
      unfold valD at ih ⊢
      rw [List.foldl_append,ih]
      simp only [List.foldl_cons,List.foldl_nil,dig_val _ (Nat.mod_lt u (by omega : 0 < 10))]
      omega
theorem dec_all : ∀ (f u:Nat),∀ b ∈ decF f u,48 ≤ b.toNat ∧ b.toNat ≤ 57
 | 0,_,b,h=>by simp [decF] at h
 | f + 1,u,b,h=>by
   unfold decF at h
   split at h
   ·rename_i hu
    rw [List.mem_singleton] at h; subst h
    have:=dig_val u hu; rw [this]; omega
   ·rcases List.mem_append.1 h with h | h
    · exact dec_all f _ b h
    ·rw [List.mem_singleton] at h; subst h
     have:=dig_val (u % 10) (Nat.mod_lt u (by omega)); rw [this]; omega
theorem itoa_inj {n m:Int} (hn : -9223372036854775808 ≤ n ∧ n ≤ 9223372036854775807) (hm : -9223372036854775808 ≤ m ∧ m ≤ 9223372036854775807) (h:(Q6P n).data.toList = (Q6P m).data.toList):n = m:=by
 have hp:(10:Nat) ^ 20 = 100000000000000000000:=by decide
 rw [← text_num,← text_num] at h
 by_cases h1:n < 0 <;> by_cases h2:m < 0
 ·rw [if_pos h1,if_pos h2] at h
  have h3:=congrArg valD (List.cons.inj h).2
  rw [dec_val 19 _ (by rw [hp]; omega),dec_val 19 _ (by rw [hp]; omega)] at h3
  omega
 ·rw [if_pos h1,if_neg h2] at h
  have:=dec_all 20 m.toNat 45 (by rw [← h]; simp)
  exact absurd this.1 (by decide)
 ·rw [if_neg h1,if_pos h2] at h
  have:=dec_all 20 n.toNat 45 (by rw [h]; simp)
  exact absurd this.1 (by decide)
 ·rw [if_neg h1,if_neg h2] at h
  have h3:=congrArg valD h
  rw [dec_val 19 _ (by rw [hp]; omega),dec_val 19 _ (by rw [hp]; omega)] at h3
  omega
theorem itoa_sp {n:Int} : ∀ b ∈ (Q6P n).data.toList,b ≠ 32:=by
 rw [← text_num]
 intro b hb
 split at hb
 ·rcases List.mem_cons.1 hb with rfl | hb
  · decide
  ·have:=dec_all _ _ b hb
   intro e; subst e; exact absurd this.1 (by decide)
 ·have:=dec_all _ _ b hb
  intro e; subst e; exact absurd this.1 (by decide)
theorem split32 : ∀ {a b r r' : List UInt8},(∀ x ∈ a,x ≠ 32) → (∀ x ∈ b,x ≠ 32) → (r = [] ∨ ∃ t,r = 32 :: t) → (r' = [] ∨ ∃ t,r' = 32 :: t) → a ++ r = b ++ r' → a = b ∧ r = r'
 | [],[],_,_,_,_,_,_,h=>⟨rfl,h⟩
 | [],y :: b,r,r',_,hb,hr,_,h=>by
   rcases hr with rfl | ⟨t,rfl⟩
   · cases h
   · exact absurd (List.cons.inj h).1.symm (hb y List.mem_cons_self)
 | x :: a,[],r,r',ha,_,_,hr',h=>by
   rcases hr' with rfl | ⟨t,rfl⟩
   · cases h
   · exact absurd (List.cons.inj h).1 (ha x List.mem_cons_self)
 | x :: a,y :: b,r,r',ha,hb,hr,hr',h=>by
   obtain ⟨h1,h2⟩:=List.cons.inj h
   obtain ⟨h3,h4⟩:=split32 (fun z hz=>ha z (List.mem_cons_of_mem _ hz)) (fun z hz=>hb z (List.mem_cons_of_mem _ hz)) hr hr' h2
   exact ⟨by rw [h1,h3],h4⟩
def tailL (l:List Int):List UInt8:=(l.map fun z=>32 :: (Q6P z).data.toList).flatten
theorem tailL_sp : ∀ l:List Int,tailL l = [] ∨ ∃ t,tailL l = 32 :: t
 | []=>.inl rfl
 | _ :: _=>.inr ⟨_,rfl⟩
theorem tailL_inj : ∀ {l m:List Int},(∀ z ∈ l,-9223372036854775808 ≤ z ∧ z ≤ 9223372036854775807) → (∀ z ∈ m,-9223372036854775808 ≤ z ∧ z ≤ 9223372036854775807) → tailL l = tailL m → l = m
 | [],[],_,_,_=>rfl
 | [],_ :: _,_,_,h=>by simp [tailL] at h
 | _ :: _,[],_,_,h=>by simp [tailL] at h
 | a :: l,b :: m,hl,hm,h=>by
   have h' : (Q6P a).data.toList ++ tailL l = (Q6P b).data.toList ++ tailL m:=by simpa [tailL] using h
   obtain ⟨h1,h2⟩:=split32 itoa_sp itoa_sp (tailL_sp l) (tailL_sp m) h'
   rw [itoa_inj (hl a List.mem_cons_self) (hm b List.mem_cons_self) h1,tailL_inj (fun z hz=>hl z (List.mem_cons_of_mem _ hz)) (fun z hz=>hm z (List.mem_cons_of_mem _ hz)) h2]
theorem nameF_list (x:Q1):(Q4h x).data.toList = (Q6P x.rule).data.toList ++ tailL x.ids:=by
 unfold Q4h
 have : ∀ (l:List Int) (b:ByteArray),(l.foldl (fun b z=>b ++ ((⟨#[32]⟩ : ByteArray) ++ Q6P z)) b).data.toList = b.data.toList ++ tailL l:=fun l=>by
  induction l with
  | nil=>intro b; simp [tailL]
  | cons a l ih=>intro b; rw [List.foldl_cons,ih]; simp [tailL,ByteArray.data_append]
 exact this _ _
theorem nameF_inj {x y:Q1} (hx:Q3S x) (hy:Q3S y) (h:Q4h x = Q4h y):x = y:=by
 have h1:=congrArg (fun b:ByteArray=>b.data.toList) h
 simp only [nameF_list] at h1
 obtain ⟨h2,h3⟩:=split32 itoa_sp itoa_sp (tailL_sp _) (tailL_sp _) h1
 have h4:=itoa_inj hx.rule hy.rule h2
 have h5:=tailL_inj hx.ids hy.ids h3
 cases x; cases y; simp at h4 h5 ⊢; exact ⟨h4,h5⟩
end Go.Proofs.YtgangmegcejllaaGreatDoor
namespace Go.Proofs.YtgangmegcejllaaGreatDoor
open Go Go.RowKit
section
variable {N:Nat}
theorem shift_is {l A:List Int} {i:Nat} {x:Int} (hx:l[i]? = some x) (hA:Desc A) (hlen:A.length ≤ 1000000000) (hN : 2000000000 ≤ N) :
  ∃ m k,Q1o (Q3w N l i) N (A ++ [0],((A.length:Nat):Int)) = some (m,((k:Nat):Int)) ∧ k < m.length ∧ Desc (m.set k x) ∧ (m.set k x).Perm (x :: A):=by
 obtain ⟨o, h1, h2⟩ := Q67 (f := Q3w N l i) (fun s => ∃ P Q h, A = P ++ Q ∧ s.1 = P ++ h :: Q ∧ s.2 = ((P.length : Nat) : Int) ∧ ∀ q ∈ Q, q < x) (fun s => s.2.toNat)
  (fun o=>∃ P Q h,A = P ++ Q ∧ o.1 = P ++ h :: Q ∧ o.2 = ((P.length:Nat):Int) ∧ (∀ q ∈ Q,q < x) ∧ ∀ p ∈ P,x ≤ p) (fun s hs=>by
   obtain ⟨m,z⟩:=s
   obtain ⟨P,Q,h,e1,e2,e3,e4⟩:=hs
   simp only at e2 e3
   subst e2; subst e3
   unfold Q3w Q6a
   simp only
   have hPl:P.length ≤ A.length:=by rw [e1]; simp
   rcases List.eq_nil_or_concat P with rfl | ⟨P',p,rfl'⟩
   ·right
    exact ⟨_,by first | (rw [if_neg (by simp),Q8,if_neg (by simp)]; done) | (rw [if_neg (by simp),Q8]; done) | (rw [if_neg (by simp)]; rfl),[],Q,h,e1,rfl,rfl,e4,by simp⟩
   ·rw [List.concat_eq_append] at rfl'
    subst rfl'
    have hk:(((P' ++ [p]).length:Nat):Int) - 1 = ((P'.length:Nat):Int):=by simp
    have hg:(P' ++ [p] ++ h :: Q)[P'.length]? = some p:=by simp
    have hg2:(P' ++ [p] ++ h :: Q)[(P' ++ [p]).length]? = some h:=by simp
    have hP' : P'.length ≤ 1000000000:=by simp at hPl; omega
    rw [if_pos (by simp),hk,Qg (by omega),Qg (by omega),Int.toNat_natCast,hg,Q8,hx,Q8,Q8]
    by_cases hlt:p < x
    ·    left
         refine ⟨((P' ++ [p] ++ h :: Q).set (P' ++ [p]).length p,((P'.length:Nat):Int)),?_,⟨P',p :: Q,p,by rw [e1]; simp,by simp,rfl,?_⟩,by simp⟩
         · rw [if_pos (by simpa using hlt),Qg (by omega),Qg (by omega),Q8,Qg (by omega),Int.toNat_natCast,hg2,Q8,Qg (by omega)]
         ·intro q hq
          rcases List.mem_cons.1 hq with rfl | hq
          · exact hlt
          · exact e4 q hq
    ·    right
         refine ⟨_,by rw [if_neg (by simpa using hlt)],P' ++ [p],Q,h,e1,rfl,rfl,e4,?_⟩
         intro q hq
         have hs:Desc (P' ++ [p]):=by
          have:Desc (P' ++ [p] ++ Q):=by rw [← e1]; exact hA
          exact (List.pairwise_append.1 this).1
         rcases List.mem_append.1 hq with hq | hq
         ·have:=(List.pairwise_append.1 hs).2.2 q hq p (by simp)
          omega
         · simp at hq; subst hq; omega) N (A ++ [0],((A.length:Nat):Int)) ⟨A,[],0,by simp,by simp,rfl,by simp⟩ (by simp; omega)
 obtain ⟨m,z⟩:=o
 obtain ⟨P,Q,h,e1,e2,e3,e4,e5⟩:=h2
 simp only at e2 e3
 subst e2; subst e3
 have hset:(P ++ h :: Q).set P.length x = P ++ x :: Q:=by simp
 refine ⟨_,P.length,h1,by simp,?_,?_⟩
 ·rw [hset]
  have hs:Desc (P ++ Q):=by rw [← e1]; exact hA
  obtain ⟨q1,q2,q3⟩:=List.pairwise_append.1 hs
  refine List.pairwise_append.2 ⟨q1,List.pairwise_cons.2 ⟨fun q hq=>by have:=e4 q hq; omega,q2⟩,fun p hp q hq=>?_⟩
  rcases List.mem_cons.1 hq with rfl | hq
  · exact e5 p hp
  · exact q3 p hp q hq
 ·rw [hset,e1]
  exact List.perm_middle
theorem rfalling_is {l:List Int} (hN : 9223372036854775808 ≤ N) (hl:l.length ≤ 1000000):Q4g N l = some (desc l):=by
 unfold Q4g
 obtain ⟨o,h1,h2⟩:=Q67 (f:=Q4m N l) (fun s=>s.1 ≤ l.length ∧ Desc s.2 ∧ s.2.Perm (l.take s.1)) (fun s=>l.length - s.1) (fun o=>o = desc l) (fun s hs=>by
  obtain ⟨i,A⟩:=s
  obtain ⟨q1,q2,q3⟩:=hs
  simp only at q1 q2 q3
  have hA:A.length = i:=by rw [q3.length_eq,List.length_take]; omega
  unfold Q4m
  simp only
  by_cases hi:i < l.length
  ·left
   obtain ⟨m,k,s1,s2,s3,s4⟩:=shift_is (N:=N) (List.getElem?_eq_getElem hi) q2 (by omega) (by omega)
   refine ⟨(i + 1,m.set k l[i]),?_,⟨by simp only; omega,s3,?_⟩,by simp only; omega⟩
   ·rw [if_pos (by simpa using hi),Qg (by simp; omega),s1,Q8]
    simp only
    rw [List.getElem?_eq_getElem hi,Q8,Qg (by omega),Int.toNat_natCast,List.getElem?_eq_getElem s2,Q8,Qg (by omega)]
   ·simp only
    rw [List.take_succ_eq_append_getElem hi]
    exact s4.trans ((List.Perm.cons _ q3).trans (List.perm_append_singleton _ _).symm)
  ·right
   refine ⟨A,by rw [if_neg (by simpa using hi)],?_⟩
   rw [List.take_of_length_le (by omega)] at q3
   exact Q9X q3 q2) N (0,[]) ⟨by simp,List.Pairwise.nil,by simp⟩ (by simp only; omega)
 rw [h1,h2,Q8]
end
section
variable {N:Nat} (hN : 9223372036854775808 ≤ N)
include hN
omit hN in
theorem rsal_is {l x:List Int} {t:List Qr} {r:Int}:Q40 N t (l.map Q5B) r x = some (sal l r):=by
 unfold Q40 sal
 rw [List.length_map]
 by_cases h:r < 0
 · rw [if_pos (by simpa using h),Q8,if_pos rfl,if_pos h]
 ·rw [if_neg (by simpa using h),Q8,if_neg h]
  by_cases h2:r ≥ ((l.length:Nat):Int)
  · rw [if_pos (by simpa using h2),List.getD_eq_getElem?_getD,List.getElem?_eq_none (by omega)]; rfl
  ·have h3:r.toNat < l.length:=by omega
   rw [if_neg (by simpa using h2),Qg (by omega),List.getElem?_map,List.getElem?_eq_getElem h3,Option.map_some,Q8,List.getD_eq_getElem?_getD,List.getElem?_eq_getElem h3]; rfl
omit hN in
theorem go1 {p q:List Int} {K:Option Bool} (hp:p.length ≤ 1000) : ∀ (k i fuel:Nat),p.length - i ≤ k → k < fuel → i ≤ p.length → i ≤ q.length →
   (Q5x (Q1o (Q2K N p q) fuel i) fun _=>if (p.length != q.length) = true then some (decide (q.length < p.length)) else K) = if Q6h (q.drop i) (p.drop i) = 0 then K else some (decide (Q6h (q.drop i) (p.drop i) < 0)):=by
 intro k
 induction k with
 | zero =>
   intro i fuel h1 h2 h3 h4
   obtain ⟨fuel,rfl⟩ : ∃ f,fuel = f + 1:=⟨fuel - 1,by omega⟩
   have hi:i = p.length:=by omega
   subst hi
   rw [Q15 (o:=.inl ()) (by unfold Q2K; rw [if_neg (by simp),Q8,if_neg (by simp)]),Q4H,List.drop_length]
   by_cases h:p.length < q.length
   ·rw [if_pos (by simp; omega),List.drop_eq_getElem_cons h]
    simp [Q6h]; omega
   ·have:q.length = p.length:=by omega
    rw [if_neg (by simp [this]),List.drop_eq_nil_of_le (by omega)]
    simp [Q6h]
 | succ k ih =>
   intro i fuel h1 h2 h3 h4
   by_cases hi:i < p.length
   ·obtain ⟨fuel,rfl⟩ : ∃ f,fuel = f + 1:=⟨fuel - 1,by omega⟩
    rw [List.drop_eq_getElem_cons hi]
    by_cases hm:i < q.length
    ·rw [List.drop_eq_getElem_cons hm]
     have hs:Q2K N p q i = if p[i] = q[i] then some (.inl (i + 1)) else some (.inr (.inr (decide (p[i] > q[i])))):=by
      unfold Q2K
      rw [if_pos (by simpa using hi),Q8,if_pos (by simpa using hm),List.getElem?_eq_getElem hi,Q8,List.getElem?_eq_getElem hm,Q8,Q8,Q8,Qg (by omega)]
      by_cases h:p[i] = q[i]
      · rw [if_neg (by simp [h]),if_pos h]
      · rw [if_pos (by simpa using h),if_neg h]
     unfold Q6h
     by_cases hc:p[i] = q[i]
     ·rw [if_pos hc] at hs
      rw [show (if q[i] < p[i] then (-1:Int) else if q[i] > p[i] then 1 else Q6h (q.drop (i + 1)) (p.drop (i + 1))) = Q6h (q.drop (i + 1)) (p.drop (i + 1)) from by rw [if_neg (by omega),if_neg (by omega)],Q1Y hs,ih (i + 1) fuel (by omega) (by omega) (by omega) (by omega)]
     ·rw [if_neg hc] at hs
      rw [Q15 hs,Q6v]
      by_cases h5:q[i] < p[i]
      · simp [h5]
      ·have h6:q[i] > p[i]:=by omega
       simp [h5,h6]
    ·rw [Q15 (o:=.inl ()) (by unfold Q2K; rw [if_pos (by simpa using hi),Q8,if_neg (by simpa using hm)]),Q4H,show q.drop i = [] from List.drop_eq_nil_of_le (by omega),if_pos (by simp; omega)]
     simp [Q6h]; omega
   · exact ih i fuel (by omega) (by omega) h3 h4
omit hN in
theorem go2 {p q:List Int} (hp:p.length ≤ 1000) (hq:p.length = q.length) : ∀ (k i fuel:Nat),p.length - i ≤ k → k < fuel → i ≤ p.length →
   (Q5x (Q1o (Q37 N p q) fuel i) fun _=>some false) = some (decide (Q6h (p.drop i) (q.drop i) < 0)):=by
 intro k
 induction k with
 | zero =>
   intro i fuel h1 h2 h3
   obtain ⟨fuel,rfl⟩ : ∃ f,fuel = f + 1:=⟨fuel - 1,by omega⟩
   have hi:i = p.length:=by omega
   subst hi
   rw [Q15 (o:=.inl ()) (by unfold Q37; rw [if_neg (by simp)]),Q4H,List.drop_length,List.drop_eq_nil_of_le (by omega)]
   simp [Q6h]
 | succ k ih =>
   intro i fuel h1 h2 h3
   by_cases hi:i < p.length
   ·obtain ⟨fuel,rfl⟩ : ∃ f,fuel = f + 1:=⟨fuel - 1,by omega⟩
    have hm:i < q.length:=by omega
    rw [List.drop_eq_getElem_cons hi,List.drop_eq_getElem_cons hm]
    have hs:Q37 N p q i = if p[i] = q[i] then some (.inl (i + 1)) else some (.inr (.inr (decide (p[i] < q[i])))):=by
     unfold Q37
     rw [if_pos (by simpa using hi),List.getElem?_eq_getElem hi,Q8,List.getElem?_eq_getElem hm,Q8,Q8,Q8,Qg (by omega)]
     by_cases h:p[i] = q[i]
     · rw [if_neg (by simp [h]),if_pos h]
     · rw [if_pos (by simpa using h),if_neg h]
    unfold Q6h
    by_cases hc:p[i] = q[i]
    ·rw [if_pos hc] at hs
     rw [Q1Y hs,ih (i + 1) fuel (by omega) (by omega) (by omega),if_neg (by omega),if_neg (by omega)]
    ·rw [if_neg hc] at hs
     rw [Q15 hs,Q6v]
     by_cases h5:p[i] < q[i]
     · simp [h5]
     ·have h6:p[i] > q[i]:=by omega
      simp [h5,h6]
   · exact ih i fuel (by omega) (by omega) h3
theorem rbetter_is {s i1 i2:List Int} {t:List Qr} {r1 r2:Int} (h1:i1.length ≤ 1000) (h2:i2.length ≤ 1000):Q3O N t (s.map Q5B) r1 i1 r2 i2 = some (decide (ordI s r1 i1 r2 i2 < 0)):=by
 unfold Q3O ordI
 rw [rsal_is,Q8,rsal_is,Q8]
 by_cases hs:sal s r1 = sal s r2
 ·rw [if_neg (by simp [hs]),rfalling_is hN (by omega),Q8,rfalling_is hN (by omega),Q8,go1 (by rw [Q9W]; omega) (desc i1).length 0 N (by omega) (by rw [Q9W]; omega) (by omega) (by omega),List.drop_zero,List.drop_zero]
  have h0:Q7y (sal s r2) (sal s r1) = 0:=by unfold Q7y; rw [if_neg (by omega),if_neg (by omega)]
  rw [h0]
  by_cases hl:Q6h (desc i2) (desc i1) = 0
  ·have hlen:i1.length = i2.length:=by rw [← Q9W i1,← Q9W i2,lexI_zero hl]
   rw [if_pos hl,hl]
   by_cases hr:r1 = r2
   ·rw [if_neg (by simp [hr]),go2 h1 hlen i1.length 0 N (by omega) (by omega) (by omega),List.drop_zero,List.drop_zero]
    have h5:Q7y r1 r2 = 0:=by unfold Q7y; rw [if_neg (by omega),if_neg (by omega)]
    simp only [orI,h5,if_true]
    by_cases h6:Q6h i1 i2 = 0
    · simp [h6]
    · simp [h6]
   ·have h5:Q7y r1 r2 ≠ 0:=by unfold Q7y; split <;> (try split) <;> omega
    rw [if_pos (by simpa using hr)]
    simp only [orI,if_true,if_neg h5,Q8F]
  ·rw [if_neg hl]
   simp only [orI,if_true,if_neg hl]
 ·have h5:Q7y (sal s r2) (sal s r1) ≠ 0:=by unfold Q7y; split <;> (try split) <;> omega
  rw [if_pos (by simpa using hs)]
  simp only [orI,if_neg h5,Q8F]
end
end Go.Proofs.YtgangmegcejllaaGreatDoor
