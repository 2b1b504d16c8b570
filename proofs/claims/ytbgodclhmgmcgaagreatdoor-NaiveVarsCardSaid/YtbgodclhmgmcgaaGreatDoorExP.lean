import Derived.Test.YtbgodclhmgmcgaaGreatDoorAuto
import Derived.Test.YtbgodclhmgmcgaaGreatDoorXM
namespace Go.Proofs.YtbgodclhmgmcgaaGreatDoor
open Go Go.RowKit
theorem same_iter {α:Type} {f:Nat → Option (Nat ⊕ (Unit ⊕ Bool))} {l m:List α} (hlen:l.length = m.length)
  (step : ∀ i x y,i < l.length → l[i]? = some x → m[i]? = some y → ∃ b:Bool,(b = true ↔ x = y) ∧ f i = (if b = true then some (.inl (i + 1)) else some (.inr (.inr false))))
  (stop : ∀ i,l.length ≤ i → f i = some (.inr (.inl ()))) (n:Nat) (hn:l.length < n) : ∃ o,Q19 f n 0 = some o ∧ ((o = .inl () ∧ l = m) ∨ (o = .inr false ∧ l ≠ m)):=by
 refine Q5u (fun i=>i ≤ l.length ∧ l.take i = m.take i) (fun i=>l.length - i) _ (fun i ⟨hi,he⟩=>?_) n 0 ⟨by omega,by simp⟩ (by omega)
 by_cases hlt:i < l.length
 ·have hx:=List.getElem?_eq_getElem hlt
  have hy:=List.getElem?_eq_getElem (show i < m.length by omega)
  obtain ⟨b,hb,hf⟩:=step i _ _ hlt hx hy
  cases b with
  | true =>
    left
    refine ⟨i + 1,by rw [hf]; rfl,⟨by omega,?_⟩,by omega⟩
    rw [List.take_add_one,List.take_add_one,he,hx,hy,hb.1 rfl]
  | false =>
    right
    refine ⟨_,by rw [hf]; rfl,.inr ⟨rfl,fun e=>?_⟩⟩
    subst e
    have:=hb.2 rfl
    cases this
 ·right
  refine ⟨_,stop i (by omega),.inl ⟨rfl,?_⟩⟩
  have h1:l.take i = l:=List.take_of_length_le (by omega)
  have h2:m.take i = m:=List.take_of_length_le (by omega)
  rw [← h1,← h2,he]
def Says (m:Option Bool) (p:Prop):Prop:=∃ b,m = some b ∧ (b = true ↔ p)
theorem Says.same {α:Type} {f:Nat → Option (Nat ⊕ (Unit ⊕ Bool))} {l m:List α} {N:Nat} (hN : 9223372036854775808 ≤ N) (hl:l.length ≤ 9223372036854775807)
  (step:l.length = m.length → ∀ i x y,i < l.length → l[i]? = some x → m[i]? = some y → ∃ b:Bool,(b = true ↔ x = y) ∧ f i = (if b = true then some (.inl (i + 1)) else some (.inr (.inr false))))
  (stop : ∀ i,l.length ≤ i → f i = some (.inr (.inl ()))):Says (if (l.length != m.length) = true then some false else Q1O (Q19 f N 0) fun _=>some true) (l = m):=by
 by_cases h:l.length = m.length
 ·rw [if_neg (by simpa using h)]
  obtain ⟨o,h1,h2⟩:=same_iter h (step h) stop N (by omega)
  rw [h1]
  rcases h2 with ⟨rfl,h2⟩ | ⟨rfl,h2⟩
  · exact ⟨true,rfl,by simp [h2]⟩
  · exact ⟨false,rfl,by simp [h2]⟩
 ·rw [if_pos (by simpa using h)]
  exact ⟨false,rfl,by constructor; · simp
                      · intro e; subst e; exact absurd rfl h⟩
theorem Says.id {m:Option Bool} {p:Prop} (h:Says m p):Says (Qp m fun v=>some v) p:=by
 obtain ⟨b,h1,h2⟩:=h
 rw [h1]; exact ⟨b,rfl,h2⟩
theorem Says.iff {m:Option Bool} {p q:Prop} (h:Says m p) (e:p ↔ q):Says m q:=by
 obtain ⟨b,h1,h2⟩:=h
 exact ⟨b,h1,h2.trans e⟩
theorem Says.eq_true {m:Option Bool} {p:Prop} (h:Says m p) (hp:p):m = some true:=by
 obtain ⟨b,h1,h2⟩:=h
 rw [h1,h2.2 hp]
end Go.Proofs.YtbgodclhmgmcgaaGreatDoor
namespace Go.Proofs.YtbgodclhmgmcgaaGreatDoor
open Go Go.RowKit
def num (x:Int):V:=⟨1,x,⟨#[]⟩⟩
theorem nott : ¬ ((!true) = true):=fun h=>by cases h
theorem notf : ¬ (false = true):=fun h=>by cases h
theorem right_num (N:Nat) (x:Int):Q1E N 1 x (⟨#[]⟩ : ByteArray) = some true:=by
 unfold Q1E; rw [if_pos (show ((1:Int) == 1) = true from rfl)]; simp
theorem do_loop {N:Nat} (hN : 9223372036854775808 ≤ N) {l:List V} (hl : ∀ v ∈ l,∃ x,v = num x) (h2:l.length ≤ 2):Q19 (Q1M N l) N (0,false) = some (.inl false):=by
 obtain ⟨o,h1,h3⟩:=Q5u (f:=Q1M N l) (fun s=>s.1 ≤ l.length ∧ s.2 = false) (fun s=>l.length - s.1) (fun o=>o = .inl false) (fun s hs=>by
  obtain ⟨i,b⟩:=s
  obtain ⟨hi,hb⟩:=hs
  simp only at hi hb
  subst hb
  unfold Q1M
  simp only
  by_cases hlt:i < l.length
  ·left
   have hx:=List.getElem?_eq_getElem hlt
   obtain ⟨x,hx2⟩:=hl _ (List.getElem_mem hlt)
   rw [hx2] at hx
   refine ⟨(i + 1,false),?_,⟨by simp only; omega,rfl⟩,by simp only; omega⟩
   have hc:Q4H N l i false = some (.inl false):=by
    unfold Q4H
    rw [hx,Q6]
    simp only [num]
    rw [right_num,Q6,if_neg nott,if_neg notf]; rfl
   rw [if_pos (by simpa using hlt),hc,Q18,QC (by omega)]
  ·right
   exact ⟨_,by rw [if_neg (by simpa using hlt)],rfl⟩) N (0,false) ⟨by simp,rfl⟩ (by simp only; omega)
 rw [h1,h3]
def endOf (r:Int × Bool):Nat × Int × Nat:=if r.2 = true then (1,r.1,0) else (0,0,300)
theorem do_two {N:Nat} {op x y:Int} (hN : 9223372036854775808 ≤ N) (h0 : 1 ≤ op) (h1:op ≤ 10) (h4:op ≠ 4) (h5:op ≠ 5) (h6:op ≠ 6) {r:Int × Bool} (h:QV N op (num x) (num y) = some r):Q2Y N op [num x,num y] = some (endOf r):=by
 have hc:Q63 N op = some 2:=by
  unfold Q63
  rw [if_neg (by simpa using h4),Q6,if_neg (by simp; omega)]
 unfold Q2Y
 rw [hc,Q6,if_neg (by simp; omega),if_neg (by simp; omega),Q6,if_neg (by simp),do_loop hN (fun v hv=>by simp at hv; first | (rcases hv with rfl | rfl <;> exact ⟨_,rfl⟩) | (subst hv; exact ⟨_,rfl⟩)) (by simp),Q18]
 simp only [List.getElem?_cons_zero,Q6]
 rw [QC (by omega),QC (by omega)]
 rw [show [num x,num y][(((2:Nat):Int) - 1).toNat]? = some (num y) from rfl,Q6,if_neg (by simpa using h5),if_neg (by simpa using h6),if_neg notf,h,Q6]
 obtain ⟨n,b⟩:=r
 cases b <;> rfl
def Q1L (x:Int):Prop:=-9223372036854775808 ≤ x ∧ x ≤ 9223372036854775807
instance (x:Int):Decidable (Q1L x):=inferInstanceAs (Decidable (_ ∧ _))
theorem endOf_in {x n:Int} {b:Bool} (h:b = decide (Q1L x)) (hn:Q1L x → n = x):endOf (n,b) = if Q1L x then (1,x,0) else (0,0,300):=by
 subst h
 unfold endOf
 by_cases hx:Q1L x
 · rw [if_pos (by simpa using hx),if_pos hx,hn hx]
 · rw [if_neg (by simpa using hx),if_neg hx]
theorem do_add {N:Nat} {x y:Int} (hN : 9223372036854775808 ≤ N) (hx:Q1L x) (hy:Q1L y):Q2Y N 1 [num x,num y] = some (if Q1L (x + y) then (1,x + y,0) else (0,0,300)):=by
 have h:QV N 1 (num x) (num y) = some (IntKind.wrap .i64 (x + y),(decide (IntKind.wrap .i64 (x + y) < x)) == (decide (y < 0))):=by
  unfold QV; rfl
 rw [do_two hN (by omega) (by omega) (by omega) (by omega) (by omega) h,endOf_in]
 ·rw [IntKind.wrap_i64,Bool.eq_iff_iff]
  simp only [beq_iff_eq,decide_eq_decide,decide_eq_true_eq]
  unfold Q1L at *
  omega
 · intro h; exact IntWalk.i64_in _ h
theorem do_sub {N:Nat} {x y:Int} (hN : 9223372036854775808 ≤ N) (hx:Q1L x) (hy:Q1L y):Q2Y N 2 [num x,num y] = some (if Q1L (x - y) then (1,x - y,0) else (0,0,300)):=by
 have h:QV N 2 (num x) (num y) = some (IntKind.wrap .i64 (x - y),(decide (IntKind.wrap .i64 (x - y) > x)) == (decide (y < 0))):=by
  unfold QV; rfl
 rw [do_two hN (by omega) (by omega) (by omega) (by omega) (by omega) h,endOf_in]
 ·rw [IntKind.wrap_i64,Bool.eq_iff_iff]
  simp only [beq_iff_eq,decide_eq_decide,decide_eq_true_eq]
  unfold Q1L at *
  omega
 · intro h; exact IntWalk.i64_in _ h
theorem Q7m (N:Nat) (b:Bool):Q5o N b = some (if b = true then 1 else 0):=by cases b <;> rfl
theorem abs_u64 {x:Int} (hx:Q1L x):(if (decide (x < 0)) = true then some (IntKind.wrap .u64 (0 - (IntKind.wrap .u64 x))) else some (IntKind.wrap .u64 x)) = some ((x.natAbs:Nat):Int):=by
 unfold Q1L at hx
 rw [IntKind.wrap_u64,IntKind.wrap_u64]
 by_cases h:x < 0
 · rw [if_pos (by simpa using h)]; congr 1; omega
 · rw [if_neg (by simpa using h)]; congr 1; omega
theorem prod_sign {x y:Int}:x * y = if (decide (x < 0) != decide (y < 0)) = true then -((x.natAbs * y.natAbs:Nat):Int) else ((x.natAbs * y.natAbs:Nat):Int):=by
 rw [← Int.natAbs_mul]
 rcases Int.lt_or_le x 0 with hx | hx <;> rcases Int.lt_or_le y 0 with hy | hy
 ·rw [if_neg (by simp [hx,hy])]
  have:=Int.mul_pos_of_neg_of_neg hx hy; omega
 ·rw [if_pos (by simp [hx,hy])]
  have:=Int.mul_nonpos_of_nonpos_of_nonneg (Int.le_of_lt hx) hy; omega
 ·rw [if_pos (by simp [hx,hy])]
  have:=Int.mul_nonpos_of_nonneg_of_nonpos hx (Int.le_of_lt hy); omega
 ·rw [if_neg (by simp; omega)]
  have:=Int.mul_nonneg hx hy; omega
theorem product_is {N:Nat} {x y:Int} (hx:Q1L x) (hy:Q1L y) : ∃ n,Q4t N x y = some (n,decide (Q1L (x * y))) ∧ (Q1L (x * y) → n = x * y):=by
 have hA:x.natAbs ≤ 9223372036854775808:=by unfold Q1L at hx; omega
 have hB:y.natAbs ≤ 9223372036854775808:=by unfold Q1L at hy; omega
 unfold Q4t
 rw [abs_u64 hx,Q6,abs_u64 hy,Q6,QC (by omega),QC (by omega),prod_sign]
 simp only [Int.toNat_natCast]
 by_cases hs:(decide (x < 0) != decide (y < 0)) = true
 ·rw [if_pos hs,if_pos hs]
  by_cases hh:x.natAbs * y.natAbs / 18446744073709551616 = 0
  ·rw [if_pos (by simp; omega)]
   refine ⟨_,congrArg some (congrArg (Prod.mk _) ?_),fun h=>?_⟩
   · simp only [decide_eq_decide]; unfold Q1L; omega
   · unfold Q1L at h; rw [IntKind.wrap_u64,IntKind.wrap_i64]; omega
  ·rw [if_neg (by simp; omega)]
   refine ⟨_,congrArg some (congrArg (Prod.mk _) ?_),fun h=>?_⟩
   · simp only [Bool.false_eq,decide_eq_false_iff_not]; unfold Q1L; omega
   · unfold Q1L at h; omega
 ·rw [if_neg hs,if_neg hs]
  by_cases hh:x.natAbs * y.natAbs / 18446744073709551616 = 0
  ·rw [if_pos (by simp; omega)]
   refine ⟨_,congrArg some (congrArg (Prod.mk _) ?_),fun h=>?_⟩
   · simp only [decide_eq_decide]; unfold Q1L; omega
   · unfold Q1L at h; rw [IntKind.wrap_i64]; omega
  ·rw [if_neg (by simp; omega)]
   refine ⟨_,congrArg some (congrArg (Prod.mk _) ?_),fun h=>?_⟩
   · simp only [Bool.false_eq,decide_eq_false_iff_not]; unfold Q1L; omega
   · unfold Q1L at h; omega
theorem do_mul {N:Nat} {x y:Int} (hN : 9223372036854775808 ≤ N) (hx:Q1L x) (hy:Q1L y):Q2Y N 3 [num x,num y] = some (if Q1L (x * y) then (1,x * y,0) else (0,0,300)):=by
 obtain ⟨n,h1,h2⟩:=product_is (N:=N) hx hy
 have h:QV N 3 (num x) (num y) = some (n,decide (Q1L (x * y))):=by
  unfold QV
  simp only [num,h1,Q6]
  rfl
 rw [do_two hN (by omega) (by omega) (by omega) (by omega) (by omega) h,endOf_in rfl h2]
end Go.Proofs.YtbgodclhmgmcgaaGreatDoor
