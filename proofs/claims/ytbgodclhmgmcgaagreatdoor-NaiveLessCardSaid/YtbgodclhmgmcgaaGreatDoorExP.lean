import Derived.Test.YtbgodclhmgmcgaaGreatDoorXM
import Derived.Test.YtbgodclhmgmcgaaGreatDoorPlain
namespace Go.Proofs.YtbgodclhmgmcgaaGreatDoor
open Go Go.RowKit
def num (x:Int):V:=⟨1,x,⟨#[]⟩⟩
theorem nott : ¬ ((!true) = true):=fun h=>by cases h
theorem notf : ¬ (false = true):=fun h=>by cases h
theorem right_num (N:Nat) (x:Int):Q26 N 1 x (⟨#[]⟩ : ByteArray) = some true:=by
 unfold Q26; rw [if_pos (show ((1:Int) == 1) = true from rfl)]; simp
theorem do_loop {N:Nat} (hN : 9223372036854775808 ≤ N) {l:List V} (hl : ∀ v ∈ l,∃ x,v = num x) (h2:l.length ≤ 2):Q1h (Q2c N l) N (0,false) = some (.inl false):=by
 obtain ⟨o,h1,h3⟩:=Q5c (f:=Q2c N l) (fun s=>s.1 ≤ l.length ∧ s.2 = false) (fun s=>l.length - s.1) (fun o=>o = .inl false) (fun s hs=>by
  obtain ⟨i,b⟩:=s
  obtain ⟨hi,hb⟩:=hs
  simp only at hi hb
  subst hb
  unfold Q2c
  simp only
  by_cases hlt:i < l.length
  ·left
   have hx:=List.getElem?_eq_getElem hlt
   obtain ⟨x,hx2⟩:=hl _ (List.getElem_mem hlt)
   rw [hx2] at hx
   refine ⟨(i + 1,false),?_,⟨by simp only; omega,rfl⟩,by simp only; omega⟩
   have hc:Q56 N l i false = some (.inl false):=by
    unfold Q56
    rw [hx,Q7]
    simp only [num]
    rw [right_num,Q7,if_neg nott,if_neg notf]; rfl
   rw [if_pos (by simpa using hlt),hc,Q1W,QY (by omega)]
  ·right
   exact ⟨_,by rw [if_neg (by simpa using hlt)],rfl⟩) N (0,false) ⟨by simp,rfl⟩ (by simp only; omega)
 rw [h1,h3]
def endOf (r:Int × Bool):Nat × Int × Nat:=if r.2 = true then (1,r.1,0) else (0,0,300)
theorem do_two {N:Nat} {op x y:Int} (hN : 9223372036854775808 ≤ N) (h0 : 1 ≤ op) (h1:op ≤ 10) (h4:op ≠ 4) (h5:op ≠ 5) (h6:op ≠ 6) {r:Int × Bool} (h:Q1i N op (num x) (num y) = some r):Q35 N op [num x,num y] = some (endOf r):=by
 have hc:Q78 N op = some 2:=by
  unfold Q78
  rw [if_neg (by simpa using h4),Q7,if_neg (by simp; omega)]
 unfold Q35
 rw [hc,Q7,if_neg (by simp; omega),if_neg (by simp; omega),Q7,if_neg (by simp),do_loop hN (fun v hv=>by simp at hv; first | (rcases hv with rfl | rfl <;> exact ⟨_,rfl⟩) | (subst hv; exact ⟨_,rfl⟩)) (by simp),Q1W]
 simp only [List.getElem?_cons_zero,Q7]
 rw [QY (by omega),QY (by omega)]
 rw [show [num x,num y][(((2:Nat):Int) - 1).toNat]? = some (num y) from rfl,Q7,if_neg (by simpa using h5),if_neg (by simpa using h6),if_neg notf,h,Q7]
 obtain ⟨n,b⟩:=r
 cases b <;> rfl
def Q2b (x:Int):Prop:=-9223372036854775808 ≤ x ∧ x ≤ 9223372036854775807
instance (x:Int):Decidable (Q2b x):=inferInstanceAs (Decidable (_ ∧ _))
theorem endOf_in {x n:Int} {b:Bool} (h:b = decide (Q2b x)) (hn:Q2b x → n = x):endOf (n,b) = if Q2b x then (1,x,0) else (0,0,300):=by
 subst h
 unfold endOf
 by_cases hx:Q2b x
 · rw [if_pos (by simpa using hx),if_pos hx,hn hx]
 · rw [if_neg (by simpa using hx),if_neg hx]
theorem do_add {N:Nat} {x y:Int} (hN : 9223372036854775808 ≤ N) (hx:Q2b x) (hy:Q2b y):Q35 N 1 [num x,num y] = some (if Q2b (x + y) then (1,x + y,0) else (0,0,300)):=by
 have h:Q1i N 1 (num x) (num y) = some (IntKind.wrap .i64 (x + y),(decide (IntKind.wrap .i64 (x + y) < x)) == (decide (y < 0))):=by
  unfold Q1i; rfl
 rw [do_two hN (by omega) (by omega) (by omega) (by omega) (by omega) h,endOf_in]
 ·rw [IntKind.wrap_i64,Bool.eq_iff_iff]
  simp only [beq_iff_eq,decide_eq_decide,decide_eq_true_eq]
  unfold Q2b at *
  omega
 · intro h; exact IntWalk.i64_in _ h
theorem do_sub {N:Nat} {x y:Int} (hN : 9223372036854775808 ≤ N) (hx:Q2b x) (hy:Q2b y):Q35 N 2 [num x,num y] = some (if Q2b (x - y) then (1,x - y,0) else (0,0,300)):=by
 have h:Q1i N 2 (num x) (num y) = some (IntKind.wrap .i64 (x - y),(decide (IntKind.wrap .i64 (x - y) > x)) == (decide (y < 0))):=by
  unfold Q1i; rfl
 rw [do_two hN (by omega) (by omega) (by omega) (by omega) (by omega) h,endOf_in]
 ·rw [IntKind.wrap_i64,Bool.eq_iff_iff]
  simp only [beq_iff_eq,decide_eq_decide,decide_eq_true_eq]
  unfold Q2b at *
  omega
 · intro h; exact IntWalk.i64_in _ h
theorem Q8A (N:Nat) (b:Bool):Q64 N b = some (if b = true then 1 else 0):=by cases b <;> rfl
theorem abs_u64 {x:Int} (hx:Q2b x):(if (decide (x < 0)) = true then some (IntKind.wrap .u64 (0 - (IntKind.wrap .u64 x))) else some (IntKind.wrap .u64 x)) = some ((x.natAbs:Nat):Int):=by
 unfold Q2b at hx
 rw [IntKind.wrap_u64,IntKind.wrap_u64]
 by_cases h:x < 0
 · rw [if_pos (by simpa using h)]; congr 1; omega
 · rw [if_neg (by simpa using h)]; congr 1; omega
theorem prod_sign {x y:Int}:x * y = if (decide (x < 0) != decide (y < 0)) = true then -((x.natAbs * y.natAbs:Nat):Int) else ((x.natAbs * y.natAbs:Nat):Int):=by
 rw [← Int.natAbs_mul]
 rcases Int.lt_or_le x 0 with hx | hx <;> rcases Int.lt_or_le y 0 with hy | hy
 ·rw [if_neg (by simp [hx,hy])]
  have:=Int.mul_pos_of_neg_of_neg hx hy; omega
 ·rw [if_pos (by simp [hx,hy])]
  have:=Int.mul_nonpos_of_nonpos_of_nonneg (Int.le_of_lt hx) hy; omega
 ·rw [if_pos (by simp [hx,hy])]
  have:=Int.mul_nonpos_of_nonneg_of_nonpos hx (Int.le_of_lt hy); omega
 ·rw [if_neg (by simp; omega)]
  have:=Int.mul_nonneg hx hy; omega
theorem product_is {N:Nat} {x y:Int} (hx:Q2b x) (hy:Q2b y) : ∃ n,Q4R N x y = some (n,decide (Q2b (x * y))) ∧ (Q2b (x * y) → n = x * y):=by
 have hA:x.natAbs ≤ 9223372036854775808:=by unfold Q2b at hx; omega
 have hB:y.natAbs ≤ 9223372036854775808:=by unfold Q2b at hy; omega
 unfold Q4R
 rw [abs_u64 hx,Q7,abs_u64 hy,Q7,QY (by omega),QY (by omega),prod_sign]
 simp only [Int.toNat_natCast]
 by_cases hs:(decide (x < 0) != decide (y < 0)) = true
 ·rw [if_pos hs,if_pos hs]
  by_cases hh:x.natAbs * y.natAbs / 18446744073709551616 = 0
  ·rw [if_pos (by simp; omega)]
   refine ⟨_,congrArg some (congrArg (Prod.mk _) ?_),fun h=>?_⟩
   · simp only [decide_eq_decide]; unfold Q2b; omega
   · unfold Q2b at h; rw [IntKind.wrap_u64,IntKind.wrap_i64]; omega
  ·rw [if_neg (by simp; omega)]
   refine ⟨_,congrArg some (congrArg (Prod.mk _) ?_),fun h=>?_⟩
   · simp only [Bool.false_eq,decide_eq_false_iff_not]; unfold Q2b; omega
   · unfold Q2b at h; omega
 ·rw [if_neg hs,if_neg hs]
  by_cases hh:x.natAbs * y.natAbs / 18446744073709551616 = 0
  ·rw [if_pos (by simp; omega)]
   refine ⟨_,congrArg some (congrArg (Prod.mk _) ?_),fun h=>?_⟩
   · simp only [decide_eq_decide]; unfold Q2b; omega
   · unfold Q2b at h; rw [IntKind.wrap_i64]; omega
  ·rw [if_neg (by simp; omega)]
   refine ⟨_,congrArg some (congrArg (Prod.mk _) ?_),fun h=>?_⟩
   · simp only [Bool.false_eq,decide_eq_false_iff_not]; unfold Q2b; omega
   · unfold Q2b at h; omega
theorem do_mul {N:Nat} {x y:Int} (hN : 9223372036854775808 ≤ N) (hx:Q2b x) (hy:Q2b y):Q35 N 3 [num x,num y] = some (if Q2b (x * y) then (1,x * y,0) else (0,0,300)):=by
 obtain ⟨n,h1,h2⟩:=product_is (N:=N) hx hy
 have h:Q1i N 3 (num x) (num y) = some (n,decide (Q2b (x * y))):=by
  unfold Q1i
  simp only [num,h1,Q7]
  rfl
 rw [do_two hN (by omega) (by omega) (by omega) (by omega) (by omega) h,endOf_in rfl h2]
end Go.Proofs.YtbgodclhmgmcgaaGreatDoor
