import Derived.Test.YtgangmegcejllaaGreatDoorPdqE
namespace Go.Proofs.YtgangmegcejllaaGreatDoor
open Go Go.RowKit
theorem QT.perm {d d' : Array Q1} {a b:Nat} (h:QT d) (hb:b ≤ d.size) (hp:Sort.PermIn a b d d'):QT d':=fun i=>by
 by_cases hi:a ≤ i ∧ i < b
 · exact Sort.permIn_all d d' a b (fun x=>x.ids.length ≤ 400) hb hp (fun k _ _=>h k) i hi.1 hi.2
 · rw [hp.2.1 i (by omega)]; exact h i
theorem and_le {x y:Int} (h0 : 0 ≤ y) (h1:y ≤ 1000000) : 0 ≤ Q1t .and .u64 x y ∧ Q1t .and .u64 x y ≤ y:=by
 unfold Q1t
 simp only
 have e:(BitVec.ofInt IntKind.u64.bits x &&& BitVec.ofInt IntKind.u64.bits y).toNat ≤ y.toNat:=by
  rw [BitVec.toNat_and]
  refine Nat.le_trans Nat.and_le_right ?_
  rw [BitVec.toNat_ofInt]
  have h:((2 ^ IntKind.u64.bits:Nat):Int) = 18446744073709551616:=by decide
  rw [h]; omega
 rw [IntWalk.u64_in _ (by omega)]
 omega
section
variable {N:Nat} {s:List Int} (hN : 1000000 ≤ N)
include hN
theorem o2_is {d:Array Q1} (hd:QT d) {x y:Nat} (hx:x < d.size) (hy:y < d.size) {c:Int} (hc : 0 ≤ c ∧ c ≤ 1000) :
  ∃ (x' y' : Nat) (c' : Int),Q2I N d.toList ((x:Nat):Int) ((y:Nat):Int) c s = some (((x' : Nat):Int),((y' : Nat):Int),c') ∧ ((x' = x ∧ y' = y) ∨ (x' = y ∧ y' = x)) ∧ c ≤ c' ∧ c' ≤ c + 1:=by
 unfold Q2I
 simp only [Int.toNat_natCast]
 rw [Qg (by omega),rd hy,Q8,Qg (by omega),rd hx,Q8,cmpQ hN hd,Q8]
 by_cases h:cfT s d[y]! d[x]! < 0
 ·rw [if_pos (decide_eq_true h),Qg (by omega)]
  exact ⟨y,x,c + 1,rfl,.inr ⟨rfl,rfl⟩,by omega,by omega⟩
 ·rw [if_neg (by rw [decide_eq_true_eq]; exact h)]
  exact ⟨x,y,c,rfl,.inl ⟨rfl,rfl⟩,by omega,by omega⟩
theorem med_is {d:Array Q1} (hd:QT d) {x y z:Nat} (hx:x < d.size) (hy:y < d.size) (hz:z < d.size) {c:Int} (hc : 0 ≤ c ∧ c ≤ 900) :
  ∃ (m:Nat) (c' : Int),Q3a N d.toList ((x:Nat):Int) ((y:Nat):Int) ((z:Nat):Int) c s = some (((m:Nat):Int),c') ∧ (m = x ∨ m = y ∨ m = z) ∧ c ≤ c' ∧ c' ≤ c + 3:=by
 unfold Q3a
 obtain ⟨x1,y1,c1,e1,h1,k1,k1'⟩:=o2_is (s:=s) hN hd hx hy (c:=c) (by omega)
 rw [e1,Q8]
 simp only
 obtain ⟨x2,y2,c2,e2,h2,k2,k2'⟩:=o2_is (s:=s) hN hd (x:=y1) (y:=z) (by omega) hz (c:=c1) (by omega)
 rw [e2,Q8]
 simp only
 obtain ⟨x3,y3,c3,e3,h3,k3,k3'⟩:=o2_is (s:=s) hN hd (x:=x1) (y:=x2) (by omega) (by omega) (c:=c2) (by omega)
 rw [e3,Q8]
 exact ⟨y3,c3,rfl,by omega,by omega,by omega⟩
theorem madj_is {d:Array Q1} (hd:QT d) {x:Nat} (h0 : 1 ≤ x) (hx:x + 1 < d.size) (hs:d.size ≤ 999) {c:Int} (hc : 0 ≤ c ∧ c ≤ 900) :
  ∃ (m:Nat) (c' : Int),Q1U N d.toList ((x:Nat):Int) c s = some (((m:Nat):Int),c') ∧ x ≤ m + 1 ∧ m ≤ x + 1 ∧ c ≤ c' ∧ c' ≤ c + 3:=by
 unfold Q1U
 obtain ⟨m,c',e,h,k,k'⟩:=med_is (s:=s) hN hd (x:=x - 1) (y:=x) (z:=x + 1) (by omega) (by omega) hx hc
 rw [Qg (by omega),Qg (by omega),show ((x:Nat):Int) - 1 = ((x - 1:Nat):Int) by omega,show ((x:Nat):Int) + 1 = ((x + 1:Nat):Int) by omega,e,Q8]
 exact ⟨m,c',rfl,by omega,by omega,by omega,by omega⟩
theorem cp_is {a b:Nat} {d:Array Q1} (hd:QT d) (hb:b ≤ d.size) (ha:a + 12 < b) (hs:d.size ≤ 999) :
  ∃ (p h:Nat),Q33 N d.toList ((a:Nat):Int) ((b:Nat):Int) s = some (((p:Nat):Int),h) ∧ a ≤ p ∧ p < b:=by
 have eq1:((b:Nat):Int) - ((a:Nat):Int) = ((b - a:Nat):Int):=by omega
 have eq2:IntKind.wrap .i64 (Int.tdiv ((b - a:Nat):Int) 4) = (((b - a) / 4:Nat):Int):=by
  rw [Int.tdiv_eq_ediv_of_nonneg (by omega),wrap_s (by omega)]; omega
 have f1:((a:Nat):Int) + (((b - a) / 4:Nat):Int) * 1 = ((a + (b - a) / 4 * 1:Nat):Int):=by omega
 have f2:((a:Nat):Int) + (((b - a) / 4:Nat):Int) * 2 = ((a + (b - a) / 4 * 2:Nat):Int):=by omega
 have f3:((a:Nat):Int) + (((b - a) / 4:Nat):Int) * 3 = ((a + (b - a) / 4 * 3:Nat):Int):=by omega
 have hC : ∃ (p:Nat) (c:Int),Q3s N ((b:Nat):Int) ((a:Nat):Int) d.toList s = some (((p:Nat):Int),c) ∧ a ≤ p ∧ p < b:=by
  unfold Q3s
  simp only [eq1,eq2,f1,f2,f3]
  rw [if_pos (decide_eq_true (by omega))]
  by_cases h50:b - a ≥ 50
  ·rw [if_pos (decide_eq_true (by omega))]
   obtain ⟨m1,c1,e1,h1,h1',k1,k1'⟩:=madj_is (s:=s) hN hd (x:=a + (b - a) / 4 * 1) (by omega) (by omega) hs (c:=0) (by omega)
   rw [e1,Q8]
   simp only
   obtain ⟨m2,c2,e2,h2,h2',k2,k2'⟩:=madj_is (s:=s) hN hd (x:=a + (b - a) / 4 * 2) (by omega) (by omega) hs (c:=c1) (by omega)
   rw [e2,Q8]
   simp only
   obtain ⟨m3,c3,e3,h3,h3',k3,k3'⟩:=madj_is (s:=s) hN hd (x:=a + (b - a) / 4 * 3) (by omega) (by omega) hs (c:=c2) (by omega)
   rw [e3,Q8]
   simp only
   rw [Q8]
   simp only
   obtain ⟨m,c,e,h,k,k'⟩:=med_is (s:=s) hN hd (x:=m1) (y:=m2) (z:=m3) (by omega) (by omega) (by omega) (c:=c3) (by omega)
   rw [e,Q8]
   exact ⟨m,c,rfl,by omega,by omega⟩
  ·rw [if_neg (by rw [decide_eq_true_eq]; omega),Q8]
   simp only
   obtain ⟨m,c,e,h,k,k'⟩:=med_is (s:=s) hN hd (x:=a + (b - a) / 4 * 1) (y:=a + (b - a) / 4 * 2) (z:=a + (b - a) / 4 * 3) (by omega) (by omega) (by omega) (c:=0) (by omega)
   rw [e,Q8]
   exact ⟨m,c,rfl,by omega,by omega⟩
 obtain ⟨p,c,e,h1,h2⟩:=hC
 unfold Q33
 simp only [eq1,eq2]
 rw [Qg (by omega),Qg (by omega),Qg (by omega),Qg (by omega),Qg (by omega),Qg (by omega),Qg (by omega),e,Q8]
 simp only
 split
 · exact ⟨p,_,rfl,h1,h2⟩
 ·split
  · exact ⟨p,_,rfl,h1,h2⟩
  · exact ⟨p,_,rfl,h1,h2⟩
end
def len8:ByteArray:=⟨#[0,1,2,2,3,3,3,3,4,4,4,4,4,4,4,4,5,5,5,5,5,5,5,5,5,5,5,5,5,5,5,5,6,6,6,6,6,6,6,6,6,6,6,6,6,6,6,6,6,6,6,6,6,6,6,6,6,6,6,6,6,6,6,6,7,7,7,7,7,7,7,7,7,7,7,7,7,7,7,7,7,7,7,7,7,7,7,7,7,7,7,7,7,7,7,7,7,7,7,7,7,7,7,7,7,7,7,7,7,7,7,7,7,7,7,7,7,7,7,7,7,7,7,7,7,7,7,7,8,8,8,8,8,8,8,8,8,8,8,8,8,8,8,8,8,8,8,8,8,8,8,8,8,8,8,8,8,8,8,8,8,8,8,8,8,8,8,8,8,8,8,8,8,8,8,8,8,8,8,8,8,8,8,8,8,8,8,8,8,8,8,8,8,8,8,8,8,8,8,8,8,8,8,8,8,8,8,8,8,8,8,8,8,8,8,8,8,8,8,8,8,8,8,8,8,8,8,8,8,8,8,8,8,8,8,8,8,8,8,8,8,8,8,8,8,8,8,8,8,8,8,8,8,8,8,8]⟩
theorem len8_ok : ∀ i:Fin 256,∃ x:UInt8,len8[i.1]? = some x ∧ x.toNat ≤ 8 ∧ (1 ≤ i.1 → 2 ^ x.toNat ≤ 2 * i.1):=by
 have h : ∀ i:Fin 256,((len8.data.toList[i.1]?).map fun x=>(decide (x.toNat ≤ 8) && (decide (i.1 < 1) || decide (2 ^ x.toNat ≤ 2 * i.1)))) = some true:=by decide +kernel
 intro i
 have hi:=h i
 cases hx:len8.data.toList[i.1]? with
 | none=>rw [hx] at hi; cases hi
 | some x =>
   rw [hx] at hi
   simp only [Option.map_some,Option.some.injEq,Bool.and_eq_true,Bool.or_eq_true,decide_eq_true_eq] at hi
   refine ⟨x,?_,hi.1,fun h1=>by rcases hi.2 with h2 | h2 <;> omega⟩
   rw [← hx,Array.getElem?_toList]; rfl
set_option maxRecDepth 100000 in
theorem bitlen_is {N n:Nat} (hn:n ≤ 999) : ∃ v:Nat,Q7X N (IntKind.wrap .u64 ((n:Nat):Int)) = some ((v:Nat):Int) ∧ v ≤ 16 ∧ (1 ≤ n → 2 ^ v ≤ 2 * n):=by
 rw [IntWalk.u64_in _ (by omega)]
 unfold Q7X Q8t
 rw [if_neg (by rw [decide_eq_true_eq]; omega),Q8]
 simp only
 rw [if_neg (by rw [decide_eq_true_eq]; omega),Q8]
 simp only
 have fin : ∀ (k j:Nat),k < 256 → j ≤ 8 → ∃ x:Nat,x ≤ 8 ∧ (1 ≤ k → 2 ^ x ≤ 2 * k) ∧ (gd (0 ≤ IntKind.wrap .u8 ((k:Nat):Int)) <| Qf (len8[(IntKind.wrap .u8 ((k:Nat):Int)).toNat]?) fun x22=>gd (-9223372036854775808 ≤ ((j:Nat):Int) + (IntKind.wrap .i64 ((x22.toNat:Nat):Int)) ∧ ((j:Nat):Int) + (IntKind.wrap .i64 ((x22.toNat:Nat):Int)) ≤ 9223372036854775807) <| some (((j:Nat):Int) + (IntKind.wrap .i64 ((x22.toNat:Nat):Int)))) = some ((j + x:Nat):Int):=by
  intro k j hk hj
  obtain ⟨x,h1,h2,h3⟩:=len8_ok ⟨k,hk⟩
  refine ⟨x.toNat,h2,h3,?_⟩
  rw [IntWalk.u8_in _ (by omega),Qg (by omega),Int.toNat_natCast,h1,Q8,wrap_s (by omega),Qg (by omega)]
  congr 1
 by_cases h:n ≥ 256
 ·rw [if_pos (decide_eq_true (by omega)),Qg (by omega),Q8]
  simp only
  have e:Int.fdiv ((n:Nat):Int) (2 ^ 8) = ((n / 256:Nat):Int):=by
   rw [Int.fdiv_eq_ediv_of_nonneg _ (by decide)]; omega
  obtain ⟨x,h1,h2,h3⟩:=fin (n / 256) (0 + 8) (by omega) (by omega)
  refine ⟨0 + 8 + x,?_,by omega,fun _=>?_⟩
  ·rw [e]
   exact congrArg (fun z=>Qf z fun v7=>some v7) h3
  ·have:=h2 (by omega)
   rw [Nat.pow_add]
   omega
 ·rw [if_neg (by rw [decide_eq_true_eq]; omega),Q8]
  simp only
  obtain ⟨x,h1,h2,h3⟩:=fin n 0 (by omega) (by omega)
  refine ⟨0 + x,?_,by omega,fun h0=>by rw [Nat.zero_add]; exact h2 h0⟩
  exact congrArg (fun z=>Qf z fun v7=>some v7) h3
section
variable {N:Nat} {s:List Int} (hN : 1000000 ≤ N)
include hN
omit hN in
theorem bp_loop {a b m:Nat} (hab:a + 8 ≤ b) (hm:m ≤ 2 * (b - a)) (hm1 : 1 ≤ m) : ∀ (k i:Nat) (R:Int) (d:Array Q1),a + (b - a) / 4 * 2 + 2 - i ≤ k → a ≤ i → i ≤ a + (b - a) / 4 * 2 + 2 → b ≤ d.size → d.size ≤ 999 → ∀ fuel,k < fuel →
   ∃ d',Q1o (Q1r N ((b:Nat):Int) ((a:Nat):Int) ((m:Nat):Int)) fuel (((i:Nat):Int),R,d.toList) = some d'.toList ∧ Sort.PermIn a b d d':=by
 have eq1:((b:Nat):Int) - ((a:Nat):Int) = ((b - a:Nat):Int):=by omega
 intro k
 induction k with
 | zero =>
   intro i R d hk hi hi2 hb hs fuel hf
   obtain ⟨fuel,rfl⟩ : ∃ f,fuel = f + 1:=⟨fuel - 1,by omega⟩
   have eq2:IntKind.wrap .i64 (Int.tdiv ((b - a:Nat):Int) 4) = (((b - a) / 4:Nat):Int):=by
    rw [Int.tdiv_eq_ediv_of_nonneg (by omega),wrap_s (by omega)]; omega
   refine ⟨d,?_,Sort.permIn_refl d a b⟩
   rw [Q15]
   unfold Q1r
   simp only [eq1,eq2]
   rw [Qg (by omega),Qg (by omega),Qg (by omega),if_neg (by rw [decide_eq_true_eq]; omega)]
 | succ k ih =>
   intro i R d hk hi hi2 hb hs fuel hf
   obtain ⟨fuel,rfl⟩ : ∃ f,fuel = f + 1:=⟨fuel - 1,by omega⟩
   have eq2:IntKind.wrap .i64 (Int.tdiv ((b - a:Nat):Int) 4) = (((b - a) / 4:Nat):Int):=by
    rw [Int.tdiv_eq_ediv_of_nonneg (by omega),wrap_s (by omega)]; omega
   by_cases h:i ≤ a + (b - a) / 4 * 2 + 1
   ·have hst : ∃ (o:Nat) (R' : Int),o < b - a ∧ Q1r N ((b:Nat):Int) ((a:Nat):Int) ((m:Nat):Int) (((i:Nat):Int),R,d.toList) = some (.inl (((i + 1:Nat):Int),R',(Sort.swp d i (a + o)).toList)):=by
     unfold Q1r
     simp only [eq1,eq2]
     rw [Qg (by omega),Qg (by omega),Qg (by omega),if_pos (decide_eq_true (by omega))]
     unfold Q5V
     rw [Q8]
     generalize (Q1t .xor .u64 (Q1t .xor .u64 (Q1t .xor .u64 R (IntKind.wrap .u64 (R * 2 ^ (13)))) (Int.fdiv (Q1t .xor .u64 R (IntKind.wrap .u64 (R * 2 ^ (13)))) (2 ^ (7)))) (IntKind.wrap .u64 ((Q1t .xor .u64 (Q1t .xor .u64 R (IntKind.wrap .u64 (R * 2 ^ (13)))) (Int.fdiv (Q1t .xor .u64 R (IntKind.wrap .u64 (R * 2 ^ (13)))) (2 ^ (7)))) * 2 ^ (17)))) = R'
     rw [IntWalk.u64_in (((m:Nat):Int) - 1) (by omega)]
     have hand:=and_le (x:=R') (y:=((m:Nat):Int) - 1) (by omega) (by omega)
     generalize Q1t .and .u64 R' (((m:Nat):Int) - 1) = w at *
     rw [wrap_s (by omega)]
     obtain ⟨w,rfl⟩ : ∃ w' : Nat,w = ((w' : Nat):Int):=⟨w.toNat,by omega⟩
     have fin : ∀ o:Nat,o < b - a → (gd (-9223372036854775808 ≤ ((a:Nat):Int) + ((o:Nat):Int) ∧ ((a:Nat):Int) + ((o:Nat):Int) ≤ 9223372036854775807) <| gd (-9223372036854775808 ≤ ((a:Nat):Int) + ((o:Nat):Int) ∧ ((a:Nat):Int) + ((o:Nat):Int) ≤ 9223372036854775807) <| gd (0 ≤ ((a:Nat):Int) + ((o:Nat):Int)) <| Qf (d.toList[(((a:Nat):Int) + ((o:Nat):Int)).toNat]?) fun x59=>gd (0 ≤ ((i:Nat):Int)) <| Qf (d.toList[(((i:Nat):Int)).toNat]?) fun x63=>gd (0 ≤ ((i:Nat):Int)) <| Qf (d.toList[(((i:Nat):Int)).toNat]?) fun x65=>gd (0 ≤ ((a:Nat):Int) + ((o:Nat):Int)) <| Qf ((d.toList.set (((i:Nat):Int)).toNat x59)[(((a:Nat):Int) + ((o:Nat):Int)).toNat]?) fun x66=>gd (-9223372036854775808 ≤ ((i:Nat):Int) + 1 ∧ ((i:Nat):Int) + 1 ≤ 9223372036854775807) <| (some (.inl (((i:Nat):Int) + 1,R',(d.toList.set (((i:Nat):Int)).toNat x59).set ((((a:Nat):Int) + ((o:Nat):Int)).toNat) x63)):Option ((Int × Int × (List Q1)) ⊕ (List Q1)))) = some (.inl (((i + 1:Nat):Int),R',(Sort.swp d i (a + o)).toList)):=by
      intro o ho
      have e1:((a:Nat):Int) + ((o:Nat):Int) = ((a + o:Nat):Int):=by omega
      simp only [e1,Int.toNat_natCast]
      rw [Qg (by omega),Qg (by omega),Qg (by omega),rd (by omega),Q8,Qg (by omega),rd (by omega),Q8,Qg (by omega),Q8,Qg (by omega),Q65 (by simp; omega),Qg (by omega),Q8b]
      rfl
     by_cases hw:w ≥ b - a
     ·refine ⟨w - (b - a),R',by omega,?_⟩
      rw [if_pos (decide_eq_true (by omega)),Qg (by omega),Q8,show ((w:Nat):Int) - ((b - a:Nat):Int) = ((w - (b - a):Nat):Int) by omega]
      exact fin (w - (b - a)) (by omega)
     ·refine ⟨w,R',by omega,?_⟩
      rw [if_neg (by rw [decide_eq_true_eq]; omega),Q8]
      exact fin w (by omega)
    obtain ⟨o,R',ho,hst⟩:=hst
    rw [Q1Y hst]
    have hp:=Sort.swp_permIn d a b i (a + o) hi (by omega) (by omega) (by omega) hb
    obtain ⟨d',h1,h2⟩:=ih (i + 1) R' (Sort.swp d i (a + o)) (by omega) (by omega) (by omega) (by rw [Sort.swp_size]; omega) (by rw [Sort.swp_size]; omega) fuel (by omega)
    exact ⟨d',h1,Sort.permIn_trans _ _ _ a b hp h2⟩
   ·refine ⟨d,?_,Sort.permIn_refl d a b⟩
    rw [Q15]
    unfold Q1r
    simp only [eq1,eq2]
    rw [Qg (by omega),Qg (by omega),Qg (by omega),if_neg (by rw [decide_eq_true_eq]; omega)]
theorem bp_is {a b:Nat} {d:Array Q1} (hb:b ≤ d.size) (ha:a + 12 < b) (hs:d.size ≤ 999) :
  ∃ d',Q24 N d.toList ((a:Nat):Int) ((b:Nat):Int) s = some d'.toList ∧ Sort.PermIn a b d d':=by
 have eq1:((b:Nat):Int) - ((a:Nat):Int) = ((b - a:Nat):Int):=by omega
 have eq2:IntKind.wrap .i64 (Int.tdiv ((b - a:Nat):Int) 4) = (((b - a) / 4:Nat):Int):=by
  rw [Int.tdiv_eq_ediv_of_nonneg (by omega),wrap_s (by omega)]; omega
 obtain ⟨v,h1,h2,h3⟩:=bitlen_is (N:=N) (n:=b - a) (by omega)
 have h4:=h3 (by omega)
 have h5 : 1 ≤ 2 ^ v:=Nat.one_le_two_pow
 have hnp:Q4Z N ((b - a:Nat):Int) = some ((2 ^ v:Nat):Int):=by
  unfold Q4Z
  rw [h1,Q8,Qg (by omega),Int.toNat_natCast,Nat.min_eq_left (by omega),Int.one_mul,show (2:Int) ^ v = ((2 ^ v:Nat):Int) by simp,IntWalk.u64_in _ (by omega)]
 unfold Q24
 simp only [eq1,eq2]
 rw [Qg (by omega),if_pos (decide_eq_true (by omega)),hnp,Q8,Qg (by omega),Qg (by omega),Qg (by omega),show ((a:Nat):Int) + (((b - a) / 4:Nat):Int) * 2 - 1 = ((a + (b - a) / 4 * 2 - 1:Nat):Int) by omega]
 exact bp_loop (by omega) h4 h5 3 (a + (b - a) / 4 * 2 - 1) _ d (by omega) (by omega) (by omega) hb hs N (by omega)
end
end Go.Proofs.YtgangmegcejllaaGreatDoor
