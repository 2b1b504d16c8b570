import Derived.Test.YtbgodclhmgmcgaaGreatDoorExTP
namespace Go.Proofs.YtbgodclhmgmcgaaGreatDoor
open Go Go.RowKit
theorem Qdt {N:Nat} {s:ByteArray} (a b:Int)(hN : 9223372036854775808≤N)(hsz:s.size≤9223372036854775807):Q1S N a b s=Q1D N a b s:=by
 unfold Q1S Q1D
 rw [says_eq (vnamed_is N s) (rnamed_is hN hsz)]
theorem Qal (N:Nat)(b:Bool):Q1E N b=some (if b=true then 1 else 0):=by cases b <;> rfl
theorem rsum_is {N:Nat} {x y:Int} (hx:Q20 x)(hy:Q20 y) : ∃ n,Q5c N x y=some (n,decide (Q20 (x+y)))∧(Q20 (x+y)→n=x+y):=by
 unfold Q20 at hx hy
 have hC:Q6P N y x=some (decide (¬ Q20 (x+y))):=by
  unfold Q6P
  by_cases h1:y > 0
  ·rw [if_pos (by simpa using h1),Qr (by omega)]
   by_cases h2:x > 9223372036854775807 - y
   ·rw [if_pos (by simpa using h2)];congr 1
    have : ¬ Q20 (x+y):=by unfold Q20;omega
    simp [this]
   ·rw [if_neg (by simpa using h2),if_neg (by simp;omega)];congr 1
    have:Q20 (x+y):=by unfold Q20;omega
    simp [this]
  ·rw [if_neg (by simpa using h1)]
   by_cases h2:y < 0
   ·rw [if_pos (by simpa using h2),Qr (by omega)];congr 1
    rw [Bool.eq_iff_iff]
    simp only [decide_eq_true_eq]
    unfold Q20;omega
   ·rw [if_neg (by simpa using h2)];congr 1
    have:Q20 (x+y):=by unfold Q20;omega
    simp [this]
 unfold Q5c
 rw [hC,Q0]
 by_cases h:Q20 (x+y)
 ·rw [if_neg (by simpa using h)]
  have h':=h
  unfold Q20 at h'
  rw [Qr h']
  exact ⟨x+y,by simp [h],fun _=>rfl⟩
 ·rw [if_pos (by simpa using h)]
  exact ⟨0,by simp [h],fun q=>absurd q h⟩
theorem quo_over {a b:Int} (ha:Q20 a)(hb:Q20 b)(h0:b≠0)(h1:b≠-1):((IntKind.wrap .i64 (Int.tdiv (IntKind.wrap .i64 (a * b)) b))==a)=decide (Q20 (a * b)):=by
 unfold Q20 at ha hb
 by_cases h:Q20 (a * b)
 ·have e1:IntKind.wrap .i64 (a * b)=a * b:=IntWalk.i64_in _ h
  have e2:Int.tdiv (a * b) b=a:=Int.mul_tdiv_cancel a h0
  rw [e1,e2,IntWalk.i64_in _ ha]
  simp [h]
 ·have hw:=IntKind.wrap_i64 (a * b)
  generalize hp:IntKind.wrap .i64 (a * b)=p at *
  have hpr : -9223372036854775808≤p∧p≤9223372036854775807:=by rw [hw];omega
  have hdm:=Int.mul_tdiv_add_tmod p b
  have hmod:(Int.tmod p b).natAbs < b.natAbs:=by
   have:=Int.natAbs_tmod p b
   rw [this];exact Nat.mod_lt _ (by omega)
  have hq:(Int.tdiv p b).natAbs≤p.natAbs:=by rw [Int.natAbs_tdiv];exact Nat.div_le_self _ _
  have hq2 : -9223372036854775808≤Int.tdiv p b∧Int.tdiv p b≤9223372036854775807:=by
   by_cases hb1:b=1
   · subst hb1;rw [Int.tdiv_one];exact hpr
   ·have h2:(Int.tdiv p b).natAbs≤4611686018427387904:=by
     rw [Int.natAbs_tdiv]
     exact Nat.le_trans (Nat.div_le_div_left (show 2≤b.natAbs by omega) (by omega)) (by omega)
    omega
  rw [IntWalk.i64_in _ hq2]
  have hne:Int.tdiv p b≠a:=fun e=>by
   rw [e] at hdm
   have e3:b * a=a * b:=Int.mul_comm b a
   rw [e3] at hdm
   unfold Q20 at h
   omega
  simp [h,hne]
theorem rprod_is {N:Nat} {x y:Int} (hx:Q20 x)(hy:Q20 y) : ∃ n,Q4A N x y=some (n,decide (Q20 (x * y)))∧(Q20 (x * y)→n=x * y):=by
 have hx':=hx
 have hy':=hy
 unfold Q20 at hx' hy'
 unfold Q4A
 by_cases h0:x=0
 ·subst h0
  rw [if_pos (by simp),Q0,if_pos rfl]
  have:Q20 (0 * y):=by rw [Int.zero_mul];unfold Q20;omega
  exact ⟨0,by rw [decide_eq_true this],fun _=>by rw [Int.zero_mul]⟩
 ·rw [if_neg (by simpa using h0),Q0]
  by_cases h1:y=0
  ·subst h1
   rw [if_pos (by simp)]
   have:Q20 (x * 0):=by rw [Int.mul_zero];unfold Q20;omega
   exact ⟨0,by rw [decide_eq_true this],fun _=>by rw [Int.mul_zero]⟩
  ·rw [if_neg (by simpa using h1)]
   by_cases h2:x=-1
   ·subst h2
    rw [if_pos (by simp)]
    have e : -1 * y=0 - y:=by omega
    rw [e]
    refine ⟨_,congrArg some (congrArg (Prod.mk _) ?_),fun q=>IntWalk.i64_in _ q⟩
    rw [Bool.eq_iff_iff]
    simp only [bne_iff_ne,ne_eq,decide_eq_true_eq]
    unfold Q20;omega
   ·rw [if_neg (by simpa using h2)]
    by_cases h3:y=-1
    ·subst h3
     rw [if_pos (by simp)]
     have e:x * -1=0 - x:=by omega
     rw [e]
     refine ⟨_,congrArg some (congrArg (Prod.mk _) ?_),fun q=>IntWalk.i64_in _ q⟩
     rw [Bool.eq_iff_iff]
     simp only [bne_iff_ne,ne_eq,decide_eq_true_eq]
     unfold Q20;omega
    ·rw [if_neg (by simpa using h3),Qr h1,quo_over hx hy h1 h3]
     exact ⟨_,rfl,fun q=>IntWalk.i64_in _ q⟩
theorem rend {n x:Int} {b:Bool} {N:Nat} (hb:b=decide (Q20 x))(hn:Q20 x→n=x):(if (!b)=true then some ((0,0,300):Nat×Int×Nat) else Qa (Q3F N n) fun _=>some (1,n,0))=some (if Q20 x then (1,x,0) else (0,0,300)):=by
 subst hb
 by_cases h:Q20 x
 · rw [if_neg (by simpa using h),if_pos h,hn h];rfl
 · rw [if_pos (by simpa using h),if_neg h]
theorem c7_num {N:Nat} {op:Int} {v w:V}:Q12 N op v w=Q12 N op (num v.n) (num w.n):=rfl
theorem loops_same {N:Nat} {l:List V} (hN : 9223372036854775808≤N)(hl : ∀ v∈l,v.s.size≤140737488351232):Q21 N l=Q5v N l:=by
 funext ⟨i,b⟩
 unfold Q21 Q5v
 simp only
 by_cases hlt:i < l.length
 ·have hx:=List.getElem?_eq_getElem hlt
  have hC:Q6X N l i b=Q7f N l i b:=by
   unfold Q6X Q7f
   rw [hx]
   simp only [Q0]
   rw [Qdt _ _ hN (by have:=hl _ (List.getElem_mem hlt);omega)]
  rw [hC]
 · rw [if_neg (by simpa using hlt),if_neg (by simpa using hlt)]
theorem loop_tot {N:Nat} {l:List V} (hN : 9223372036854775808≤N)(hl:l.length≤2):(∃ b,Q1e (Q21 N l) N (0,false)=some (.inl b))∨Q1e (Q21 N l) N (0,false)=some (.inr (0,0,2)):=by
 obtain ⟨o,h1,h2⟩:=Q7Q (f:=Q21 N l) (fun s=>s.1≤l.length) (fun s=>l.length - s.1) (fun o=>(∃ b,o=.inl b)∨o=.inr (0,0,2)) (fun s hs=>by
  obtain ⟨i,b⟩:=s
  simp only at hs
  unfold Q21
  simp only
  by_cases hlt:i < l.length
  ·have hx:=List.getElem?_eq_getElem hlt
   obtain ⟨r,hr,_⟩:=right_is N l[i]
   have hC:Q6X N l i b=if r=true then some (.inl (if b=true then true else (l[i].k==2))) else some (.inr (.inr (.inr (0,0,2)))):=by
     unfold Q6X
     rw [hx,Q0,hr,Q0]
     cases r <;> cases b <;> rfl
   rw [if_pos (by simpa using hlt),hC]
   cases r with
   | true =>
     left
     exact ⟨(i+1,if b=true then true else (l[i].k==2)),by rw [if_pos rfl,Q1b,Qr (by omega)],by simp only;omega,by simp only;omega⟩
   | false =>
     right
     exact ⟨.inr (0,0,2),by rw [if_neg notf];rfl,.inr rfl⟩
  ·right
   exact ⟨.inl b,by rw [if_neg (by simpa using hlt)],.inl ⟨b,rfl⟩⟩) N (0,false) (by simp) (by simp only;omega)
 rcases h2 with ⟨b,rfl⟩ | rfl
 · exact .inl ⟨b,h1⟩
 · exact .inr h1
theorem c1_is (N:Nat)(op:Int):Q8y N op=some (if op=4∨op=11 then 1 else 2)∧Q7e N op=some (if op=4∨op=11 then 1 else 2):=by
 unfold Q8y Q7e
 by_cases h:op=4
 · subst h;exact ⟨rfl,rfl⟩
 ·rw [if_neg (by simpa using h),Q0]
  by_cases h2:op=11
  · subst h2;exact ⟨rfl,rfl⟩
  · rw [if_neg (by simpa using h2),if_neg (by omega)];exact ⟨rfl,rfl⟩
theorem bad_is {op:Int} {k j:Nat}:(if (decide (op < 1))=true then some true else (if (decide (op > 11))=true then some true else some (k !=j)))=some (decide (op < 1∨op > 11∨k≠j)):=by
 by_cases h1:op < 1
 · rw [if_pos (by simpa using h1)];simp [h1]
 ·rw [if_neg (by simpa using h1)]
  by_cases h2:op > 11
  · rw [if_pos (by simpa using h2)];simp [h2]
  ·rw [if_neg (by simpa using h2)]
   congr 1
   rw [Bool.eq_iff_iff]
   simp only [bne_iff_ne,ne_eq,decide_eq_true_eq]
   omega
theorem do_both {N:Nat} {op:Int} {l:List V} (hN : 9223372036854775808≤N)(hl : ∀ v∈l,Q20 v.n∧v.s.size≤140737488351232) : ∃ r,Q3S N op l=some r∧Q77 N op l=some r:=by
 obtain ⟨c1,c2⟩:=c1_is N op
 unfold Q3S Q77
 rw [c1,c2,Q0,Q0,bad_is,Q0,Q0]
 by_cases hbad:op < 1∨op > 11∨l.length≠(if op=4∨op=11 then 1 else 2)
 ·have hd:=decide_eq_true hbad
  simp only [hd,if_true];exact ⟨_,rfl,rfl⟩
 ·have hd:=decide_eq_false hbad
  simp only [hd,Bool.false_eq_true,if_false]
  rw [← loops_same hN (fun v hv=>(hl v hv).2)]
  have hlen:l.length≤2:=by
   have:l.length=(if op=4∨op=11 then 1 else 2):=by omega
   rw [this];split <;> omega
  rcases loop_tot (N:=N) hN hlen with ⟨names,hlp⟩ | hlp
  ·rw [hlp,Q1b,Q1b]
   by_cases h1:op=4∨op=11
   ·rw [if_pos h1] at hbad
    have hl1:l.length=1:=by omega
    clear hbad hd
    match l,hl1 with
    | [v],_ =>
      obtain ⟨hv,_⟩:=hl v (by simp)
      simp only [if_pos h1,List.getElem?_cons_zero,Q0,List.length_singleton]
      rw [Qr (by omega),Qr (by omega),Qr (by omega),Qr (by omega)]
      simp only [show (((1:Nat):Int) - 1).toNat=0 from rfl,List.getElem?_cons_zero,Q0]
      rcases h1 with rfl | rfl
      ·simp only [show ((4:Int)==1)=false from rfl,show ((4:Int)==2)=false from rfl,show ((4:Int)==3)=false from rfl,show ((4:Int)==5)=false from rfl,show ((4:Int)==6)=false from rfl,show ((4:Int)==7)=false from rfl,show ((4:Int)==8)=false from rfl,show ((4:Int)==9)=false from rfl,show ((4:Int)==10)=false from rfl,show ((4:Int)==11)=false from rfl,Bool.false_eq_true,if_false,if_true,Q0]
       cases names with
       | true=>exact ⟨_,rfl,rfl⟩
       | false =>
         have e:Q12 N 4 v v=some (IntKind.wrap .i64 (0 - v.n),v.n !=-9223372036854775808):=by unfold Q12;rfl
         have e2:Q1l N 4 v.n v.n=some (IntKind.wrap .i64 (0 - v.n),v.n !=-9223372036854775808):=by unfold Q1l;rfl
         simp only [Bool.false_eq_true,if_false,e,e2,Q0]
         cases hq:v.n !=-9223372036854775808 <;> exact ⟨_,rfl,rfl⟩
      ·simp only [show ((11:Int)==1)=false from rfl,show ((11:Int)==2)=false from rfl,show ((11:Int)==3)=false from rfl,show ((11:Int)==5)=false from rfl,show ((11:Int)==6)=false from rfl,show ((11:Int)==7)=false from rfl,show ((11:Int)==8)=false from rfl,show ((11:Int)==9)=false from rfl,show ((11:Int)==10)=false from rfl,show ((11:Int)==11)=true from rfl,Bool.false_eq_true,if_false,if_true,Q0]
       cases names with
       | true=>exact ⟨_,rfl,rfl⟩
       | false =>
         have e:Q12 N 11 v v=some ((if (v.n==0)=true then 1 else 0),true):=by
          unfold Q12 Q9W Q1N
          simp only [Qa3,Q0];rfl
         simp only [Bool.false_eq_true,if_false,e,Qal,Q0]
         exact ⟨_,rfl,rfl⟩
   ·rw [if_neg h1] at hbad
    have hl1:l.length=2:=by omega
    have hop : 1≤op∧op≤11:=by omega
    clear hbad hd
    match l,hl1 with
    | [v,w],_ =>
      obtain ⟨hv,_⟩:=hl v (by simp)
      obtain ⟨hw,_⟩:=hl w (by simp)
      simp only [if_neg h1,List.getElem?_cons_zero,Q0,List.length_cons,List.length_nil]
      rw [Qr (by omega),Qr (by omega),Qr (by omega),Qr (by omega)]
      simp only [show (((2:Nat):Int) - 1).toNat=1 from rfl,show (((0+1+1:Nat):Int) - 1).toNat=1 from rfl,List.getElem?_cons_succ,List.getElem?_cons_zero,Q0]
      have h9:op=1∨op=2∨op=3∨op=5∨op=6∨op=7∨op=8∨op=9∨op=10:=by omega
      rcases h9 with rfl | rfl | rfl | rfl | rfl | rfl | rfl | rfl | rfl
      ·simp only [show ((1:Int)==1)=true from rfl,show ((1:Int)==2)=false from rfl,show ((1:Int)==3)=false from rfl,show ((1:Int)==5)=false from rfl,show ((1:Int)==6)=false from rfl,show ((1:Int)==7)=false from rfl,show ((1:Int)==8)=false from rfl,show ((1:Int)==9)=false from rfl,show ((1:Int)==10)=false from rfl,show ((1:Int)==11)=false from rfl,Bool.false_eq_true,if_false,if_true,Q0]
       cases names with
       | true=>exact ⟨_,rfl,rfl⟩
       | false =>
         simp only [Bool.false_eq_true,if_false]
         obtain ⟨n,e1,e2⟩:=rsum_is (N:=N) hv hw
         have e3:Q1l N 1 v.n w.n=some (n,decide (Q20 (v.n+w.n))):=by unfold Q1l;rw [if_pos (by simp),e1];rfl
         rw [e3]
         simp only [Q0]
         rw [rend rfl e2]
         refine ⟨_,?_,rfl⟩
         have h:Q12 N 1 (num v.n) (num w.n)=some (IntKind.wrap .i64 (v.n+w.n),(decide (IntKind.wrap .i64 (v.n+w.n) < v.n))==(decide (w.n < 0))):=by unfold Q12;rfl
         have h2:=(do_two hN (by omega) (by omega) (by omega) (by omega) (by omega) h).symm.trans (do_add hN hv hw)
         rw [c7_num,h,Q0,← Option.some.inj h2]
         unfold endOf
         simp only
         cases (decide (IntKind.wrap .i64 (v.n+w.n) < v.n))==(decide (w.n < 0)) <;> rfl
      ·simp only [show ((2:Int)==1)=false from rfl,show ((2:Int)==2)=true from rfl,show ((2:Int)==3)=false from rfl,show ((2:Int)==5)=false from rfl,show ((2:Int)==6)=false from rfl,show ((2:Int)==7)=false from rfl,show ((2:Int)==8)=false from rfl,show ((2:Int)==9)=false from rfl,show ((2:Int)==10)=false from rfl,show ((2:Int)==11)=false from rfl,Bool.false_eq_true,if_false,if_true,Q0]
       cases names with
       | true=>exact ⟨_,rfl,rfl⟩
       | false =>
         simp only [Bool.false_eq_true,if_false]
         have hR : ∃ n,Q1l N 2 v.n w.n=some (n,decide (Q20 (v.n - w.n)))∧(Q20 (v.n - w.n)→n=v.n - w.n):=by
          unfold Q1l
          rw [if_neg (by simp),if_pos (by simp)]
          by_cases hm:w.n=-9223372036854775808
          ·rw [if_pos (by simpa using hm)]
           refine ⟨_,congrArg some (congrArg (Prod.mk _) ?_),fun q=>IntWalk.i64_in _ q⟩
           rw [Bool.eq_iff_iff]
           simp only [decide_eq_true_eq]
           unfold Q20 at *;omega
          ·rw [if_neg (by simpa using hm)]
           have hm2:Q20 (0 - w.n):=by unfold Q20 at *;omega
           rw [IntWalk.i64_in _ hm2]
           obtain ⟨n,e1,e2⟩:=rsum_is (N:=N) hv hm2
           rw [e1,show v.n+(0 - w.n)=v.n - w.n by omega]
           rw [show v.n+(0 - w.n)=v.n - w.n by omega] at e2
           exact ⟨n,rfl,e2⟩
         obtain ⟨n,e3,e2⟩:=hR
         rw [e3]
         simp only [Q0]
         rw [rend rfl e2]
         refine ⟨_,?_,rfl⟩
         have h:Q12 N 2 (num v.n) (num w.n)=some (IntKind.wrap .i64 (v.n - w.n),(decide (IntKind.wrap .i64 (v.n - w.n) > v.n))==(decide (w.n < 0))):=by unfold Q12;rfl
         have h2:=(do_two hN (by omega) (by omega) (by omega) (by omega) (by omega) h).symm.trans (do_sub hN hv hw)
         rw [c7_num,h,Q0,← Option.some.inj h2]
         unfold endOf
         simp only
         cases (decide (IntKind.wrap .i64 (v.n - w.n) > v.n))==(decide (w.n < 0)) <;> rfl
      ·simp only [show ((3:Int)==1)=false from rfl,show ((3:Int)==2)=false from rfl,show ((3:Int)==3)=true from rfl,show ((3:Int)==5)=false from rfl,show ((3:Int)==6)=false from rfl,show ((3:Int)==7)=false from rfl,show ((3:Int)==8)=false from rfl,show ((3:Int)==9)=false from rfl,show ((3:Int)==10)=false from rfl,show ((3:Int)==11)=false from rfl,Bool.false_eq_true,if_false,if_true,Q0]
       cases names with
       | true=>exact ⟨_,rfl,rfl⟩
       | false =>
         simp only [Bool.false_eq_true,if_false]
         obtain ⟨n,e1,e2⟩:=rprod_is (N:=N) hv hw
         have e3:Q1l N 3 v.n w.n=some (n,decide (Q20 (v.n * w.n))):=by unfold Q1l;rw [if_neg (by simp),if_neg (by simp),if_pos (by simp),e1];rfl
         rw [e3]
         simp only [Q0]
         rw [rend rfl e2]
         refine ⟨_,?_,rfl⟩
         obtain ⟨m,q1,q2⟩:=product_is (N:=N) hv hw
         have h:Q12 N 3 (num v.n) (num w.n)=some (m,decide (Q20 (v.n * w.n))):=by
          unfold Q12
          simp only [num,q1,Q0];rfl
         have h2:=(do_two hN (by omega) (by omega) (by omega) (by omega) (by omega) h).symm.trans (do_mul hN hv hw)
         rw [c7_num,h,Q0,← Option.some.inj h2]
         unfold endOf
         simp only
         cases decide (Q20 (v.n * w.n)) <;> rfl
      ·simp only [show ((5:Int)==1)=false from rfl,show ((5:Int)==2)=false from rfl,show ((5:Int)==3)=false from rfl,show ((5:Int)==5)=true from rfl,show ((5:Int)==6)=false from rfl,show ((5:Int)==7)=false from rfl,show ((5:Int)==8)=false from rfl,show ((5:Int)==9)=false from rfl,show ((5:Int)==10)=false from rfl,show ((5:Int)==11)=false from rfl,Bool.false_eq_true,if_false,if_true,Q0]
       rw [Qa3,Qal]
       refine ⟨_,rfl,?_⟩
       simp [Q0]
      ·simp only [show ((6:Int)==1)=false from rfl,show ((6:Int)==2)=false from rfl,show ((6:Int)==3)=false from rfl,show ((6:Int)==5)=false from rfl,show ((6:Int)==6)=true from rfl,show ((6:Int)==7)=false from rfl,show ((6:Int)==8)=false from rfl,show ((6:Int)==9)=false from rfl,show ((6:Int)==10)=false from rfl,show ((6:Int)==11)=false from rfl,Bool.false_eq_true,if_false,if_true,Q0]
       rw [Qa3,Qal]
       refine ⟨_,rfl,?_⟩
       simp [Q0]
      ·simp only [show ((7:Int)==1)=false from rfl,show ((7:Int)==2)=false from rfl,show ((7:Int)==3)=false from rfl,show ((7:Int)==5)=false from rfl,show ((7:Int)==6)=false from rfl,show ((7:Int)==7)=true from rfl,show ((7:Int)==8)=false from rfl,show ((7:Int)==9)=false from rfl,show ((7:Int)==10)=false from rfl,show ((7:Int)==11)=false from rfl,Bool.false_eq_true,if_false,if_true,Q0]
       cases names with
       | true=>exact ⟨_,rfl,rfl⟩
       | false =>
         have h:Q12 N 7 v w=some ((if (decide (v.n < w.n))=true then 1 else 0),true):=by
          unfold Q12 Q9S Q1N
          simp only [Qa3,Q0];rfl
         simp only [Bool.false_eq_true,if_false]
         rw [h,Qal]
         exact ⟨_,rfl,rfl⟩
      ·simp only [show ((8:Int)==1)=false from rfl,show ((8:Int)==2)=false from rfl,show ((8:Int)==3)=false from rfl,show ((8:Int)==5)=false from rfl,show ((8:Int)==6)=false from rfl,show ((8:Int)==7)=false from rfl,show ((8:Int)==8)=true from rfl,show ((8:Int)==9)=false from rfl,show ((8:Int)==10)=false from rfl,show ((8:Int)==11)=false from rfl,Bool.false_eq_true,if_false,if_true,Q0]
       cases names with
       | true=>exact ⟨_,rfl,rfl⟩
       | false =>
         have h:Q12 N 8 v w=some ((if (decide (v.n≤w.n))=true then 1 else 0),true):=by
          unfold Q12 Q9T Q1N
          simp only [Qa3,Q0];rfl
         simp only [Bool.false_eq_true,if_false]
         rw [h,Qal]
         exact ⟨_,rfl,rfl⟩
      ·simp only [show ((9:Int)==1)=false from rfl,show ((9:Int)==2)=false from rfl,show ((9:Int)==3)=false from rfl,show ((9:Int)==5)=false from rfl,show ((9:Int)==6)=false from rfl,show ((9:Int)==7)=false from rfl,show ((9:Int)==8)=false from rfl,show ((9:Int)==9)=true from rfl,show ((9:Int)==10)=false from rfl,show ((9:Int)==11)=false from rfl,Bool.false_eq_true,if_false,if_true,Q0]
       cases names with
       | true=>exact ⟨_,rfl,rfl⟩
       | false =>
         have h:Q12 N 9 v w=some ((if (v.n !=0 && w.n !=0)=true then 1 else 0),true):=by
          unfold Q12 Q9U Q1N
          simp only [Qa3,Q0]
          cases hq:v.n !=0 <;> rfl
         simp only [Bool.false_eq_true,if_false,Qal]
         rw [h]
         refine ⟨_,rfl,?_⟩
         cases hq:v.n !=0 <;> rfl
      ·simp only [show ((10:Int)==1)=false from rfl,show ((10:Int)==2)=false from rfl,show ((10:Int)==3)=false from rfl,show ((10:Int)==5)=false from rfl,show ((10:Int)==6)=false from rfl,show ((10:Int)==7)=false from rfl,show ((10:Int)==8)=false from rfl,show ((10:Int)==9)=false from rfl,show ((10:Int)==10)=true from rfl,show ((10:Int)==11)=false from rfl,Bool.false_eq_true,if_false,if_true,Q0]
       cases names with
       | true=>exact ⟨_,rfl,rfl⟩
       | false =>
         have h:Q12 N 10 v w=some ((if (v.n !=0 || w.n !=0)=true then 1 else 0),true):=by
          unfold Q12 Q9V Q1N
          simp only [Qa3,Q0]
          cases hq:v.n !=0 <;> rfl
         simp only [Bool.false_eq_true,if_false,Qal]
         rw [h]
         refine ⟨_,rfl,?_⟩
         cases hq:v.n !=0 <;> rfl
  · rw [hlp];exact ⟨_,rfl,rfl⟩
end Go.Proofs.YtbgodclhmgmcgaaGreatDoor
