import Derived.Test.YtbgodclhmgmcgaaGreatDoorAuto
import Derived.Test.YtbgodclhmgmcgaaGreatDoorXM
import Derived.Lib.Strings
import Derived.Lib.SlTrimSet
namespace Go.Proofs.YtbgodclhmgmcgaaGreatDoor
open Go Go.RowKit
theorem same_iter {α:Type} {f:Nat→Option (Nat⊕(Unit⊕Bool))} {l m:List α} (hlen:l.length=m.length)
  (step : ∀ i x y,i < l.length→l[i]? =some x→m[i]? =some y→∃ b:Bool,(b=true ↔ x=y)∧f i=(if b=true then some (.inl (i+1)) else some (.inr (.inr false))))
  (stop : ∀ i,l.length≤i→f i=some (.inr (.inl ()))) (n:Nat) (hn:l.length < n) : ∃ o,Q1e f n 0=some o∧((o=.inl ()∧l=m)∨(o=.inr false∧l≠m)):=by
 refine Q7Q (fun i=>i≤l.length∧l.take i=m.take i) (fun i=>l.length - i) _ (fun i ⟨hi,he⟩=>?_) n 0 ⟨by omega,by simp⟩ (by omega)
 by_cases hlt:i < l.length
 ·have hx:=List.getElem?_eq_getElem hlt
  have hy:=List.getElem?_eq_getElem (show i < m.length by omega)
  obtain ⟨b,hb,hf⟩:=step i _ _ hlt hx hy
  cases b with
  | true =>
    left
    refine ⟨i+1,by rw [hf];rfl,⟨by omega,?_⟩,by omega⟩
    rw [List.take_add_one,List.take_add_one,he,hx,hy,hb.1 rfl]
  | false =>
    right
    refine ⟨_,by rw [hf];rfl,.inr ⟨rfl,fun e=>?_⟩⟩
    subst e
    have:=hb.2 rfl
    cases this
 ·right
  refine ⟨_,stop i (by omega),.inl ⟨rfl,?_⟩⟩
  have h1:l.take i=l:=List.take_of_length_le (by omega)
  have h2:m.take i=m:=List.take_of_length_le (by omega)
  rw [← h1,← h2,he]
def Q9M (m:Option Bool)(p:Prop):Prop:=∃ b,m=some b∧(b=true ↔ p)
theorem Q9M.same {α:Type} {f:Nat→Option (Nat⊕(Unit⊕Bool))} {l m:List α} {N:Nat} (hN : 9223372036854775808≤N)(hl:l.length≤9223372036854775807)
  (step:l.length=m.length→∀ i x y,i < l.length→l[i]? =some x→m[i]? =some y→∃ b:Bool,(b=true ↔ x=y)∧f i=(if b=true then some (.inl (i+1)) else some (.inr (.inr false))))
  (stop : ∀ i,l.length≤i→f i=some (.inr (.inl ()))):Q9M (if (l.length !=m.length)=true then some false else Q1x (Q1e f N 0) fun _=>some true) (l=m):=by
 by_cases h:l.length=m.length
 ·rw [if_neg (by simpa using h)]
  obtain ⟨o,h1,h2⟩:=same_iter h (step h) stop N (by omega)
  rw [h1]
  rcases h2 with ⟨rfl,h2⟩ | ⟨rfl,h2⟩
  · exact ⟨true,rfl,by simp [h2]⟩
  · exact ⟨false,rfl,by simp [h2]⟩
 ·rw [if_pos (by simpa using h)]
  exact ⟨false,rfl,by constructor; · simp
                      · intro e;subst e;exact absurd rfl h⟩
theorem Q9M.and {m:Option Bool} {c:Bool} {p q:Prop} (h:Q9M m p)(hc:c=true ↔ q):Q9M (if c=true then m else some false) (q∧p):=by
 obtain ⟨b,h1,h2⟩:=h
 cases c with
 | true=>exact ⟨b,by rw [if_pos rfl];exact h1,by simp [hc.1 rfl,h2]⟩
 | false=>exact ⟨false,by simp,by simp;intro hq;exact absurd (hc.2 hq) (by simp)⟩
theorem Q9M.id {m:Option Bool} {p:Prop} (h:Q9M m p):Q9M (Qa m fun v=>some v) p:=by
 obtain ⟨b,h1,h2⟩:=h
 rw [h1];exact ⟨b,rfl,h2⟩
theorem Q9M.iff {m:Option Bool} {p q:Prop} (h:Q9M m p)(e:p ↔ q):Q9M m q:=by
 obtain ⟨b,h1,h2⟩:=h
 exact ⟨b,h1,h2.trans e⟩
theorem Q9M.eq_true {m:Option Bool} {p:Prop} (h:Q9M m p)(hp:p):m=some true:=by
 obtain ⟨b,h1,h2⟩:=h
 rw [h1,h2.2 hp]
end Go.Proofs.YtbgodclhmgmcgaaGreatDoor
namespace Go.Proofs.YtbgodclhmgmcgaaGreatDoor
open Go Go.RowKit
def num (x:Int):V:=⟨1,x,⟨#[]⟩⟩
theorem nott : ¬ ((!true)=true):=fun h=>by cases h
theorem notf : ¬ (false=true):=fun h=>by cases h
theorem right_num (N:Nat)(x:Int):Q1S N 1 x (⟨#[]⟩ : ByteArray)=some true:=by
 unfold Q1S;rw [if_pos (show ((1:Int)==1)=true from rfl)];simp
theorem do_loop {N:Nat} (hN : 9223372036854775808≤N) {l:List V} (hl : ∀ v∈l,∃ x,v=num x)(h2:l.length≤2):Q1e (Q21 N l) N (0,false)=some (.inl false):=by
 obtain ⟨o,h1,h3⟩:=Q7Q (f:=Q21 N l) (fun s=>s.1≤l.length∧s.2=false) (fun s=>l.length - s.1) (fun o=>o=.inl false) (fun s hs=>by
  obtain ⟨i,b⟩:=s
  obtain ⟨hi,hb⟩:=hs
  simp only at hi hb
  subst hb
  unfold Q21
  simp only
  by_cases hlt:i < l.length
  ·left
   have hx:=List.getElem?_eq_getElem hlt
   obtain ⟨x,hx2⟩:=hl _ (List.getElem_mem hlt)
   rw [hx2] at hx
   refine ⟨(i+1,false),?_,⟨by simp only;omega,rfl⟩,by simp only;omega⟩
   have hc:Q6X N l i false=some (.inl false):=by
    unfold Q6X
    rw [hx,Q0]
    simp only [num]
    rw [right_num,Q0,if_neg nott,if_neg notf];rfl
   rw [if_pos (by simpa using hlt),hc,Q1b,Qr (by omega)]
  ·right
   exact ⟨_,by rw [if_neg (by simpa using hlt)],rfl⟩) N (0,false) ⟨by simp,rfl⟩ (by simp only;omega)
 rw [h1,h3]
def endOf (r:Int×Bool):Nat×Int×Nat:=if r.2=true then (1,r.1,0) else (0,0,300)
theorem do_two {N:Nat} {op x y:Int} (hN : 9223372036854775808≤N)(h0 : 1≤op)(h1:op≤10)(h4:op≠4)(h5:op≠5)(h6:op≠6) {r:Int×Bool} (h:Q12 N op (num x) (num y)=some r):Q3S N op [num x,num y]=some (endOf r):=by
 have hc:Q8y N op=some 2:=by
  unfold Q8y
  rw [if_neg (by simpa using h4),Q0,if_neg (by simp;omega)]
 unfold Q3S
 rw [hc,Q0,if_neg (by simp;omega),if_neg (by simp;omega),Q0,if_neg (by simp),do_loop hN (fun v hv=>by simp at hv;first | (rcases hv with rfl | rfl <;> exact ⟨_,rfl⟩) | (subst hv;exact ⟨_,rfl⟩)) (by simp),Q1b]
 simp only [List.getElem?_cons_zero,Q0]
 rw [Qr (by omega),Qr (by omega)]
 rw [show [num x,num y][(((2:Nat):Int) - 1).toNat]? =some (num y) from rfl,Q0,if_neg (by simpa using h5),if_neg (by simpa using h6),if_neg notf,h,Q0]
 obtain ⟨n,b⟩:=r
 cases b <;> rfl
def Q20 (x:Int):Prop:=-9223372036854775808≤x∧x≤9223372036854775807
instance (x:Int):Decidable (Q20 x):=inferInstanceAs (Decidable (_∧_))
theorem endOf_in {x n:Int} {b:Bool} (h:b=decide (Q20 x))(hn:Q20 x→n=x):endOf (n,b)=if Q20 x then (1,x,0) else (0,0,300):=by
 subst h
 unfold endOf
 by_cases hx:Q20 x
 · rw [if_pos (by simpa using hx),if_pos hx,hn hx]
 · rw [if_neg (by simpa using hx),if_neg hx]
theorem do_add {N:Nat} {x y:Int} (hN : 9223372036854775808≤N)(hx:Q20 x)(hy:Q20 y):Q3S N 1 [num x,num y]=some (if Q20 (x+y) then (1,x+y,0) else (0,0,300)):=by
 have h:Q12 N 1 (num x) (num y)=some (IntKind.wrap .i64 (x+y),(decide (IntKind.wrap .i64 (x+y) < x))==(decide (y < 0))):=by
  unfold Q12;rfl
 rw [do_two hN (by omega) (by omega) (by omega) (by omega) (by omega) h,endOf_in]
 ·rw [IntKind.wrap_i64,Bool.eq_iff_iff]
  simp only [beq_iff_eq,decide_eq_decide,decide_eq_true_eq]
  unfold Q20 at *
  omega
 · intro h;exact IntWalk.i64_in _ h
theorem do_sub {N:Nat} {x y:Int} (hN : 9223372036854775808≤N)(hx:Q20 x)(hy:Q20 y):Q3S N 2 [num x,num y]=some (if Q20 (x - y) then (1,x - y,0) else (0,0,300)):=by
 have h:Q12 N 2 (num x) (num y)=some (IntKind.wrap .i64 (x - y),(decide (IntKind.wrap .i64 (x - y) > x))==(decide (y < 0))):=by
  unfold Q12;rfl
 rw [do_two hN (by omega) (by omega) (by omega) (by omega) (by omega) h,endOf_in]
 ·rw [IntKind.wrap_i64,Bool.eq_iff_iff]
  simp only [beq_iff_eq,decide_eq_decide,decide_eq_true_eq]
  unfold Q20 at *
  omega
 · intro h;exact IntWalk.i64_in _ h
theorem Qa3 (N:Nat)(b:Bool):Q7E N b=some (if b=true then 1 else 0):=by cases b <;> rfl
theorem abs_u64 {x:Int} (hx:Q20 x):(if (decide (x < 0))=true then some (IntKind.wrap .u64 (0 - (IntKind.wrap .u64 x))) else some (IntKind.wrap .u64 x))=some ((x.natAbs:Nat):Int):=by
 unfold Q20 at hx
 rw [IntKind.wrap_u64,IntKind.wrap_u64]
 by_cases h:x < 0
 · rw [if_pos (by simpa using h)];congr 1;omega
 · rw [if_neg (by simpa using h)];congr 1;omega
theorem prod_sign {x y:Int}:x * y=if (decide (x < 0) !=decide (y < 0))=true then -((x.natAbs * y.natAbs:Nat):Int) else ((x.natAbs * y.natAbs:Nat):Int):=by
 rw [← Int.natAbs_mul]
 rcases Int.lt_or_le x 0 with hx | hx <;> rcases Int.lt_or_le y 0 with hy | hy
 ·rw [if_neg (by simp [hx,hy])]
  have:=Int.mul_pos_of_neg_of_neg hx hy;omega
 ·rw [if_pos (by simp [hx,hy])]
  have:=Int.mul_nonpos_of_nonpos_of_nonneg (Int.le_of_lt hx) hy;omega
 ·rw [if_pos (by simp [hx,hy])]
  have:=Int.mul_nonpos_of_nonneg_of_nonpos hx (Int.le_of_lt hy);omega
 ·rw [if_neg (by simp;omega)]
  have:=Int.mul_nonneg hx hy;omega
theorem product_is {N:Nat} {x y:Int} (hx:Q20 x)(hy:Q20 y) : ∃ n,Q6y N x y=some (n,decide (Q20 (x * y)))∧(Q20 (x * y)→n=x * y):=by
 have hA:x.natAbs≤9223372036854775808:=by unfold Q20 at hx;omega
 have hB:y.natAbs≤9223372036854775808:=by unfold Q20 at hy;omega
 unfold Q6y
 rw [abs_u64 hx,Q0,abs_u64 hy,Q0,Qr (by omega),Qr (by omega),prod_sign]
 simp only [Int.toNat_natCast]
 by_cases hs:(decide (x < 0) !=decide (y < 0))=true
 ·rw [if_pos hs,if_pos hs]
  by_cases hh:x.natAbs * y.natAbs / 18446744073709551616=0
  ·rw [if_pos (by simp;omega)]
   refine ⟨_,congrArg some (congrArg (Prod.mk _) ?_),fun h=>?_⟩
   · simp only [decide_eq_decide];unfold Q20;omega
   · unfold Q20 at h;rw [IntKind.wrap_u64,IntKind.wrap_i64];omega
  ·rw [if_neg (by simp;omega)]
   refine ⟨_,congrArg some (congrArg (Prod.mk _) ?_),fun h=>?_⟩
   · simp only [Bool.false_eq,decide_eq_false_iff_not];unfold Q20;omega
   · unfold Q20 at h;omega
 ·rw [if_neg hs,if_neg hs]
  by_cases hh:x.natAbs * y.natAbs / 18446744073709551616=0
  ·rw [if_pos (by simp;omega)]
   refine ⟨_,congrArg some (congrArg (Prod.mk _) ?_),fun h=>?_⟩
   · simp only [decide_eq_decide];unfold Q20;omega
   · unfold Q20 at h;rw [IntKind.wrap_i64];omega
  ·rw [if_neg (by simp;omega)]
   refine ⟨_,congrArg some (congrArg (Prod.mk _) ?_),fun h=>?_⟩
   · simp only [Bool.false_eq,decide_eq_false_iff_not];unfold Q20;omega
   · unfold Q20 at h;omega
theorem do_mul {N:Nat} {x y:Int} (hN : 9223372036854775808≤N)(hx:Q20 x)(hy:Q20 y):Q3S N 3 [num x,num y]=some (if Q20 (x * y) then (1,x * y,0) else (0,0,300)):=by
 obtain ⟨n,h1,h2⟩:=product_is (N:=N) hx hy
 have h:Q12 N 3 (num x) (num y)=some (n,decide (Q20 (x * y))):=by
  unfold Q12
  simp only [num,h1,Q0]
  rfl
 rw [do_two hN (by omega) (by omega) (by omega) (by omega) (by omega) h,endOf_in rfl h2]
end Go.Proofs.YtbgodclhmgmcgaaGreatDoor
namespace Go.Proofs.YtbgodclhmgmcgaaGreatDoor
open Go Go.RowKit
theorem bget (s:ByteArray)(i:Nat):s[i]? =s.data.toList[i]?:=by
 by_cases h:i < s.size
 ·rw [getElem?_pos s i h]
  have h2:i < s.data.toList.length:=by simpa using h
  rw [List.getElem?_eq_getElem h2];rfl
 ·rw [getElem?_neg s i h]
  rw [List.getElem?_eq_none (by simpa using h)]
theorem btl (s:ByteArray):s.toList=s.data.toList:=ByteArray.toList_eq s
def lowB (b:UInt8):Prop:=97≤b.toNat∧b.toNat≤122
def morB (b:UInt8):Prop:=lowB b∨(48≤b.toNat∧b.toNat≤57)∨b.toNat=95
def Qdo (l:List UInt8):Prop:=0 < l.length∧l.length≤24∧(∀ b,l[0]? =some b→lowB b)∧∀ b∈l,morB b
theorem mem_low (c:UInt8):c∈[97,98,99,100,101,102,103,104,105,106,107,108,109,110,111,112,113,114,115,116,117,118,119,120,121,(122:UInt8)] ↔ lowB c:=by
 unfold lowB
 simp [← UInt8.toNat_inj]
 omega
theorem mem_mor (c:UInt8):c∈[97,98,99,100,101,102,103,104,105,106,107,108,109,110,111,112,113,114,115,116,117,118,119,120,121,122,48,49,50,51,52,53,54,55,56,57,(95:UInt8)] ↔ morB c:=by
 unfold morB lowB
 simp [← UInt8.toNat_inj]
 omega
theorem index_mem : ∀ (l:List UInt8)(c:UInt8),0≤Lib.indexByte l c ↔ c∈l
 | [],c=>by simp [Lib.indexByte]
 | b :: l,c=>by
   unfold Lib.indexByte
   have ih:=index_mem l c
   have hg:=Lib.indexByte_ge l c
   by_cases h:b=c
   · subst h;simp
   ·rw [if_neg (by simpa using h)]
    have h2:c≠b:=fun e=>h e.symm
    simp only [List.mem_cons,h2,false_or,← ih,beq_iff_eq]
    split <;> omega
theorem dw_nil (p:UInt8→Bool) : ∀ l:List UInt8,l.dropWhile p=[] ↔ ∀ b∈l,p b=true
 | []=>by simp
 | a :: l=>by
   rw [List.dropWhile_cons]
   by_cases h:p a=true
   · rw [if_pos h,dw_nil p l];simp [h]
   · rw [if_neg h];simp [h]
theorem bsize (s:ByteArray):s.size=s.data.toList.length:=Array.length_toList.symm
theorem trim_nil (l cs:List UInt8):Lib.trimS l cs=[] ↔ ∀ b∈l,b∈cs:=by
 unfold Lib.trimS Lib.trimLeftS Lib.trimRightS
 rw [dw_nil]
 constructor
 ·intro h
  cases hd:l.reverse.dropWhile (cs.contains ·) with
  | nil =>
    rw [dw_nil] at hd
    intro b hb
    have:=hd b (List.mem_reverse.2 hb)
    simpa using this
  | cons x t =>
    have h1:=List.head?_dropWhile_not (cs.contains ·) l.reverse
    rw [hd] at h1 h
    have h2:=h x (by simp)
    simp only [List.head?_cons] at h1
    rw [h2] at h1
    simp at h1
 ·intro h b hb
  have h1:b∈l:=by
    have:=List.mem_reverse.1 hb
    exact List.mem_reverse.1 ((List.dropWhile_sublist _).subset this)
  simpa using h b h1
theorem u8_back (x:UInt8):(((x.toNat:Nat):Int)).toNat.toUInt8=x:=by
 rw [Int.toNat_natCast];exact UInt8.ofNat_toNat
theorem vnamed_is (N:Nat)(s:ByteArray):Q9M (Q9m N s) (Qdo s.data.toList):=by
 have hs:s.size=s.data.toList.length:=bsize s
 unfold Q9m
 refine Q9M.id ?_
 unfold Qai
 simp only [btl,hs,bget]
 generalize s.data.toList=l
 cases l with
 | nil=>exact ⟨false,by rw [if_neg (by simp)],by simp [Qdo]⟩
 | cons c l =>
   rw [if_pos (by simp)]
   by_cases hl:(c :: l).length≤24
   ·rw [if_pos (by simpa using hl)]
    simp only [List.getElem?_cons_zero,Q0,u8_back]
    by_cases hi : 0≤Lib.indexByte [97,98,99,100,101,102,103,104,105,106,107,108,109,110,111,112,113,114,115,116,117,118,119,120,121,122] c
    ·rw [if_pos (by simpa using hi),Qr (by omega)]
     refine ⟨_,rfl,?_⟩
     simp only [beq_iff_eq,trim_nil,mem_mor]
     rw [index_mem,mem_low] at hi
     unfold Qdo
     constructor
     · intro h;exact ⟨by simp,hl,fun b hb=>by cases hb;exact hi,h⟩
     · intro h;exact h.2.2.2
    ·rw [if_neg (by simpa using hi)]
     refine ⟨false,rfl,?_⟩
     rw [index_mem,mem_low] at hi
     constructor
     · intro h;cases h
     · intro h;exact absurd (h.2.2.1 c rfl) hi
   ·rw [if_neg (by simpa using hl)]
    exact ⟨false,rfl,by constructor; · intro h; cases h
                        · intro h;exact absurd h.2.1 hl⟩
theorem rnamed_is {N:Nat} {s:ByteArray} (hN : 9223372036854775808≤N)(hsz:s.size≤9223372036854775807):Q9M (Q2f N s) (Qdo s.data.toList):=by
 have hs:s.size=s.data.toList.length:=bsize s
 obtain ⟨o, h1, h2⟩ := Q7Q (f := Q4a N s) (fun i => i ≤ s.size ∧ (∀ b ∈ s.data.toList.take i, morB b) ∧ (0 < i → ∀ b, s.data.toList[0]? = some b → lowB b)) (fun i => s.size - i)
  (fun o=>(o = .inl () ∧ (∀ b ∈ s.data.toList,morB b) ∧ (0 < s.size → ∀ b,s.data.toList[0]? = some b → lowB b)) ∨ (o = .inr false ∧ ¬ Qdo s.data.toList)) (fun i hi=>by
   obtain ⟨hi,ha,hb⟩:=hi
   unfold Q4a
   by_cases hlt:i < s.size
   ·have hlt2:i < s.data.toList.length:=by omega
    have hx:=List.getElem?_eq_getElem hlt2
    rw [if_pos (by simpa using hlt),bget,hx,Q0]
    generalize hc:s.data.toList[i]=c at hx
    have hmem:=List.mem_of_getElem? hx
    rw [show (if (decide (97≤c.toNat))=true then some (decide (c.toNat≤122)) else some false)=some (decide (97≤c.toNat∧c.toNat≤122)) by
         by_cases q : 97≤c.toNat
         · rw [if_pos (by simpa using q)];simp [q]
         · rw [if_neg (by simpa using q)];simp [q],Q0]
    have hC:Q5T N (decide (97 ≤ c.toNat ∧ c.toNat ≤ 122)) i c = some (decide (¬ (97 ≤ c.toNat ∧ c.toNat ≤ 122) ∧ (i = 0 ∨ ¬ ((48 ≤ c.toNat ∧ c.toNat ≤ 57) ∨ c.toNat = 95)))):=by
         unfold Q5T
         by_cases q : 97≤c.toNat∧c.toNat≤122
         · rw [if_neg (by simp [q])];simp [q]
         ·rw [if_pos (show (!decide (97 ≤ c.toNat ∧ c.toNat ≤ 122)) = true by rw [decide_eq_false q]; rfl)]
          by_cases q0:i=0
          · rw [if_pos (by simpa using q0)];simp [q,q0]
          ·rw [if_neg (by simpa using q0)]
           by_cases q1 : 48≤c.toNat
           ·rw [if_pos (by simpa using q1)]
            by_cases q2:c.toNat≤57
            · rw [if_pos (by simpa using q2)];simp [q0,q1,q2]
            ·rw [if_neg (by simpa using q2)]
             congr 1
             rw [Bool.eq_iff_iff]
             simp only [Bool.not_eq_true',beq_eq_false_iff_ne,ne_eq,decide_eq_true_eq]
             omega
           ·rw [if_neg (by simpa using q1)]
            congr 1
            rw [Bool.eq_iff_iff]
            simp only [Bool.not_eq_true',beq_eq_false_iff_ne,ne_eq,decide_eq_true_eq]
            omega
    rw [hC,Q0]
    by_cases hbad : ¬ (97≤c.toNat∧c.toNat≤122)∧(i=0∨¬ ((48≤c.toNat∧c.toNat≤57)∨c.toNat=95))
    ·    right
         refine ⟨_,by rw [if_pos (by rw [decide_eq_true_eq];exact hbad)],.inr ⟨rfl,fun hn=>?_⟩⟩
         obtain ⟨_,_,n1,n2⟩:=hn
         rcases hbad.2 with h0 | h0
         · subst h0;exact hbad.1 (n1 c hx)
         ·rcases n2 c hmem with q | q | q
          · exact hbad.1 q
          · exact h0 (.inl q)
          · exact h0 (.inr q)
    ·    left
         refine ⟨i+1,by rw [if_neg (by rw [decide_eq_true_eq];exact hbad),Qr (by omega)],⟨by omega,fun b hb'=>?_,fun _ b hb'=>?_⟩,by omega⟩
         ·rw [List.take_add_one,hx] at hb'
          rcases List.mem_append.1 hb' with hb' | hb'
          · exact ha b hb'
          ·simp at hb';subst hb'
           unfold morB lowB;omega
         ·by_cases h0:i=0
          ·subst h0
           rw [hx] at hb';cases hb'
           unfold lowB;omega
          · exact hb (by omega) b hb'
   ·right
    have e:i=s.size:=by omega
    subst e
    rw [hs,List.take_length] at ha
    exact ⟨_,by rw [if_neg (by simp)],.inl ⟨rfl,ha,hb⟩⟩) N 0 ⟨by omega,by simp,by omega⟩ (by omega)
 unfold Q2f
 rw [h1]
 rcases h2 with ⟨rfl,h2,h3⟩ | ⟨rfl,h2⟩
 ·rw [Q1b]
  by_cases q : 1≤s.size
  ·rw [if_pos (by simpa using q)]
   refine ⟨_,rfl,?_⟩
   simp only [decide_eq_true_eq]
   unfold Qdo
   constructor
   · intro h;exact ⟨by omega,by omega,h3 (by omega),h2⟩
   · intro h;omega
  ·rw [if_neg (by simpa using q)]
   refine ⟨false,rfl,?_⟩
   constructor
   · intro h;cases h
   · intro h;have:=h.1;omega
 · exact ⟨false,rfl,by constructor; · intro h; cases h
                       · intro h;exact absurd h h2⟩
theorem says_eq {m m' : Option Bool} {p:Prop} (h:Q9M m p)(h' : Q9M m' p):m=m':=by
 obtain ⟨b,h1,h2⟩:=h
 obtain ⟨b',h3,h4⟩:=h'
 rw [h1,h3]
 congr 1
 rw [Bool.eq_iff_iff,h2,h4]
def rightP (v:V):Prop:=(v.k=1∧v.s.data.toList=[])∨(v.k=2∧v.n=0∧Qdo v.s.data.toList)
theorem right_is (N:Nat)(v:V):Q9M (Q1S N v.k v.n v.s) (rightP v):=by
 unfold Q1S rightP
 by_cases h:v.k=1
 ·rw [if_pos (by simpa using h)]
  refine ⟨_,rfl,?_⟩
  simp only [btl,beq_iff_eq]
  constructor
  · intro q;exact .inl ⟨h,q⟩
  ·rintro (q | q)
   · exact q.2
   · omega
 ·rw [if_neg (by simpa using h)]
  by_cases h2:v.k=2
  ·rw [if_pos (by simpa using h2)]
   by_cases h3:v.n=0
   ·rw [if_pos (by simpa using h3)]
    refine Q9M.iff (Q9M.id (vnamed_is N v.s)) ?_
    constructor
    · intro q;exact .inr ⟨h2,h3,q⟩
    ·rintro (q | q)
     · omega
     · exact q.2.2
   ·rw [if_neg (by simpa using h3)]
    refine ⟨false,rfl,?_⟩
    constructor
    · intro q;cases q
    · rintro (q | q) <;> omega
  ·rw [if_neg (by simpa using h2)]
   refine ⟨false,rfl,?_⟩
   constructor
   · intro q;cases q
   · rintro (q | q) <;> omega
end Go.Proofs.YtbgodclhmgmcgaaGreatDoor
