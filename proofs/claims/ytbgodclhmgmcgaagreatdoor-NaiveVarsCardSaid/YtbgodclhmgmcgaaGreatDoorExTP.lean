import Derived.Test.YtbgodclhmgmcgaaGreatDoorExP
import Derived.Lib.Strings
import Derived.Lib.SlTrimSet
namespace Go.Proofs.YtbgodclhmgmcgaaGreatDoor
open Go Go.RowKit
theorem bget (s:ByteArray) (i:Nat):s[i]? = s.data.toList[i]?:=by
 by_cases h:i < s.size
 ·rw [getElem?_pos s i h]
  have h2:i < s.data.toList.length:=by simpa using h
  rw [List.getElem?_eq_getElem h2]; rfl
 ·rw [getElem?_neg s i h]
  rw [List.getElem?_eq_none (by simpa using h)]
theorem btl (s:ByteArray):s.toList = s.data.toList:=ByteArray.toList_eq s
def lowB (b:UInt8):Prop:=97 ≤ b.toNat ∧ b.toNat ≤ 122
def morB (b:UInt8):Prop:=lowB b ∨ (48 ≤ b.toNat ∧ b.toNat ≤ 57) ∨ b.toNat = 95
def Q9H (l:List UInt8):Prop:=0 < l.length ∧ l.length ≤ 24 ∧ (∀ b,l[0]? = some b → lowB b) ∧ ∀ b ∈ l,morB b
theorem mem_low (c:UInt8):c ∈ [97,98,99,100,101,102,103,104,105,106,107,108,109,110,111,112,113,114,115,116,117,118,119,120,121,(122:UInt8)] ↔ lowB c:=by
 unfold lowB
 simp [← UInt8.toNat_inj]
 omega
theorem mem_mor (c:UInt8):c ∈ [97,98,99,100,101,102,103,104,105,106,107,108,109,110,111,112,113,114,115,116,117,118,119,120,121,122,48,49,50,51,52,53,54,55,56,57,(95:UInt8)] ↔ morB c:=by
 unfold morB lowB
 simp [← UInt8.toNat_inj]
 omega
theorem index_mem : ∀ (l:List UInt8) (c:UInt8),0 ≤ Lib.indexByte l c ↔ c ∈ l
 | [],c=>by simp [Lib.indexByte]
 | b :: l,c=>by
   unfold Lib.indexByte
   have ih:=index_mem l c
   have hg:=Lib.indexByte_ge l c
   by_cases h:b = c
   · subst h; simp
   ·rw [if_neg (by simpa using h)]
    have h2:c ≠ b:=fun e=>h e.symm
    simp only [List.mem_cons,h2,false_or,← ih,beq_iff_eq]
    split <;> omega
theorem dw_nil (p:UInt8 → Bool) : ∀ l:List UInt8,l.dropWhile p = [] ↔ ∀ b ∈ l,p b = true
 | []=>by simp
 | a :: l=>by
   rw [List.dropWhile_cons]
   by_cases h:p a = true
   · rw [if_pos h,dw_nil p l]; simp [h]
   · rw [if_neg h]; simp [h]
theorem bsize (s:ByteArray):s.size = s.data.toList.length:=Array.length_toList.symm
theorem trim_nil (l cs:List UInt8):Lib.trimS l cs = [] ↔ ∀ b ∈ l,b ∈ cs:=by
 unfold Lib.trimS Lib.trimLeftS Lib.trimRightS
 rw [dw_nil]
 constructor
 ·intro h
  cases hd:l.reverse.dropWhile (cs.contains ·) with
  | nil =>
    rw [dw_nil] at hd
    intro b hb
    have:=hd b (List.mem_reverse.2 hb)
    simpa using this
  | cons x t =>
    have h1:=List.head?_dropWhile_not (cs.contains ·) l.reverse
    rw [hd] at h1 h
    have h2:=h x (by simp)
    simp only [List.head?_cons] at h1
    rw [h2] at h1
    simp at h1
 ·intro h b hb
  have h1:b ∈ l:=by
    have:=List.mem_reverse.1 hb
    exact List.mem_reverse.1 ((List.dropWhile_sublist _).subset this)
  simpa using h b h1
theorem u8_back (x:UInt8):(((x.toNat:Nat):Int)).toNat.toUInt8 = x:=by
 rw [Int.toNat_natCast]; exact UInt8.ofNat_toNat
theorem vnamed_is (N:Nat) (s:ByteArray):Says (Q6D N s) (Q9H s.data.toList):=by
 have hs:s.size = s.data.toList.length:=bsize s
 unfold Q6D
 refine Says.id ?_
 unfold Q7y
 simp only [btl,hs,bget]
 generalize s.data.toList = l
 cases l with
 | nil=>exact ⟨false,by rw [if_neg (by simp)],by simp [Q9H]⟩
 | cons c l =>
   rw [if_pos (by simp)]
   by_cases hl:(c :: l).length ≤ 24
   ·rw [if_pos (by simpa using hl)]
    simp only [List.getElem?_cons_zero,Q6,u8_back]
    by_cases hi : 0 ≤ Lib.indexByte [97,98,99,100,101,102,103,104,105,106,107,108,109,110,111,112,113,114,115,116,117,118,119,120,121,122] c
    ·rw [if_pos (by simpa using hi),QC (by omega)]
     refine ⟨_,rfl,?_⟩
     simp only [beq_iff_eq,trim_nil,mem_mor]
     rw [index_mem,mem_low] at hi
     unfold Q9H
     constructor
     · intro h; exact ⟨by simp,hl,fun b hb=>by cases hb; exact hi,h⟩
     · intro h; exact h.2.2.2
    ·rw [if_neg (by simpa using hi)]
     refine ⟨false,rfl,?_⟩
     rw [index_mem,mem_low] at hi
     constructor
     · intro h; cases h
     · intro h; exact absurd (h.2.2.1 c rfl) hi
   ·rw [if_neg (by simpa using hl)]
    exact ⟨false,rfl,by constructor; · intro h; cases h
                        · intro h; exact absurd h.2.1 hl⟩
theorem rnamed_is {N:Nat} {s:ByteArray} (hN : 9223372036854775808 ≤ N) (hsz:s.size ≤ 9223372036854775807):Says (Q1Y N s) (Q9H s.data.toList):=by
 have hs:s.size = s.data.toList.length:=bsize s
 obtain ⟨o, h1, h2⟩ := Q5u (f := Q3a N s) (fun i => i ≤ s.size ∧ (∀ b ∈ s.data.toList.take i, morB b) ∧ (0 < i → ∀ b, s.data.toList[0]? = some b → lowB b)) (fun i => s.size - i)
  (fun o=>(o = .inl () ∧ (∀ b ∈ s.data.toList,morB b) ∧ (0 < s.size → ∀ b,s.data.toList[0]? = some b → lowB b)) ∨ (o = .inr false ∧ ¬ Q9H s.data.toList)) (fun i hi=>by
   obtain ⟨hi,ha,hb⟩:=hi
   unfold Q3a
   by_cases hlt:i < s.size
   ·have hlt2:i < s.data.toList.length:=by omega
    have hx:=List.getElem?_eq_getElem hlt2
    rw [if_pos (by simpa using hlt),bget,hx,Q6]
    generalize hc:s.data.toList[i] = c at hx
    have hmem:=List.mem_of_getElem? hx
    rw [show (if (decide (97 ≤ c.toNat)) = true then some (decide (c.toNat ≤ 122)) else some false) = some (decide (97 ≤ c.toNat ∧ c.toNat ≤ 122)) by
         by_cases q : 97 ≤ c.toNat
         · rw [if_pos (by simpa using q)]; simp [q]
         · rw [if_neg (by simpa using q)]; simp [q],Q6]
    have hC:Q43 N (decide (97 ≤ c.toNat ∧ c.toNat ≤ 122)) i c = some (decide (¬ (97 ≤ c.toNat ∧ c.toNat ≤ 122) ∧ (i = 0 ∨ ¬ ((48 ≤ c.toNat ∧ c.toNat ≤ 57) ∨ c.toNat = 95)))):=by
         unfold Q43
         by_cases q : 97 ≤ c.toNat ∧ c.toNat ≤ 122
         · rw [if_neg (by simp [q])]; simp [q]
         ·rw [if_pos (show (!decide (97 ≤ c.toNat ∧ c.toNat ≤ 122)) = true by rw [decide_eq_false q]; rfl)]
          by_cases q0:i = 0
          · rw [if_pos (by simpa using q0)]; simp [q,q0]
          ·rw [if_neg (by simpa using q0)]
           by_cases q1 : 48 ≤ c.toNat
           ·rw [if_pos (by simpa using q1)]
            by_cases q2:c.toNat ≤ 57
            · rw [if_pos (by simpa using q2)]; simp [q0,q1,q2]
            ·rw [if_neg (by simpa using q2)]
             congr 1
             rw [Bool.eq_iff_iff]
             simp only [Bool.not_eq_true',beq_eq_false_iff_ne,ne_eq,decide_eq_true_eq]
             omega
           ·rw [if_neg (by simpa using q1)]
            congr 1
            rw [Bool.eq_iff_iff]
            simp only [Bool.not_eq_true',beq_eq_false_iff_ne,ne_eq,decide_eq_true_eq]
            omega
    rw [hC,Q6]
    by_cases hbad : ¬ (97 ≤ c.toNat ∧ c.toNat ≤ 122) ∧ (i = 0 ∨ ¬ ((48 ≤ c.toNat ∧ c.toNat ≤ 57) ∨ c.toNat = 95))
    ·    right
         refine ⟨_,by rw [if_pos (by rw [decide_eq_true_eq]; exact hbad)],.inr ⟨rfl,fun hn=>?_⟩⟩
         obtain ⟨_,_,n1,n2⟩:=hn
         rcases hbad.2 with h0 | h0
         · subst h0; exact hbad.1 (n1 c hx)
         ·rcases n2 c hmem with q | q | q
          · exact hbad.1 q
          · exact h0 (.inl q)
          · exact h0 (.inr q)
    ·    left
         refine ⟨i + 1,by rw [if_neg (by rw [decide_eq_true_eq]; exact hbad),QC (by omega)],⟨by omega,fun b hb'=>?_,fun _ b hb'=>?_⟩,by omega⟩
         ·rw [List.take_add_one,hx] at hb'
          rcases List.mem_append.1 hb' with hb' | hb'
          · exact ha b hb'
          ·simp at hb'; subst hb'
           unfold morB lowB; omega
         ·by_cases h0:i = 0
          ·subst h0
           rw [hx] at hb'; cases hb'
           unfold lowB; omega
          · exact hb (by omega) b hb'
   ·right
    have e:i = s.size:=by omega
    subst e
    rw [hs,List.take_length] at ha
    exact ⟨_,by rw [if_neg (by simp)],.inl ⟨rfl,ha,hb⟩⟩) N 0 ⟨by omega,by simp,by omega⟩ (by omega)
 unfold Q1Y
 rw [h1]
 rcases h2 with ⟨rfl,h2,h3⟩ | ⟨rfl,h2⟩
 ·rw [Q18]
  by_cases q : 1 ≤ s.size
  ·rw [if_pos (by simpa using q)]
   refine ⟨_,rfl,?_⟩
   simp only [decide_eq_true_eq]
   unfold Q9H
   constructor
   · intro h; exact ⟨by omega,by omega,h3 (by omega),h2⟩
   · intro h; omega
  ·rw [if_neg (by simpa using q)]
   refine ⟨false,rfl,?_⟩
   constructor
   · intro h; cases h
   · intro h; have:=h.1; omega
 · exact ⟨false,rfl,by constructor; · intro h; cases h
                       · intro h; exact absurd h h2⟩
theorem says_eq {m m' : Option Bool} {p:Prop} (h:Says m p) (h' : Says m' p):m = m':=by
 obtain ⟨b,h1,h2⟩:=h
 obtain ⟨b',h3,h4⟩:=h'
 rw [h1,h3]
 congr 1
 rw [Bool.eq_iff_iff,h2,h4]
def rightP (v:V):Prop:=(v.k = 1 ∧ v.s.data.toList = []) ∨ (v.k = 2 ∧ v.n = 0 ∧ Q9H v.s.data.toList)
theorem right_is (N:Nat) (v:V):Says (Q1E N v.k v.n v.s) (rightP v):=by
 unfold Q1E rightP
 by_cases h:v.k = 1
 ·rw [if_pos (by simpa using h)]
  refine ⟨_,rfl,?_⟩
  simp only [btl,beq_iff_eq]
  constructor
  · intro q; exact .inl ⟨h,q⟩
  ·rintro (q | q)
   · exact q.2
   · omega
 ·rw [if_neg (by simpa using h)]
  by_cases h2:v.k = 2
  ·rw [if_pos (by simpa using h2)]
   by_cases h3:v.n = 0
   ·rw [if_pos (by simpa using h3)]
    refine Says.iff (Says.id (vnamed_is N v.s)) ?_
    constructor
    · intro q; exact .inr ⟨h2,h3,q⟩
    ·rintro (q | q)
     · omega
     · exact q.2.2
   ·rw [if_neg (by simpa using h3)]
    refine ⟨false,rfl,?_⟩
    constructor
    · intro q; cases q
    · rintro (q | q) <;> omega
  ·rw [if_neg (by simpa using h2)]
   refine ⟨false,rfl,?_⟩
   constructor
   · intro q; cases q
   · rintro (q | q) <;> omega
end Go.Proofs.YtbgodclhmgmcgaaGreatDoor
