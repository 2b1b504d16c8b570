import Derived.Test.YtbgodclhmgmcgaaGreatDoorXM
import Derived.Test.YtbgodclhmgmcgaaGreatDoorPlain
namespace Go.Proofs.YtbgodclhmgmcgaaGreatDoor
open Go Go.RowKit
mutual
def nodes:Qm → Nat
 | ⟨_,_,_,_,l⟩=>1 + Q4o l
def Q4o:List Qm → Nat
 | []=>0
 | e :: l=>nodes e + Q4o l
end
theorem Q93 (e:Qm):nodes e = 1 + Q4o e.kids:=by cases e; simp [nodes]
theorem nodesL_app : ∀ (a b:List Qm),Q4o (a ++ b) = Q4o a + Q4o b
 | [],b=>by simp [Q4o]
 | x :: a,b=>by simp only [List.cons_append,Q4o]; rw [nodesL_app a b]; omega
theorem Q9W {x:Qm} : ∀ {l:List Qm},x ∈ l → nodes x ≤ Q4o l
 | y :: l,h=>by
   simp only [Q4o]
   rcases List.mem_cons.1 h with rfl | h
   · omega
   · have:=Q9W h; omega
theorem Q9V : ∀ (l:List Qm),l.length ≤ Q4o l
 | []=>by simp
 | x :: l=>by
   have:=Q9V l
   simp only [List.length_cons,Q4o,Q93]; omega
theorem nodesL_take {l:List Qm} {i:Nat} {x:Qm} (h:l[i]? = some x):Q4o (l.take (i + 1)) = Q4o (l.take i) + 1 + Q4o x.kids:=by
 rw [List.take_add_one,h,nodesL_app]
 simp [Q4o,Q93]; omega
theorem ok_kids {x:Qm} (h:ok_Api_ExprD x):x.kids.length ≤ 1759218604390 ∧ ∀ y ∈ x.kids,ok_Api_ExprD y:=by
 cases h with
 | mk _ _ _ _ _ h4 g4=>exact ⟨h4,g4⟩
theorem ok_val {x:Qm} (h:ok_Api_ExprD x):ok_V x.value:=by
 cases h with
 | mk _ _ h1 _ _ _ _=>exact h1
theorem exprsof_is : ∀ (m N:Nat) (l:List Qm) (most:Int),(∀ y ∈ l,ok_Api_ExprD y) → l.length ≤ 1759218604390 → 9223372036854775808 + m < N → -1 ≤ most → most + 1 ≤ m → most ≤ 1000000 →
   ∃ v,Q1Q N l most = some v ∧ 0 ≤ v ∧ v ≤ most + 1 ∧ (v ≤ most → v = Q4o l):=by
 intro m
 induction m with
 | zero =>
   intro N l most hok hl hN h1 h2 h3
   obtain ⟨N,rfl⟩ : ∃ k,N = k + 1:=⟨N - 1,by omega⟩
   have hm:most = -1:=by omega
   subst hm
   show ∃ v,Q2q N (Q1Q N) l (-1) = some v ∧ _
   unfold Q2q
   obtain ⟨k,hk⟩ : ∃ k,N = k + 1:=⟨N - 1,by omega⟩
   have hs:Q22 N l (-1) (Q1Q N) (0,0) = some (.inr 0):=by
    unfold Q22
    by_cases h : 0 < l.length
    · simp only [h,decide_true,if_true]; rfl
    · simp only [h,decide_false,Bool.false_eq_true,if_false]; rfl
   have hi:Q1g (Q22 N l (-1) (Q1Q N)) N (0,0) = some 0:=by
    have:=Q2k (n:=N - 1) hs
    rwa [show N - 1 + 1 = N by omega] at this
   rw [hi,Q7,Q15 (by omega)]
   exact ⟨_,rfl,by decide,by decide,fun h=>by exact absurd h (by decide)⟩
 | succ m ih =>
   intro N l most hok hl hN h1 h2 h3
   obtain ⟨N,rfl⟩ : ∃ k,N = k + 1:=⟨N - 1,by omega⟩
   show ∃ v,Q2q N (Q1Q N) l most = some v ∧ _
   unfold Q2q
   obtain ⟨o, e1, e2, e3, e4⟩ := Q7h (f := Q22 N l most (Q1Q N)) (fun s => s.1 ≤ l.length ∧ 0 ≤ s.2 ∧ s.2 ≤ most + 1 ∧ (s.2 ≤ most → s.2 = Q4o (l.take s.1))) (fun s => l.length - s.1)
    (fun o=>0 ≤ o ∧ o ≤ most + 1 ∧ (o ≤ most → o = Q4o l)) (fun s hs=>by
     obtain ⟨i,c⟩:=s
     obtain ⟨g1,g2,g3,g4⟩:=hs
     simp only at g1 g2 g3 g4
     unfold Q22
     simp only
     by_cases hlt:i < l.length
     ·have hx:=List.getElem?_eq_getElem hlt
      rw [if_pos (by simpa using hlt),Q7]
      by_cases hc:c ≤ most
      ·    rw [if_pos (by simpa using hc),Q15 (by omega),hx,Q7,Q15 (by omega),Q15 (by omega)]
           have hmem:=List.getElem_mem hlt
           obtain ⟨k1,k2⟩:=ok_kids (hok _ hmem)
           obtain ⟨v,v1,v2,v3,v4⟩:=ih N l[i].kids (most - c - 1) k2 k1 (by omega) (by omega) (by omega) (by omega)
           rw [v1,Q7,Q15 (by omega),Q15 (by omega)]
           left
           refine ⟨_,rfl,⟨by simp only; omega,by simp only; omega,by simp only; omega,fun hle=>?_⟩,by simp only; omega⟩
           simp only at hle ⊢
           rw [nodesL_take hx]
           have a1:=g4 hc
           have a2:=v4 (by omega)
           omega
      ·    rw [if_neg (by simpa using hc)]
           right
           exact ⟨c,rfl,g2,g3,fun h=>absurd h hc⟩
     ·rw [if_neg (by simpa using hlt),Q7,if_neg (by simp)]
      right
      refine ⟨c,rfl,g2,g3,fun h=>?_⟩
      have:=g4 h
      rwa [List.take_of_length_le (by omega)] at this) N (0,0) ⟨by simp,by simp,by simp only; omega,fun _=>by simp [Q4o]⟩ (by simp only; omega)
   rw [e1,Q7,Q15 (by omega)]
   refine ⟨_,rfl,?_,?_,?_⟩ <;> unfold minI
   · split <;> omega
   · split <;> omega
   ·intro h
    split at h
    · omega
    ·rename_i h5
     rw [if_neg h5]; exact e4 h
end Go.Proofs.YtbgodclhmgmcgaaGreatDoor
