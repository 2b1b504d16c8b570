import Derived.Test.YtbgodclhmgmcgaaGreatDoorPlain
import Derived.Test.YtbgodclhmgmcgaaGreatDoorXM
namespace Go.Proofs.YtbgodclhmgmcgaaGreatDoor
open Go Go.RowKit
theorem iter_look {ε:Type} {f:Nat → Option (Nat ⊕ (Unit ⊕ ε))} (n:Nat) (step : ∀ i,i < n → f i = some (.inl (i + 1))) (stop:f n = some (.inr (.inl ()))) {N:Nat} (hN:n < N):Q1h f N 0 = some (.inl ()):=by
 obtain ⟨o,h1,h2⟩:=Q5c (f:=f) (fun i=>i ≤ n) (fun i=>n - i) (fun o=>o = .inl ()) (fun i hi=>by
  by_cases h:i < n
  · exact .inl ⟨_,step i h,by omega,by omega⟩
  ·obtain rfl:i = n:=by omega
   exact .inr ⟨_,stop,rfl⟩) N 0 (Nat.zero_le _) (by omega)
 rw [h1,h2]
end Go.Proofs.YtbgodclhmgmcgaaGreatDoor
namespace Go.Proofs.YtbgodclhmgmcgaaGreatDoor
open Go Go.RowKit
mutual
def nodes:Qm → Nat
 | ⟨_,_,_,_,l⟩=>1 + Q4A l
def Q4A:List Qm → Nat
 | []=>0
 | e :: l=>nodes e + Q4A l
end
theorem Q9d (e:Qm):nodes e = 1 + Q4A e.kids:=by cases e; simp [nodes]
theorem nodesL_app : ∀ (a b:List Qm),Q4A (a ++ b) = Q4A a + Q4A b
 | [],b=>by simp [Q4A]
 | x :: a,b=>by simp only [List.cons_append,Q4A]; rw [nodesL_app a b]; omega
theorem Qa8 {x:Qm} : ∀ {l:List Qm},x ∈ l → nodes x ≤ Q4A l
 | y :: l,h=>by
   simp only [Q4A]
   rcases List.mem_cons.1 h with rfl | h
   · omega
   · have:=Qa8 h; omega
theorem Qa7 : ∀ (l:List Qm),l.length ≤ Q4A l
 | []=>by simp
 | x :: l=>by
   have:=Qa7 l
   simp only [List.length_cons,Q4A,Q9d]; omega
theorem nodesL_take {l:List Qm} {i:Nat} {x:Qm} (h:l[i]? = some x):Q4A (l.take (i + 1)) = Q4A (l.take i) + 1 + Q4A x.kids:=by
 rw [List.take_add_one,h,nodesL_app]
 simp [Q4A,Q9d]; omega
theorem ok_kids {x:Qm} (h:ok_Api_ExprD x):x.kids.length ≤ 1759218604390 ∧ ∀ y ∈ x.kids,ok_Api_ExprD y:=by
 cases h with
 | mk _ _ _ _ _ h4 g4=>exact ⟨h4,g4⟩
theorem ok_val {x:Qm} (h:ok_Api_ExprD x):ok_V x.value:=by
 cases h with
 | mk _ _ h1 _ _ _ _=>exact h1
theorem exprsof_is : ∀ (m N:Nat) (l:List Qm) (most:Int),(∀ y ∈ l,ok_Api_ExprD y) → l.length ≤ 1759218604390 → 9223372036854775808 + m < N → -1 ≤ most → most + 1 ≤ m → most ≤ 1000000 →
   ∃ v,Q1R N l most = some v ∧ 0 ≤ v ∧ v ≤ most + 1 ∧ (v ≤ most → v = Q4A l):=by
 intro m
 induction m with
 | zero =>
   intro N l most hok hl hN h1 h2 h3
   obtain ⟨N,rfl⟩ : ∃ k,N = k + 1:=⟨N - 1,by omega⟩
   have hm:most = -1:=by omega
   subst hm
   show ∃ v,Q2v N (Q1R N) l (-1) = some v ∧ _
   unfold Q2v
   obtain ⟨k,hk⟩ : ∃ k,N = k + 1:=⟨N - 1,by omega⟩
   have hs:Q25 N l (-1) (Q1R N) (0,0) = some (.inr 0):=by
    unfold Q25
    by_cases h : 0 < l.length
    · simp only [h,decide_true,if_true]; rfl
    · simp only [h,decide_false,Bool.false_eq_true,if_false]; rfl
   have hi:Q1h (Q25 N l (-1) (Q1R N)) N (0,0) = some 0:=by
    have:=Q2u (n:=N - 1) hs
    rwa [show N - 1 + 1 = N by omega] at this
   rw [hi,Q7,QY (by omega)]
   exact ⟨_,rfl,by decide,by decide,fun h=>by exact absurd h (by decide)⟩
 | succ m ih =>
   intro N l most hok hl hN h1 h2 h3
   obtain ⟨N,rfl⟩ : ∃ k,N = k + 1:=⟨N - 1,by omega⟩
   show ∃ v,Q2v N (Q1R N) l most = some v ∧ _
   unfold Q2v
   obtain ⟨o, e1, e2, e3, e4⟩ := Q5c (f := Q25 N l most (Q1R N)) (fun s => s.1 ≤ l.length ∧ 0 ≤ s.2 ∧ s.2 ≤ most + 1 ∧ (s.2 ≤ most → s.2 = Q4A (l.take s.1))) (fun s => l.length - s.1)
    (fun o=>0 ≤ o ∧ o ≤ most + 1 ∧ (o ≤ most → o = Q4A l)) (fun s hs=>by
     obtain ⟨i,c⟩:=s
     obtain ⟨g1,g2,g3,g4⟩:=hs
     simp only at g1 g2 g3 g4
     unfold Q25
     simp only
     by_cases hlt:i < l.length
     ·have hx:=List.getElem?_eq_getElem hlt
      rw [if_pos (by simpa using hlt),Q7]
      by_cases hc:c ≤ most
      ·    rw [if_pos (by simpa using hc),QY (by omega),hx,Q7,QY (by omega),QY (by omega)]
           have hmem:=List.getElem_mem hlt
           obtain ⟨k1,k2⟩:=ok_kids (hok _ hmem)
           obtain ⟨v,v1,v2,v3,v4⟩:=ih N l[i].kids (most - c - 1) k2 k1 (by omega) (by omega) (by omega) (by omega)
           rw [v1,Q7,QY (by omega),QY (by omega)]
           left
           refine ⟨_,rfl,⟨by simp only; omega,by simp only; omega,by simp only; omega,fun hle=>?_⟩,by simp only; omega⟩
           simp only at hle ⊢
           rw [nodesL_take hx]
           have a1:=g4 hc
           have a2:=v4 (by omega)
           omega
      ·    rw [if_neg (by simpa using hc)]
           right
           exact ⟨c,rfl,g2,g3,fun h=>absurd h hc⟩
     ·rw [if_neg (by simpa using hlt),Q7,if_neg (by simp)]
      right
      refine ⟨c,rfl,g2,g3,fun h=>?_⟩
      have:=g4 h
      rwa [List.take_of_length_le (by omega)] at this) N (0,0) ⟨by simp,by simp,by simp only; omega,fun _=>by simp [Q4A]⟩ (by simp only; omega)
   rw [e1,Q7,QY (by omega)]
   refine ⟨_,rfl,?_,?_,?_⟩ <;> unfold minI
   · split <;> omega
   · split <;> omega
   ·intro h
    split at h
    · omega
    ·rename_i h5
     rw [if_neg h5]; exact e4 h
end Go.Proofs.YtbgodclhmgmcgaaGreatDoor
