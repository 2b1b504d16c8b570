import Derived.Test.YtbgodclhmgmcgaaGreatDoorExprLP
import Derived.Test.YtbgodclhmgmcgaaGreatDoorNaivT
namespace Go.Proofs.YtbgodclhmgmcgaaGreatDoor
open Go Go.RowKit
theorem do_same {N N' : Nat} {op:Int} {l:List V} (hN : 9223372036854775808 ≤ N) (hN' : 9223372036854775808 ≤ N'):Q35 N op l = Q35 N' op l:=by
 by_cases h2:l.length ≤ 2
 ·have e:Q1h (Q2c N l) N (0,false) = Q1h (Q2c N' l) N' (0,false):=by
   have e1:Q2c N l = Q2c N' l:=rfl
   rcases Nat.le_total N N' with h | h
   ·rcases loop_tot hN h2 with ⟨b,hb⟩ | hb
    · rw [hb]; exact (Qb6 (by rw [e1] at hb; exact hb) h).symm
    · rw [hb]; exact (Qb6 (by rw [e1] at hb; exact hb) h).symm
   ·rcases loop_tot hN' h2 with ⟨b,hb⟩ | hb
    · rw [hb]; exact Qb6 (by rw [← e1] at hb; exact hb) h
    · rw [hb]; exact Qb6 (by rw [← e1] at hb; exact hb) h
  unfold Q35
  rw [e]
  rfl
 ·unfold Q35
  rw [(c1_is N op).1,(c1_is N' op).1,Q7,Q7,bad_is]
  have hb:op < 1 ∨ op > 11 ∨ l.length ≠ (if op = 4 ∨ op = 11 then 1 else 2):=.inr (.inr (by split <;> omega))
  rw [Q7,Q7,if_pos (by simpa using hb),if_pos (by simpa using hb)]
theorem both2 : ∀ (m N N' : Nat) (e:Qm) (vars:List V),ok_Api_ExprD e → nodes e ≤ m → m ≤ 1000 → 9223372036854775808 + m ≤ N → 9223372036854775808 + m ≤ N' → (∀ v ∈ vars,okV v) → vars.length ≤ 1000000 →
   at_ (Q2j N) vars e = at_ (Q2j N') vars e:=by
 intro m
 induction m with
 | zero =>
   intro N N' e vars _ hn
   rw [Q9d] at hn; omega
 | succ m ih =>
   intro N N' e vars hok hn hm hN hN' hv hvl
   obtain ⟨N,rfl⟩ : ∃ k,N = k + 1:=⟨N - 1,by omega⟩
   obtain ⟨N',rfl⟩ : ∃ k,N' = k + 1:=⟨N' - 1,by omega⟩
   obtain ⟨k,v,x,o,kids⟩:=e
   have hN1 : 9223372036854775808 ≤ N:=by omega
   have hN2 : 9223372036854775808 ≤ N':=by omega
   rw [Q9d] at hn
   simp only at hn
   show Q55 N (Q2j N) k v.k v.n v.s x o kids vars = Q55 N' (Q2j N') k v.k v.n v.s x o kids vars
   unfold Q55
   by_cases k3:k = 3
   ·subst k3
    simp only [show ((3:Int) == 3) = true from rfl,if_true,show ((3:Int) == 1) = false from rfl,show ((3:Int) == 2) = false from rfl,Bool.false_eq_true,if_false]
    unfold Q6j Q7W
    have hkl:kids.length ≤ 1000000:=by have:=Qa7 kids; omega
    rw [lrow hN1 hkl,lrow hN2 hkl]
    obtain ⟨h4,g4⟩:=ok_kids hok
    simp only at h4 g4
    have hall:allR (at_ (Q2j N) vars) kids [] = allR (at_ (Q2j N') vars) kids []:=by
     have : ∀ (l:List Qm) (acc:List V),(∀ y ∈ l,y ∈ kids) → allR (at_ (Q2j N) vars) l acc = allR (at_ (Q2j N') vars) l acc:=by
      intro l
      induction l with
      | nil=>intro acc _; rfl
      | cons y l ihl =>
        intro acc hy
        have hyk:=hy y (by simp)
        unfold allR
        rw [ih N N' y vars (g4 y hyk) (by have:=Qa8 hyk; omega) (by omega) (by omega) (by omega) hv hvl]
        congr 1
        funext ⟨a,b,c,e⟩
        simp only
        rw [ihl _ (fun z hz=>hy z (by simp [hz]))]
     exact this kids [] (fun y hy=>hy)
    rw [hall]
    congr 1
    congr 1
    funext ⟨a,b⟩
    simp only
    split
    · rfl
    · rw [do_same hN1 hN2]
   ·have b3:(k == 3) = false:=by simpa using k3
    simp only [b3,Bool.false_eq_true,if_false]
    rfl
end Go.Proofs.YtbgodclhmgmcgaaGreatDoor
