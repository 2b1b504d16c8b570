import Derived.Test.YtbgodclhmgmcgaaGreatDoorExprP
import Derived.Test.YtbgodclhmgmcgaaGreatDoorExprN
namespace Go.Proofs.YtbgodclhmgmcgaaGreatDoor
open Go Go.RowKit
def okV (v:V):Prop:=Q2b v.n ∧ v.s.size ≤ 140737488351232
def resOk (r:Say):Prop:=Q2b r.2.1 ∧ r.2.2.1.size ≤ 140737488351232 ∧ (r.2.2.2 = 0 → rightP ⟨r.1,r.2.1,r.2.2.1⟩)
theorem zero64:Q2b 0:=by unfold Q2b; omega
theorem size0:(⟨#[]⟩ : ByteArray).size ≤ 140737488351232:=by decide
theorem Qb7 {n:Nat} (h:n ≠ 0):resOk (0,0,(⟨#[]⟩ : ByteArray),n):=⟨zero64,size0,fun q=>absurd q h⟩
theorem sure_is (N:Nat) (v:V) : ∃ q:Bool,(q = true ↔ rightP v) ∧ Q26 N v.k v.n v.s = some q ∧ Q8d N v.k v.n v.s = some (if q = true then (v.k,v.n,v.s,0) else (0,0,(⟨#[]⟩ : ByteArray),2)):=by
 obtain ⟨q,h1,h2⟩:=right_is N v
 refine ⟨q,h2,h1,?_⟩
 unfold Q8d
 rw [h1,Q7]
 cases q <;> rfl
theorem resOk_sure {v:V} {q:Bool} (hv:okV v) (h:q = true ↔ rightP v):resOk (if q = true then (v.k,v.n,v.s,0) else (0,0,(⟨#[]⟩ : ByteArray),2)):=by
 cases q with
 | true=>exact ⟨hv.1,hv.2,fun _=>h.1 rfl⟩
 | false=>exact Qb7 (by decide)
theorem allR_both {f g:Qm → Option Say} : ∀ (l:List Qm) (acc:List V),(∀ x ∈ l,∃ r,f x = some r ∧ g x = some r ∧ resOk r) → (∀ v ∈ acc,okV v) →
   ∃ o,allR f l acc = some o ∧ allR g l acc = some o ∧ (∀ a,o = .inl a → ∀ v ∈ a,okV v) ∧ (∀ e,o = .inr e → e ≠ 0)
 | [],acc,_,ha=>⟨.inl acc,rfl,rfl,fun a h=>(by cases h; exact ha),fun e h=>(by cases h)⟩
 | x :: l,acc,h,ha=>by
   obtain ⟨⟨a,b,c,e⟩,h1,h2,h3⟩:=h x (by simp)
   unfold allR
   rw [h1,h2]
   simp only [Q7]
   by_cases he:e = 0
   ·subst he
    simp only [bne_self_eq_false,Bool.false_eq_true,if_false]
    exact allR_both l _ (fun y hy=>h y (by simp [hy])) (fun v hv=>by
     rcases List.mem_append.1 hv with hv | hv
     · exact ha v hv
     ·simp only [List.mem_cons,List.not_mem_nil,or_false] at hv
      subst hv; exact ⟨h3.1,h3.2.1⟩)
   ·rw [if_pos (by simpa using he),if_pos (by simpa using he)]
    exact ⟨.inr e,rfl,rfl,fun a h=>(by cases h),fun e' h=>(by cases h; exact he)⟩
theorem rright0 (N:Nat):Q43 N 0 0 (⟨#[]⟩ : ByteArray) = some false:=rfl
theorem both : ∀ (m N:Nat) (e:Qm) (vars:List V),ok_Api_ExprD e → nodes e ≤ m → m ≤ 1000 → 9223372036854775808 + m ≤ N → (∀ v ∈ vars,okV v) → vars.length ≤ 1000000 →
   ∃ r,at_ (Q2j N) vars e = some r ∧ at_ (Q5T N) vars e = some r ∧ resOk r:=by
 intro m
 induction m with
 | zero =>
   intro N e vars _ hn
   rw [Q9d] at hn; omega
 | succ m ih =>
   intro N e vars hok hn hm hN hv hvl
   obtain ⟨N,rfl⟩ : ∃ k,N = k + 1:=⟨N - 1,by omega⟩
   obtain ⟨k,v,x,o,kids⟩:=e
   have hN1 : 9223372036854775808 ≤ N:=by omega
   rw [Q9d] at hn
   simp only at hn
   show ∃ r,Q55 N (Q2j N) k v.k v.n v.s x o kids vars = some r ∧ Q6V N (Q5T N) k v.k v.n v.s x o kids vars = some r ∧ resOk r
   have hokv:okV v:=⟨inK_i64 (ok_val hok).2.1,(ok_val hok).2.2⟩
   unfold Q55 Q6V Q8e
   by_cases k1:k = 1
   ·subst k1
    simp only [show ((1:Int) == 1) = true from rfl,if_true]
    unfold Q95
    obtain ⟨q,q1,q2,q3⟩:=sure_is N v
    rw [q3]
    refine ⟨_,rfl,?_,resOk_sure hokv q1⟩
    rw [Q1W]
    simp only
    rw [← right_same v.k v.n hN1 (by have:=hokv.2; omega),q2,Q7]
    cases q <;> rfl
   ·have b1:(k == 1) = false:=by simpa using k1
    simp only [b1,Bool.false_eq_true,if_false]
    by_cases k2:k = 2
    ·subst k2
     simp only [show ((2:Int) == 2) = true from rfl,if_true]
     unfold Q96
     by_cases hr : 0 ≤ x ∧ x < (vars.length:Int)
     ·have hlt:x.toNat < vars.length:=by omega
      have hx:=List.getElem?_eq_getElem hlt
      obtain ⟨q,q1,q2,q3⟩:=sure_is N vars[x.toNat]
      have hvx:=hv _ (List.getElem_mem hlt)
      refine ⟨_,?_,?_,resOk_sure hvx q1⟩
      · rw [if_neg (by simpa using hr.1),Q7,if_neg (by simpa using hr.2),QY hr.1,hx,Q7,q3]
        rfl
      · rw [if_pos (by simpa using hr.1),Q7,if_pos (by simpa using hr.2),QY hr.1,hx,Q7,Q1W]
        simp only
        rw [← right_same _ _ hN1 (by have:=hvx.2; omega),q2,Q7]
        cases q <;> rfl
     ·refine ⟨_,?_,?_,Qb7 (n:=2) (by decide)⟩
      · by_cases h0:x < 0
        · rw [if_pos (by simpa using h0)]; rfl
        · rw [if_neg (by simpa using h0),Q7,if_pos (by simp; omega)]; rfl
      · by_cases h0:x ≥ 0
        ·rw [if_pos (by simpa using h0),Q7,if_neg (by simp; omega),Q1W]
         simp only
         rw [rright0]; rfl
        ·rw [if_neg (by simpa using h0),Q7,if_neg (by simp),Q1W]
         simp only
         rw [rright0]; rfl
    ·have b2:(k == 2) = false:=by simpa using k2
     simp only [b2,Bool.false_eq_true,if_false]
     by_cases k3:k = 3
     ·subst k3
      simp only [show ((3:Int) == 3) = true from rfl,if_true]
      unfold Q6j Q7W
      have hkl:kids.length ≤ 1000000:=by have:=Qa7 kids; omega
      rw [lrow hN1 hkl,lrowR hN1 hkl]
      obtain ⟨h4,g4⟩:=ok_kids hok
      simp only at h4 g4
      obtain ⟨w,w1,w2,w3,w4⟩:=allR_both (f:=at_ (Q2j N) vars) (g:=at_ (Q5T N) vars) kids [] (fun y hy=>ih N y vars (g4 y hy) (by have:=Qa8 hy; omega) (by omega) (by omega) hv hvl) (by simp)
      rw [w1,w2]
      cases w with
      | inr e =>
        have he:=w4 e rfl
        refine ⟨_,?_,rfl,Qb7 he⟩
        simp only [upR,Q4B,Q7]
        rw [if_pos (by simpa using he)]; rfl
      | inl a =>
        have ha:=w3 a rfl
        obtain ⟨⟨rk,rn,re⟩,d1,d2⟩:=do_both (N:=N) (op:=o) (l:=a) hN1 ha
        have hres:=do_res hN1 d1
        refine ⟨(((rk:Nat):Int),rn,(⟨#[]⟩ : ByteArray),re),?_,?_,?_⟩
        ·simp only [upR,id,Q1W,Q7]
         rw [if_neg (by simp),d1]; rfl
        ·simp only [upR,id,Q1W]
         rw [d2]; rfl
        ·rcases hres with ⟨r1,r2,r3⟩ | ⟨r1,r2,r3⟩
         ·subst r1; subst r2
          exact ⟨r3,size0,fun _=>.inl ⟨rfl,rfl⟩⟩
         ·subst r1; subst r2
          exact Qb7 r3
     ·have b3:(k == 3) = false:=by simpa using k3
      simp only [b3,Bool.false_eq_true,if_false]
      refine ⟨_,rfl,?_,Qb7 (n:=2) (by decide)⟩
      rw [Q1W]
      simp only
      rw [rright0]; rfl
end Go.Proofs.YtbgodclhmgmcgaaGreatDoor
