import Derived.Test.YtbgodclhmgmcgaaGreatDoorExprN
import Derived.Test.YtbgodclhmgmcgaaGreatDoorXM
namespace Go.Proofs.YtbgodclhmgmcgaaGreatDoor
open Go Go.RowKit
def okV (v:V):Prop:=Q1L v.n ∧ v.s.size ≤ 140737488351232
def resOk (r:Say):Prop:=Q1L r.2.1 ∧ r.2.2.1.size ≤ 140737488351232 ∧ (r.2.2.2 = 0 → rightP ⟨r.1,r.2.1,r.2.2.1⟩)
theorem zero64:Q1L 0:=by unfold Q1L; omega
theorem size0:(⟨#[]⟩ : ByteArray).size ≤ 140737488351232:=by decide
theorem Q9r {n:Nat} (h:n ≠ 0):resOk (0,0,(⟨#[]⟩ : ByteArray),n):=⟨zero64,size0,fun q=>absurd q h⟩
theorem sure_is (N:Nat) (v:V) : ∃ q:Bool,(q = true ↔ rightP v) ∧ Q1E N v.k v.n v.s = some q ∧ Q6V N v.k v.n v.s = some (if q = true then (v.k,v.n,v.s,0) else (0,0,(⟨#[]⟩ : ByteArray),2)):=by
 obtain ⟨q,h1,h2⟩:=right_is N v
 refine ⟨q,h2,h1,?_⟩
 unfold Q6V
 rw [h1,Q6]
 cases q <;> rfl
theorem resOk_sure {v:V} {q:Bool} (hv:okV v) (h:q = true ↔ rightP v):resOk (if q = true then (v.k,v.n,v.s,0) else (0,0,(⟨#[]⟩ : ByteArray),2)):=by
 cases q with
 | true=>exact ⟨hv.1,hv.2,fun _=>h.1 rfl⟩
 | false=>exact Q9r (by decide)
theorem allR_both {f g:Qe → Option Say} : ∀ (l:List Qe) (acc:List V),(∀ x ∈ l,∃ r,f x = some r ∧ g x = some r ∧ resOk r) → (∀ v ∈ acc,okV v) →
   ∃ o,allR f l acc = some o ∧ allR g l acc = some o ∧ (∀ a,o = .inl a → ∀ v ∈ a,okV v) ∧ (∀ e,o = .inr e → e ≠ 0)
 | [],acc,_,ha=>⟨.inl acc,rfl,rfl,fun a h=>(by cases h; exact ha),fun e h=>(by cases h)⟩
 | x :: l,acc,h,ha=>by
   obtain ⟨⟨a,b,c,e⟩,h1,h2,h3⟩:=h x (by simp)
   unfold allR
   rw [h1,h2]
   simp only [Q6]
   by_cases he:e = 0
   ·subst he
    simp only [bne_self_eq_false,Bool.false_eq_true,if_false]
    exact allR_both l _ (fun y hy=>h y (by simp [hy])) (fun v hv=>by
     rcases List.mem_append.1 hv with hv | hv
     · exact ha v hv
     ·simp only [List.mem_cons,List.not_mem_nil,or_false] at hv
      subst hv; exact ⟨h3.1,h3.2.1⟩)
   ·rw [if_pos (by simpa using he),if_pos (by simpa using he)]
    exact ⟨.inr e,rfl,rfl,fun a h=>(by cases h),fun e' h=>(by cases h; exact he)⟩
theorem rright0 (N:Nat):Q1r N 0 0 (⟨#[]⟩ : ByteArray) = some false:=rfl
theorem both : ∀ (m N:Nat) (e:Qe) (vars:List V),ok_Api_ExprD e → Q7g e ≤ m → m ≤ 1000 → 9223372036854775808 + m ≤ N → (∀ v ∈ vars,okV v) → vars.length ≤ 1000000 →
   ∃ r,at_ (Q1m N) vars e = some r ∧ at_ (Q2d N) vars e = some r ∧ resOk r:=by
 intro m
 induction m with
 | zero =>
   intro N e vars _ hn
   rw [Q5Y] at hn; omega
 | succ m ih =>
   intro N e vars hok hn hm hN hv hvl
   obtain ⟨N,rfl⟩ : ∃ k,N = k + 1:=⟨N - 1,by omega⟩
   obtain ⟨k,v,x,o,kids⟩:=e
   have hN1 : 9223372036854775808 ≤ N:=by omega
   rw [Q5Y] at hn
   simp only at hn
   show ∃ r,Q38 N (Q1m N) k v.k v.n v.s x o kids vars = some r ∧ Q3x N (Q2d N) k v.k v.n v.s x o kids vars = some r ∧ resOk r
   have hokv:okV v:=⟨inK_i64 (ok_val hok).2.1,(ok_val hok).2.2⟩
   unfold Q38 Q3x Q5C
   by_cases k1:k = 1
   ·subst k1
    simp only [show ((1:Int) == 1) = true from rfl,if_true]
    unfold Q7I
    obtain ⟨q,q1,q2,q3⟩:=sure_is N v
    rw [q3]
    refine ⟨_,rfl,?_,resOk_sure hokv q1⟩
    rw [Q18]
    simp only
    rw [← Q9M v.k v.n hN1 (by have:=hokv.2; omega),q2,Q6]
    cases q <;> rfl
   ·have b1:(k == 1) = false:=by simpa using k1
    simp only [b1,Bool.false_eq_true,if_false]
    by_cases k2:k = 2
    ·subst k2
     simp only [show ((2:Int) == 2) = true from rfl,if_true]
     unfold Q5k
     by_cases hr : 0 ≤ x ∧ x < (vars.length:Int)
     ·have hlt:x.toNat < vars.length:=by omega
      have hx:=List.getElem?_eq_getElem hlt
      obtain ⟨q,q1,q2,q3⟩:=sure_is N vars[x.toNat]
      have hvx:=hv _ (List.getElem_mem hlt)
      refine ⟨_,?_,?_,resOk_sure hvx q1⟩
      · rw [if_neg (by simpa using hr.1),Q6,if_neg (by simpa using hr.2),QC hr.1,hx,Q6,q3]
        rfl
      · rw [if_pos (by simpa using hr.1),Q6,if_pos (by simpa using hr.2),QC hr.1,hx,Q6,Q18]
        simp only
        rw [← Q9M _ _ hN1 (by have:=hvx.2; omega),q2,Q6]
        cases q <;> rfl
     ·refine ⟨_,?_,?_,Q9r (n:=2) (by decide)⟩
      · by_cases h0:x < 0
        · rw [if_pos (by simpa using h0)]; rfl
        · rw [if_neg (by simpa using h0),Q6,if_pos (by simp; omega)]; rfl
      · by_cases h0:x ≥ 0
        ·rw [if_pos (by simpa using h0),Q6,if_neg (by simp; omega),Q18]
         simp only
         rw [rright0]; rfl
        ·rw [if_neg (by simpa using h0),Q6,if_neg (by simp),Q18]
         simp only
         rw [rright0]; rfl
    ·have b2:(k == 2) = false:=by simpa using k2
     simp only [b2,Bool.false_eq_true,if_false]
     by_cases k3:k = 3
     ·subst k3
      simp only [show ((3:Int) == 3) = true from rfl,if_true]
      unfold Q4L Q62
      have hkl:kids.length ≤ 1000000:=by have:=Q6g kids; omega
      rw [lrow hN1 hkl,lrowR hN1 hkl]
      obtain ⟨h4,g4⟩:=ok_kids hok
      simp only at h4 g4
      obtain ⟨w,w1,w2,w3,w4⟩:=allR_both (f:=at_ (Q1m N) vars) (g:=at_ (Q2d N) vars) kids [] (fun y hy=>ih N y vars (g4 y hy) (by have:=Q6h hy; omega) (by omega) (by omega) hv hvl) (by simp)
      rw [w1,w2]
      cases w with
      | inr e =>
        have he:=w4 e rfl
        refine ⟨_,?_,rfl,Q9r he⟩
        simp only [upR,Q1t,Q6]
        rw [if_pos (by simpa using he)]; rfl
      | inl a =>
        have ha:=w3 a rfl
        obtain ⟨⟨rk,rn,re⟩,d1,d2⟩:=do_both (N:=N) (op:=o) (l:=a) hN1 ha
        have hres:=do_res hN1 d1
        refine ⟨(((rk:Nat):Int),rn,(⟨#[]⟩ : ByteArray),re),?_,?_,?_⟩
        ·simp only [upR,id,Q18,Q6]
         rw [if_neg (by simp),d1]; rfl
        ·simp only [upR,id,Q18]
         rw [d2]; rfl
        ·rcases hres with ⟨r1,r2,r3⟩ | ⟨r1,r2,r3⟩
         ·subst r1; subst r2
          exact ⟨r3,size0,fun _=>.inl ⟨rfl,rfl⟩⟩
         ·subst r1; subst r2
          exact Q9r r3
     ·have b3:(k == 3) = false:=by simpa using k3
      simp only [b3,Bool.false_eq_true,if_false]
      refine ⟨_,rfl,?_,Q9r (n:=2) (by decide)⟩
      rw [Q18]
      simp only
      rw [rright0]; rfl
end Go.Proofs.YtbgodclhmgmcgaaGreatDoor
namespace Go.Proofs.YtbgodclhmgmcgaaGreatDoor
open Go Go.RowKit
structure Tells where
 mt:QE → List Bool → List V → QP → Option (List Bool × List V)
 ev:QE → List V → Bool
 sm:QE → List Bool → List V → Bool
section
variable (S:Tells) (facts:List QP)
def goN:List QE → List Bool → List V → List Int → List (List Int × List V)
 | [],_,vs,ids=>[(ids,vs)]
 | c :: cs,hs,vs,ids =>
   if c.kind = 3 then (if S.ev c vs then goN cs hs vs ids else [])
   else if c.kind = 2 then (if S.sm c hs vs then [] else goN cs hs vs ids)
   else facts.flatMap fun f => match S.mt c hs vs f with
    | some p=>goN cs p.1 p.2 (ids ++ [f.id])
    | none=>[]
def Q6U:List QE → List Bool → List V → Nat
 | [],_,_=>0
 | c :: cs,hs,vs =>
   if c.kind = 3 then (if S.ev c vs then 1 + Q6U cs hs vs else 0)
   else if c.kind = 2 then (if S.sm c hs vs then 0 else 1 + Q6U cs hs vs)
   else (facts.map fun f => match S.mt c hs vs f with
    | some p=>1 + Q6U cs p.1 p.2
    | none=>0).sum
def resF (c:QE) (cs:List QE) (hs:List Bool) (vs:List V) (ids:List Int) (f:QP):List (List Int × List V):=match S.mt c hs vs f with
 | some p=>goN S facts cs p.1 p.2 (ids ++ [f.id])
 | none=>[]
def cosF (c:QE) (cs:List QE) (hs:List Bool) (vs:List V) (f:QP):Nat:=match S.mt c hs vs f with
 | some p=>1 + Q6U S facts cs p.1 p.2
 | none=>0
end
def tokOf (r:Int) (x:List Int × List V):QU:=⟨r,x.1⟩
theorem flat_len {α β:Type} {l:List α} {g : α → List β} {h : α → Nat} (hl : ∀ x ∈ l,(g x).length ≤ h x):(l.flatMap g).length ≤ (l.map h).sum:=by
 induction l with
 | nil=>simp
 | cons x l ih =>
   rw [List.flatMap_cons,List.length_append,List.map_cons,List.sum_cons]
   have:=ih fun y hy=>hl y (List.mem_cons_of_mem _ hy)
   have:=hl x List.mem_cons_self
   omega
theorem go_len {S:Tells} {facts:List QP} : ∀ (cs:List QE) (hs:List Bool) (vs:List V) (ids:List Int),(goN S facts cs hs vs ids).length ≤ Q6U S facts cs hs vs + 1
 | [],hs,vs,ids=>by simp [goN,Q6U]
 | c :: cs,hs,vs,ids=>by
   unfold goN Q6U
   split
   ·split
    · have:=go_len (S:=S) (facts:=facts) cs hs vs ids; omega
    · simp
   ·split
    ·split
     · simp
     · have:=go_len (S:=S) (facts:=facts) cs hs vs ids; omega
    ·refine Nat.le_succ_of_le (flat_len fun f _=>?_)
     cases hm:S.mt c hs vs f with
     | some p=>have:=go_len (S:=S) (facts:=facts) cs p.1 p.2 (ids ++ [f.id]); simp only; omega
     | none=>simp
section
variable {S:Tells} {facts:List QP} {c:QE} {cs:List QE} {hs:List Bool} {vs:List V} {ids:List Int}
theorem cost3 (h:c.kind = 3):Q6U S facts (c :: cs) hs vs = if S.ev c vs then 1 + Q6U S facts cs hs vs else 0:=by rw [Q6U,if_pos h]
theorem cost2 (h3 : ¬ c.kind = 3) (h:c.kind = 2):Q6U S facts (c :: cs) hs vs = if S.sm c hs vs then 0 else 1 + Q6U S facts cs hs vs:=by rw [Q6U,if_neg h3,if_pos h]
theorem cost1 (h3 : ¬ c.kind = 3) (h : ¬ c.kind = 2):Q6U S facts (c :: cs) hs vs = (facts.map (cosF S facts c cs hs vs)).sum:=by rw [Q6U,if_neg h3,if_neg h]; rfl
theorem go3 (h:c.kind = 3):goN S facts (c :: cs) hs vs ids = if S.ev c vs then goN S facts cs hs vs ids else []:=by rw [goN,if_pos h]
theorem go2 (h3 : ¬ c.kind = 3) (h:c.kind = 2):goN S facts (c :: cs) hs vs ids = if S.sm c hs vs then [] else goN S facts cs hs vs ids:=by rw [goN,if_neg h3,if_pos h]
theorem go1 (h3 : ¬ c.kind = 3) (h : ¬ c.kind = 2):goN S facts (c :: cs) hs vs ids = facts.flatMap (resF S facts c cs hs vs ids):=by rw [goN,if_neg h3,if_neg h]; rfl
end
end Go.Proofs.YtbgodclhmgmcgaaGreatDoor
