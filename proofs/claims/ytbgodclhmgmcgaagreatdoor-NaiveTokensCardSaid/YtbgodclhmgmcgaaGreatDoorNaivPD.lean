import Derived.Test.YtbgodclhmgmcgaaGreatDoorExprN
import Derived.Test.YtbgodclhmgmcgaaGreatDoorXM
namespace Go.Proofs.YtbgodclhmgmcgaaGreatDoor
open Go Go.RowKit
def okV (v:V):Prop:=Q20 v.n∧v.s.size≤140737488351232
def resOk (r:Say):Prop:=Q20 r.2.1∧r.2.2.1.size≤140737488351232∧(r.2.2.2=0→rightP ⟨r.1,r.2.1,r.2.2.1⟩)
theorem zero64:Q20 0:=by unfold Q20;omega
theorem size0:(⟨#[]⟩ : ByteArray).size≤140737488351232:=by decide
theorem Qd2 {n:Nat} (h:n≠0):resOk (0,0,(⟨#[]⟩ : ByteArray),n):=⟨zero64,size0,fun q=>absurd q h⟩
theorem sure_is (N:Nat)(v:V) : ∃ q:Bool,(q=true ↔ rightP v)∧Q1S N v.k v.n v.s=some q∧Q9B N v.k v.n v.s=some (if q=true then (v.k,v.n,v.s,0) else (0,0,(⟨#[]⟩ : ByteArray),2)):=by
 obtain ⟨q,h1,h2⟩:=right_is N v
 refine ⟨q,h2,h1,?_⟩
 unfold Q9B
 rw [h1,Q0]
 cases q <;> rfl
theorem resOk_sure {v:V} {q:Bool} (hv:okV v)(h:q=true ↔ rightP v):resOk (if q=true then (v.k,v.n,v.s,0) else (0,0,(⟨#[]⟩ : ByteArray),2)):=by
 cases q with
 | true=>exact ⟨hv.1,hv.2,fun _=>h.1 rfl⟩
 | false=>exact Qd2 (by decide)
theorem allR_both {f g:Q4→Option Say} : ∀ (l:List Q4)(acc:List V),(∀ x∈l,∃ r,f x=some r∧g x=some r∧resOk r)→(∀ v∈acc,okV v)→
   ∃ o,allR f l acc=some o∧allR g l acc=some o∧(∀ a,o=.inl a→∀ v∈a,okV v)∧(∀ e,o=.inr e→e≠0)
 | [],acc,_,ha=>⟨.inl acc,rfl,rfl,fun a h=>(by cases h;exact ha),fun e h=>(by cases h)⟩
 | x :: l,acc,h,ha=>by
   obtain ⟨⟨a,b,c,e⟩,h1,h2,h3⟩:=h x (by simp)
   unfold allR
   rw [h1,h2]
   simp only [Q0]
   by_cases he:e=0
   ·subst he
    simp only [bne_self_eq_false,Bool.false_eq_true,if_false]
    exact allR_both l _ (fun y hy=>h y (by simp [hy])) (fun v hv=>by
     rcases List.mem_append.1 hv with hv | hv
     · exact ha v hv
     ·simp only [List.mem_cons,List.not_mem_nil,or_false] at hv
      subst hv;exact ⟨h3.1,h3.2.1⟩)
   ·rw [if_pos (by simpa using he),if_pos (by simpa using he)]
    exact ⟨.inr e,rfl,rfl,fun a h=>(by cases h),fun e' h=>(by cases h;exact he)⟩
theorem rright0 (N:Nat):Q1D N 0 0 (⟨#[]⟩ : ByteArray)=some false:=rfl
theorem both : ∀ (m N:Nat) (e:Q4) (vars:List V),ok_Api_ExprD e → Q8a e ≤ m → m ≤ 1000 → 9223372036854775808 + m ≤ N → (∀ v ∈ vars,okV v) → vars.length ≤ 1000000 →
   ∃ r,at_ (Q1o N) vars e=some r∧at_ (Q2x N) vars e=some r∧resOk r:=by
 intro m
 induction m with
 | zero =>
   intro N e vars _ hn
   rw [Q56] at hn;omega
 | succ m ih =>
   intro N e vars hok hn hm hN hv hvl
   obtain ⟨N,rfl⟩ : ∃ k,N=k+1:=⟨N - 1,by omega⟩
   obtain ⟨k,v,x,o,kids⟩:=e
   have hN1 : 9223372036854775808≤N:=by omega
   rw [Q56] at hn
   simp only at hn
   show ∃ r,Q42 N (Q1o N) k v.k v.n v.s x o kids vars=some r∧Q50 N (Q2x N) k v.k v.n v.s x o kids vars=some r∧resOk r
   have hokv:okV v:=⟨inK_i64 (ok_val hok).2.1,(ok_val hok).2.2⟩
   unfold Q42 Q50 Q7Z
   by_cases k1:k=1
   ·subst k1
    simp only [show ((1:Int)==1)=true from rfl,if_true]
    unfold Qau
    obtain ⟨q,q1,q2,q3⟩:=sure_is N v
    rw [q3]
    refine ⟨_,rfl,?_,resOk_sure hokv q1⟩
    rw [Q1b]
    simp only
    rw [← Qdt v.k v.n hN1 (by have:=hokv.2;omega),q2,Q0]
    cases q <;> rfl
   ·have b1:(k == 1) = false:=by simpa using k1
    simp only [b1,Bool.false_eq_true,if_false]
    by_cases k2:k=2
    ·subst k2
     simp only [show ((2:Int)==2)=true from rfl,if_true]
     unfold Q7A
     by_cases hr : 0≤x∧x < (vars.length:Int)
     ·have hlt:x.toNat < vars.length:=by omega
      have hx:=List.getElem?_eq_getElem hlt
      obtain ⟨q,q1,q2,q3⟩:=sure_is N vars[x.toNat]
      have hvx:=hv _ (List.getElem_mem hlt)
      refine ⟨_,?_,?_,resOk_sure hvx q1⟩
      · rw [if_neg (by simpa using hr.1),Q0,if_neg (by simpa using hr.2),Qr hr.1,hx,Q0,q3]
        rfl
      · rw [if_pos (by simpa using hr.1),Q0,if_pos (by simpa using hr.2),Qr hr.1,hx,Q0,Q1b]
        simp only
        rw [← Qdt _ _ hN1 (by have:=hvx.2;omega),q2,Q0]
        cases q <;> rfl
     ·refine ⟨_,?_,?_,Qd2 (n:=2) (by decide)⟩
      · by_cases h0:x < 0
        · rw [if_pos (by simpa using h0)];rfl
        · rw [if_neg (by simpa using h0),Q0,if_pos (by simp;omega)];rfl
      · by_cases h0:x ≥ 0
        ·rw [if_pos (by simpa using h0),Q0,if_neg (by simp;omega),Q1b]
         simp only
         rw [rright0];rfl
        ·rw [if_neg (by simpa using h0),Q0,if_neg (by simp),Q1b]
         simp only
         rw [rright0];rfl
    ·have b2:(k == 2) = false:=by simpa using k2
     simp only [b2,Bool.false_eq_true,if_false]
     by_cases k3:k=3
     ·subst k3
      simp only [show ((3:Int)==3)=true from rfl,if_true]
      unfold Q72 Q8x
      have hkl:kids.length≤1000000:=by have:=Q4o kids;omega
      rw [lrow hN1 hkl,lrowR hN1 hkl]
      obtain ⟨h4,g4⟩:=ok_kids hok
      simp only at h4 g4
      obtain ⟨w,w1,w2,w3,w4⟩:=allR_both (f:=at_ (Q1o N) vars) (g:=at_ (Q2x N) vars) kids [] (fun y hy=>ih N y vars (g4 y hy) (by have:=Q55 hy;omega) (by omega) (by omega) hv hvl) (by simp)
      rw [w1,w2]
      cases w with
      | inr e =>
        have he:=w4 e rfl
        refine ⟨_,?_,rfl,Qd2 he⟩
        simp only [upR,Q1K,Q0]
        rw [if_pos (by simpa using he)];rfl
      | inl a =>
        have ha:=w3 a rfl
        obtain ⟨⟨rk,rn,re⟩,d1,d2⟩:=do_both (N:=N) (op:=o) (l:=a) hN1 ha
        have hres:=do_res hN1 d1
        refine ⟨(((rk:Nat):Int),rn,(⟨#[]⟩ : ByteArray),re),?_,?_,?_⟩
        ·simp only [upR,id,Q1b,Q0]
         rw [if_neg (by simp),d1];rfl
        ·simp only [upR,id,Q1b]
         rw [d2];rfl
        ·rcases hres with ⟨r1,r2,r3⟩ | ⟨r1,r2,r3⟩
         ·subst r1;subst r2
          exact ⟨r3,size0,fun _=>.inl ⟨rfl,rfl⟩⟩
         ·subst r1;subst r2
          exact Qd2 r3
     ·have b3:(k==3)=false:=by simpa using k3
      simp only [b3,Bool.false_eq_true,if_false]
      refine ⟨_,rfl,?_,Qd2 (n:=2) (by decide)⟩
      rw [Q1b]
      simp only
      rw [rright0];rfl
end Go.Proofs.YtbgodclhmgmcgaaGreatDoor
namespace Go.Proofs.YtbgodclhmgmcgaaGreatDoor
open Go Go.RowKit
structure Tells where
 mt:Qn→List Bool→List V→QP→Option (List Bool×List V)
 ev:Qn→List V→Bool
 sm:Qn→List Bool→List V→Bool
section
variable (S:Tells) (facts:List QP)
def goN:List Qn → List Bool → List V → List Int → List (List Int × List V)
 | [],_,vs,ids=>[(ids,vs)]
 | c :: cs,hs,vs,ids =>
   if c.kind=3 then (if S.ev c vs then goN cs hs vs ids else [])
   else if c.kind=2 then (if S.sm c hs vs then [] else goN cs hs vs ids)
   else facts.flatMap fun f=> match S.mt c hs vs f with
    | some p=>goN cs p.1 p.2 (ids++[f.id])
    | none=>[]
def Q4r:List Qn → List Bool → List V → Nat
 | [],_,_=>0
 | c :: cs,hs,vs =>
   if c.kind=3 then (if S.ev c vs then 1+Q4r cs hs vs else 0)
   else if c.kind=2 then (if S.sm c hs vs then 0 else 1+Q4r cs hs vs)
   else (facts.map fun f=> match S.mt c hs vs f with
    | some p=>1+Q4r cs p.1 p.2
    | none=>0).sum
def resF (c:Qn)(cs:List Qn)(hs:List Bool)(vs:List V)(ids:List Int)(f:QP):List (List Int×List V):=match S.mt c hs vs f with
 | some p=>goN S facts cs p.1 p.2 (ids++[f.id])
 | none=>[]
def cosF (c:Qn)(cs:List Qn)(hs:List Bool)(vs:List V)(f:QP):Nat:=match S.mt c hs vs f with
 | some p=>1+Q4r S facts cs p.1 p.2
 | none=>0
end
def tokOf (r:Int)(x:List Int×List V):Ql:=⟨r,x.1⟩
theorem flat_len {α β:Type} {l:List α} {g : α→List β} {h : α→Nat} (hl : ∀ x∈l,(g x).length≤h x):(l.flatMap g).length≤(l.map h).sum:=by
 induction l with
 | nil=>simp
 | cons x l ih =>
   rw [List.flatMap_cons,List.length_append,List.map_cons,List.sum_cons]
   have:=ih fun y hy=>hl y (List.mem_cons_of_mem _ hy)
   have:=hl x List.mem_cons_self
   omega
theorem go_len {S:Tells} {facts:List QP} : ∀ (cs:List Qn)(hs:List Bool)(vs:List V)(ids:List Int),(goN S facts cs hs vs ids).length≤Q4r S facts cs hs vs+1
 | [],hs,vs,ids=>by simp [goN,Q4r]
 | c :: cs,hs,vs,ids=>by
   unfold goN Q4r
   split
   ·split
    · have:=go_len (S:=S) (facts:=facts) cs hs vs ids;omega
    · simp
   ·split
    ·split
     · simp
     · have:=go_len (S:=S) (facts:=facts) cs hs vs ids;omega
    ·refine Nat.le_succ_of_le (flat_len fun f _=>?_)
     cases hm:S.mt c hs vs f with
     | some p=>have:=go_len (S:=S) (facts:=facts) cs p.1 p.2 (ids++[f.id]);simp only;omega
     | none=>simp
section
variable {S:Tells} {facts:List QP} {c:Qn} {cs:List Qn} {hs:List Bool} {vs:List V} {ids:List Int}
theorem cost3 (h:c.kind=3):Q4r S facts (c :: cs) hs vs=if S.ev c vs then 1+Q4r S facts cs hs vs else 0:=by rw [Q4r,if_pos h]
theorem cost2 (h3 : ¬ c.kind=3)(h:c.kind=2):Q4r S facts (c :: cs) hs vs=if S.sm c hs vs then 0 else 1+Q4r S facts cs hs vs:=by rw [Q4r,if_neg h3,if_pos h]
theorem cost1 (h3 : ¬ c.kind=3)(h : ¬ c.kind=2):Q4r S facts (c :: cs) hs vs=(facts.map (cosF S facts c cs hs vs)).sum:=by rw [Q4r,if_neg h3,if_neg h];rfl
theorem go3 (h:c.kind=3):goN S facts (c :: cs) hs vs ids=if S.ev c vs then goN S facts cs hs vs ids else []:=by rw [goN,if_pos h]
theorem go2 (h3 : ¬ c.kind=3)(h:c.kind=2):goN S facts (c :: cs) hs vs ids=if S.sm c hs vs then [] else goN S facts cs hs vs ids:=by rw [goN,if_neg h3,if_pos h]
theorem go1 (h3 : ¬ c.kind=3)(h : ¬ c.kind=2):goN S facts (c :: cs) hs vs ids=facts.flatMap (resF S facts c cs hs vs ids):=by rw [goN,if_neg h3,if_neg h];rfl
end
structure OkS (S:Tells) (I:List Bool→List V→Prop) (conds:List Qn) (facts:List QP):Prop where
 mt : ∀ N,9223372036855775808≤N→∀ c∈conds,c.kind≠3→c.kind≠2→∀ f∈facts,∀ hs vs,I hs vs→
  ∃ a b,Q6q N c.kind c.type c.args c.test.kind c.test.value.k c.test.value.n c.test.value.s c.test.var c.test.op c.test.kids f.id f.ty f.args hs vs=some (a,b,(S.mt c hs vs f).isSome)∧∀ p,S.mt c hs vs f=some p→p=(a,b)∧I a b
 ev : ∀ N,9223372036855775808≤N→∀ c∈conds,c.kind=3→∀ hs vs,I hs vs→
  ∃ k n s e,Q1o N c.test.kind c.test.value.k c.test.value.n c.test.value.s c.test.var c.test.op c.test.kids vs=some (k,n,s,e)∧S.ev c vs=(e==0 && (k==1 && n !=0))
 sm : ∀ N,9223372036855775808≤N→∀ c∈conds,c.kind=2→∀ hs vs,I hs vs→
  Q7T N c.kind c.type c.args c.test.kind c.test.value.k c.test.value.n c.test.value.s c.test.var c.test.op c.test.kids hs vs facts=some (S.sm c hs vs)
 len : ∀ hs vs,I hs vs→vs.length≤1000
end Go.Proofs.YtbgodclhmgmcgaaGreatDoor
