import Derived.Test.YtbgodclhmgmcgaaGreatDoorPtr
import Derived.Test.YtbgodclhmgmcgaaGreatDoorNaivE
namespace Go.Proofs.YtbgodclhmgmcgaaGreatDoor
open Go Go.RowKit
theorem in_isN {z:Int} {h:List Bool}:(if decide (z ≥ 0) = true then some (decide (z < ((h.length:Nat):Int))) else some false) = some (decide (0 ≤ z ∧ z < ((h.length:Nat):Int))):=by
 by_cases h0 : 0 ≤ z
 · rw [if_pos (by simpa using h0)]; simp [h0]
 · rw [if_neg (by simpa using h0)]; simp [h0]
theorem fit_is (N:Nat) {a:Q3S} {x:V} {hs:List Bool} {vs:List V} (hl:hs.length = vs.length) :
  ∃ h' v',Q3N N hs vs a.k a.var a.v.k a.v.n a.v.s x.k x.n x.s = some ((Q8l a x hs vs).isSome,h',v') ∧ ∀ p,Q8l a x hs vs = some p → p = (h',v'):=by
 unfold Q3N Q8l
 rw [in_isN,Q6]
 have ev:(⟨a.v.k,a.v.n,a.v.s⟩ : V) = a.v:=rfl
 have ex:(⟨x.k,x.n,x.s⟩ : V) = x:=rfl
 rw [ev,ex]
 by_cases k1:a.k = 1
 ·rw [if_pos (by simpa using k1),if_pos k1]
  exact ⟨hs,vs,rfl,fun p h=>(Option.some.inj h).symm⟩
 rw [if_neg (by simpa using k1),if_neg k1]
 by_cases k4:a.k = 4
 ·rw [if_pos (by simpa using k4),if_pos k4]
  by_cases hv:a.v = x
  ·rw [if_pos hv,decide_eq_true hv]
   exact ⟨hs,vs,rfl,fun p h=>(Option.some.inj h).symm⟩
  ·rw [if_neg hv,decide_eq_false hv]
   exact ⟨hs,vs,rfl,fun p h=>by cases h⟩
 rw [if_neg (by simpa using k4),if_neg k4]
 by_cases hin : 0 ≤ a.var ∧ a.var < ((hs.length:Nat):Int)
 ·have g1:a.var.toNat < hs.length:=by omega
  have g2:a.var.toNat < vs.length:=by omega
  rw [decide_eq_true hin]
  by_cases k3:a.k = 3
  ·rw [if_pos (by simpa using k3),if_pos k3,if_pos rfl,QC hin.1,List.getElem?_eq_getElem g1,Q6,List.getElem?_eq_getElem g2]
   by_cases hb:hs[a.var.toNat] = true
   ·rw [if_pos hb,QC hin.1,Q6]
    by_cases hv:vs[a.var.toNat] = x
    ·rw [if_pos ⟨hin.1,hin.2,by rw [hb],by rw [hv]⟩,decide_eq_true hv]
     exact ⟨hs,vs,rfl,fun p h=>(Option.some.inj h).symm⟩
    ·rw [if_neg (fun h=>hv (Option.some.inj h.2.2.2)),decide_eq_false hv]
     exact ⟨hs,vs,rfl,fun p h=>by cases h⟩
   ·rw [if_neg hb,if_neg (fun h=>hb (Option.some.inj h.2.2.1))]
    exact ⟨hs,vs,rfl,fun p h=>by cases h⟩
  ·rw [if_neg (by simpa using k3),if_neg k3]
   by_cases k2:a.k = 2
   ·unfold Q42
    rw [if_pos (by simpa using k2),if_pos k2,if_pos rfl,QC hin.1,List.getElem?_eq_getElem g1,Q6,QC hin.1,List.getElem?_eq_getElem g2,Q6,Q6,if_pos hin]
    exact ⟨_,_,rfl,fun p h=>(Option.some.inj h).symm⟩
   ·rw [if_neg (by simpa using k2),if_neg k2]
    exact ⟨hs,vs,rfl,fun p h=>by cases h⟩
 ·rw [decide_eq_false hin]
  by_cases k3:a.k = 3
  ·rw [if_pos (by simpa using k3),if_pos k3,if_neg (by simp),if_neg (fun h=>hin ⟨h.1,h.2.1⟩)]
   exact ⟨hs,vs,rfl,fun p h=>by cases h⟩
  ·rw [if_neg (by simpa using k3),if_neg k3]
   by_cases k2:a.k = 2
   ·unfold Q42
    rw [if_pos (by simpa using k2),if_pos k2,if_neg (by simp),Q6,if_neg hin]
    exact ⟨hs,vs,rfl,fun p h=>by cases h⟩
   ·rw [if_neg (by simpa using k2),if_neg k2]
    exact ⟨hs,vs,rfl,fun p h=>by cases h⟩
def Q8k:List Q3S → List V → List Bool → List V → Option (List Bool × List V)
 | [],_,hs,vs=>some (hs,vs)
 | _ :: _,[],_,_=>none
 | a :: al,x :: xs,hs,vs=>match Q8l a x hs vs with
   | some p=>Q8k al xs p.1 p.2
   | none=>none
theorem argsTo_len : ∀ {al:List Q3S} {xs:List V} {hs:List Bool} {vs:List V} {p:List Bool × List V},Q8k al xs hs vs = some p → p.1.length = hs.length ∧ p.2.length = vs.length
 | [],_,hs,vs,p,h=>by cases h; exact ⟨rfl,rfl⟩
 | _ :: _,[],_,_,_,h=>by cases h
 | a :: al,x :: xs,hs,vs,p,h=>by
   unfold Q8k at h
   split at h
   ·rename_i q hq
    have h1:=fitOne_len (h':=q.1) (vs':=q.2) hq
    have h2:=argsTo_len h
    exact ⟨h2.1.trans h1.1,h2.2.trans h1.2⟩
   · cases h
theorem args_loop {N:Nat} {al:List Q3S} {xs:List V} (hlen:al.length = xs.length) (hal:al.length ≤ 1000000) : ∀ (m i fuel:Nat) (hs:List Bool) (vs:List V),i + m = al.length → m < fuel → hs.length = vs.length →
   ∃ a b,Q19 (Q3j N al xs) fuel (i,hs,vs) = some (if (Q8k (al.drop i) (xs.drop i) hs vs).isSome = true then .inl (a,b) else .inr ([],[],false)) ∧ ∀ p,Q8k (al.drop i) (xs.drop i) hs vs = some p → p = (a,b):=by
 intro m
 induction m with
 | zero =>
   intro i fuel hs vs hi hf hl
   obtain ⟨fuel,rfl⟩ : ∃ q,fuel = q + 1:=⟨fuel - 1,by omega⟩
   obtain rfl:i = al.length:=by omega
   refine ⟨hs,vs,?_,fun p h=>?_⟩
   · rw [Q1a (o:=.inl (hs,vs)) (by unfold Q3j; simp only; rw [if_neg (by simp)]),List.drop_length]
     simp [Q8k]
   · rw [List.drop_length] at h; cases h; rfl
 | succ m ih =>
   intro i fuel hs vs hi hf hl
   obtain ⟨fuel,rfl⟩ : ∃ q,fuel = q + 1:=⟨fuel - 1,by omega⟩
   have h1:i < al.length:=by omega
   have h2:i < xs.length:=by omega
   obtain ⟨h',v',hfit,hp⟩:=fit_is N (a:=al[i]) (x:=xs[i]) hl
   rw [List.drop_eq_getElem_cons h1,List.drop_eq_getElem_cons h2]
   have hstep:Q3j N al xs (i,hs,vs) = if (Q8l al[i] xs[i] hs vs).isSome = true then some (.inl (i + 1,h',v')) else some (.inr (.inr ([],[],false))):=by
     unfold Q3j
     simp only
     rw [if_pos (by simpa using h1),List.getElem?_eq_getElem h1,Q6,List.getElem?_eq_getElem h2,Q6,hfit,Q6]
     cases (Q8l al[i] xs[i] hs vs).isSome with
     | true=>simp only [Bool.not_true,Bool.false_eq_true,if_false,if_true]; rw [QC (by omega)]
     | false=>simp only [Bool.not_false,if_true,Bool.false_eq_true,if_false]
   unfold Q8k
   cases hq:Q8l al[i] xs[i] hs vs with
   | some q =>
     have hq2:=hp q hq
     subst hq2
     have hlen2:=fitOne_len hq
     rw [hq] at hstep
     simp only [Option.isSome_some,if_true] at hstep
     rw [Q2f hstep]
     exact ih (i + 1) fuel h' v' (by omega) (by omega) (by omega)
   | none =>
     rw [hq] at hstep
     simp only [Option.isSome_none,Bool.false_eq_true,if_false] at hstep
     refine ⟨[],[],?_,fun p h=>by cases h⟩
     rw [Q1a hstep]
     simp
def madeB (hs:List Bool) (vs:List V):Bool:=hs.length == vs.length && (hs.zip vs).all fun p=>p.1 || decide (p.2 = Q5I)
theorem made_is {N:Nat} (hN : 1000001 ≤ N) {hs:List Bool} {vs:List V} (hh:hs.length ≤ 1000000):Q4Q N hs vs = some (madeB hs vs):=by
 unfold Q4Q madeB
 by_cases hl:hs.length = vs.length
 ·rw [if_neg (by simp [hl]),show (hs.length == vs.length) = true from by simpa using hl,Bool.true_and]
  have key : ∀ (m i fuel:Nat),i + m = hs.length → m < fuel → Q19 (Q2y N hs vs) fuel i = some (if ((hs.drop i).zip (vs.drop i)).all (fun p=>p.1 || decide (p.2 = Q5I)) = true then .inl () else .inr false):=by
   intro m
   induction m with
   | zero =>
     intro i fuel hi hf
     obtain ⟨fuel,rfl⟩ : ∃ q,fuel = q + 1:=⟨fuel - 1,by omega⟩
     obtain rfl:i = hs.length:=by omega
     rw [Q1a (o:=.inl ()) (by unfold Q2y; rw [if_neg (by simp)]),List.drop_length]
     simp
   | succ m ih =>
     intro i fuel hi hf
     obtain ⟨fuel,rfl⟩ : ∃ q,fuel = q + 1:=⟨fuel - 1,by omega⟩
     have h1:i < hs.length:=by omega
     have h2:i < vs.length:=by omega
     have hstep:Q2y N hs vs i = if (hs[i] || decide (vs[i] = Q5I)) = true then some (.inl (i + 1)) else some (.inr (.inr false)):=by
      unfold Q2y
      rw [if_pos (by simpa using h1),List.getElem?_eq_getElem h1,Q6]
      cases hb:hs[i] with
      | true=>simp only [Bool.not_true,Bool.false_eq_true,if_false,Bool.true_or,if_true]; rw [Q6,if_neg (by simp),QC (by omega)]
      | false =>
        simp only [Bool.not_false,if_true,Bool.false_or]
        rw [List.getElem?_eq_getElem h2,Q6,Q6]
        by_cases hz:vs[i] = Q5I
        ·have hz2:vs[i] = (⟨0,0,(⟨#[]⟩ : ByteArray)⟩ : V):=hz
         rw [if_neg (show ¬ (!decide (vs[i] = (⟨0,0,(⟨#[]⟩ : ByteArray)⟩ : V))) = true from by simp [hz2]),QC (by omega),if_pos (by simpa using hz)]
        ·have hz2 : ¬ vs[i] = (⟨0,0,(⟨#[]⟩ : ByteArray)⟩ : V):=hz
         rw [if_pos (show (!decide (vs[i] = (⟨0,0,(⟨#[]⟩ : ByteArray)⟩ : V))) = true from by simpa using hz2),if_neg (by simpa using hz)]
     rw [List.drop_eq_getElem_cons h1,List.drop_eq_getElem_cons h2,List.zip_cons_cons,List.all_cons]
     by_cases hb:(hs[i] || decide (vs[i] = Q5I)) = true
     ·rw [if_pos hb] at hstep
      rw [Q2f hstep,ih (i + 1) fuel (by omega) (by omega)]
      simp only [hb,Bool.true_and]
     ·rw [if_neg hb] at hstep
      rw [Q1a hstep]
      simp only [Bool.not_eq_true] at hb
      simp only [hb,Bool.false_and,Bool.false_eq_true,if_false]
  rw [key hs.length 0 N (by omega) (by omega),List.drop_zero,List.drop_zero]
  cases ((hs.zip vs).all fun p=>p.1 || decide (p.2 = Q5I)) with
  | true=>rfl
  | false=>rfl
 · rw [if_pos (by simpa using hl),show (hs.length == vs.length) = false from by simpa using hl,Bool.false_and]
def Q6x (c:QE) (f:QP) (hs:List Bool) (vs:List V):Option (List Bool × List V) :=
 if (c.kind = 1 ∨ c.kind = 2) ∧ c.type = f.ty ∧ c.args.length = f.args.length ∧ madeB hs vs = true then Q8k c.args f.args hs vs else none
theorem match_is {N:Nat} (hN : 9223372036854775808 ≤ N) {c:QE} {f:QP} {hs:List Bool} {vs:List V} (hh:hs.length ≤ 1000) (hv:vs.length ≤ 1000) (ha:c.args.length ≤ 1000000) :
  ∃ a b,Q54 N c.kind c.type c.args c.test.kind c.test.value.k c.test.value.n c.test.value.s c.test.var c.test.op c.test.kids f.id f.ty f.args hs vs = some (a,b,(Q6x c f hs vs).isSome) ∧ ∀ p,Q6x c f hs vs = some p → p = (a,b) ∧ a.length = hs.length ∧ b.length = vs.length:=by
 unfold Q54
 have e12:(if (c.kind == 1) = true then some true else some (c.kind == 2)) = some (decide (c.kind = 1 ∨ c.kind = 2)):=by
  by_cases h:c.kind = 1
  · simp [h]
  · rw [if_neg (by simpa using h)]; congr 1; rw [Bool.eq_iff_iff]; simp [h]
 rw [e12,Q6]
 have hc2:Q5O N (decide (c.kind = 1 ∨ c.kind = 2)) c.type f.ty c.args f.args hs vs = some (!(decide ((c.kind = 1 ∨ c.kind = 2) ∧ c.type = f.ty ∧ c.args.length = f.args.length ∧ madeB hs vs = true))):=by
  unfold Q5O
  by_cases h1:c.kind = 1 ∨ c.kind = 2
  · rw [decide_eq_true h1,if_neg (by simp)]
    by_cases h2:c.type = f.ty
    ·rw [if_neg (by simpa using h2)]
     by_cases h3:c.args.length = f.args.length
     ·rw [if_neg (by simpa using h3),made_is (by omega) (by omega),Q6]
      congr 2
      rw [Bool.eq_iff_iff]; simp [h1,h2,h3]
     · rw [if_pos (by simpa using h3),decide_eq_false (fun h=>h3 h.2.2.1)]; rfl
    · rw [if_pos (by simpa using h2),decide_eq_false (fun h=>h2 h.2.1)]; rfl
  · rw [decide_eq_false h1,if_pos (show (!false) = true from rfl),decide_eq_false (fun h=>h1 h.1)]; rfl
 rw [hc2,Q6]
 unfold Q6x
 by_cases hg:(c.kind = 1 ∨ c.kind = 2) ∧ c.type = f.ty ∧ c.args.length = f.args.length ∧ madeB hs vs = true
 ·have hl:hs.length = vs.length:=by
    have:=hg.2.2.2
    unfold madeB at this
    simp only [Bool.and_eq_true,beq_iff_eq] at this
    exact this.1
  rw [decide_eq_true hg,if_neg (by simp),if_pos hg]
  unfold Q8b
  rw [QC (by omega),QC (by omega),Q6]
  obtain ⟨a,b,h1,h2⟩:=args_loop (N:=N) hg.2.2.1 ha c.args.length 0 N hs vs (by omega) (by omega) hl
  rw [List.drop_zero,List.drop_zero] at h1 h2
  rw [h1]
  cases hq:Q8k c.args f.args hs vs with
  | some p =>
    have hp:=h2 p hq
    have hlen:=argsTo_len hq
    refine ⟨a,b,by simp only [Option.isSome_some,if_true]; rw [Q18],fun p' h=>?_⟩
    cases h
    refine ⟨hp,?_,?_⟩
    · rw [hp] at hlen; exact hlen.1
    · rw [hp] at hlen; exact hlen.2
  | none =>
    refine ⟨[],[],by simp only [Option.isSome_none,Bool.false_eq_true,if_false]; rw [Q1t],fun p h=>by cases h⟩
 ·rw [decide_eq_false hg,if_pos (show (!false) = true from rfl),if_neg hg]
  exact ⟨[],[],rfl,fun p h=>by cases h⟩
end Go.Proofs.YtbgodclhmgmcgaaGreatDoor
namespace Go.Proofs.YtbgodclhmgmcgaaGreatDoor
open Go Go.RowKit
abbrev N0:Nat:=9223372036855775808
def holdsB:Option Say → Bool
 | some (k,n,_,e)=>e == 0 && (k == 1 && n != 0)
 | none=>false
def tells (facts:List QP):Tells:=⟨fun c hs vs f=>Q6x c f hs vs,fun c vs=>holdsB (at_ (Q1m N0) vs c.test),fun c hs vs=>facts.any fun f=>(Q6x c f hs vs).isSome⟩
def InvE (hs:List Bool) (vs:List V):Prop:=hs.length = vs.length ∧ vs.length ≤ 16 ∧ ∀ v ∈ vs,okV v
theorem some_is {N:Nat} (hN : 9223372036855775808 ≤ N) {c:QE} {facts:List QP} {hs:List Bool} {vs:List V} (hh:hs.length ≤ 1000) (hv:vs.length ≤ 1000) (ha:c.args.length ≤ 1000000) (hf:facts.length ≤ 1000) :
  Q6e N c.kind c.type c.args c.test.kind c.test.value.k c.test.value.n c.test.value.s c.test.var c.test.op c.test.kids hs vs facts = some (facts.any fun f=>(Q6x c f hs vs).isSome):=by
 unfold Q6e Q3A Q4o
 rw [Q6N (l:=facts) (p:=fun f=>(Q6x c f hs vs).isSome) (fun i hi=>by
  unfold Q2M Q6m
  obtain ⟨a,b,hm,_⟩:=match_is (N:=N) (by omega) (c:=c) (f:=facts[i]) hh hv ha
  rw [if_pos (by simpa using hi),List.getElem?_eq_getElem hi,Q6,hm,Q6,Q6]
  by_cases hb:(Q6x c facts[i] hs vs).isSome = true
  · rw [if_pos hb,if_pos hb]
  · rw [if_neg hb,if_neg hb,QC (by omega)]) (by
  unfold Q2M
  rw [if_neg (by simp)]) facts.length 0 N (by omega) (by omega),Q6,Q6,List.drop_zero,Q8i]
end Go.Proofs.YtbgodclhmgmcgaaGreatDoor
