import Derived.Test.YtbgodclhmgmcgaaGreatDoorNaivR
namespace Go.Proofs.YtbgodclhmgmcgaaGreatDoor
open Go Go.RowKit
def Q2Z (types:List Qg) (kind fields:Int):Bool:=match types[kind.toNat]? with
 | some t=>decide (0 ≤ kind) && t.fields == fields
 | none=>false
theorem typed_is (N:Nat) (types:List Qg) (rules:List Qj) (a b kind fields:Int):Q3V N types rules a b kind fields = some (Q2Z types kind fields):=by
 unfold Q3V Q2Z
 by_cases h : 0 ≤ kind
 ·rw [if_pos (by simpa using h)]
  by_cases h2:kind < ((types.length:Nat):Int)
  ·have h3:kind.toNat < types.length:=by omega
   rw [if_pos (by simpa using h2),QC h,List.getElem?_eq_getElem h3,Q6]
   simp [h]
  · rw [if_neg (by simpa using h2),List.getElem?_eq_none (by omega)]
 ·rw [if_neg (by simpa using h)]
  split
  · simp [h]
  · rfl
noncomputable def Q6a (binds:Bool) (vars:Int) (a:Q3S):Bool × Int :=
 if a.k = 1 then (decide (a.var = 0 ∧ a.v = Q5I),vars)
 else if a.k = 2 then (binds && decide (a.var = vars ∧ a.v = Q5I),vars + 1)
 else if a.k = 3 then (decide (0 ≤ a.var ∧ a.var < vars ∧ a.v = Q5I),vars)
 else if a.k = 4 then (decide (a.var = 0) && Q8v a.v,vars)
 else (false,vars)
theorem arg_is (N:Nat) (types:List Qg) (rules:List Qj) {vars:Int} (hv : 0 ≤ vars ∧ vars ≤ 1000000000) (b:Int) (a:Q3S) (binds:Bool):Q5w N types rules vars b a.k a.var a.v.k a.v.n a.v.s binds = some (Q6a binds vars a):=by
 unfold Q5w Q6a
 have ev:(⟨a.v.k,a.v.n,a.v.s⟩ : V) = a.v:=rfl
 rw [ev]
 by_cases h1:a.k = 1
 ·rw [if_pos (by simpa using h1),if_pos h1]
  by_cases h:a.var = 0
  · rw [if_pos (by simpa using h)]; simp [h,Q5I]
  · rw [if_neg (by simpa using h)]; simp [h]
 ·rw [if_neg (by simpa using h1),if_neg h1]
  by_cases h2:a.k = 2
  ·rw [if_pos (by simpa using h2),if_pos h2,QC (by omega)]
   cases binds with
   | false=>rw [if_neg (by simp)]; simp
   | true =>
     rw [if_pos rfl,QC (by omega),show vars + 1 - 1 = vars from by omega]
     by_cases h:a.var = vars
     · rw [if_pos (by simpa using h)]; simp [h,Q5I]
     · rw [if_neg (by simpa using h)]; simp [h]
  ·rw [if_neg (by simpa using h2),if_neg h2]
   by_cases h3:a.k = 3
   · rw [if_pos (by simpa using h3),if_pos h3]
     by_cases h : 0 ≤ a.var
     ·rw [if_pos (by simpa using h)]
      by_cases h' : a.var < vars
      · rw [if_pos (by simpa using h')]; simp [h,h',Q5I]
      · rw [if_neg (by simpa using h')]; simp [h']
     · rw [if_neg (by simpa using h)]; simp [h]
   · rw [if_neg (by simpa using h3),if_neg h3]
     by_cases h4:a.k = 4
     ·rw [if_pos (by simpa using h4),if_pos h4]
      by_cases h:a.var = 0
      · rw [if_pos (by simpa using h),QaJ,Q6]; simp [h]
      · rw [if_neg (by simpa using h)]; simp [h]
     · rw [if_neg (by simpa using h4),if_neg h4]
theorem Qag (binds:Bool) (vars:Int) (a:Q3S):(Q6a binds vars a).2 = vars ∨ (Q6a binds vars a).2 = vars + 1:=by
 unfold Q6a
 split
 · exact .inl rfl
 ·split
  · exact .inr rfl
  ·split
   · exact .inl rfl
   · split <;> exact .inl rfl
noncomputable def Q40 (binds:Bool):List Q3S → Int → Bool × Int
 | [],vars=>(true,vars)
 | a :: l,vars=>if (Q6a binds vars a).1 = true then Q40 binds l (Q6a binds vars a).2 else (false,(Q6a binds vars a).2)
theorem Q9k (binds:Bool) : ∀ (l:List Q3S) (vars:Int),vars ≤ (Q40 binds l vars).2 ∧ (Q40 binds l vars).2 ≤ vars + ((l.length:Nat):Int)
 | [],vars=>by simp [Q40]
 | a :: l,vars=>by
   unfold Q40
   have h:=Qag binds vars a
   split
   ·have:=Q9k binds l (Q6a binds vars a).2
    simp only [List.length_cons]
    omega
   · simp only [List.length_cons]; omega
theorem args_iter {N:Nat} {types:List Qg} {rules:List Qj} {facts kind:Int} {l:List Q3S} (hl:l.length ≤ 1000000) :
   ∀ (m i fuel:Nat) (vars:Int),i + m = l.length → m < fuel → 0 ≤ vars → vars + ((m:Nat):Int) ≤ 1000000000 →
     Q19 (Q2K N l types rules facts kind) fuel (i,vars) = some (if (Q40 (kind == 1) (l.drop i) vars).1 = true then .inl (Q40 (kind == 1) (l.drop i) vars).2 else .inr (false,(Q40 (kind == 1) (l.drop i) vars).2,facts)):=by
 intro m
 induction m with
 | zero =>
   intro i fuel vars hi hf h0 hv
   obtain ⟨fuel,rfl⟩ : ∃ q,fuel = q + 1:=⟨fuel - 1,by omega⟩
   obtain rfl:i = l.length:=by omega
   rw [Q1a (o:=.inl vars) (by unfold Q2K; simp only; rw [if_neg (by simp)]),List.drop_length]
   simp [Q40]
 | succ m ih =>
   intro i fuel vars hi hf h0 hv
   obtain ⟨fuel,rfl⟩ : ∃ q,fuel = q + 1:=⟨fuel - 1,by omega⟩
   have h:i < l.length:=by omega
   have hs:Q2K N l types rules facts kind (i,vars) = if (Q6a (kind == 1) vars l[i]).1 = true then some (.inl (i + 1,(Q6a (kind == 1) vars l[i]).2)) else some (.inr (.inr (false,(Q6a (kind == 1) vars l[i]).2,facts))):=by
     unfold Q2K
     simp only
     rw [if_pos (by simpa using h),List.getElem?_eq_getElem h,Q6,arg_is N types rules (by omega) facts l[i] (kind == 1),Q6]
     by_cases hb:(Q6a (kind == 1) vars l[i]).1 = true
     ·simp only [hb,Bool.not_true,Bool.false_eq_true,if_false,if_true]
      rw [QC (by omega)]
     ·simp only [Bool.not_eq_true] at hb
      simp only [hb,Bool.not_false,if_true,Bool.false_eq_true,if_false]
   rw [List.drop_eq_getElem_cons h]
   rw [Q40]
   have hv2:=Qag (kind == 1) vars l[i]
   by_cases hb:(Q6a (kind == 1) vars l[i]).1 = true
   · rw [if_pos hb] at hs ⊢
     rw [Q2f hs]
     exact ih (i + 1) fuel _ (by omega) (by omega) (by omega) (by omega)
   · rw [if_neg hb] at hs ⊢
     rw [Q1a hs]
     simp
def zeroE (e:Qe):Bool:=decide (e.kind = 0 ∧ e.value = Q5I ∧ e.var = 0 ∧ e.op = 0 ∧ e.kids.length = 0)
noncomputable def Q2j (types:List Qg) (vars facts:Int) (c:QE):Bool × Int × Int :=
 if c.kind = 1 ∨ c.kind = 2 then
  if Q2Z types c.type ((c.args.length:Nat):Int) && zeroE c.test then
   (if (Q40 (c.kind == 1) c.args vars).1 = true then (true,(Q40 (c.kind == 1) c.args vars).2,if c.kind = 1 then facts + 1 else facts) else (false,(Q40 (c.kind == 1) c.args vars).2,facts))
  else (false,vars,facts)
 else if c.kind = 3 then (decide (c.type = 0 ∧ c.args.length = 0) && Q5W vars c.test,vars,facts)
 else (false,vars,facts)
theorem cond_is {N:Nat} {types:List Qg} {rules:List Qj} {vars facts:Int} {c:QE} (hN : 9223372036854775808 + 1000000 ≤ N) (ha:c.args.length ≤ 1000000) (ht:Q7g c.test ≤ 1000000) (hv : 0 ≤ vars ∧ vars ≤ 1000000) (hf : 0 ≤ facts ∧ facts ≤ 1000000) :
  Q5a N types rules vars facts c.kind c.type c.args c.test.kind c.test.value.k c.test.value.n c.test.value.s c.test.var c.test.op c.test.kids = some (Q2j types vars facts c):=by
 unfold Q5a Q2j
 have e12:(if (c.kind == 1) = true then some (c.kind == 1) else some (c.kind == 2)) = some (decide (c.kind = 1 ∨ c.kind = 2)):=by
  by_cases h:c.kind = 1
  · simp [h]
  · rw [if_neg (by simpa using h)]; congr 1; rw [Bool.eq_iff_iff]; simp [h]
 rw [e12,Q6]
 by_cases h12:c.kind = 1 ∨ c.kind = 2
 ·rw [if_pos (by simpa using h12),if_pos h12]
  have hc2:Q5b N types rules vars facts c.type c.args c.test.kind c.test.value.k c.test.value.n c.test.value.s c.test.var c.test.op c.test.kids = some (!(Q2Z types c.type ((c.args.length:Nat):Int) && zeroE c.test)):=by
   unfold Q5b
   rw [typed_is,Q6]
   cases ht:Q2Z types c.type ((c.args.length:Nat):Int) with
   | false=>simp
   | true =>
     rw [if_neg (by simp)]
     by_cases hk:c.test.kind = 0
     ·rw [if_neg (by simpa using hk),plain_is,Q6]
      congr 1
      unfold zeroE
      have ev:(⟨c.test.value.k,c.test.value.n,c.test.value.s⟩ : V) = c.test.value:=rfl
      rw [ev,Bool.eq_iff_iff]
      simp [hk]
     ·rw [if_pos (by simpa using hk)]
      congr 1
      unfold zeroE
      simp [hk]
  rw [hc2,Q6]
  by_cases hg:(Q2Z types c.type ((c.args.length:Nat):Int) && zeroE c.test) = true
  ·rw [if_neg (by rw [hg]; simp),if_pos hg,args_iter ha c.args.length 0 N vars (by omega) (by omega) hv.1 (by omega),List.drop_zero]
   by_cases hb:(Q40 (c.kind == 1) c.args vars).1 = true
   · rw [if_pos hb,if_pos hb,Q18]
     by_cases h1:c.kind = 1
     · rw [if_pos (by simpa using h1),QC (by omega),Q6,if_pos h1]
     · rw [if_neg (by simpa using h1),Q6,if_neg h1]
   · rw [if_neg hb,if_neg hb,Q1t]
  ·have hgf:(Q2Z types c.type ((c.args.length:Nat):Int) && zeroE c.test) = false:=by simpa only [Bool.not_eq_true] using hg
   rw [hgf,if_pos (by rfl),if_neg (by simp)]
 ·rw [if_neg (by simpa using h12),if_neg h12]
  by_cases h3:c.kind = 3
  ·rw [if_pos (by simpa using h3),if_pos h3]
   by_cases h4:c.type = 0
   · rw [if_pos (by simpa using h4)]
     by_cases h5:c.args.length = 0
     ·rw [if_pos (by simpa using h5),expr_is 1000000 N c.test ht (by omega) (by omega),Q6]
      congr 1
      rw [decide_eq_true ⟨h4,h5⟩,Bool.true_and]
     · rw [if_neg (by simpa using h5),decide_eq_false (fun h=>h5 h.2),Bool.false_and]
   · rw [if_neg (by simpa using h4),decide_eq_false (fun h=>h4 h.1),Bool.false_and]
  · rw [if_neg (by simpa using h3),if_neg h3]
end Go.Proofs.YtbgodclhmgmcgaaGreatDoor
