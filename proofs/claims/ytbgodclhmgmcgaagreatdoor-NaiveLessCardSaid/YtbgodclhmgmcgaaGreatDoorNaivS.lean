import Derived.Test.YtbgodclhmgmcgaaGreatDoorNaivR
namespace Go.Proofs.YtbgodclhmgmcgaaGreatDoor
open Go Go.RowKit
def Qaj (types:List Ql) (kind fields:Int):Bool:=match types[kind.toNat]? with
 | some t=>decide (0 ≤ kind) && t.fields == fields
 | none=>false
theorem typed_is (N:Nat) (types:List Ql) (rules:List Qi) (a b kind fields:Int):Q45 N types rules a b kind fields = some (Qaj types kind fields):=by
 unfold Q45 Qaj
 by_cases h : 0 ≤ kind
 ·rw [if_pos (by simpa using h)]
  by_cases h2:kind < ((types.length:Nat):Int)
  ·have h3:kind.toNat < types.length:=by omega
   rw [if_pos (by simpa using h2),QY h,List.getElem?_eq_getElem h3,Q7]
   simp [h]
  · rw [if_neg (by simpa using h2),List.getElem?_eq_none (by omega)]
 ·rw [if_neg (by simpa using h)]
  split
  · simp [h]
  · rfl
noncomputable def argB (binds:Bool) (vars:Int) (a:Q4O):Bool × Int :=
 if a.k = 1 then (decide (a.var = 0 ∧ a.v = Q8F),vars)
 else if a.k = 2 then (binds && decide (a.var = vars ∧ a.v = Q8F),vars + 1)
 else if a.k = 3 then (decide (0 ≤ a.var ∧ a.var < vars ∧ a.v = Q8F),vars)
 else if a.k = 4 then (decide (a.var = 0) && rightB a.v,vars)
 else (false,vars)
theorem arg_is (N:Nat) (types:List Ql) (rules:List Qi) {vars:Int} (hv : 0 ≤ vars ∧ vars ≤ 1000000000) (b:Int) (a:Q4O) (binds:Bool):Q6i N types rules vars b a.k a.var a.v.k a.v.n a.v.s binds = some (argB binds vars a):=by
 unfold Q6i argB
 have ev:(⟨a.v.k,a.v.n,a.v.s⟩ : V) = a.v:=rfl
 rw [ev]
 by_cases h1:a.k = 1
 ·rw [if_pos (by simpa using h1),if_pos h1]
  by_cases h:a.var = 0
  · rw [if_pos (by simpa using h)]; simp [h,Q8F]
  · rw [if_neg (by simpa using h)]; simp [h]
 ·rw [if_neg (by simpa using h1),if_neg h1]
  by_cases h2:a.k = 2
  ·rw [if_pos (by simpa using h2),if_pos h2,QY (by omega)]
   cases binds with
   | false=>rw [if_neg (by simp)]; simp
   | true =>
     rw [if_pos rfl,QY (by omega),show vars + 1 - 1 = vars from by omega]
     by_cases h:a.var = vars
     · rw [if_pos (by simpa using h)]; simp [h,Q8F]
     · rw [if_neg (by simpa using h)]; simp [h]
  ·rw [if_neg (by simpa using h2),if_neg h2]
   by_cases h3:a.k = 3
   · rw [if_pos (by simpa using h3),if_pos h3]
     by_cases h : 0 ≤ a.var
     ·rw [if_pos (by simpa using h)]
      by_cases h' : a.var < vars
      · rw [if_pos (by simpa using h')]; simp [h,h',Q8F]
      · rw [if_neg (by simpa using h')]; simp [h']
     · rw [if_neg (by simpa using h)]; simp [h]
   · rw [if_neg (by simpa using h3),if_neg h3]
     by_cases h4:a.k = 4
     ·rw [if_pos (by simpa using h4),if_pos h4]
      by_cases h:a.var = 0
      · rw [if_pos (by simpa using h),rightB_is,Q7]; simp [h]
      · rw [if_neg (by simpa using h)]; simp [h]
     · rw [if_neg (by simpa using h4),if_neg h4]
theorem arg_vars (binds:Bool) (vars:Int) (a:Q4O):(argB binds vars a).2 = vars ∨ (argB binds vars a).2 = vars + 1:=by
 unfold argB
 split
 · exact .inl rfl
 ·split
  · exact .inr rfl
  ·split
   · exact .inl rfl
   · split <;> exact .inl rfl
noncomputable def Qaz (binds:Bool):List Q4O → Int → Bool × Int
 | [],vars=>(true,vars)
 | a :: l,vars=>if (argB binds vars a).1 = true then Qaz binds l (argB binds vars a).2 else (false,(argB binds vars a).2)
theorem args_vars (binds:Bool) : ∀ (l:List Q4O) (vars:Int),vars ≤ (Qaz binds l vars).2 ∧ (Qaz binds l vars).2 ≤ vars + ((l.length:Nat):Int)
 | [],vars=>by simp [Qaz]
 | a :: l,vars=>by
   unfold Qaz
   have h:=arg_vars binds vars a
   split
   ·have:=args_vars binds l (argB binds vars a).2
    simp only [List.length_cons]
    omega
   · simp only [List.length_cons]; omega
theorem args_iter {N:Nat} {types:List Ql} {rules:List Qi} {facts kind:Int} {l:List Q4O} (hl:l.length ≤ 1000000) :
   ∀ (m i fuel:Nat) (vars:Int),i + m = l.length → m < fuel → 0 ≤ vars → vars + ((m:Nat):Int) ≤ 1000000000 →
     Q1h (Q2Q N l types rules facts kind) fuel (i,vars) = some (if (Qaz (kind == 1) (l.drop i) vars).1 = true then .inl (Qaz (kind == 1) (l.drop i) vars).2 else .inr (false,(Qaz (kind == 1) (l.drop i) vars).2,facts)):=by
 intro m
 induction m with
 | zero =>
   intro i fuel vars hi hf h0 hv
   obtain ⟨fuel,rfl⟩ : ∃ q,fuel = q + 1:=⟨fuel - 1,by omega⟩
   obtain rfl:i = l.length:=by omega
   rw [Q2u (o:=.inl vars) (by unfold Q2Q; simp only; rw [if_neg (by simp)]),List.drop_length]
   simp [Qaz]
 | succ m ih =>
   intro i fuel vars hi hf h0 hv
   obtain ⟨fuel,rfl⟩ : ∃ q,fuel = q + 1:=⟨fuel - 1,by omega⟩
   have h:i < l.length:=by omega
   have hs:Q2Q N l types rules facts kind (i,vars) = if (argB (kind == 1) vars l[i]).1 = true then some (.inl (i + 1,(argB (kind == 1) vars l[i]).2)) else some (.inr (.inr (false,(argB (kind == 1) vars l[i]).2,facts))):=by
     unfold Q2Q
     simp only
     rw [if_pos (by simpa using h),List.getElem?_eq_getElem h,Q7,arg_is N types rules (by omega) facts l[i] (kind == 1),Q7]
     by_cases hb:(argB (kind == 1) vars l[i]).1 = true
     ·simp only [hb,Bool.not_true,Bool.false_eq_true,if_false,if_true]
      rw [QY (by omega)]
     ·simp only [Bool.not_eq_true] at hb
      simp only [hb,Bool.not_false,if_true,Bool.false_eq_true,if_false]
   rw [List.drop_eq_getElem_cons h]
   rw [Qaz]
   have hv2:=arg_vars (kind == 1) vars l[i]
   by_cases hb:(argB (kind == 1) vars l[i]).1 = true
   · rw [if_pos hb] at hs ⊢
     rw [Q5C hs]
     exact ih (i + 1) fuel _ (by omega) (by omega) (by omega) (by omega)
   · rw [if_neg hb] at hs ⊢
     rw [Q2u hs]
     simp
def zeroE (e:Qm):Bool:=decide (e.kind = 0 ∧ e.value = Q8F ∧ e.var = 0 ∧ e.op = 0 ∧ e.kids.length = 0)
noncomputable def Q8c (types:List Ql) (vars facts:Int) (c:QL):Bool × Int × Int :=
 if c.kind = 1 ∨ c.kind = 2 then
  if Qaj types c.type ((c.args.length:Nat):Int) && zeroE c.test then
   (if (Qaz (c.kind == 1) c.args vars).1 = true then (true,(Qaz (c.kind == 1) c.args vars).2,if c.kind = 1 then facts + 1 else facts) else (false,(Qaz (c.kind == 1) c.args vars).2,facts))
  else (false,vars,facts)
 else if c.kind = 3 then (decide (c.type = 0 ∧ c.args.length = 0) && exprB vars c.test,vars,facts)
 else (false,vars,facts)
theorem cond_is {N:Nat} {types:List Ql} {rules:List Qi} {vars facts:Int} {c:QL} (hN : 9223372036854775808 + 1000000 ≤ N) (ha:c.args.length ≤ 1000000) (ht:nodes c.test ≤ 1000000) (hv : 0 ≤ vars ∧ vars ≤ 1000000) (hf : 0 ≤ facts ∧ facts ≤ 1000000) :
  Q5J N types rules vars facts c.kind c.type c.args c.test.kind c.test.value.k c.test.value.n c.test.value.s c.test.var c.test.op c.test.kids = some (Q8c types vars facts c):=by
 unfold Q5J Q8c
 have e12:(if (c.kind == 1) = true then some (c.kind == 1) else some (c.kind == 2)) = some (decide (c.kind = 1 ∨ c.kind = 2)):=by
  by_cases h:c.kind = 1
  · simp [h]
  · rw [if_neg (by simpa using h)]; congr 1; rw [Bool.eq_iff_iff]; simp [h]
 rw [e12,Q7]
 by_cases h12:c.kind = 1 ∨ c.kind = 2
 ·rw [if_pos (by simpa using h12),if_pos h12]
  have hc2:Q5K N types rules vars facts c.type c.args c.test.kind c.test.value.k c.test.value.n c.test.value.s c.test.var c.test.op c.test.kids = some (!(Qaj types c.type ((c.args.length:Nat):Int) && zeroE c.test)):=by
   unfold Q5K
   rw [typed_is,Q7]
   cases ht:Qaj types c.type ((c.args.length:Nat):Int) with
   | false=>simp
   | true =>
     rw [if_neg (by simp)]
     by_cases hk:c.test.kind = 0
     ·rw [if_neg (by simpa using hk),plain_is,Q7]
      congr 1
      unfold zeroE
      have ev:(⟨c.test.value.k,c.test.value.n,c.test.value.s⟩ : V) = c.test.value:=rfl
      rw [ev,Bool.eq_iff_iff]
      simp [hk]
     ·rw [if_pos (by simpa using hk)]
      congr 1
      unfold zeroE
      simp [hk]
  rw [hc2,Q7]
  by_cases hg:(Qaj types c.type ((c.args.length:Nat):Int) && zeroE c.test) = true
  ·rw [if_neg (by rw [hg]; simp),if_pos hg,args_iter ha c.args.length 0 N vars (by omega) (by omega) hv.1 (by omega),List.drop_zero]
   by_cases hb:(Qaz (c.kind == 1) c.args vars).1 = true
   · rw [if_pos hb,if_pos hb,Q1W]
     by_cases h1:c.kind = 1
     · rw [if_pos (by simpa using h1),QY (by omega),Q7,if_pos h1]
     · rw [if_neg (by simpa using h1),Q7,if_neg h1]
   · rw [if_neg hb,if_neg hb,Q4B]
  ·have hgf:(Qaj types c.type ((c.args.length:Nat):Int) && zeroE c.test) = false:=by simpa only [Bool.not_eq_true] using hg
   rw [hgf,if_pos (by rfl),if_neg (by simp)]
 ·rw [if_neg (by simpa using h12),if_neg h12]
  by_cases h3:c.kind = 3
  ·rw [if_pos (by simpa using h3),if_pos h3]
   by_cases h4:c.type = 0
   · rw [if_pos (by simpa using h4)]
     by_cases h5:c.args.length = 0
     ·rw [if_pos (by simpa using h5),expr_is 1000000 N c.test ht (by omega) (by omega),Q7]
      congr 1
      rw [decide_eq_true ⟨h4,h5⟩,Bool.true_and]
     · rw [if_neg (by simpa using h5),decide_eq_false (fun h=>h5 h.2),Bool.false_and]
   · rw [if_neg (by simpa using h4),decide_eq_false (fun h=>h4 h.1),Bool.false_and]
  · rw [if_neg (by simpa using h3),if_neg h3]
end Go.Proofs.YtbgodclhmgmcgaaGreatDoor
