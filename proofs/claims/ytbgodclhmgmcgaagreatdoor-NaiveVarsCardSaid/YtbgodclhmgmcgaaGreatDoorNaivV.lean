import Derived.Test.YtbgodclhmgmcgaaGreatDoorNaivUD
namespace Go.Proofs.YtbgodclhmgmcgaaGreatDoor
open Go Go.RowKit
theorem Q8h {α A B:Type} {l:List α} {f:Nat → Option (Nat ⊕ (A ⊕ B))} {p : α → Bool} {a:A} {b:B} (step : ∀ i (h:i < l.length),f i = if p l[i] = true then some (.inl (i + 1)) else some (.inr (.inr b))) (stop:f l.length = some (.inr (.inl a))) {N:Nat} (hN:l.length < N) :
  Q19 f N 0 = some (if l.all p = true then .inl a else .inr b):=by
 have key : ∀ (m i fuel:Nat),i + m = l.length → m < fuel → Q19 f fuel i = some (if (l.drop i).all p = true then .inl a else .inr b):=by
  intro m
  induction m with
  | zero =>
    intro i fuel hi hf
    obtain ⟨fuel,rfl⟩ : ∃ q,fuel = q + 1:=⟨fuel - 1,by omega⟩
    obtain rfl:i = l.length:=by omega
    rw [Q1a stop,List.drop_length]; rfl
  | succ m ih =>
    intro i fuel hi hf
    obtain ⟨fuel,rfl⟩ : ∃ q,fuel = q + 1:=⟨fuel - 1,by omega⟩
    have h:i < l.length:=by omega
    have hs:=step i h
    rw [List.drop_eq_getElem_cons h,List.all_cons]
    by_cases hp:p l[i] = true
    ·rw [if_pos hp] at hs
     rw [Q2f hs,ih (i + 1) fuel (by omega) (by omega),hp,Bool.true_and]
    ·rw [if_neg hp] at hs
     rw [Q1a hs,if_neg (by simp [hp])]
 have:=key l.length 0 N (by omega) hN
 rwa [List.drop_zero] at this
theorem first_eq {α : Type} {p : α → Bool} : ∀ (l : List α) (i s : Nat) (hi : i < l.length), p l[i] = true → (Q5M p l s == ((s + i : Nat) : Int)) = (l.take i).all fun x => !p x
 | x :: l,0,s,_,hp=>by
   unfold Q5M
   rw [if_pos (by simpa using hp)]
   simp
 | x :: l,i + 1,s,hi,hp=>by
   unfold Q5M
   rw [List.take_succ_cons,List.all_cons]
   cases hx:p x with
   | true =>
     rw [if_pos rfl]
     have:(((s:Nat):Int) == ((s + (i + 1):Nat):Int)) = false:=by simp; omega
     rw [this]; rfl
   | false =>
     rw [if_neg (by simp)]
     have:=first_eq l i (s + 1) (by simpa using hi) (by simpa using hp)
     rw [show s + (i + 1) = s + 1 + i from by omega,this]
     simp
theorem Q9E (vars : Int) : ∀ l : List Qe, Q76 vars l = l.all fun y => Q5W vars y
 | []=>by simp [Q76]
 | x :: l=>by rw [Q76,Q9E vars l,List.all_cons]
def Q9c (v:V):Prop:=v.s.size ≤ 9223372036854775807
theorem rright_is {N:Nat} (hN : 9223372036854775808 ≤ N) {v:V} (h:Q9c v):Q1r N v.k v.n v.s = some (Q8v v):=by
 rw [← Q9M v.k v.n hN h]; exact QaJ N v
theorem rname_is {N:Nat} (hN : 9223372036854775808 ≤ N) {s:ByteArray} (h:s.size ≤ 9223372036854775807):Q1Y N s = some (Q7s s):=says_dec (rnamed_is hN h)
theorem shortV_of {v:V} (h:ok_V v):Q9c v:=by have:=h.2.2; unfold Q9c; omega
theorem rexpr_is {vars:Int} : ∀ (m N:Nat) (e:Qe),ok_Api_ExprD e → Q7g e ≤ m → m ≤ 1000000 → 9223372036854775808 + m ≤ N →
    Q2c N e.kind e.value.k e.value.n e.value.s e.var e.op e.kids vars = some (Q5W vars e):=by
  intro m
  induction m with
  | zero=>intro N e _ h; rw [Q5Y] at h; omega
  | succ m ih =>
    intro N e hok h hm hN
    obtain ⟨N,rfl⟩ : ∃ q,N = q + 1:=⟨N - 1,by omega⟩
    have hv:=shortV_of (ok_val hok)
    obtain ⟨hkl,hkk⟩:=ok_kids hok
    obtain ⟨k,v,x,op,kids⟩:=e
    simp only at hv hkl hkk
    have hk:Q3u kids ≤ m:=by rw [Q5Y] at h; simp only at h; omega
    show Q3w N (Q2c N) k v.k v.n v.s x op kids vars = _
    unfold Q3w
    rw [Q5W]
    have ev:(⟨v.k,v.n,v.s⟩ : V) = v:=rfl
    by_cases h1:k = 1
    · rw [if_pos (by simpa using h1),if_pos h1]
      unfold Q5y
      rw [rright_is (by omega) hv,Q6]
      cases hr:Q8v v with
      | false=>rw [if_neg (by simp),Q6,Bool.and_false]
      | true =>
        rw [if_pos rfl,Bool.and_true]
        by_cases c1:x = 0
        · rw [if_pos (by simpa using c1)]
          by_cases c2:op = 0
          · rw [if_pos (by simpa using c2),Q6]
            congr 1
            rw [Bool.eq_iff_iff]; simp [c1,c2]
          · rw [if_neg (by simpa using c2),Q6,decide_eq_false (fun h=>c2 h.2.1)]
        · rw [if_neg (by simpa using c1),Q6,decide_eq_false (fun h=>c1 h.1)]
    · rw [if_neg (by simpa using h1),if_neg h1]
      by_cases h2:k = 2
      · rw [if_pos (by simpa using h2),if_pos h2]
        unfold Q5z
        rw [ev]
        by_cases c1:v = Q5I
        · have c1' : v = (⟨0,0,(⟨#[]⟩ : ByteArray)⟩ : V):=c1
          rw [if_pos (by rw [decide_eq_true c1'])]
          by_cases c2 : 0 ≤ x
          · rw [if_pos (by simpa using c2)]
            by_cases c3:x < vars
            · rw [if_pos (by simpa using c3)]
              by_cases c4:op = 0
              · rw [if_pos (by simpa using c4),Q6]
                congr 1
                rw [Bool.eq_iff_iff]; simp [c1,c2,c3,c4]
              · rw [if_neg (by simpa using c4),Q6,decide_eq_false (fun h=>c4 h.2.1)]
            · rw [if_neg (by simpa using c3),Q6,decide_eq_false (fun h=>c3 h.2.2.2.2)]
          · rw [if_neg (by simpa using c2),Q6,decide_eq_false (fun h=>c2 h.2.2.2.1)]
        · have c1' : ¬ v = (⟨0,0,(⟨#[]⟩ : ByteArray)⟩ : V):=c1
          rw [if_neg (by rw [decide_eq_false c1']; simp),Q6,decide_eq_false (fun h=>c1 h.1)]
      · rw [if_neg (by simpa using h2),if_neg h2]
        by_cases h3:k = 3
        · rw [if_pos (by simpa using h3),if_pos h3]
          have hw:Q4h N op = some (if op = 4 ∨ op = 11 then 1 else 2):=by
            unfold Q4h
            by_cases a:op = 4
            · rw [if_pos (by simpa using a),Q6,if_pos rfl,if_pos (.inl a)]
            · rw [if_neg (by simpa using a),Q6]
              by_cases b:op = 11
              · rw [if_pos (by simpa using b),if_pos (.inr b)]
              · rw [if_neg (by simpa using b),if_neg (by omega)]
          have hex:Q3c N (Q2c N) kids vars = some (Q76 vars kids):=by
            unfold Q3c
            have hl:=Q6g kids
            rw [Q8h (l:=kids) (p:=fun y=>Q5W vars y) (a:=()) (b:=false) (fun i hi=>by
              unfold Q2C
              have hn:=Q6h (List.getElem_mem hi)
              rw [if_pos (by simpa using hi),List.getElem?_eq_getElem hi,Q6,ih N kids[i] (hkk _ (List.getElem_mem hi)) (by omega) (by omega) (by omega),Q6]
              by_cases hb:Q5W vars kids[i] = true
              · rw [if_neg (by simp [hb]),if_pos hb,QC (by omega)]
              · rw [if_pos (by simpa using hb),if_neg hb]) (by
              unfold Q2C
              rw [if_neg (by simp)]) (by omega),Q9E]
            cases kids.all (fun y=>Q5W vars y) <;> rfl
          rw [hw,Q6]
          unfold Q5A
          rw [ev]
          by_cases c1:v = Q5I
          · have c1' : v = (⟨0,0,(⟨#[]⟩ : ByteArray)⟩ : V):=c1
            rw [if_pos (by rw [decide_eq_true c1'])]
            by_cases c0:x = 0
            · rw [if_pos (by simpa using c0)]
              by_cases c2 : 1 ≤ op
              · rw [if_pos (by simpa using c2)]
                by_cases c3:op ≤ 11
                · rw [if_pos (by simpa using c3)]
                  by_cases c4:kids.length = (if op = 4 ∨ op = 11 then 1 else 2)
                  · rw [if_pos (by simpa using c4),hex,Q6,Q6]
                    congr 1
                    rw [decide_eq_true ⟨c1,c0,c2,c3,c4⟩,Bool.true_and]
                  · rw [if_neg (by simpa using c4),Q6,decide_eq_false (fun h=>c4 h.2.2.2.2),Bool.false_and]
                · rw [if_neg (by simpa using c3),Q6,decide_eq_false (fun h=>c3 h.2.2.2.1),Bool.false_and]
              · rw [if_neg (by simpa using c2),Q6,decide_eq_false (fun h=>c2 h.2.2.1),Bool.false_and]
            · rw [if_neg (by simpa using c0),Q6,decide_eq_false (fun h=>c0 h.2.1),Bool.false_and]
          · have c1' : ¬ v = (⟨0,0,(⟨#[]⟩ : ByteArray)⟩ : V):=c1
            rw [if_neg (by rw [decide_eq_false c1']; simp),Q6,decide_eq_false (fun h=>c1 h.1),Bool.false_and]
        · rw [if_neg (by simpa using h3),if_neg h3]
theorem rexprs_is {N:Nat} {vars:Int} {l:List Qe} (hN : 9223372036854775808 + 1000000 ≤ N) (hok : ∀ y ∈ l,ok_Api_ExprD y) (hl:Q3u l ≤ 1000000):Q35 N l vars = some (Q76 vars l):=by
 unfold Q35
 have hll:=Q6g l
 rw [Q8h (l:=l) (p:=fun y=>Q5W vars y) (a:=()) (b:=false) (fun i hi=>by
  unfold Q3b
  have hn:=Q6h (List.getElem_mem hi)
  rw [if_pos (by simpa using hi),List.getElem?_eq_getElem hi,Q6,rexpr_is 1000000 N l[i] (hok _ (List.getElem_mem hi)) (by omega) (by omega) (by omega),Q6]
  by_cases hb:Q5W vars l[i] = true
  · rw [if_neg (by simp [hb]),if_pos hb,QC (by omega)]
  · rw [if_pos (by simpa using hb),if_neg hb]) (by
  unfold Q3b
  rw [if_neg (by simp)]) (by omega),Q9E]
 cases l.all (fun y=>Q5W vars y) <;> rfl
theorem within_is (N:Nat) (types:List Qg) (kind fields:Int):Q2i N types kind fields = some (Q2Z types kind fields):=by
 unfold Q2i Q2Z
 by_cases h : 0 ≤ kind
 ·rw [if_pos (by simpa using h)]
  by_cases h2:kind < ((types.length:Nat):Int)
  ·have h3:kind.toNat < types.length:=by omega
   rw [if_pos (by simpa using h2),QC h,List.getElem?_eq_getElem h3,Q6]
   simp [h]
  · rw [if_neg (by simpa using h2),List.getElem?_eq_none (by omega)]
 ·rw [if_neg (by simpa using h)]
  split
  · simp [h]
  · rfl
theorem rarg_is {N:Nat} {vars:Int} (hN : 9223372036854775808 ≤ N) (hv : 0 ≤ vars ∧ vars ≤ 1000000000) {a:Q3S} (ha:Q9c a.v) (binds:Bool):Q4y N a.k a.var a.v.k a.v.n a.v.s vars binds = some ((Q6a binds vars a).2,(Q6a binds vars a).1):=by
 unfold Q4y Q6a
 have ev:(⟨a.v.k,a.v.n,a.v.s⟩ : V) = a.v:=rfl
 rw [ev]
 by_cases h1:a.k = 1
 ·rw [if_pos (by simpa using h1),if_pos h1]
  by_cases h:a.var = 0
  · rw [if_pos (by simpa using h)]; simp [h,Q5I]
  · rw [if_neg (by simpa using h)]; simp [h]
 ·rw [if_neg (by simpa using h1),if_neg h1]
  by_cases h2:a.k = 2
  ·rw [if_pos (by simpa using h2),if_pos h2,QC (by omega)]
   cases binds with
   | false=>rw [if_neg (by simp)]; simp
   | true =>
     rw [if_pos rfl]
     by_cases h:a.var = vars
     · rw [if_pos (by simpa using h)]; simp [h,Q5I]
     · rw [if_neg (by simpa using h)]; simp [h]
  ·rw [if_neg (by simpa using h2),if_neg h2]
   by_cases h3:a.k = 3
   · rw [if_pos (by simpa using h3),if_pos h3]
     by_cases h : 0 ≤ a.var
     ·rw [if_pos (by simpa using h)]
      by_cases h' : a.var < vars
      · rw [if_pos (by simpa using h')]; simp [h,h',Q5I]
      · rw [if_neg (by simpa using h')]; simp [h']
     · rw [if_neg (by simpa using h)]; simp [h]
   · rw [if_neg (by simpa using h3),if_neg h3]
     by_cases h4:a.k = 4
     ·rw [if_pos (by simpa using h4),if_pos h4]
      by_cases h:a.var = 0
      · rw [if_pos (by simpa using h),rright_is hN ha,Q6]; simp [h]
      · rw [if_neg (by simpa using h)]; simp [h]
     · rw [if_neg (by simpa using h4),if_neg h4]
theorem rargs_iter {N:Nat} (hN : 9223372036854775808 ≤ N) {c:QE} (hs : ∀ a ∈ c.args,Q9c a.v) (hl:c.args.length ≤ 1000000) :
   ∀ (m i fuel:Nat) (vars:Int),i + m = c.args.length → m < fuel → 0 ≤ vars → vars + ((m:Nat):Int) ≤ 1000000000 →
     Q19 (Q24 N c) fuel (i,vars) = some (if (Q40 (c.kind == 1) (c.args.drop i) vars).1 = true then .inl (Q40 (c.kind == 1) (c.args.drop i) vars).2 else .inr (.inr (.inr (.inr false)))):=by
 intro m
 induction m with
 | zero =>
   intro i fuel vars hi hf h0 hv
   obtain ⟨fuel,rfl⟩ : ∃ q,fuel = q + 1:=⟨fuel - 1,by omega⟩
   obtain rfl:i = c.args.length:=by omega
   rw [Q1a (o:=.inl vars) (by unfold Q24; simp only; rw [if_neg (by simp)]),List.drop_length]
   simp [Q40]
 | succ m ih =>
   intro i fuel vars hi hf h0 hv
   obtain ⟨fuel,rfl⟩ : ∃ q,fuel = q + 1:=⟨fuel - 1,by omega⟩
   have h:i < c.args.length:=by omega
   have hst:Q24 N c (i,vars) = if (Q6a (c.kind == 1) vars c.args[i]).1 = true then some (.inl (i + 1,(Q6a (c.kind == 1) vars c.args[i]).2)) else some (.inr (.inr (.inr (.inr (.inr false))))):=by
     unfold Q24
     simp only
     rw [if_pos (by simpa using h),List.getElem?_eq_getElem h,Q6,rarg_is hN (by omega) (hs _ (List.getElem_mem h)) (c.kind == 1),Q6]
     by_cases hb:(Q6a (c.kind == 1) vars c.args[i]).1 = true
     ·simp only [hb,Bool.not_true,Bool.false_eq_true,if_false,if_true]
      rw [QC (by omega)]
     ·simp only [Bool.not_eq_true] at hb
      simp only [hb,Bool.not_false,if_true,Bool.false_eq_true,if_false]
   rw [List.drop_eq_getElem_cons h]
   rw [Q40]
   have hv2:=Qag (c.kind == 1) vars c.args[i]
   by_cases hb:(Q6a (c.kind == 1) vars c.args[i]).1 = true
   · rw [if_pos hb] at hst ⊢
     rw [Q2f hst]
     exact ih (i + 1) fuel _ (by omega) (by omega) (by omega) (by omega)
   · rw [if_neg hb] at hst ⊢
     rw [Q1a hst]
     simp
theorem zero_is (N:Nat) (e:Qe):Q3o N e.kind e.value.k e.value.n e.value.s e.var e.op e.kids = some (zeroE e):=by
 unfold Q3o Q5B zeroE
 have ev:(⟨e.value.k,e.value.n,e.value.s⟩ : V) = e.value:=rfl
 rw [ev]
 by_cases c1:e.kind = 0
 ·rw [if_pos (by simpa using c1)]
  by_cases c2:e.value = Q5I
  ·have c2' : e.value = (⟨0,0,(⟨#[]⟩ : ByteArray)⟩ : V):=c2
   rw [if_pos (by rw [decide_eq_true c2'])]
   by_cases c3:e.var = 0
   ·rw [if_pos (by simpa using c3)]
    by_cases c4:e.op = 0
    ·rw [if_pos (by simpa using c4),Q6]
     congr 1
     rw [Bool.eq_iff_iff]; simp [c1,c2,c3,c4]
    · rw [if_neg (by simpa using c4),Q6,decide_eq_false (fun h=>c4 h.2.2.2.1)]
   · rw [if_neg (by simpa using c3),Q6,decide_eq_false (fun h=>c3 h.2.2.1)]
  ·have c2' : ¬ e.value = (⟨0,0,(⟨#[]⟩ : ByteArray)⟩ : V):=c2
   rw [if_neg (by rw [decide_eq_false c2']; simp),Q6,decide_eq_false (fun h=>c2 h.2.1)]
 · rw [if_neg (by simpa using c1),Q6,decide_eq_false (fun h=>c1 h.1)]
structure ShortC (c:QE):Prop where
 args:c.args.length ≤ 1000 ∧ ∀ a ∈ c.args,Q9c a.v
 test:Q7g c.test ≤ 1000000 ∧ ok_Api_ExprD c.test
theorem rcond_is {N:Nat} {types:List Qg} {l:List QE} {i:Nat} {vars:Int} {facts:Nat} (hi:i < l.length) (hN : 9223372036854775808 + 1000000 ≤ N) (hc:ShortC l[i]) (hv : 0 ≤ vars ∧ vars ≤ 1000000) (hf:facts ≤ 1000000) :
  Q4j N l i types vars facts = some (if (Q2j types vars ((facts:Nat):Int) l[i]).1 = true then .inl ((Q2j types vars ((facts:Nat):Int) l[i]).2.2.toNat,(Q2j types vars ((facts:Nat):Int) l[i]).2.1) else .inr (.inr (.inr false))):=by
 unfold Q4j
 rw [List.getElem?_eq_getElem hi,Q6]
 generalize l[i] = c at hc ⊢
 unfold Q2j
 have e12:(if (c.kind == 1) = true then some (c.kind == 1) else some (c.kind == 2)) = some (decide (c.kind = 1 ∨ c.kind = 2)):=by
  by_cases h:c.kind = 1
  · simp [h]
  · rw [if_neg (by simpa using h)]; congr 1; rw [Bool.eq_iff_iff]; simp [h]
 rw [e12,Q6]
 by_cases h12:c.kind = 1 ∨ c.kind = 2
 ·rw [if_pos (by simpa using h12),if_pos h12]
  have hc2:(Qp (Q2i N types c.type ((c.args.length:Nat):Int)) fun v64=>if (!v64) = true then some true else Qp (Q3o N c.test.kind c.test.value.k c.test.value.n c.test.value.s c.test.var c.test.op c.test.kids) fun v69=>some (!v69)) = some (!(Q2Z types c.type ((c.args.length:Nat):Int) && zeroE c.test)):=by
   rw [within_is,Q6,zero_is,Q6]
   cases Q2Z types c.type ((c.args.length:Nat):Int) with
   | false=>simp
   | true=>rw [if_neg (by simp),Bool.true_and]
  rw [hc2,Q6]
  by_cases hg:(Q2Z types c.type ((c.args.length:Nat):Int) && zeroE c.test) = true
  ·have hal:=hc.args.1
   rw [if_neg (by rw [hg]; simp),if_pos hg,rargs_iter (by omega) hc.args.2 (by omega) c.args.length 0 N vars (by omega) (by omega) hv.1 (by omega),List.drop_zero]
   by_cases hb:(Q40 (c.kind == 1) c.args vars).1 = true
   ·rw [if_pos hb,if_pos hb,Q18,if_pos rfl]
    by_cases h1:c.kind = 1
    ·rw [if_pos (by simpa using h1),QC (by omega),if_pos h1]
     simp only
     congr 3
    ·rw [if_neg (by simpa using h1),if_neg h1]
     simp only
     congr 3
   ·rw [if_neg hb,if_neg hb,Q1t]
    simp
  ·have hgf:(Q2Z types c.type ((c.args.length:Nat):Int) && zeroE c.test) = false:=by simpa only [Bool.not_eq_true] using hg
   rw [hgf,if_pos (by rfl),if_neg (by simp)]
 ·rw [if_neg (by simpa using h12),if_neg h12]
  by_cases h3:c.kind = 3
  ·rw [if_pos (by simpa using h3),if_pos h3]
   have hc7:Q4k N c vars = some (!(decide (c.type = 0 ∧ c.args.length = 0) && Q5W vars c.test)):=by
    unfold Q4k
    by_cases h4:c.type = 0
    ·rw [if_neg (by simpa using h4)]
     by_cases h5:c.args.length = 0
     · rw [if_neg (by simpa using h5),rexpr_is 1000000 N c.test hc.test.2 hc.test.1 (by omega) (by omega),Q6,decide_eq_true ⟨h4,h5⟩,Bool.true_and]
     · rw [if_pos (by simpa using h5),decide_eq_false (fun h=>h5 h.2),Bool.false_and]; rfl
    · rw [if_pos (by simpa using h4),decide_eq_false (fun h=>h4 h.1),Bool.false_and]; rfl
   rw [hc7,Q6]
   simp only
   cases (decide (c.type = 0 ∧ c.args.length = 0) && Q5W vars c.test) with
   | true=>rw [if_neg (by simp),if_pos rfl]; congr 3
   | false=>rw [if_pos (by rfl),if_neg (by simp)]
  ·rw [if_neg (by simpa using h3),if_neg h3]
   simp
theorem rconds_iter {N:Nat} {types:List Qg} {l:List QE} (hN : 9223372036854775808 + 1000000 ≤ N) (hl : ∀ c ∈ l,ShortC c) (hll:l.length ≤ 100) :
   ∀ (m i fuel:Nat) (vars:Int) (facts:Nat),i + m = l.length → m < fuel → 0 ≤ vars ∧ vars + ((m:Nat):Int) * 1000 ≤ 1000000 → facts + m ≤ 1000000 →
     Q19 (Q23 N l types) fuel (i,facts,vars) = some (if (Q2X types (l.drop i) vars ((facts:Nat):Int)).1 = true then .inl ((Q2X types (l.drop i) vars ((facts:Nat):Int)).2.1,(Q2X types (l.drop i) vars ((facts:Nat):Int)).2.2.toNat) else .inr false):=by
 intro m
 induction m with
 | zero =>
   intro i fuel vars facts hi hf hv hft
   obtain ⟨fuel,rfl⟩ : ∃ q,fuel = q + 1:=⟨fuel - 1,by omega⟩
   obtain rfl:i = l.length:=by omega
   rw [Q1a (o:=.inl (vars,facts)) (by unfold Q23; simp only; rw [if_neg (by simp)]),List.drop_length]
   simp [Q2X]
 | succ m ih =>
   intro i fuel vars facts hi hf hv hft
   obtain ⟨fuel,rfl⟩ : ∃ q,fuel = q + 1:=⟨fuel - 1,by omega⟩
   have h:i < l.length:=by omega
   have hk:=hl l[i] (List.getElem_mem h)
   have hk1:=hk.args.1
   have hcv:=Q9n types vars ((facts:Nat):Int) l[i]
   have hs:Q23 N l types (i,facts,vars) = if (Q2j types vars ((facts:Nat):Int) l[i]).1 = true then some (.inl (i + 1,(Q2j types vars ((facts:Nat):Int) l[i]).2.2.toNat,(Q2j types vars ((facts:Nat):Int) l[i]).2.1)) else some (.inr (.inr false)):=by
     unfold Q23
     simp only
     rw [if_pos (by simpa using h),rcond_is h hN hk (by omega) (by omega)]
     by_cases hb:(Q2j types vars ((facts:Nat):Int) l[i]).1 = true
     · rw [if_pos hb,if_pos hb,Q18,QC (by omega)]
     · rw [if_neg hb,if_neg hb,Q1t]
   rw [List.drop_eq_getElem_cons h,Q2X]
   by_cases hb:(Q2j types vars ((facts:Nat):Int) l[i]).1 = true
   · rw [if_pos hb] at hs
     simp only [hb,if_true]
     rw [Q2f hs,ih (i + 1) fuel (Q2j types vars ((facts:Nat):Int) l[i]).2.1 (Q2j types vars ((facts:Nat):Int) l[i]).2.2.toNat (by omega) (by omega) (by omega) (by omega)]
     rw [Int.toNat_of_nonneg (by omega)]
   · rw [if_neg hb] at hs
     rw [Q1a hs,if_neg hb]
     simp
theorem ract_is {N:Nat} {types:List Qg} {vars:Int} {facts:Nat} {a:Q20} (hN : 9223372036854775808 + 1000000 ≤ N) (hok : ∀ y ∈ a.exprs,ok_Api_ExprD y) (ha:Q3u a.exprs ≤ 1000000):Q4l N a types vars facts = some (actB types vars ((facts:Nat):Int) a):=by
 unfold Q4l actB
 by_cases h1:a.kind = 1
 ·rw [if_pos (by simpa using h1),if_pos h1]
  by_cases h2:a.which = 0
  ·rw [if_pos (by simpa using h2),within_is,Q6,decide_eq_true h2,Bool.true_and]
   cases ht:Q2Z types a.type ((a.exprs.length:Nat):Int) with
   | true=>rw [if_pos rfl,rexprs_is hN hok ha,Q6,Bool.true_and]
   | false=>rw [if_neg (by simp),Bool.false_and]
  · rw [if_neg (by simpa using h2),decide_eq_false h2,Bool.false_and]
 ·rw [if_neg (by simpa using h1),if_neg h1]
  by_cases h2:a.kind = 2
  ·rw [if_pos (by simpa using h2),if_pos h2]
   by_cases c1:a.type = 0
   ·rw [if_pos (by simpa using c1)]
    by_cases c2:a.exprs.length = 0
    ·rw [if_pos (by simpa using c2)]
     by_cases c3 : 0 ≤ a.which
     ·rw [if_pos (by simpa using c3)]
      congr 1
      rw [Bool.eq_iff_iff]; simp only [decide_eq_true_eq]
      exact ⟨fun h=>⟨c1,c2,c3,h⟩,fun h=>h.2.2.2⟩
     · rw [if_neg (by simpa using c3),decide_eq_false (fun h=>c3 h.2.2.1)]
    · rw [if_neg (by simpa using c2),decide_eq_false (fun h=>c2 h.2.1)]
   · rw [if_neg (by simpa using c1),decide_eq_false (fun h=>c1 h.1)]
  ·rw [if_neg (by simpa using h2),if_neg h2]
   by_cases h3:a.kind = 3
   ·rw [if_pos (by simpa using h3),if_pos h3]
    by_cases c1:a.type = 0
    ·rw [if_pos (by simpa using c1)]
     by_cases c2:a.which = 0
     ·rw [if_pos (by simpa using c2)]
      by_cases c3 : 0 < a.exprs.length
      · rw [if_pos (by simpa using c3),rexprs_is hN hok ha,Q6,decide_eq_true ⟨c1,c2,c3⟩,Bool.true_and]
      · rw [if_neg (by simpa using c3),decide_eq_false (fun h=>c3 h.2.2),Bool.false_and]
     · rw [if_neg (by simpa using c2),decide_eq_false (fun h=>c2 h.2.1),Bool.false_and]
    · rw [if_neg (by simpa using c1),decide_eq_false (fun h=>c1 h.1),Bool.false_and]
   ·rw [if_neg (by simpa using h3),if_neg h3]
    by_cases c0:a.kind = 4
    ·rw [if_pos (by simpa using c0)]
     by_cases c1:a.type = 0
     ·rw [if_pos (by simpa using c1)]
      by_cases c2:a.which = 0
      ·rw [if_pos (by simpa using c2)]
       congr 1
       rw [Bool.eq_iff_iff]; simp only [decide_eq_true_eq,beq_iff_eq]
       exact ⟨fun h=>⟨c0,c1,c2,h⟩,fun h=>h.2.2.2⟩
      · rw [if_neg (by simpa using c2),decide_eq_false (fun h=>c2 h.2.2.1)]
     · rw [if_neg (by simpa using c1),decide_eq_false (fun h=>c1 h.2.1)]
    · rw [if_neg (by simpa using c0),decide_eq_false (fun h=>c0 h.1)]
structure ShortR (r:Qj):Prop where
 name:r.name.size ≤ 9223372036854775807
 conds : ∀ c ∈ r.conds,ShortC c
 acts : ∀ a ∈ r.acts,Q3u a.exprs ≤ 1000000 ∧ ∀ y ∈ a.exprs,ok_Api_ExprD y
theorem Q6b (types:List Qg) : ∀ (l:List QE) (vars facts:Int),facts ≤ (Q2X types l vars facts).2.2 ∧ vars ≤ (Q2X types l vars facts).2.1
 | [],vars,facts=>by simp [Q2X]
 | c :: l,vars,facts=>by
   have h:=Q9n types vars facts c
   unfold Q2X
   split
   ·have:=Q6b types l (Q2j types vars facts c).2.1 (Q2j types vars facts c).2.2
    omega
   · simp only; omega
theorem rrule_is {N:Nat} {types:List Qg} {r:Qj} (hN : 9223372036854775808 + 1000000 ≤ N) (hr:ShortR r):Q4a N types r.name r.salience r.vars r.conds r.acts = some (Q6R types r):=by
 unfold Q4a
 have hc1:Q4i N r.name r.salience r.conds r.acts = some (!(Q7s r.name && decide (-1000 ≤ r.salience ∧ r.salience ≤ 1000 ∧ r.conds.length ≤ 8 ∧ r.acts.length ≤ 8))):=by
  unfold Q4i
  rw [rname_is (by omega) hr.name,Q6]
  cases Q7s r.name with
  | false=>simp
  | true =>
    rw [if_neg (by simp),Bool.true_and]
    by_cases c1:r.salience < -1000
    · rw [if_pos (by simpa using c1),decide_eq_false (by omega)]; rfl
    · rw [if_neg (by simpa using c1)]
      by_cases c2:r.salience > 1000
      · rw [if_pos (by simpa using c2),decide_eq_false (by omega)]; rfl
      ·rw [if_neg (by simpa using c2)]
       by_cases c3 : 8 < r.conds.length
       · rw [if_pos (by simpa using c3),decide_eq_false (by omega)]; rfl
       ·rw [if_neg (by simpa using c3)]
        congr 1
        rw [Bool.eq_iff_iff]; simp only [decide_eq_true_eq,Bool.not_eq_true',decide_eq_false_iff_not]; omega
 rw [hc1,Q6]
 unfold Q6R
 by_cases hg:(Q7s r.name && decide (-1000 ≤ r.salience ∧ r.salience ≤ 1000 ∧ r.conds.length ≤ 8 ∧ r.acts.length ≤ 8)) = true
 ·rw [hg,if_neg (by simp)]
  have h8:r.conds.length ≤ 8 ∧ r.acts.length ≤ 8:=by
    simp only [Bool.and_eq_true,decide_eq_true_eq] at hg
    exact ⟨hg.2.2.2.1,hg.2.2.2.2⟩
  rw [rconds_iter hN hr.conds (by omega) r.conds.length 0 N 0 0 (by omega) (by omega) (by omega) (by omega),List.drop_zero]
  have hp:=Q6b types r.conds 0 0
  rw [show ((0:Nat):Int) = 0 from rfl]
  generalize Q2X types r.conds 0 0 = Q at hp ⊢
  obtain ⟨q,x,y⟩:=Q
  simp only at hp ⊢
  cases q with
  | false=>simp only [Bool.false_eq_true,if_false]; rw [Q1t]; rfl
  | true =>
    simp only [if_true]
    rw [Q18]
    simp only [Bool.true_and]
    rw [Q8h (l:=r.acts) (p:=fun z=>actB types x y z) (a:=()) (b:=false) (fun i hi=>by
      unfold Q3n
      obtain ⟨a1,a2⟩:=hr.acts _ (List.getElem_mem hi)
      rw [if_pos (by simpa using hi),List.getElem?_eq_getElem hi,Q6,ract_is hN a2 a1,Q6,Int.toNat_of_nonneg (by omega)]
      by_cases hb:actB types x y r.acts[i] = true
      · rw [if_neg (by simp [hb]),if_pos hb,QC (by omega)]
      · rw [if_pos (by simpa using hb),if_neg hb]) (by
      unfold Q3n
      rw [if_neg (by simp)]) (by omega)]
    cases r.acts.all (fun z=>actB types x y z) with
    | false=>rw [if_neg (by simp),Q1t,Bool.and_false]
    | true =>
      rw [if_pos rfl,Q18,Bool.and_true]
      by_cases c1:r.vars = x
      ·rw [if_pos (by simpa using c1)]
       congr 1
       rw [Bool.eq_iff_iff]; simp [c1]
      · rw [if_neg (by simpa using c1),decide_eq_false (fun h=>c1 h.1)]
 ·have hgf:(Q7s r.name && decide (-1000 ≤ r.salience ∧ r.salience ≤ 1000 ∧ r.conds.length ≤ 8 ∧ r.acts.length ≤ 8)) = false:=by simpa only [Bool.not_eq_true] using hg
  rw [hgf,if_pos (by rfl),Bool.false_and]
theorem rtypeP_is {N:Nat} {types:List Qg} (hN : 9223372036854775808 + 1000000 ≤ N) (ht : ∀ t ∈ types,t.name.size ≤ 9223372036854775807) (hl:types.length ≤ 1000) {i:Nat} (hi:i < types.length):Q1S N types i = if typeP types i = true then some (.inl (i + 1)) else some (.inr (.inr false)):=by
 unfold Q1S Q5m typeP
 rw [if_pos (by simpa using hi),List.getElem?_eq_getElem hi,Q6]
 simp only
 have hc4:Q44 N types[i] = some (!(Q7s types[i].name && decide (0 ≤ types[i].fields ∧ types[i].fields ≤ 6))):=by
   unfold Q44
   rw [rname_is (by omega) (ht _ (List.getElem_mem hi)),Q6]
   cases Q7s types[i].name with
   | false=>simp
   | true =>
     rw [if_neg (by simp),Bool.true_and]
     by_cases c1:types[i].fields < 0
     · rw [if_pos (by simpa using c1),decide_eq_false (by omega)]; rfl
     ·rw [if_neg (by simpa using c1)]
      congr 1
      rw [Bool.eq_iff_iff]; simp only [decide_eq_true_eq,Bool.not_eq_true',decide_eq_false_iff_not]; omega
 rw [hc4,Q6]
 have hf:=first_eq (p:=fun x:Qg=>x.name.toList == types[i].name.toList) types i 0 hi (by simp)
 rw [Nat.zero_add] at hf
 simp only [hf]
 rw [← Bool.and_assoc]
 cases Q7s types[i].name && decide (0 ≤ types[i].fields ∧ types[i].fields ≤ 6) with
 | false=>rw [if_pos (by rfl),Q1t,Bool.false_and,if_neg (by simp)]
 | true =>
   rw [if_neg (by simp),Bool.true_and]
   have hlen:(types.take i).length = i:=by simp; omega
   have hit:=Q8h (l:=types.take i) (f:=Q2s N i types types[i]) (p:=fun x=>!(x.name.toList == types[i].name.toList)) (a:=()) (b:=(.inr (.inr false):Nat ⊕ (Unit ⊕ Bool))) (fun k hk=>by
     have hk1:k < i:=by omega
     have hk2:k < types.length:=by omega
     unfold Q2s
     rw [if_pos (by simpa using hk1),List.getElem?_eq_getElem hk2,Q6,List.getElem_take]
     cases hb:(types[k].name.toList == types[i].name.toList) with
     | true=>rw [if_pos rfl,if_neg (by simp)]
     | false=>rw [if_neg (by simp),if_pos (by simp),QC (by omega)]) (by
     unfold Q2s
     rw [hlen,if_neg (by simp)]) (N:=N) (by omega)
   rw [hit]
   cases (types.take i).all (fun x=>!(x.name.toList == types[i].name.toList)) with
   | true=>rw [if_pos rfl,if_pos rfl,Q18,QC (by omega)]
   | false=>rw [if_neg (by simp),if_neg (by simp),Q1t]
theorem rruleP_is {N:Nat} {types:List Qg} {rules:List Qj} (hN : 9223372036854775808 + 1000000 ≤ N) (hr : ∀ r ∈ rules,ShortR r) (hl:rules.length ≤ 1000) {i:Nat} (hi:i < rules.length):Q1T N rules types i = if ruleP types rules i = true then some (.inl (i + 1)) else some (.inr (.inr false)):=by
 unfold Q1T ruleP
 rw [if_pos (by simpa using hi),List.getElem?_eq_getElem hi,Q6,rrule_is hN (hr _ (List.getElem_mem hi)),Q6]
 simp only
 have hf:=first_eq (p:=fun x:Qj=>x.name.toList == rules[i].name.toList) rules i 0 hi (by simp)
 rw [Nat.zero_add] at hf
 simp only [hf]
 have hlen:(rules.take i).length = i:=by simp; omega
 have hit:=Q8h (l:=rules.take i) (f:=Q2t N i rules) (p:=fun x=>!(x.name.toList == rules[i].name.toList)) (a:=()) (b:=(.inr (.inr false):Nat ⊕ (Unit ⊕ Bool))) (fun k hk=>by
   have hk1:k < i:=by omega
   have hk2:k < rules.length:=by omega
   unfold Q2t
   rw [if_pos (by simpa using hk1),List.getElem?_eq_getElem hk2,Q6,List.getElem?_eq_getElem hi,Q6,List.getElem_take]
   cases hb:(rules[k].name.toList == rules[i].name.toList) with
   | true=>rw [if_pos rfl,if_neg (by simp)]
   | false=>rw [if_neg (by simp),if_pos (by simp),QC (by omega)]) (by
   unfold Q2t
   rw [hlen,if_neg (by simp)]) (N:=N) (by omega)
 rw [hit]
 cases (rules.take i).all (fun x=>!(x.name.toList == rules[i].name.toList)) with
 | false=>rw [if_neg (by simp),Q1t,Bool.false_and,if_neg (by simp)]
 | true =>
   rw [if_pos rfl,Q18,Bool.true_and]
   cases Q6R types rules[i] with
   | true=>rw [if_neg (by simp),if_pos rfl,QC (by omega)]
   | false=>rw [if_pos (by rfl),if_neg (by simp)]
theorem rright_rules {N:Nat} {types:List Qg} {rules:List Qj} (hN : 9223372036854775808 + 1000000 ≤ N) (ht : ∀ t ∈ types,t.name.size ≤ 9223372036854775807) (hr : ∀ r ∈ rules,ShortR r):Q34 N types rules = some (Q4T types rules):=by
 unfold Q34 Q4T
 by_cases h1 : 32 < types.length
 · rw [if_pos (by simpa using h1),Q6,if_pos rfl,decide_eq_false (by omega)]; rfl
 ·rw [if_neg (by simpa using h1),Q6]
  by_cases h2 : 64 < rules.length
  · rw [if_pos (by simpa using h2),decide_eq_false (by omega)]; rfl
  ·rw [if_neg (by simpa using h2),decide_eq_true ⟨by omega,by omega⟩,Bool.true_and]
   rw [all_iter1 (f:=Q1S N types) (n:=types.length) (p:=typeP types) (fun i hi=>rtypeP_is hN ht (by omega) hi) (by
     unfold Q1S
     rw [if_neg (by simp)]) types.length 0 N (by omega) (by omega)]
   cases (List.range' 0 types.length).all (typeP types) with
   | false=>rfl
   | true =>
     rw [if_pos rfl,Q18,Bool.true_and]
     rw [all_iter1 (f:=Q1T N rules types) (n:=rules.length) (p:=ruleP types rules) (fun i hi=>rruleP_is hN hr (by omega) hi) (by
      unfold Q1T
      rw [if_neg (by simp)]) rules.length 0 N (by omega) (by omega)]
     cases (List.range' 0 rules.length).all (ruleP types rules) <;> rfl
theorem rfactC_is {N:Nat} {types:List Qg} {f:QP} {last:Int}:Q45 N f last types = some (!(decide (last < f.id ∧ f.id ≤ 1099511627776) && Q2Z types f.ty ((f.args.length:Nat):Int))):=by
 unfold Q45
 by_cases c1:f.id ≤ last
 · rw [if_pos (by simpa using c1),decide_eq_false (by omega)]; rfl
 ·rw [if_neg (by simpa using c1)]
  by_cases c2:f.id > 1099511627776
  · rw [if_pos (by simpa using c2),decide_eq_false (by omega)]; rfl
  ·rw [if_neg (by simpa using c2),decide_eq_true (show last < f.id ∧ f.id ≤ 1099511627776 from ⟨by omega,by omega⟩),Bool.true_and]
   unfold Q2Z
   by_cases c3:f.ty < 0
   ·rw [if_pos (by simpa using c3)]
    have:decide (0 ≤ f.ty) = false:=decide_eq_false (by omega)
    rw [this]
    cases types[f.ty.toNat]? <;> rfl
   ·rw [if_neg (by simpa using c3)]
    by_cases c4:f.ty ≥ ((types.length:Nat):Int)
    · rw [if_pos (by simpa using c4),List.getElem?_eq_none (by omega)]; rfl
    ·have h4:f.ty.toNat < types.length:=by omega
     rw [if_neg (by simpa using c4),QC (by omega),List.getElem?_eq_getElem h4,Q6]
     simp only
     rw [decide_eq_true (show 0 ≤ f.ty by omega),Bool.true_and]
     congr 1
     rw [Bool.eq_iff_iff]
     simp only [bne_iff_ne,ne_eq,Bool.not_eq_true',beq_eq_false_iff_ne]
     exact ⟨fun h e=>h e.symm,fun h e=>h e.symm⟩
theorem rfacts_iter {N:Nat} {types:List Qg} {l:List QP} (hN : 9223372036854775808 ≤ N) (hl:l.length ≤ 1000000000) (hf : ∀ f ∈ l,f.args.length ≤ 4398046510976 ∧ ∀ v ∈ f.args,Q9c v) :
   ∀ (m i fuel:Nat) (last:Int),i + m = l.length → m < fuel → Q19 (Q1U N l types) fuel (i,last) = some (if Q6c types last (l.drop i) = true then .inl () else .inr false):=by
 intro m
 induction m with
 | zero =>
   intro i fuel last hi hfu
   obtain ⟨fuel,rfl⟩ : ∃ q,fuel = q + 1:=⟨fuel - 1,by omega⟩
   obtain rfl:i = l.length:=by omega
   rw [Q1a (o:=.inl ()) (by unfold Q1U; simp only; rw [if_neg (by simp)]),List.drop_length]; rfl
 | succ m ih =>
   intro i fuel last hi hfu
   obtain ⟨fuel,rfl⟩ : ∃ q,fuel = q + 1:=⟨fuel - 1,by omega⟩
   have h:i < l.length:=by omega
   obtain ⟨f1,f2⟩:=hf _ (List.getElem_mem h)
   rw [List.drop_eq_getElem_cons h,Q6c]
   have hs:Q1U N l types (i,last) = if factP types last l[i] = true then some (.inl (i + 1,l[i].id)) else some (.inr (.inr false)):=by
    unfold Q1U Q5n factP
    simp only
    rw [if_pos (by simpa using h),List.getElem?_eq_getElem h,Q6,rfactC_is,Q6,← Bool.and_assoc]
    cases (decide (last < l[i].id ∧ l[i].id ≤ 1099511627776) && Q2Z types l[i].ty ((l[i].args.length:Nat):Int)) with
    | false=>rw [if_pos (by rfl),Q1t,Bool.false_and,if_neg (by simp)]
    | true =>
      rw [if_neg (by simp),Bool.true_and]
      rw [Q8h (l:=l[i].args) (f:=Q2u N l[i]) (p:=Q8v) (a:=l[i].id) (b:=(.inr (.inr false):(Nat × Int) ⊕ (Unit ⊕ Bool))) (fun k hk=>by
       unfold Q2u
       rw [if_pos (by simpa using hk),List.getElem?_eq_getElem hk,Q6,rright_is hN (f2 _ (List.getElem_mem hk)),Q6]
       by_cases hb:Q8v l[i].args[k] = true
       · rw [if_neg (by simp [hb]),if_pos hb,QC (by omega)]
       · rw [if_pos (by simpa using hb),if_neg hb]) (by
       unfold Q2u
       rw [if_neg (by simp)]) (by omega)]
      cases l[i].args.all Q8v with
      | true=>rw [if_pos rfl,if_pos rfl,Q18,QC (by omega)]
      | false=>rw [if_neg (by simp),if_neg (by simp),Q1t]
   by_cases hb:factP types last l[i] = true
   ·rw [if_pos hb] at hs
    rw [Q2f hs,ih (i + 1) fuel l[i].id (by omega) (by omega),hb,Bool.true_and]
   ·rw [if_neg hb] at hs
    rw [Q1a hs,if_neg (by simp [hb])]
theorem rfacts_is {N:Nat} {types:List Qg} {rules:List Qj} {l:List QP} (hN : 9223372036854775808 ≤ N) (hl:l.length ≤ 1000000000) (hf : ∀ f ∈ l,f.args.length ≤ 4398046510976 ∧ ∀ v ∈ f.args,Q9c v):Q36 N types rules l = some (Q6c types 0 l):=by
 unfold Q36
 rw [rfacts_iter hN hl hf l.length 0 N 0 (by omega) (by omega),List.drop_zero]
 cases Q6c types 0 l <;> rfl
end Go.Proofs.YtbgodclhmgmcgaaGreatDoor
