import Derived.Test.YtbgodclhmgmcgaaGreatDoorNaivV
namespace Go.Proofs.YtbgodclhmgmcgaaGreatDoor
open Go Go.RowKit
def envH (n m:Nat):List Bool:=List.replicate m true++List.replicate (n - m) false
def Q8N (n:Nat)(vars:List V):List V:=vars++List.replicate (n - vars.length) Q87
theorem envH_len {n m:Nat} (h:m≤n):(envH n m).length=n:=by unfold envH;simp;omega
theorem envV_len {n:Nat} {vars:List V} (h:vars.length≤n):(Q8N n vars).length=n:=by unfold Q8N;simp;omega
def QaO (a:Q1n)(x:V)(vars:List V):Option (List V) :=
 if a.k=2 then some (vars++[x]) else if a.k=3 then (if vars[a.var.toNat]? =some x then some vars else none) else if a.k=4 then (if a.v=x then some vars else none) else some vars
def Qat:List Q1n→List V→List V→Option (List V)
 | [],_,vars=>some vars
 | _ :: _,[],_=>none
 | a :: al,x :: xs,vars=>match QaO a x vars with
   | some v=>Qat al xs v
   | none=>none
theorem docOne_len {b:Bool} {a:Q1n} {x:V} {vars v:List V} (ha:(Q8M b ((vars.length:Nat):Int) a).1=true)(h:QaO a x vars=some v):((v.length:Nat):Int)=(Q8M b ((vars.length:Nat):Int) a).2:=by
 unfold Q8M at ha ⊢
 unfold QaO at h
 by_cases k1:a.k=1
 ·rw [if_pos k1]
  rw [if_neg (by omega),if_neg (by omega),if_neg (by omega)] at h
  cases h;rfl
 rw [if_neg k1] at ha ⊢
 by_cases k2:a.k=2
 ·rw [if_pos k2] at h ⊢
  cases h;simp
 rw [if_neg k2] at ha h ⊢
 by_cases k3:a.k=3
 ·rw [if_pos k3] at h ⊢
  split at h
  · cases h;rfl
  · cases h
 rw [if_neg k3] at ha h ⊢
 by_cases k4:a.k=4
 ·rw [if_pos k4] at h ⊢
  split at h
  · cases h;rfl
  · cases h
 ·rw [if_neg k4] at ha
  cases ha
theorem set_true {n m:Nat} (h:m < n):(envH n m).set m true=envH n (m+1):=by
 unfold envH
 obtain ⟨q,hq⟩ : ∃ q,n - m=q+1:=⟨n - m - 1,by omega⟩
 rw [hq,show n - (m+1)=q from by omega,List.set_append_right _ _ (by simp)]
 simp only [List.length_replicate,Nat.sub_self]
 rw [List.replicate_succ,List.set_cons_zero,List.replicate_succ',List.append_assoc]
 rfl
theorem set_val {n:Nat} {vars:List V} {x:V} (h:vars.length < n):(Q8N n vars).set vars.length x=Q8N n (vars++[x]):=by
 unfold Q8N
 obtain ⟨q,hq⟩ : ∃ q,n - vars.length=q+1:=⟨n - vars.length - 1,by omega⟩
 rw [hq,show n - (vars++[x]).length=q from by simp;omega,List.set_append_right _ _ (Nat.le_refl _)]
 simp [List.replicate_succ]
theorem fit_env {b:Bool} {n:Nat} {a:Q1n} {x:V} {vars:List V} (ha:(Q8M b ((vars.length:Nat):Int) a).1=true)(hn:(Q8M b ((vars.length:Nat):Int) a).2≤((n:Nat):Int)) :
  Qag a x (envH n vars.length) (Q8N n vars)=(QaO a x vars).map fun v=>(envH n v.length,Q8N n v):=by
 have hvn:vars.length≤n:=by have:=QdR b ((vars.length:Nat):Int) a;omega
 unfold Q8M at ha hn
 unfold Qag QaO
 by_cases k1:a.k=1
 · rw [if_pos k1,if_neg (by omega),if_neg (by omega),if_neg (by omega)];rfl
 rw [if_neg k1] at ha hn ⊢
 by_cases k2:a.k=2
 ·rw [if_pos k2] at ha hn
  simp only [Bool.and_eq_true,decide_eq_true_eq] at ha
  have hlt:vars.length < n:=by simp only at hn;omega
  rw [if_neg (by omega),if_neg (by omega),if_pos k2,if_pos (by rw [envH_len hvn];omega),if_pos k2,ha.2.1,Int.toNat_natCast,set_true hlt,set_val hlt]
  simp
 rw [if_neg k2] at ha hn
 rw [if_neg k2]
 by_cases k3:a.k=3
 ·rw [if_pos k3] at ha
  simp only [decide_eq_true_eq] at ha
  obtain ⟨h0,h1,_⟩:=ha
  have hk:a.var.toNat < vars.length:=by omega
  have e1:(envH n vars.length)[a.var.toNat]? =some true:=by unfold envH;rw [List.getElem?_append_left (by simpa using hk)];simp [hk]
  have e2:(Q8N n vars)[a.var.toNat]? =vars[a.var.toNat]?:=by unfold Q8N;rw [List.getElem?_append_left hk]
  rw [if_neg (by omega),if_pos k3,if_pos k3,e1,e2,envH_len hvn]
  by_cases hx:vars[a.var.toNat]? =some x
  · rw [if_pos ⟨h0,by omega,rfl,hx⟩,if_neg k2,if_pos hx];rfl
  · rw [if_neg (fun h=>hx h.2.2.2),if_neg k2,if_neg hx];rfl
 rw [if_neg k3] at ha hn
 by_cases k4:a.k=4
 ·rw [if_pos k4,if_neg k3,if_pos k4]
  by_cases hx:a.v=x
  · rw [if_pos hx,if_neg k2,if_pos hx];rfl
  · rw [if_neg hx,if_neg k2,if_neg hx];rfl
 ·rw [if_neg k4] at ha
  cases ha
theorem argsB_cons {b:Bool} {a:Q1n} {al:List Q1n} {v:Int} (h:(Q5K b (a :: al) v).1=true):(Q8M b v a).1=true∧Q5K b (a :: al) v=Q5K b al (Q8M b v a).2:=by
 rw [Q5K] at h ⊢
 by_cases hb:(Q8M b v a).1=true
 · rw [if_pos hb];exact ⟨hb,rfl⟩
 · rw [if_neg hb] at h;cases h
theorem args_env {b:Bool} {n:Nat} : ∀ {al:List Q1n} {xs:List V} {vars:List V},(Q5K b al ((vars.length:Nat):Int)).1=true→(Q5K b al ((vars.length:Nat):Int)).2≤((n:Nat):Int)→
   Qaf al xs (envH n vars.length) (Q8N n vars)=(Qat al xs vars).map (fun v=>(envH n v.length,Q8N n v))∧∀ v,Qat al xs vars=some v→((v.length:Nat):Int)=(Q5K b al ((vars.length:Nat):Int)).2
 | [],xs,vars,_,_=>⟨rfl,fun v h=>by cases h;rfl⟩
 | a :: al,[],vars,_,_=>⟨rfl,fun v h=>by cases h⟩
 | a :: al,x :: xs,vars,h,hn=>by
   obtain ⟨h1,h2⟩:=argsB_cons h
   rw [h2] at h hn ⊢
   have hav:=QcV b al (Q8M b ((vars.length:Nat):Int) a).2
   unfold Qaf Qat
   rw [fit_env (n:=n) h1 (by omega)]
   cases hd:QaO a x vars with
   | none=>exact ⟨rfl,fun v h=>by cases h⟩
   | some w =>
     have hl:=docOne_len h1 hd
     simp only [Option.map_some]
     rw [← hl] at h hn ⊢
     exact args_env h hn
theorem not_binds : ∀ {al:List Q1n} {v:Int},(Q5K false al v).1=true→(Q5K false al v).2=v
 | [],v,_=>rfl
 | a :: al,v,h=>by
   obtain ⟨h1,h2⟩:=argsB_cons h
   rw [h2] at h ⊢
   have ha:(Q8M false v a).2=v:=by
    unfold Q8M at h1 ⊢
    split
    · rfl
    ·split
     ·rename_i k1 k2
      rw [if_neg k1,if_pos k2] at h1
      simp at h1
     ·split
      · rfl
      · split <;> rfl
   rw [ha] at h ⊢
   exact not_binds h
def docM (c:Qn)(f:QP)(vars:List V):Option (List V):=if f.ty=c.type then Qat c.args f.args vars else none
theorem made_env {n:Nat} {vars:List V} (h:vars.length≤n):madeB (envH n vars.length) (Q8N n vars)=true:=by
 unfold madeB
 rw [envH_len h,envV_len h,beq_self_eq_true,Bool.true_and]
 unfold envH Q8N
 rw [List.zip_append (by simp),List.all_append,Bool.and_eq_true]
 constructor
 ·rw [List.all_eq_true]
  intro p hp
  have:=(List.of_mem_zip (a:=p.1) (b:=p.2) hp).1
  rw [(List.mem_replicate.1 this).2];rfl
 ·rw [List.all_eq_true]
  intro p hp
  have:=(List.of_mem_zip (a:=p.1) (b:=p.2) hp).2
  rw [(List.mem_replicate.1 this).2];simp
theorem typed_len {types:List Q8} {k a b:Int} (h1:Q3T types k a=true)(h2:Q3T types k b=true):a=b:=by
 unfold Q3T at h1 h2
 split at h1
 ·rename_i t ht
  rw [ht] at h2
  simp only [Bool.and_eq_true,beq_iff_eq] at h1 h2
  omega
 · cases h1
structure CondR (types:List Q8) (v:Int) (c:Qn):Prop where
 kind:c.kind=1∨c.kind=2∨c.kind=3
 typed:c.kind≠3→Q3T types c.type ((c.args.length:Nat):Int)=true∧(Q5K (c.kind==1) c.args v).1=true
 test:c.kind=3→Q8m v c.test=true
theorem condR_of {types:List Q8} {v f:Int} {c:Qn} (h:(Q3C types v f c).1=true):CondR types v c∧(Q3C types v f c).2.1=if c.kind=3 then v else (Q5K (c.kind==1) c.args v).2:=by
 unfold Q3C at h ⊢
 by_cases h12:c.kind=1∨c.kind=2
 ·rw [if_pos h12] at h ⊢
  have h3:c.kind≠3:=by omega
  by_cases hg:(Q3T types c.type ((c.args.length:Nat):Int) && zeroE c.test)=true
  ·rw [if_pos hg] at h ⊢
   by_cases hb:(Q5K (c.kind==1) c.args v).1=true
   ·rw [if_pos hb,if_neg h3]
    refine ⟨⟨by omega,fun _=>⟨?_,hb⟩,fun h=>absurd h h3⟩,rfl⟩
    simp only [Bool.and_eq_true] at hg;exact hg.1
   · rw [if_neg hb] at h;cases h
  · rw [if_neg hg] at h;cases h
 ·rw [if_neg h12] at h ⊢
  by_cases h3:c.kind=3
  ·rw [if_pos h3] at h ⊢
   rw [if_pos h3]
   simp only [Bool.and_eq_true] at h
   exact ⟨⟨.inr (.inr h3),fun q=>absurd h3 q,fun _=>h.2⟩,rfl⟩
  · rw [if_neg h3] at h;cases h
theorem match_env {types:List Q8} {n:Nat} {c:Qn} {f:QP} {vars:List V} (hc:CondR types ((vars.length:Nat):Int) c)(h3:c.kind≠3)(hf:Q3T types f.ty ((f.args.length:Nat):Int)=true)(hn:(Q5K (c.kind==1) c.args ((vars.length:Nat):Int)).2≤((n:Nat):Int)) :
  Q9f c f (envH n vars.length) (Q8N n vars)=(docM c f vars).map fun v=>(envH n v.length,Q8N n v):=by
 obtain ⟨t1,t2⟩:=hc.typed h3
 have hav:=QcV (c.kind==1) c.args ((vars.length:Nat):Int)
 unfold Q9f docM
 by_cases ht:f.ty=c.type
 ·rw [if_pos ht]
  rw [ht] at hf
  have:=typed_len t1 hf
  rw [if_pos ⟨by have:=hc.kind;omega,ht.symm,by omega,made_env (by omega)⟩]
  exact (args_env t2 hn).1
 · rw [if_neg ht,if_neg (fun h=>ht h.2.1.symm)];rfl
theorem docM_len {types:List Q8} {c:Qn} {f:QP} {vars v:List V} (hc:CondR types ((vars.length:Nat):Int) c)(h3:c.kind≠3)(h:docM c f vars=some v):((v.length:Nat):Int)=(Q5K (c.kind==1) c.args ((vars.length:Nat):Int)).2:=by
 unfold docM at h
 split at h
 ·have hav:=QcV (c.kind==1) c.args ((vars.length:Nat):Int)
  exact (args_env (n:=(Q5K (c.kind==1) c.args ((vars.length:Nat):Int)).2.toNat) (hc.typed h3).2 (by omega)).2 v h
 · cases h
theorem eval_env : ∀ (m N:Nat) (e:Q4) (vars t:List V),Q8m ((vars.length:Nat):Int) e = true → Q8a e ≤ m → m ≤ 1000 → 9223372036854775808 + m ≤ N →
   at_ (Q1o N) (vars++t) e=at_ (Q1o N) vars e:=by
 intro m
 induction m with
 | zero =>
   intro N e vars t _ hn
   rw [Q56] at hn;omega
 | succ m ih =>
   intro N e vars t he hn hm hN
   obtain ⟨N,rfl⟩ : ∃ k,N=k+1:=⟨N - 1,by omega⟩
   obtain ⟨k,v,x,o,kids⟩:=e
   have hN1 : 9223372036854775808≤N:=by omega
   rw [Q56] at hn
   simp only at hn
   rw [Q8m] at he
   show Q42 N (Q1o N) k v.k v.n v.s x o kids (vars++t)=Q42 N (Q1o N) k v.k v.n v.s x o kids vars
   unfold Q42
   by_cases k1:k=1
   · subst k1;rfl
   rw [if_neg k1] at he
   have b1:(k==1)=false:=by simpa using k1
   by_cases k2:k=2
   ·subst k2
    rw [if_pos rfl] at he
    simp only [decide_eq_true_eq] at he
    obtain ⟨_,_,_,h0,h1⟩:=he
    simp only [b1,Bool.false_eq_true,if_false,show ((2:Int)==2)=true from rfl,if_true]
    have hx:Q7A N 2 v.k v.n v.s x o kids (vars++t)=Q7A N 2 v.k v.n v.s x o kids vars:=by
     unfold Q7A
     rw [if_neg (by simp;omega),if_neg (by simp;omega),Q0,Q0]
     have e1:decide (x ≥ (((vars++t).length:Nat):Int))=false:=decide_eq_false (by simp;omega)
     have e2:decide (x ≥ ((vars.length:Nat):Int))=false:=decide_eq_false (by omega)
     rw [e1,e2,List.getElem?_append_left (by omega)]
    rw [hx]
   rw [if_neg k2] at he
   have b2:(k==2)=false:=by simpa using k2
   by_cases k3:k=3
   ·subst k3
    rw [if_pos rfl] at he
    simp only [Bool.and_eq_true,decide_eq_true_eq] at he
    have hks:=he.2
    rw [Qdj,List.all_eq_true] at hks
    simp only [show ((3:Int)==3)=true from rfl,if_true,b1,b2,Bool.false_eq_true,if_false]
    unfold Q72 Q8x
    have hkl:kids.length≤1000000:=by have:=Q4o kids;omega
    rw [lrow hN1 hkl,lrow hN1 hkl]
    have hall:allR (at_ (Q1o N) (vars++t)) kids []=allR (at_ (Q1o N) vars) kids []:=by
     have : ∀ (l:List Q4) (acc:List V),(∀ y∈l,y∈kids)→allR (at_ (Q1o N) (vars++t)) l acc=allR (at_ (Q1o N) vars) l acc:=by
      intro l
      induction l with
      | nil=>intro acc _;rfl
      | cons y l ihl =>
        intro acc hy
        have hyk:=hy y (by simp)
        unfold allR
        rw [ih N y vars t (hks y hyk) (by have:=Q55 hyk;omega) (by omega) (by omega)]
        congr 1
        funext ⟨a,b,c,e⟩
        simp only
        rw [ihl _ (fun z hz=>hy z (by simp [hz]))]
     exact this kids [] (fun y hy=>hy)
    rw [hall]
   · rw [if_neg k3] at he;cases he
def docEv (c:Qn)(vars:List V):Bool:=holdsB (at_ (Q1o N0) vars c.test)
theorem ev_env {n:Nat} {c:Qn} {vars:List V} (he:Q8m ((vars.length:Nat):Int) c.test=true)(ht:Q8a c.test≤1000):holdsB (at_ (Q1o N0) (Q8N n vars) c.test)=docEv c vars:=by
 unfold docEv Q8N
 rw [eval_env 1000 N0 c.test vars _ he ht (by omega) (by unfold N0;omega)]
noncomputable def Q9a (facts:List QP)(c:Qn)(w:Q9):List Q9 :=
 if c.kind=3 then (if docEv c w.vars=true then [w] else [])
 else if c.kind=2 then (if (facts.any fun f=>(docM c f w.vars).isSome)=true then [] else [w])
 else facts.filterMap fun f=>(docM c f w.vars).map fun v=>⟨w.ids++[f.id],v⟩
noncomputable def docGo (facts:List QP):List Qn→Q9→List Q9
 | [],w=>[w]
 | c :: cs,w=>(Q9a facts c w).flatMap (docGo facts cs)
noncomputable def Q7O (facts:List QP):List Qn→Q9→Nat
 | [],_=>0
 | c :: cs,w=>((Q9a facts c w).map fun x=>1+Q7O facts cs x).sum
theorem docOn_len {types:List Q8} {facts:List QP} {c:Qn} {w x:Q9} (hc:CondR types ((w.vars.length:Nat):Int) c)(h:x∈Q9a facts c w):((x.vars.length:Nat):Int)=if c.kind=3 then ((w.vars.length:Nat):Int) else (Q5K (c.kind==1) c.args ((w.vars.length:Nat):Int)).2:=by
 unfold Q9a at h
 by_cases h3:c.kind=3
 ·rw [if_pos h3] at h ⊢
  split at h
  · rw [List.mem_singleton.1 h]
  · cases h
 ·rw [if_neg h3] at h ⊢
  by_cases h2:c.kind=2
  ·rw [if_pos h2] at h
   split at h
   · cases h
   · rw [List.mem_singleton.1 h]
     have:(c.kind==1)=false:=by simp [h2]
     rw [this]
     have hb:=(hc.typed h3).2
     rw [this] at hb
     exact (not_binds hb).symm
  ·rw [if_neg h2] at h
   obtain ⟨f,_,hf⟩:=List.mem_filterMap.1 h
   cases hm:docM c f w.vars with
   | none=>rw [hm] at hf;cases hf
   | some v =>
     rw [hm] at hf
     simp only [Option.map_some,Option.some.injEq] at hf
     rw [← hf]
     exact docM_len hc h3 hm
theorem conds_cons {types:List Q8} {c:Qn} {cs:List Qn} {v f:Int} (h:(Q4m types (c :: cs) v f).1=true):(Q3C types v f c).1=true∧Q4m types (c :: cs) v f=Q4m types cs (Q3C types v f c).2.1 (Q3C types v f c).2.2:=by
 rw [Q4m] at h ⊢
 by_cases hb:(Q3C types v f c).1=true
 · rw [if_pos hb];exact ⟨hb,rfl⟩
 · rw [if_neg hb] at h;cases h
theorem QdT {α β γ : Type} {p : α→Option β} {g : β→List γ} : ∀ l : List α,(l.filterMap p).flatMap g=l.flatMap fun x=> match p x with | some y=> g y | none=> []
 | []=>rfl
 | x :: l=>by
   rw [List.filterMap_cons,List.flatMap_cons]
   cases h:p x with
   | none=>simp only [List.nil_append];exact QdT l
   | some y=>simp only [List.flatMap_cons];rw [QdT l]
theorem filter_sum {α β : Type} {p : α→Option β} {h : β→Nat} : ∀ l : List α,((l.filterMap p).map h).sum=(l.map fun x=> match p x with | some y=> h y | none=> 0).sum
 | []=>rfl
 | x :: l=>by
   rw [List.filterMap_cons,List.map_cons,List.sum_cons,← filter_sum l]
   cases hp:p x with
   | none=>simp
   | some y=>simp
theorem flat_eq {α β:Type} {g h : α→List β} : ∀ {l:List α},(∀ x∈l,g x=h x)→l.flatMap g=l.flatMap h
 | [],_=>rfl
 | x :: l,hl=>by rw [List.flatMap_cons,List.flatMap_cons,hl x List.mem_cons_self,flat_eq fun y hy=>hl y (List.mem_cons_of_mem _ hy)]
theorem go_doc {types:List Q8} {facts:List QP} {n:Nat} (hf : ∀ f ∈ facts,Q3T types f.ty ((f.args.length:Nat):Int) = true) : ∀ {cs:List Qn} {w:Q9} {k:Int},(∀ c ∈ cs,Q8a c.test ≤ 1000) → (Q4m types cs ((w.vars.length:Nat):Int) k).1 = true → (Q4m types cs ((w.vars.length:Nat):Int) k).2.1 ≤ ((n:Nat):Int) →
   goN (tells facts) facts cs (envH n w.vars.length) (Q8N n w.vars) w.ids=(docGo facts cs w).map (fun x=>(x.ids,Q8N n x.vars))∧Q4r (tells facts) facts cs (envH n w.vars.length) (Q8N n w.vars)=Q7O facts cs w
 | [],w,k,_,_,_=>⟨rfl,rfl⟩
 | c :: cs,w,k,hs,h,hn=>by
   obtain ⟨h1,h2⟩:=conds_cons h
   rw [h2] at h hn
   obtain ⟨hc,hv⟩:=condR_of h1
   have hs2 : ∀ c∈cs,Q8a c.test≤1000:=fun c hc=>hs c (List.mem_cons_of_mem _ hc)
   have hcv:=QaA types cs (Q3C types ((w.vars.length:Nat):Int) k c).2.1 (Q3C types ((w.vars.length:Nat):Int) k c).2.2
   have step : ∀ x∈Q9a facts c w,goN (tells facts) facts cs (envH n x.vars.length) (Q8N n x.vars) x.ids=(docGo facts cs x).map (fun x=>(x.ids,Q8N n x.vars))∧Q4r (tells facts) facts cs (envH n x.vars.length) (Q8N n x.vars)=Q7O facts cs x:=fun x hx=>by
    have hl:=docOn_len hc hx
    rw [← hv] at hl
    rw [← hl] at h hn
    exact go_doc hf hs2 h hn
   unfold docGo Q7O
   by_cases h3:c.kind=3
   ·have he:=ev_env (n:=n) (hc.test h3) (hs c List.mem_cons_self)
    rw [go3 h3,cost3 h3]
    have hev:(tells facts).ev c (Q8N n w.vars)=docEv c w.vars:=he
    rw [hev]
    unfold Q9a at step ⊢
    rw [if_pos h3] at step ⊢
    cases hd:docEv c w.vars with
    | false=>exact ⟨rfl,rfl⟩
    | true =>
      rw [hd] at step
      obtain ⟨s1,s2⟩:=step w (by simp)
      simp only [if_true,List.flatMap_cons,List.flatMap_nil,List.append_nil,List.map_cons,List.map_nil,List.sum_cons,List.sum_nil,Nat.add_zero]
      exact ⟨s1,by rw [s2]⟩
   ·have hm : ∀ f∈facts,Q9f c f (envH n w.vars.length) (Q8N n w.vars)=(docM c f w.vars).map fun v=>(envH n v.length,Q8N n v):=fun f hfm=>match_env hc h3 (hf f hfm) (by rw [if_neg h3] at hv;omega)
    by_cases h2:c.kind=2
    · rw [go2 h3 h2,cost2 h3 h2]
      have hsm:(tells facts).sm c (envH n w.vars.length) (Q8N n w.vars)=facts.any fun f=>(docM c f w.vars).isSome:=by
        show (facts.any fun f=>(Q9f c f (envH n w.vars.length) (Q8N n w.vars)).isSome)=_
        rw [Bool.eq_iff_iff,List.any_eq_true,List.any_eq_true]
        exact ⟨fun ⟨f,a,b⟩=>⟨f,a,by rw [hm f a] at b;simpa using b⟩,fun ⟨f,a,b⟩=>⟨f,a,by rw [hm f a];simpa using b⟩⟩
      rw [hsm]
      unfold Q9a at step ⊢
      rw [if_neg h3,if_pos h2] at step ⊢
      cases hd:(facts.any fun f=>(docM c f w.vars).isSome) with
      | true=>exact ⟨rfl,rfl⟩
      | false =>
        rw [hd] at step
        obtain ⟨s1,s2⟩:=step w (by simp)
        simp only [Bool.false_eq_true,if_false,List.flatMap_cons,List.flatMap_nil,List.append_nil,List.map_cons,List.map_nil,List.sum_cons,List.sum_nil,Nat.add_zero]
        exact ⟨s1,by rw [s2]⟩
    · rw [go1 h3 h2,cost1 h3 h2]
      unfold Q9a at step ⊢
      rw [if_neg h3,if_neg h2] at step ⊢
      rw [QdT,filter_sum,List.map_flatMap]
      have hstep : ∀ f∈facts,∀ v,docM c f w.vars=some v→_:=fun f hfm v hd=>step ⟨w.ids++[f.id],v⟩ (List.mem_filterMap.2 ⟨f,hfm,by rw [hd];rfl⟩)
      constructor
      · refine flat_eq fun f hfm=>?_
        unfold resF
        show (match Q9f c f (envH n w.vars.length) (Q8N n w.vars) with | some p=>goN (tells facts) facts cs p.1 p.2 (w.ids++[f.id]) | none=>[])=_
        rw [hm f hfm]
        cases hd:docM c f w.vars with
        | none=>rfl
        | some v=>exact (hstep f hfm v hd).1
      · congr 1
        refine List.map_congr_left fun f hfm=>?_
        unfold cosF
        show (match Q9f c f (envH n w.vars.length) (Q8N n w.vars) with | some p=>1+Q4r (tells facts) facts cs p.1 p.2 | none=>0)=_
        rw [hm f hfm]
        cases hd:docM c f w.vars with
        | none=>rfl
        | some v =>
          show 1+Q4r (tells facts) facts cs (envH n v.length) (Q8N n v)=_
          rw [(hstep f hfm v hd).2];rfl
end Go.Proofs.YtbgodclhmgmcgaaGreatDoor
