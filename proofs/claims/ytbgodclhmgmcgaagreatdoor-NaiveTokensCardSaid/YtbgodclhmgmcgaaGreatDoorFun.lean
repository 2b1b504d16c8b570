import Derived.Test.YtbgodclhmgmcgaaGreatDoorOps
namespace Go.Proofs.YtbgodclhmgmcgaaGreatDoor
open Go.RowKit
def Ret (C:Ctx)(R:Value→List Fact→List Fact→Prop)(e:Ending)(w:World):Prop:=∃ v Φr Hr,e=.returned v∧R v Φr Hr∧QC C Φr Hr w
def QY (P:Program)(f:FuncId)(args:List Value)(Φ Hin:List Fact)(R:Value→List Fact→List Fact→Prop):Prop :=
 ∀ (F:Q1O) (N:Nat → Q1O) (w:World),(∀ k,F k → k < w.heap.size) → (∀ φ ∈ Φ,φ.p F w) → (∀ (i:Nat) (h:Fact),Hin[i]? = some h → h.op (N i) F w) →
   (∀ i k,i < Hin.length→N i k→k < w.heap.size∧¬ F k)→(∀ i j k,i < Hin.length→j < Hin.length→i≠j→N i k→¬ N j k)→
   Calls P f args.toArray w (Ret ⟨w,fun k=>∃ i,i < Hin.length∧N i k,F⟩ R)
def zipS:Nat→List Value→List (Nat×Value)
 | _,[]=>[]
 | k,v :: l=>(k,v) :: zipS (k+1) l
theorem zipS_mem : ∀ {l:List Value} {k:Nat} {x:Nat×Value},x∈zipS k l→k≤x.1∧l[x.1 - k]? =some x.2
 | v :: l,k,x,h=>by
   rcases List.mem_cons.1 h with rfl | h
   · simp
   ·obtain ⟨h1,h2⟩:=zipS_mem h
    refine ⟨by omega,?_⟩
    rw [show x.1 - k=(x.1 - (k+1))+1 from by omega]
    simpa using h2
theorem Qt {P:Program} {f:FuncId} {fn:Func} {body:Code} {n:Nat} {args:List Value} {S:List (Nat×Value)} {Φ Hin:List Fact} {R:Value→List Fact→List Fact→Prop}
  (hf:P.funcs[f]? =some fn) (hb:fn.body=some body) (hn:fn.ntmps=n) (hle:Nat.ble args.length n=true) (hS:zipS 0 args=S) (h : ∀ C,WC P C ⟨n,[]⟩ (bodyPost P fn (Ret C R)) Φ Hin S body):QY P f args Φ Hin R:=by
 intro F N w hF hΦ hH hlt hap
 refine calls_of_wp hf hb (h ⟨w,fun k=>∃ i,i < Hin.length∧N i k,F⟩ _ w ⟨?_,rfl,?_⟩ ⟨F,N,hF,fun _ h=>h,fun _ h=>.inl h,hΦ,hH,fun i k hi hk=>⟨(hlt i k hi hk).1,.inr ⟨i,hi,hk⟩,(hlt i k hi hk).2⟩,hap,Mod.refl _ _⟩)
 ·have:=Nat.le_of_ble_eq_true hle
  simp [hn];try omega
 ·intro x hx
  rw [← hS] at hx
  obtain ⟨_,h2⟩:=zipS_mem hx
  rw [Nat.sub_zero] at h2
  have hl:=(List.getElem?_eq_some_iff.1 h2).1
  rw [Array.getElem?_append_left (by simpa using hl)]
  simpa using h2
def Q1d (H:List Fact)(l:List Nat):List Fact:=l.filterMap fun i=>H[i]?
def Q2o:List Nat→Nat→Bool
 | [],_=>true
 | i :: l,m=>Nat.blt i m && !(l.any fun j=>Nat.beq i j) && Q2o l m
theorem QbG : ∀ {l:List Nat} {m:Nat},Q2o l m=true→(∀ i∈l,i < m)∧l.Nodup
 | [],_,_=>⟨by simp,List.nodup_nil⟩
 | i :: l,m,h=>by
   simp only [Q2o,Bool.and_eq_true,Bool.not_eq_true',List.any_eq_false] at h
   obtain ⟨⟨h1,h2⟩,h3⟩:=h
   obtain ⟨h4,h5⟩:=QbG h3
   refine ⟨fun j hj=>?_,List.nodup_cons.2 ⟨fun hm=>h2 i hm (Nat.beq_refl i),h5⟩⟩
   rcases List.mem_cons.1 hj with rfl | hj
   · exact Nat.le_of_ble_eq_true h1
   · exact h4 j hj
theorem Qaj (H:List Fact) : ∀ (l:List Nat),(∀ i∈l,i < H.length)→(Q1d H l).length=l.length∧∀ (i:Nat)(h:Fact),(Q1d H l)[i]? =some h→∃ j,l[i]? =some j∧H[j]? =some h
 | [],_=>⟨rfl,fun i h hi=>by simp [Q1d] at hi⟩
 | j :: l,hl=>by
   obtain ⟨h1,h2⟩:=Qaj H l fun i hi=>hl i (by simp [hi])
   have hj:H[j]? =some (H[j]'(hl j (by simp))):=List.getElem?_eq_getElem _
   have he:Q1d H (j :: l)=H[j]'(hl j (by simp)) :: Q1d H l:=by simp [Q1d,hj]
   rw [he]
   refine ⟨by simp [h1],fun i h hi=>?_⟩
   cases i with
   | zero=>exact ⟨j,rfl,by simp at hi;rw [hj,hi]⟩
   | succ i=>exact h2 i h (by simpa using hi)
theorem nodup_get {l:List Nat} (h:l.Nodup) {i j a:Nat} (hi:l[i]? =some a)(hj:l[j]? =some a):i=j:=by
 obtain ⟨h1,h2⟩:=List.getElem?_eq_some_iff.1 hi
 obtain ⟨h3,h4⟩:=List.getElem?_eq_some_iff.1 hj
 have:=h2.trans h4.symm
 exact (List.getElem_inj h).1 this
section
variable {C:Ctx} {Φ H:List Fact} {F:Q1O} {N:Nat → Q1O} {w:World}
theorem MInv.pick (h:MInv C Φ H F N w)(l:List Nat)(hl:Q2o l H.length=true):MInv C Φ (Q1d H l) F (fun i=>N (l.getD i 0)) w:=by
 obtain ⟨h1,h2⟩:=QbG hl
 obtain ⟨h3,h4⟩:=Qaj H l h1
 have key : ∀ i,i < (Q1d H l).length→∃ j,l[i]? =some j∧l.getD i 0=j∧j < H.length:=by
  intro i hi
  rw [h3] at hi
  exact ⟨l[i],List.getElem?_eq_getElem hi,by simp [hi],h1 _ (List.getElem_mem hi)⟩
 refine { h with owns:=?_,nlt:=?_,apart:=?_ }
 ·intro i φ hi
  obtain ⟨j,hj,hφ⟩:=h4 i φ hi
  have:l.getD i 0=j:=by simp [List.getD,hj]
  simp only [this]
  exact h.owns j φ hφ
 ·intro i k hi hk
  obtain ⟨j,_,e,hj⟩:=key i hi
  simp only [e] at hk
  exact h.nlt j k hj hk
 ·intro i i' k hi hi' hne hk hk'
  obtain ⟨j,hj,e,hjl⟩:=key i hi
  obtain ⟨j',hj',e',hjl'⟩:=key i' hi'
  simp only [e,e'] at hk hk'
  exact h.apart j j' k hjl hjl' (fun ejj=>hne (by subst ejj;exact nodup_get h2 hj hj')) hk hk'
end
theorem QC.pick {C:Ctx} {Φ H:List Fact} {w:World} (h:QC C Φ H w)(l:List Nat)(hl:Q2o l H.length=true):QC C Φ (Q1d H l) w:=by
 obtain ⟨F,N,hi⟩:=h
 exact ⟨F,_,hi.pick l hl⟩
theorem MInv.after {C:Ctx} {Φ H:List Fact} {F:Q1O} {N:Nat→Q1O} {w w' : World} (h:MInv C Φ H F N w) {l m:List Nat} (hl:Q2o (l++m) H.length=true) {Φr Hr:List Fact}
  (hr:QC ⟨w,fun k=>∃ i,i < (Q1d H l).length∧N (l.getD i 0) k,F⟩ Φr Hr w'):QC C (Φr++Φ) (Hr++Q1d H m) w':=by
 obtain ⟨F',N',hr⟩:=hr
 obtain ⟨h1,h2⟩:=QbG hl
 obtain ⟨h3,h4⟩:=Qaj H l fun i hi=>h1 i (by simp [hi])
 obtain ⟨h5,h6⟩:=Qaj H m fun i hi=>h1 i (by simp [hi])
 have hS : ∀ k,(∃ i,i < (Q1d H l).length∧N (l.getD i 0) k)→∃ j,j∈l∧j < H.length∧N j k:=by
  rintro k ⟨i,hi,hk⟩
  rw [h3] at hi
  refine ⟨l[i],List.getElem_mem hi,h1 _ (by simp [List.getElem_mem hi]),?_⟩
  simpa [List.getD,hi] using hk
 have hSF : ∀ k,(∃ i,i < (Q1d H l).length∧N (l.getD i 0) k)→¬ F k:=fun k hk hf=>by
  obtain ⟨j,_,hj,hn⟩:=hS k hk
  exact (h.nlt j k hj hn).2.2 hf
 have hSm : ∀ j,j∈m→∀ k,N j k→¬ ∃ i,i < (Q1d H l).length∧N (l.getD i 0) k:=fun j hj k hk hs=>by
  obtain ⟨j',hj',hlt,hn⟩:=hS k hs
  have hne:j≠j':=by
   rintro rfl
   exact (List.nodup_append.1 h2).2.2 j hj' j hj rfl
  exact h.apart j j' k (h1 j (by simp [hj])) hlt hne hk hn
 have aF:Q2W F w w':=fun k hk=>hr.mod.block k (h.flt k hk) fun hs=>hSF k hs hk
 have aN : ∀ j,j∈m→Q2W (N j) w w':=fun j hj k hk=>hr.mod.block k (h.nlt j k (h1 j (by simp [hj])) hk).1 (hSm j hj k hk)
 have hmi : ∀ i,i < m.length→∃ j,m[i]? =some j∧j∈m∧m.getD i 0=j:=fun i hi=>⟨m[i],List.getElem?_eq_getElem hi,List.getElem_mem hi,by simp [hi]⟩
 refine ⟨F',fun i=>if i < Hr.length then N' i else N (m.getD (i - Hr.length) 0),hr.flt,fun k hk=>hr.fold k (h.fold k hk),?_,?_,?_,?_,?_,?_⟩
 ·intro k hk
  rcases hr.fnew k hk with h0 | h0 | h0
  · exact h.fnew k h0
  · exact .inr (.inl (Nat.le_trans h.mod.size h0))
  ·obtain ⟨j,_,hj,hn⟩:=hS k h0
   exact .inr (h.nlt j k hj hn).2.1
 ·intro φ hφ
  rcases List.mem_append.1 hφ with hφ | hφ
  · exact hr.facts φ hφ
  · exact φ.good hr.fold aF (h.facts φ hφ)
 ·intro i φ hi
  by_cases hlt:i < Hr.length
  ·rw [List.getElem?_append_left hlt] at hi
   simp only [hlt,if_true]
   exact hr.owns i φ hi
  ·rw [List.getElem?_append_right (by omega)] at hi
   simp only [hlt,if_false]
   obtain ⟨j,hj,hφ⟩:=h6 _ φ hi
   have hjm:j∈m:=List.mem_of_getElem? hj
   have e:m.getD (i - Hr.length) 0=j:=by simp [List.getD,hj]
   rw [e]
   exact φ.opgood (fun _ h=>h) (aN j hjm) hr.fold aF (h.owns j φ hφ)
 ·intro i k hi hk
  by_cases hlt:i < Hr.length
  ·simp only [hlt,if_true] at hk
   obtain ⟨a,b,c⟩:=hr.nlt i k hlt hk
   refine ⟨a,?_,c⟩
   rcases b with b | b
   · exact .inl (Nat.le_trans h.mod.size b)
   ·obtain ⟨j,_,hj,hn⟩:=hS k b
    exact (h.nlt j k hj hn).2.1
  ·simp only [hlt,if_false] at hk
   have hi' : i - Hr.length < m.length:=by rw [List.length_append,h5] at hi;omega
   obtain ⟨j,_,hjm,e⟩:=hmi _ hi'
   rw [e] at hk
   obtain ⟨a,b,c⟩:=h.nlt j k (h1 j (by simp [hjm])) hk
   refine ⟨Nat.lt_of_lt_of_le a hr.mod.size,b,fun hf=>?_⟩
   rcases hr.fnew k hf with h0 | h0 | h0
   · exact c h0
   · exact absurd a (by simp at h0;omega)
   · exact hSm j hjm k hk h0
 ·have cross : ∀ i j k,i < Hr.length→¬ j < Hr.length→j < Hr.length+m.length→N' i k→¬ N (m.getD (j - Hr.length) 0) k:=by
   intro i j k hi hj hj' hk hk'
   obtain ⟨j',_,hjm,e⟩:=hmi (j - Hr.length) (by omega)
   rw [e] at hk'
   obtain ⟨_,b,_⟩:=hr.nlt i k hi hk
   rcases b with b | b
   · exact absurd (h.nlt j' k (h1 j' (by simp [hjm])) hk').1 (by simp at b;omega)
   · exact hSm j' hjm k hk' b
  intro i j k hi hj hne hk hk'
  rw [List.length_append,h5] at hi hj
  by_cases hlt:i < Hr.length <;> by_cases hlt' : j < Hr.length
  ·simp only [hlt,hlt',if_true] at hk hk'
   exact hr.apart i j k hlt hlt' hne hk hk'
  ·simp only [hlt,hlt',if_true,if_false] at hk hk'
   exact cross i j k hlt hlt' hj hk hk'
  ·simp only [hlt,hlt',if_true,if_false] at hk hk'
   exact cross j i k hlt' hlt hi hk' hk
  ·simp only [hlt,hlt',if_false] at hk hk'
   obtain ⟨a,ha,ham,ea⟩:=hmi (i - Hr.length) (by omega)
   obtain ⟨b,hb,hbm,eb⟩:=hmi (j - Hr.length) (by omega)
   rw [ea] at hk
   rw [eb] at hk'
   refine h.apart a b k (h1 a (by simp [ham])) (h1 b (by simp [hbm])) (fun eab=>hne ?_) hk hk'
   subst eab
   have:=nodup_get (List.nodup_append.1 h2).2.1 ha hb
   omega
 ·refine h.mod.trans' hr.mod fun i hi hs=>?_
  obtain ⟨j,_,hj,hn⟩:=hS i hs
  rcases (h.nlt j i hj hn).2.1 with h0 | h0
  · omega
  · exact h0
def evL (S:List (Nat×Value)):List Operand→Option (List Value)
 | []=>some []
 | x :: l=>match evS S x,evL S l with
   | some v,some vs=>some (v :: vs)
   | _,_=>none
theorem Frm.evalL {n:FD} {S:List (Nat×Value)} {a:Act} (h:Frm n S a) : ∀ {l:List Operand} {vs:List Value},evL S l=some vs→l.map a.eval=vs
 | [],_,e=>by cases e;rfl
 | x :: l,vs,e=>by
   unfold evL at e
   split at e
   · rename_i v vs' hv hvs;cases e;simp [h.eval hv,h.evalL hvs]
   · cases e
def Q15 (P:Program)(f:FuncId):Bool:=match P.funcs[f]? with
 | some fn=>fn.body.isSome && !(fn.name== "runtime.NumGoroutine")
 | none=>false
theorem QbA {P:Program} {f:FuncId} (h:Q15 P f=true)(args:Array Value)(w:World):(callFunc f args).run P w=.ok (.enter f args) w:=by
 unfold Q15 at h
 split at h
 ·rename_i fn hf
  simp only [Bool.and_eq_true,Bool.not_eq_true'] at h
  have hb:fn.body.isNone=false:=by cases hb:fn.body <;> simp_all
  have hn : ¬ fn.name= "runtime.NumGoroutine":=fun e=>by rw [e] at h;simp at h
  have hb' : ¬ fn.body=none:=fun e=>by rw [e] at hb;simp at hb
  simp [callFunc,hf,hn,hb']
 · cases h
section rules
variable {P:Program} {C:Ctx} {n:FD} {Q:Exit → Act → World → Prop} {Φ Φ' : List Fact} {H H' : List Fact} {S S' : List (Nat × Value)} {ops:Array Oper} {rest:List Oper} {o:Oper} {d:Nat} {c x y:Code}
theorem call_core {f:FuncId} {xs:Array Operand} {ts:Array TypeId} {args:List Value} {Φf Hf:List Fact} {R:Value→List Fact→List Fact→Prop} (l m:List Nat)(hg:Q18 ops S o=some true)
  (ho:o.op=.call { callee:=.value (.func f),args:=xs,argTypes:=ts }) (hx:evL S xs.toList=some args) (hfn:Q15 P f=true)
  (hH:Q1d H l=Hf) (spec:QY P f args Φf Hf R) (hΦ : ∀ F w,(∀ ψ∈Φ,ψ.p F w)→∀ φ∈Φf,φ.p F w) (hl:Q2o (l++m) H.length=true) (hm:Q1d H m=H')
  (next : ∀ v Φr Hr,R v Φr Hr→∀ a w,Frm n S a→QC C (Φr++Φ) (Hr++H') w→wpList P ops Q rest (a.put o.dst v) w):WL P C n Q Φ H S ops (o :: rest):=by
 subst hH;subst hm
 intro a w hf ⟨F,N,hi⟩
 have hl1:Q2o l H.length=true:=by
  clear spec next
  have : ∀ (l:List Nat),Q2o (l++m) H.length=true→Q2o l H.length=true:=by
   intro l
   induction l with
   | nil=>intro _;rfl
   | cons i l ih =>
     intro h
     simp only [List.cons_append,Q2o,Bool.and_eq_true,Bool.not_eq_true',List.any_append,Bool.or_eq_false_iff] at h ⊢
     exact ⟨⟨h.1.1,h.1.2.1⟩,ih h.2⟩
  exact this l hl
 have hp:=hi.pick l hl1
 have hcall:=spec F _ w hi.flt (fun φ hφ=>hΦ F w hi.facts φ hφ) hp.owns (fun i k hik hk=>⟨(hp.nlt i k hik hk).1,(hp.nlt i k hik hk).2.2⟩) hp.apart
 refine wpList_step fun K hK=>?_
 rw [Q5J hf hg,if_pos rfl]
 unfold Oper.wp
 have hargs:xs.map a.eval=args.toArray:=by
  have:=hf.evalL hx
  have h0:xs=xs.toList.toArray:=by simp
  rw [← this,h0,List.map_toArray]
 have hrun:(execOp a.eval o).run P w=.ok (.enter f args.toArray) w:=by
  have hev:a.eval (.func f)=.func (.func f) #[] #[]:=rfl
  have h2:(resolve a.eval { callee:=.value (.func f),args:=xs,argTypes:=ts } o.type).run P w=.ok { target:=.fn (.func f) #[],args:=args.toArray } w:=by
   simp [resolve,hev,Deferred.ofValue,hargs]
  unfold execOp
  simp only [ho,Sem.run_bind,h2,Result.andThen_ok]
  simp [invoke,QbA hfn]
 rw [hrun,Oper.upon_enter]
 refine hcall.mono ?_
 rintro e w' ⟨v,Φr,Hr,rfl,hR,hh⟩
 exact hK _ _ (next v Φr Hr hR a w' hf (hi.after hl hh))
theorem wl_call {f:FuncId} {xs:Array Operand} {ts:Array TypeId} {args:List Value} {Φf Hf:List Fact} {R:Value→List Fact→List Fact→Prop} (l m:List Nat)(hg:Q18 ops S o=some true)(hd:o.dst=some d)(hn:Nat.blt d n=true)(hS:Q4p d S=S')
  (ho:o.op=.call { callee:=.value (.func f),args:=xs,argTypes:=ts }) (hx:evL S xs.toList=some args) (hfn:Q15 P f=true)
  (hH:Q1d H l=Hf) (spec:QY P f args Φf Hf R) (hΦ : ∀ F w,(∀ ψ∈Φ,ψ.p F w)→∀ φ∈Φf,φ.p F w) (hl:Q2o (l++m) H.length=true) (hm:Q1d H m=H')
  (next : ∀ v Φr Hr,R v Φr Hr→WL P C n Q (Φr++Φ) (Hr++H') ((d,v) :: S') ops rest):WL P C n Q Φ H S ops (o :: rest) :=
 call_core l m hg ho hx hfn hH spec hΦ hl hm fun v Φr Hr hR a w hf hw=>by rw [hd];exact next v Φr Hr hR _ w (hf.put (Nat.le_of_ble_eq_true hn) hS) hw
theorem loop_idx {P : Program} {c : Code} {Q : Exit→Act→World→Prop} (I : Nat→Act→World→Prop)(round : ∀ m a w,I m a w→c.wp P (Exit.then (fun a' w' => ∃ m',m' < m∧I m' a' w') Q) a w) :
  ∀ m a w,I m a w→(Code.loop c).wp P Q a w:=by
 intro m a w h
 intro b k cs
 have key : ∀ m a w,I m a w → ∃ e a' w',Q e a' w' ∧ Arrives P (lone (b.at a (.code c :: .inLoop c :: k)) cs w) b k cs e a' w':=by
  intro m
  induction m using Nat.strongRecOn with
  | _ m ih =>
    intro a w hI
    obtain ⟨e,a₁,w₁,hq,harr⟩:=round m a w hI b (.inLoop c :: k) cs
    cases e with
    | normal =>
      obtain ⟨m',hlt,hI₁⟩:=hq
      obtain ⟨e₂,a₂,w₂,hq₂,harr₂⟩:=ih m' hlt a₁ w₁ hI₁
      exact ⟨e₂,a₂,w₂,hq₂,.of_steps (Steps.trans harr (.one step_inLoop)) harr₂⟩
    | exit id=>exact ⟨_,a₁,w₁,hq,.pass (x:=.inLoop c) rfl (fun _ _=>.inl (by simp)) harr⟩
    | goto l=>exact ⟨_,a₁,w₁,hq,.pass (x:=.inLoop c) rfl (fun _ _=>.inl (by simp)) harr⟩
    | ret=>exact ⟨_,a₁,w₁,hq,.pass (x:=.inLoop c) rfl (fun _ _=>.inl (by simp)) harr⟩
    | panic ch=>exact ⟨_,a₁,w₁,hq,.pass (x:=.inLoop c) rfl (fun _ _=>.inl (by simp)) harr⟩
    | outgrown=>exact ⟨_,a₁,w₁,hq,.pass (x:=.inLoop c) rfl (fun _ _=>.inl (by simp)) harr⟩
 obtain ⟨e,a',w',hq,harr⟩:=key m a w h
 exact ⟨e,a',w',hq,.of_steps (.one step_loop) harr⟩
def StAt {σ:Type} (ok : σ→Prop)(Sσ : σ→List (Nat×Value))(Φσ Hσ : σ→List Fact)(C:Ctx)(n:FD)(s : σ)(a:Act)(w:World):Prop:=ok s∧Frm n (Sσ s) a∧QC C (Φσ s) (Hσ s) w
section
variable {σ:Type} {ok : σ → Prop} {Sσ : σ → List (Nat × Value)} {Φσ Hσ : σ → List Fact} {μ : σ → Nat}
theorem st_at (s' : σ)(h0:ok s')(l:List Nat)(hS:Q5d l S=Sσ s')(hΦ : ∀ F w,(∀ ψ∈Φ,ψ.p F w)→∀ φ∈Φσ s',φ.p F w)(hH:H=Hσ s') {a:Act} {w:World} (hf:Frm n S a)(hw:QC C Φ H w):StAt ok Sσ Φσ Hσ C n s' a w:=by
 obtain ⟨F,N,hi⟩:=hw
 subst hH
 exact ⟨h0,hf.sub fun x hx=>Qem (by rw [hS];exact hx),F,N,{ hi with facts:=hΦ F w hi.facts }⟩
theorem wc_loop (ok : σ→Prop)(μ : σ→Nat)(Sσ : σ→List (Nat×Value))(Φσ Hσ : σ→List Fact)(s0 : σ)(h0:ok s0)(l:List Nat)(hS:Q5d l S=Sσ s0)(hΦ : ∀ F w,(∀ ψ∈Φ,ψ.p F w)→∀ φ∈Φσ s0,φ.p F w)(hH:H=Hσ s0)
  (round : ∀ s,ok s→WC P C n (Exit.then (fun a' w'=>∃ s',μ s' < μ s∧StAt ok Sσ Φσ Hσ C n s' a' w') Q) (Φσ s) (Hσ s) (Sσ s) c):WC P C n Q Φ H S (.loop c):=by
 intro a w hf hw
 refine loop_idx (fun m a w=>∃ s,μ s=m∧StAt ok Sσ Φσ Hσ C n s a w) ?_ (μ s0) a w ⟨s0,rfl,st_at s0 h0 l hS hΦ hH hf hw⟩
 rintro m a w ⟨s,rfl,hok,hf,hw⟩
 refine wp_mono (round s hok a w hf hw) fun e a' w' hq=>?_
 cases e with
 | normal=>obtain ⟨s',h1,h2⟩:=hq;exact ⟨_,h1,s',rfl,h2⟩
 | _=>exact hq
theorem wc_cut (ok : σ→Prop)(Sσ : σ→List (Nat×Value))(Φσ Hσ : σ→List Fact)(hx:WC P C n (Exit.then (fun a w=>∃ s,StAt ok Sσ Φσ Hσ C n s a w) Q) Φ H S x)(hy : ∀ s,ok s→WC P C n Q (Φσ s) (Hσ s) (Sσ s) y):WC P C n (Exit.then (fun a w=>y.wp P Q a w) Q) Φ H S x :=
 fun a w hf hw=>wp_mono (hx a w hf hw) fun e a' w' hq=>by
  cases e with
  | normal=>obtain ⟨s,h1,h2,h3⟩:=hq;exact hy s h1 a' w' h2 h3
  | _=>exact hq
theorem Qo {H' : List Fact} {e:Exit} (l:List Nat)(hl:Q2o l H.length=true)(hH:Q1d H l=H')(h:WE C n Q Φ H' S e):WE C n Q Φ H S e:=fun a w hf hw=>h a w hf (by rw [← hH];exact hw.pick l hl)
theorem wl_pick {H' : List Fact} (l:List Nat)(hl:Q2o l H.length=true)(hH:Q1d H l=H')(h:WL P C n Q Φ H' S ops rest):WL P C n Q Φ H S ops rest:=fun a w hf hw=>h a w hf (by rw [← hH];exact hw.pick l hl)
theorem Qbo (s' : σ)(h0:ok s')(l:List Nat)(hS:Q5d l S=Sσ s')(hΦ : ∀ F w,(∀ ψ∈Φ,ψ.p F w)→∀ φ∈Φσ s',φ.p F w)(hH:H=Hσ s') :
 WE C n (Exit.then (fun a w=>∃ s,StAt ok Sσ Φσ Hσ C n s a w) Q) Φ H S .normal:=fun a w hf hw=>⟨s',st_at s' h0 l hS hΦ hH hf hw⟩
end
def QbI (tmps:Array Value):ResultVar→Sem Value
 | .tmp t=>pure (tmps.getD t undef)
 | .cell a t=>do loadVar t (← asAddr (tmps.getD a undef))
theorem Qds (fn:Func)(tmps:Array Value):results fn tmps=(do let vs ← fn.results.mapM (QbI tmps);pure (if h:vs.size=1 then vs[0] else .tuple vs)):=by
 unfold results
 congr
def ResAt (P:Program)(C:Ctx)(n:FD)(Φ H:List Fact)(S:List (Nat×Value))(r:ResultVar)(v:Value):Prop :=
 ∀ a w,Frm n S a→QC C Φ H w→(QbI a.tmps r).run P w=.ok v w
theorem Q1w {t:Nat} {v:Value} (h:look S t=some v):ResAt P C n Φ H S (.tmp t) v:=fun a w hf _=>by
 have:=hf.eval (x:=.tmp t) h
 simp only [Act.eval] at this
 simp [QbI,this]
theorem QU {q t b tb sz:Nat} {g:Bool} {all:List Value} {v:Value} (k:Nat)(hq:look S q=some (.pointer (some ⟨b,0,none⟩)))(hφ:H[k]? =some (.blk b all tb))(hs:Q1m P t=some sz)(ha:Q58 P t=some g)(hl:Nat.beq all.length sz=true)(hv:Q8V g all=some v) :
  ResAt P C n Φ H S (.cell q t) v:=fun a w hf ⟨F,N,hi⟩=>by
 have:=hf.eval (x:=.tmp q) hq
 simp only [Act.eval] at this
 simp only [QbI,this,Sem.run_bind]
 simp [asAddr,Q6l (Qbr (hi.owns k _ hφ).2) hs ha (Nat.eq_of_beq_eq_true hl) hv]
theorem ret_core {fn:Func} {m:Nat} {R:Value→List Fact→List Fact→Prop} {v:Value} {Φr Hr:List Fact} (l:List Nat)(hr : ∀ a w,Frm ⟨m,[]⟩ S a→QC C Φ H w→(results fn a.tmps).run P w=.ok v w)(hR:R v Φr Hr)(hΦ : ∀ F w,(∀ ψ∈Φ,ψ.p F w)→∀ φ∈Φr,φ.p F w)
  (hl:Q2o l H.length=true) (hH:Q1d H l=Hr) {e:Exit} (he:e=.ret∨e=.normal):WE C ⟨m,[]⟩ (bodyPost P fn (Ret C R)) Φ H S e:=by
 subst hH
 intro a w hf hw
 have h1:bodyPost P fn (Ret C R) .ret a w:=by
  refine ⟨hf.defers,v,hr a w hf hw,v,Φr,_,rfl,hR,?_⟩
  obtain ⟨F,N,hi⟩:=hw.pick l hl
  exact ⟨F,N,{ hi with facts:=hΦ F w hi.facts }⟩
 rcases he with rfl | rfl <;> exact h1
theorem Q2p {fn:Func} {m:Nat} {R:Value→List Fact→List Fact→Prop} {v:Value} {Φr Hr:List Fact} {r:ResultVar} (l:List Nat)(hres:fn.results=#[r])(h1:ResAt P C ⟨m,[]⟩ Φ H S r v)(hR:R v Φr Hr)(hΦ : ∀ F w,(∀ ψ∈Φ,ψ.p F w)→∀ φ∈Φr,φ.p F w)
  (hl:Q2o l H.length=true) (hH:Q1d H l=Hr) {e:Exit} (he:e=.ret∨e=.normal):WE C ⟨m,[]⟩ (bodyPost P fn (Ret C R)) Φ H S e :=
 ret_core l (fun a w hf hw=>by
  have e1:=h1 a w hf hw
  simp [Qds,hres,e1]) hR hΦ hl hH he
theorem ret_none {fn:Func} {m:Nat} {R:Value→List Fact→List Fact→Prop} {Φr Hr:List Fact} (l:List Nat)(hres:fn.results=#[])(hR:R (.tuple #[]) Φr Hr)(hΦ : ∀ F w,(∀ ψ∈Φ,ψ.p F w)→∀ φ∈Φr,φ.p F w)
  (hl:Q2o l H.length=true) (hH:Q1d H l=Hr) {e:Exit} (he:e=.ret∨e=.normal):WE C ⟨m,[]⟩ (bodyPost P fn (Ret C R)) Φ H S e :=
 ret_core l (fun a w hf hw=>by simp [Qds,hres]) hR hΦ hl hH he
theorem Q1P {fn:Func} {m:Nat} {R:Value→List Fact→List Fact→Prop} {v u:Value} {Φr Hr:List Fact} {r s:ResultVar} (l:List Nat)(hres:fn.results=#[r,s])(h1:ResAt P C ⟨m,[]⟩ Φ H S r v)(h2:ResAt P C ⟨m,[]⟩ Φ H S s u)(hR:R (.tuple #[v,u]) Φr Hr)(hΦ : ∀ F w,(∀ ψ∈Φ,ψ.p F w)→∀ φ∈Φr,φ.p F w)
  (hl:Q2o l H.length=true) (hH:Q1d H l=Hr) {e:Exit} (he:e=.ret∨e=.normal):WE C ⟨m,[]⟩ (bodyPost P fn (Ret C R)) Φ H S e :=
 ret_core l (fun a w hf hw=>by
  have e1:=h1 a w hf hw
  have e2:=h2 a w hf hw
  simp [Qds,hres,e1,e2]) hR hΦ hl hH he
end rules
end Go.Proofs.YtbgodclhmgmcgaaGreatDoor
