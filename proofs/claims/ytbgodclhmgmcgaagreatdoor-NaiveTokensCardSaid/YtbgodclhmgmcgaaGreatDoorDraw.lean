import Derived.Test.YtbgodclhmgmcgaaGreatDoorRep
namespace Go.Proofs.YtbgodclhmgmcgaaGreatDoor
open Go.RowKit
noncomputable section
def rdOf (ops:Array Oper)(o:Oper):List Nat :=
 (o.op.operands.toList.filterMap fun | .tmp t=>some t | _=>none)++(match o.guard with | some (j,_)=>((ops[j]?).bind (·.dst)).toList | none=>[])
def QbH (ops:Array Oper)(k i:Nat):Bool:=match ops[k]? with
 | some o=>o.after.toList.any fun e=>Region.binds .any e && Nat.beq e.on i
 | none=>false
noncomputable def Q7j (l:List Nat)(i:Nat):Bool:=List.rec (motive:=fun _=>Bool) false (fun x _ ih=>Bool.rec ih true (Nat.beq i x)) l
theorem Q80 {i:Nat} : ∀ {l:List Nat},Q7j l i=true ↔ i∈l
 | []=>⟨fun h=>(by cases h),fun h=>(by cases h)⟩
 | x :: l=>by
   show (Bool.rec (motive:=fun _=>Bool) (Q7j l i) true (Nat.beq i x))=true ↔ _
   rw [List.mem_cons,← Q80 (l:=l)]
   cases h:Nat.beq i x with
   | true=>exact ⟨fun _=>.inl (Nat.eq_of_beq_eq_true h),fun _=>rfl⟩
   | false=>exact ⟨.inr,fun q=>q.resolve_left fun e=>by rw [e,Nat.beq_refl] at h;cases h⟩
def Q22 (ops:Array Oper) (lights:List Nat):Bool :=
 (List.range ops.size).all fun i => match ops[i]? with
  | none=>false
  | some o =>
    (o.after.toList.all fun e=>!Region.binds .any e || Nat.blt e.on i) &&
    (match o.op with | .select _ _=>false | .defer _=>false | _=>true) &&
    (!Q7j lights i || match o.dst with | some d=>!Q7j (rdOf ops o) d | none=>false) &&
    (List.range ops.size).all fun j => Nat.beq i j || match ops[j]? with
     | none=>false
     | some o'=>match o.dst with
       | none=>true
       | some d =>
         (match o'.dst with | some d'=>!Nat.beq d d' | none=>true) &&
         (!Q7j (rdOf ops o') d || (if Q7j lights i then QbH ops j i else (!Q7j lights j || QbH ops i j || QbH ops j i)))
def readyX (ops:Array Oper)(lights L:List Nat):List Nat :=
 (List.range ops.size).filter fun i => !Q7j L i && match ops[i]? with
  | some o=>o.after.toList.all fun e=>!Region.binds .any e || Q7j L e.on
  | none=>false
section draw
variable (P:Program) (C:Ctx) (n:FD) (Q:Exit → Act → World → Prop) (ops:Array Oper) (lights:List Nat)
def DepW (Φ B:List Fact)(w:World):Prop:=(∃ F,∀ φ∈Φ,φ.p F w)∧∀ b∈B,∃ N F,b.op N F w
structure Owed (L:List Nat) (D:List (Nat×Fact)) (Φ:List Fact) (av:Act) (i:Nat):Prop where
 ex : ∃ (o:Oper) (d:Nat) (v:Value) (Φi B:List Fact),ops[i]? =some o∧o.dst=some d∧d < n∧Q7j lights i=true∧av.tmps[d]? =some v∧(∀ e∈o.after,Region.binds .any e=true→e.on∈L)∧
  (∀ φ∈Φi,φ∈Φ)∧(∀ b∈B,(i,b)∈D)∧
  ∀ (a:Act) (w:World),(∀ t∈rdOf ops o,a.tmps[t]? =av.tmps[t]?)→DepW Φi B w→(Region.wanted o (yielded ops a.tmps)=true∧(execOp a.eval o).run P w=.ok (.value v) w)∨(Region.wanted o (yielded ops a.tmps)=false∧v=undef)
structure RelX (L:List Nat) (D:List (Nat×Fact)) (Φ H:List Fact) (S:List (Nat×Value)) (listed:Array Bool) (a av:Act) (w:World):Prop where
 frm:Frm n S av
 asize:a.tmps.size=n
 adef:a.defers=n.D
 holds:QC C Φ H w
 lsize:listed.size=ops.size
 sub : ∀ i,listed.getD i false=true→i∈L
 inL : ∀ i∈L,i < ops.size
 agree : ∀ t,(∀ i o,i∈L→listed.getD i false=false→ops[i]? =some o→o.dst≠some t)→a.tmps[t]? =av.tmps[t]?
 owed : ∀ i∈L,listed.getD i false=false→Owed P n ops lights L D Φ av i
 deps : ∀ x∈D,listed.getD x.1 false=false→x.2∈H
def WX (L:List Nat)(D:List (Nat×Fact))(Φ H:List Fact)(S:List (Nat×Value)):Prop :=
 ∀ listed a av w,RelX P C n ops lights L D Φ H S listed a av w→∀ fuel,(listed.toList.filter (! ·)).length≤fuel→wpAny P .any ops Q fuel listed a w
end draw
theorem QaB {ops:Array Oper} {lights:List Nat} (h:Q22 ops lights=true) {i:Nat} {o:Oper} (ho:ops[i]? =some o) :
  (∀ e∈o.after,Region.binds .any e=true→e.on < i)∧(∀ cs b,o.op≠.select cs b)∧(∀ c,o.op≠.defer c)∧(Q7j lights i=true→∀ d,o.dst=some d→d ∉ rdOf ops o):=by
 have hlt:=(Array.getElem?_eq_some_iff.1 ho).1
 have:=List.all_eq_true.1 h i (List.mem_range.2 hlt)
 simp only [ho,Bool.and_eq_true,List.all_eq_true,Bool.or_eq_true,Bool.not_eq_true'] at this
 obtain ⟨⟨⟨h1,h2⟩,h4⟩,_⟩:=this
 refine ⟨fun e he hb=>?_,fun cs b e=>(by rw [e] at h2;cases h2),fun c e=>(by rw [e] at h2;cases h2),fun hl d hd hm=>?_⟩
 rotate_left
 ·rcases h4 with h4 | h4
  · rw [hl] at h4;cases h4
  ·rw [hd] at h4
   simp only [Bool.not_eq_true'] at h4
   rw [Q80.2 hm] at h4;cases h4
 rcases h1 e (by simpa using he) with h3 | h3
 · rw [hb] at h3;cases h3
 · exact Nat.le_of_ble_eq_true h3
theorem Qct {ops:Array Oper} {lights:List Nat} (h:Q22 ops lights=true) {i j d:Nat} {o o' : Oper} (ho:ops[i]? =some o)(ho' : ops[j]? =some o')(hne:i≠j)(hd:o.dst=some d) :
  o'.dst≠some d∧(d∈rdOf ops o' →(Q7j lights i=true→QbH ops j i=true)∧(Q7j lights i=false→Q7j lights j=true→QbH ops i j=true∨QbH ops j i=true)):=by
 have hlt:=(Array.getElem?_eq_some_iff.1 ho).1
 have hlt':=(Array.getElem?_eq_some_iff.1 ho').1
 have h1:=List.all_eq_true.1 h i (List.mem_range.2 hlt)
 simp only [ho,Bool.and_eq_true] at h1
 have h2:=List.all_eq_true.1 h1.2 j (List.mem_range.2 hlt')
 have hnb:Nat.beq i j=false:=by
  cases hb:Nat.beq i j with
  | true=>exact absurd (Nat.eq_of_beq_eq_true hb) hne
  | false=>rfl
 simp only [ho',hd,hnb,Bool.false_or,Bool.and_eq_true,Bool.or_eq_true,Bool.not_eq_true'] at h2
 obtain ⟨h3,h4⟩:=h2
 refine ⟨fun e=>?_,fun hr=>?_⟩
 · rw [e] at h3;simp at h3
 ·rcases h4 with h4 | h4
  · rw [Q80.2 hr] at h4;cases h4
  ·refine ⟨fun hl=>by rw [if_pos hl] at h4;exact h4,fun hl hj=>?_⟩
   rw [if_neg (by rw [hl];simp)] at h4
   simp only [Bool.or_eq_true,Bool.not_eq_true'] at h4
   rcases h4 with (h4 | h4) | h4
   · rw [hj] at h4;cases h4
   · exact .inl h4
   · exact .inr h4
theorem Qak {ops:Array Oper} {k i:Nat} {o:Oper} (ho:ops[k]? =some o)(h:QbH ops k i=true) : ∃ e∈o.after,Region.binds .any e=true∧e.on=i:=by
 simp only [QbH,ho,List.any_eq_true,Bool.and_eq_true] at h
 obtain ⟨e,he,h1,h2⟩:=h
 exact ⟨e,by simpa using he,h1,Nat.eq_of_beq_eq_true h2⟩
theorem eval_slots {ops:Array Oper} {o:Oper} {a b:Act} (h : ∀ t∈rdOf ops o,a.tmps[t]? =b.tmps[t]?) : ∀ x∈o.op.operands,a.eval x=b.eval x:=by
 intro x hx
 cases x with
 | tmp t =>
   have:t∈rdOf ops o:=List.mem_append_left _ (List.mem_filterMap.2 ⟨.tmp t,by simpa using hx,rfl⟩)
   simp only [Act.eval,Array.getD_eq_getD_getElem?,h t this]
 | const c=>rfl
 | global g=>rfl
 | func f=>rfl
theorem QdH {ops:Array Oper} {o:Oper} {a b:Act} (h : ∀ t∈rdOf ops o,a.tmps[t]? =b.tmps[t]?):Region.wanted o (yielded ops a.tmps)=Region.wanted o (yielded ops b.tmps):=by
 unfold Region.wanted
 rcases hg:o.guard with _ | ⟨j,want⟩
 · rfl
 ·simp only [yielded]
  rcases hd:(ops[j]?).bind (·.dst) with _ | d
  · rfl
  ·have:d∈rdOf ops o:=by
    refine List.mem_append_right _ ?_
    simp [hg,hd]
   simp only [Option.bind_some,h d this]
section count
theorem filter_set : ∀ (l:List Bool)(i:Nat)(h:i < l.length),l[i]=false→((l.set i true).filter (! ·)).length+1=(l.filter (! ·)).length:=by
 intro l
 induction l with
 | nil=>intro i h;simp at h
 | cons b l ih =>
   intro i h hb
   cases i with
   | zero=>simp at hb;subst hb;simp
   | succ i =>
     have:=ih i (by simpa using h) (by simpa using hb)
     cases b <;> simp [List.filter_cons] <;> omega
theorem count_listed {listed:Array Bool} {i:Nat} (hi:i < listed.size)(h:listed.getD i false=false):((listed.setIfInBounds i true).toList.filter (! ·)).length+1=(listed.toList.filter (! ·)).length:=by
 have h4:listed[i]=false:=by simpa [hi] using h
 have:=filter_set listed.toList i (by simpa using hi) (by simpa using h4)
 simpa using this
theorem Q9j {listed:Array Bool} {i j:Nat} (hi:i < listed.size):(listed.setIfInBounds i true).getD j false=if j=i then true else listed.getD j false:=by
 by_cases h:j=i
 · subst h;simp [hi]
 ·rw [if_neg h]
  simp [Array.getD_eq_getD_getElem?,Array.getElem?_setIfInBounds_ne (Ne.symm h)]
end count
section core
variable {P:Program} {C:Ctx} {n:FD} {Q:Exit → Act → World → Prop} {ops:Array Oper} {lights L:List Nat} {D:List (Nat × Fact)} {Φ H:List Fact} {S:List (Nat × Value)}
theorem ready_some (hok:Q22 ops lights=true) {listed:Array Bool} (hs:listed.size=ops.size)(h:Region.ready .any ops listed=[]) : ∀ i,i < ops.size→listed.getD i false=true:=by
 intro i
 induction i using Nat.strongRecOn with
 | _ i ih =>
   intro hi
   cases hb:listed.getD i false with
   | true=>rfl
   | false =>
     have ho:ops[i]? =some ops[i]:=Array.getElem?_eq_getElem hi
     have hm:i∈Region.ready .any ops listed:=mem_ready.2 ⟨by simpa [hs,hi] using hb,_,ho,fun e he hbi=>by
      have:=(QaB hok ho).1 e he hbi
      exact ih e.on this (Nat.lt_trans this hi)⟩
     rw [h] at hm;cases hm
theorem owed_runs (hok:Q22 ops lights=true) {listed:Array Bool} {a av:Act} {w:World} (hr:RelX P C n ops lights L D Φ H S listed a av w) {i:Nat} (hi:i∈L)(hu:listed.getD i false=false) {o:Oper} (ho:ops[i]? =some o)
  (hpre : ∀ e∈o.after,Region.binds .any e=true→listed.getD e.on false=true) {K:Act→World→Prop} (hK : ∀ a',RelX P C n ops lights L D Φ H S (listed.setIfInBounds i true) a' av w→K a' w):wpOp P ops Q i K a w:=by
 obtain ⟨o',d,v,Φi,B,ho',hd,hdn,hlt,hv,hin,hΦ,hB,hdet⟩:=(hr.owed i hi hu).ex
 rw [ho] at ho';cases ho'
 have hil:i < listed.size:=by rw [hr.lsize];exact hr.inL i hi
 have hrd : ∀ t∈rdOf ops o,a.tmps[t]? =av.tmps[t]?:=fun t ht=>hr.agree t fun j oj hj huj hoj hdj=>by
  by_cases hij:j=i
  ·subst hij
   rw [ho] at hoj;cases hoj
   exact (QaB hok ho).2.2.2 hlt t hdj ht
  ·obtain ⟨_,_,_,_,_,_,_,_,hlj,_⟩:=(hr.owed j hj huj).ex
   have:=((Qct hok hoj ho hij hdj).2 ht).1 hlj
   obtain ⟨e,he,hb,rfl⟩:=Qak ho this
   rw [hpre e he hb] at huj;cases huj
 have hdep:DepW Φi B w:=by
  obtain ⟨F,N,hm⟩:=hr.holds
  refine ⟨⟨F,fun φ hφ=>hm.facts φ (hΦ φ hφ)⟩,fun b hb=>?_⟩
  have:=hr.deps _ (hB b hb) hu
  obtain ⟨k,hk⟩:=List.getElem?_of_mem this
  exact ⟨N k,F,hm.owns k b hk⟩
 have hput:RelX P C n ops lights L D Φ H S (listed.setIfInBounds i true) (a.put (some d) v) av w:=by
  refine ⟨hr.frm,by simp [Act.put,hr.asize],hr.adef,hr.holds,by simpa using hr.lsize,fun j hj=>?_,hr.inL,fun t ht=>?_,fun j hj huj=>?_,fun x hx hux=>?_⟩
  ·rw [Q9j hil] at hj
   split at hj
   · rename_i e;rw [e];exact hi
   · exact hr.sub j hj
  ·by_cases htd:t=d
   ·subst htd
    simp only [Act.put]
    rw [Array.getElem?_setIfInBounds_self];simp [hr.asize,hdn,hv]
   ·simp only [Act.put]
    rw [Array.getElem?_setIfInBounds_ne (Ne.symm htd)]
    refine hr.agree t fun j oj hj huj hoj hdj=>?_
    by_cases hij:j=i
    · subst hij;rw [ho] at hoj;cases hoj;rw [hd] at hdj;cases hdj;exact htd rfl
    · exact ht j oj hj (by rw [Q9j hil,if_neg hij];exact huj) hoj hdj
  ·rw [Q9j hil] at huj
   split at huj
   · cases huj
   · exact hr.owed j hj huj
  ·rw [Q9j hil] at hux
   split at hux
   · cases hux
   · exact hr.deps x hx hux
 unfold wpOp
 simp only [ho]
 rcases hdet a w hrd hdep with ⟨h1,h2⟩ | ⟨h1,h2⟩
 ·rw [if_pos h1]
  left
  unfold Oper.wp
  rw [h2,Oper.upon_value,hd]
  exact hK _ hput
 ·rw [if_neg (by rw [h1];simp),hd,← h2]
  exact hK _ hput
theorem wx_core (hok:Q22 ops lights=true)
   (hstep : ∀ i o listed a av w,ops[i]? = some o → i ∉ L → (∀ e ∈ o.after,Region.binds .any e = true → listed.getD e.on false = true) → RelX P C n ops lights L D Φ H S listed a av w →
    wpOp P ops Q i (fun a' w'=>∀ fuel,((listed.setIfInBounds i true).toList.filter (! ·)).length≤fuel→wpAny P .any ops Q fuel (listed.setIfInBounds i true) a' w') a w)
   (hdone:(∀ i,i < ops.size→i∈L)→WE C n Q Φ H S .normal):WX P C n Q ops lights L D Φ H S:=by
 intro listed a av w hr fuel
 induction fuel generalizing listed a with
 | zero =>
   intro hf
   have hall:Region.ready .any ops listed=[]:=by
    refine List.eq_nil_iff_forall_not_mem.2 fun i hi=>?_
    have h1:=(mem_ready.1 hi).1
    obtain ⟨o,ho,_⟩:=(mem_ready.1 hi).2
    have hlt:i < listed.size:=by rw [hr.lsize];exact (Array.getElem?_eq_some_iff.1 ho).1
    have:=count_listed hlt (by simpa [hlt] using h1)
    omega
   refine ⟨hall,?_⟩
   have hl:=ready_some hok hr.lsize hall
   have ha:a.tmps=av.tmps:=by
    apply Array.ext_getElem?
    intro t
    exact hr.agree t fun i o hi hu _=>by rw [hl i (hr.inL i hi)] at hu;cases hu
   have:a=av:=by
    rcases a with ⟨at_,ad⟩
    rcases av with ⟨bt,bd⟩
    have h1:=hr.adef
    have h2:=hr.frm.defers
    simp only at ha h1 h2
    rw [ha,h1,h2]
   rw [this]
   exact hdone (fun i hi=>hr.sub i (hl i hi)) av w hr.frm hr.holds
 | succ fuel ih =>
   intro hf
   refine ⟨fun hall=>?_,fun i hi=>?_⟩
   ·have hl:=ready_some hok hr.lsize hall
    have ha:a.tmps=av.tmps:=by
     apply Array.ext_getElem?
     intro t
     exact hr.agree t fun i o hi hu _=>by rw [hl i (hr.inL i hi)] at hu;cases hu
    have:a=av:=by
     rcases a with ⟨at_,ad⟩
     rcases av with ⟨bt,bd⟩
     have h1:=hr.adef
     have h2:=hr.frm.defers
     simp only at ha h1 h2
     rw [ha,h1,h2]
    rw [this]
    exact hdone (fun i hi=>hr.sub i (hl i hi)) av w hr.frm hr.holds
   ·obtain ⟨h1,o,ho,hpre⟩:=mem_ready.1 hi
    have hlt:i < listed.size:=by rw [hr.lsize];exact (Array.getElem?_eq_some_iff.1 ho).1
    have hu:listed.getD i false=false:=by simpa [hlt] using h1
    have hcount:=count_listed hlt hu
    by_cases hL:i∈L
    · exact owed_runs hok hr hL hu ho hpre fun a' hr'=>ih _ a' hr' (by omega)
    · exact wpOp_mono (fun a' w' h=>h fuel (by omega)) (hstep i o listed a av w ho hL hpre hr)
def QX (P:Program)(C:Ctx)(n:FD)(Q:Exit→Act→World→Prop)(ops:Array Oper)(lights L:List Nat)(D:List (Nat×Fact))(Φ:List Fact)(k:Nat):Exit→Act→World→Prop
 | .normal,a,w=>∃ Φ' H' S',Frm n S' a∧QC C Φ' H' w∧(∀ φ∈Φ,φ∈Φ')∧(∀ x∈D,QbH ops k x.1=false→x.2∈H')∧WX P C n Q ops lights (k :: L) D Φ' H' S'
 | _,_,_=>False
def liveD (ops:Array Oper)(k:Nat):List (Nat×Fact)→List Fact
 | []=>[]
 | (i,b) :: r=>match QbH ops k i with
   | true=>liveD ops k r
   | false=>b :: liveD ops k r
theorem liveD_mem {k:Nat} : ∀ {D:List (Nat×Fact)} {x:Nat×Fact},x∈D→QbH ops k x.1=false→x.2∈liveD ops k D
 | (i,b) :: r,x,hx,hp=>by
   unfold liveD
   rcases List.mem_cons.1 hx with rfl | hx
   · simp only at hp;rw [hp];simp
   ·split
    · exact liveD_mem hx hp
    · exact List.mem_cons_of_mem _ (liveD_mem hx hp)
theorem Q3b {k:Nat} {Φ' H' : List Fact} {S' : List (Nat×Value)} (l m:List Nat)(hΦ:Q1d Φ' l=Φ)(hD:Q1d H' m=liveD ops k D)(next:WX P C n Q ops lights (k :: L) D Φ' H' S'):WE C n (QX P C n Q ops lights L D Φ k) Φ' H' S' .normal:=by
 intro a w hf hw
 refine ⟨Φ',H',S',hf,hw,fun φ hφ=>?_,fun x hx hp=>?_,next⟩
 ·rw [← hΦ] at hφ
  obtain ⟨i,_,hi⟩:=List.mem_filterMap.1 hφ
  exact List.mem_of_getElem? hi
 ·have:=liveD_mem hx hp
  rw [← hD] at this
  obtain ⟨i,_,hi⟩:=List.mem_filterMap.1 this
  exact List.mem_of_getElem? hi
theorem Oper.wp_put {o:Oper} {a b:Act} {w:World} {K K' : Act→World→Prop} {Q' Q'' : Exit→Act→World→Prop} (hs : ∀ cs b,o.op≠.select cs b)(hev : ∀ x∈o.op.operands,a.eval x=b.eval x)
   (hdef : ∀ d v w',¬ K ({ b with defers:=d :: b.defers }.put o.dst v) w') (hK : ∀ v w',K (b.put o.dst v) w' →K' (a.put o.dst v) w') (hfalse : ∀ e b w',e≠.normal→¬ Q' e b w') (h:o.wp P b w K Q'):o.wp P a w K' Q'':=by
 unfold Oper.wp at *
 rw [execOp_congr o hs hev]
 generalize (execOp b.eval o).run P w=r at *
 cases r with
 | ok nx w' =>
   cases nx <;> simp only [Oper.upon] at h ⊢
   all_goals first
    | exact hK _ _ h
    | exact h
    | exact absurd h (hdef _ _ _)
    | exact Calls.mono h (fun e w'' he=>by
     cases e with
     | returned v=>exact hK _ _ he
     | panicked ch=>exact absurd he (hfalse _ _ _ (by simp))
     | outgrown=>obtain ⟨_,_,he⟩:=he;exact absurd he (hfalse _ _ _ (by simp)))
    | exact Rows.mono h (fun _ _ he=>hK _ _ he)
 | halt x w'=>cases x <;> simp only [Oper.upon] at h ⊢ <;> first | exact h | exact absurd h (hfalse _ _ _ (by simp))
theorem Act.put_defers {a:Act} {dst:Option Nat} {v:Value}:(a.put dst v).defers=a.defers:=by cases dst <;> rfl
theorem Act.put_size {a:Act} {dst:Option Nat} {v:Value}:(a.put dst v).tmps.size=a.tmps.size:=by cases dst <;> simp [Act.put]
theorem met (hok:Q22 ops lights=true) {k:Nat} {o:Oper} (ho:ops[k]? =some o)(hk:k ∉ L)(hnl:Q7j lights k=false)(h:WL P C n (QX P C n Q ops lights L D Φ k) Φ H S ops [o])
  {listed:Array Bool} {a av:Act} {w:World} (hpre : ∀ e∈o.after,Region.binds .any e=true→listed.getD e.on false=true) (hr:RelX P C n ops lights L D Φ H S listed a av w) :
  wpOp P ops Q k (fun a' w'=>∀ fuel,((listed.setIfInBounds k true).toList.filter (! ·)).length≤fuel→wpAny P .any ops Q fuel (listed.setIfInBounds k true) a' w') a w:=by
 have hkl:k < listed.size:=by rw [hr.lsize];exact (Array.getElem?_eq_some_iff.1 ho).1
 have hku:listed.getD k false=false:=by
  cases hb:listed.getD k false with
  | false=>rfl
  | true=>exact absurd (hr.sub k hb) hk
 have hrd : ∀ t∈rdOf ops o,a.tmps[t]? =av.tmps[t]?:=fun t ht=>hr.agree t fun j oj hj huj hoj hdj=>by
  have hij:j≠k:=fun e=>hk (e ▸ hj)
  obtain ⟨_,_,_,_,_,_,_,_,hlj,_⟩:=(hr.owed j hj huj).ex
  have:=((Qct hok hoj ho hij hdj).2 ht).1 hlj
  obtain ⟨e,he,hb,rfl⟩:=Qak ho this
  rw [hpre e he hb] at huj;cases huj
 have key : ∀ v w',(∃ Φ' H' S',Frm n S' (av.put o.dst v)∧QC C Φ' H' w' ∧(∀ φ∈Φ,φ∈Φ')∧(∀ x∈D,QbH ops k x.1=false→x.2∈H')∧WX P C n Q ops lights (k :: L) D Φ' H' S')→
   ∀ fuel,((listed.setIfInBounds k true).toList.filter (! ·)).length≤fuel→wpAny P .any ops Q fuel (listed.setIfInBounds k true) (a.put o.dst v) w':=by
  rintro v w' ⟨Φ',H',S',hf',hw',hΦ',hD',hx⟩
  refine hx _ _ (av.put o.dst v) w' ⟨hf',by rw [Act.put_size];exact hr.asize,by rw [Act.put_defers];exact hr.adef,hw',by simpa using hr.lsize,fun j hj=>?_,fun j hj=>?_,fun t ht=>?_,fun j hj huj=>?_,fun x hx' hux=>?_⟩
  ·rw [Q9j hkl] at hj
   split at hj
   · rename_i e;rw [e];simp
   · exact List.mem_cons_of_mem _ (hr.sub j hj)
  ·rcases List.mem_cons.1 hj with rfl | hj
   · rw [← hr.lsize];exact hkl
   · exact hr.inL j hj
  ·have hag:a.tmps[t]? =av.tmps[t]? ∨o.dst=some t:=by
     by_cases hd:o.dst=some t
     · exact .inr hd
     · refine .inl (hr.agree t fun j oj hj huj hoj hdj=>ht j oj (List.mem_cons_of_mem _ hj) ?_ hoj hdj)
       rw [Q9j hkl,if_neg (fun (e:j=k)=>hk (e ▸ hj))];exact huj
   cases hd:o.dst with
   | none =>
     rcases hag with h0 | h0
     · exact h0
     · rw [hd] at h0;cases h0
   | some d =>
     simp only [Act.put]
     by_cases htd:t=d
     · subst htd
       have h1:=hr.asize
       have h2:=hr.frm.size
       by_cases hlt:t < n
       · rw [Array.getElem?_setIfInBounds_self,Array.getElem?_setIfInBounds_self];simp [h1,h2,hlt]
       · simp [Array.getElem?_eq_none,h1,h2,Nat.not_lt.1 hlt]
     · rw [Array.getElem?_setIfInBounds_ne (Ne.symm htd),Array.getElem?_setIfInBounds_ne (Ne.symm htd)]
       rcases hag with h0 | h0
       · exact h0
       · rw [hd] at h0;cases h0;exact absurd rfl htd
  ·have hjk:j≠k:=fun e=>by subst e;rw [Q9j hkl,if_pos rfl] at huj;cases huj
   rw [Q9j hkl,if_neg hjk] at huj
   have hjL:j∈L:=(List.mem_cons.1 hj).resolve_left hjk
   obtain ⟨oj,d,vj,Φi,B,hoj,hdj,hdn,hlj,hvj,hin,hΦi,hB,hdet⟩:=(hr.owed j hjL huj).ex
   have hother : ∀ t,(o.dst=some t→t≠d∧t ∉ rdOf ops oj):=by
     intro t ht
     obtain ⟨p1,p2⟩:=Qct hok ho hoj (Ne.symm hjk) ht
     refine ⟨fun e=>p1 (by rw [e];exact hdj),fun hm=>?_⟩
     rcases (p2 hm).2 hnl hlj with h0 | h0
     · obtain ⟨e,he,hb,rfl⟩:=Qak ho h0
       rw [hpre e he hb] at huj;cases huj
     · obtain ⟨e,he,hb,rfl⟩:=Qak hoj h0
       exact hk (hin e he hb)
   have hsame : ∀ t,(t=d∨t∈rdOf ops oj)→(av.put o.dst v).tmps[t]? =av.tmps[t]?:=by
     intro t ht
     cases hd:o.dst with
     | none=>rfl
     | some d' =>
       obtain ⟨q1,q2⟩:=hother d' hd
       simp only [Act.put]
       rw [Array.getElem?_setIfInBounds_ne]
       rintro rfl
       rcases ht with ht | ht
       · exact q1 ht
       · exact q2 ht
   exact ⟨oj,d,vj,Φi,B,hoj,hdj,hdn,hlj,(hsame d (.inl rfl)).trans hvj,fun e he hb=>List.mem_cons_of_mem _ (hin e he hb),fun φ hφ=>hΦ' φ (hΦi φ hφ),hB,
     fun a' w'' ha' hdep=>hdet a' w'' (fun t ht=>(ha' t ht).trans (hsame t (.inr ht))) hdep⟩
  ·have hne:x.1≠k:=fun e=>by rw [Q9j hkl,if_pos e] at hux;cases hux
   rw [Q9j hkl,if_neg hne] at hux
   refine hD' x hx' ?_
   cases hb:QbH ops k x.1 with
   | false=>rfl
   | true =>
     obtain ⟨e,he,hb',heq⟩:=Qak ho hb
     rw [← heq,hpre e he hb'] at hux;cases hux
 unfold wpOp
 simp only [ho]
 have hwl:=h av w hr.frm hr.holds
 unfold wpList at hwl
 rw [QdH hrd]
 have hcont : ∀ v w',wpList P ops (QX P C n Q ops lights L D Φ k) [] (av.put o.dst v) w' →∀ fuel,((listed.setIfInBounds k true).toList.filter (! ·)).length≤fuel→wpAny P .any ops Q fuel (listed.setIfInBounds k true) (a.put o.dst v) w':=fun v w' h=>key v w' h
 split
 ·rename_i hwant
  rw [if_pos hwant] at hwl
  left
  rcases hwl with hwl | ⟨_,_,_,hf⟩
  ·refine Oper.wp_put (QaB hok ho).2.1 (eval_slots hrd) (fun d v w' hh=>?_) hcont (fun e b w' hne hq=>?_) hwl
   · obtain ⟨Φ',H',S',hf',_⟩:=(hh:QX P C n Q ops lights L D Φ k .normal _ _)
     have h3:=congrArg List.length (hf'.defers)
     rw [Act.put_defers,← hr.frm.defers] at h3
     simp at h3
   · cases e <;> first | exact hne rfl | exact hq
  · exact hf.elim
 ·rename_i hwant
  rw [if_neg hwant] at hwl
  exact hcont _ _ hwl
theorem Qu (hok:Q22 ops lights=true)(hall:(List.range ops.size).all (Q7j L)=true)(h:WE C n Q Φ H S .normal):WX P C n Q ops lights L D Φ H S :=
 wx_core hok (fun i o listed a av w ho hi _ _=>absurd (Q80.1 (List.all_eq_true.1 hall i (List.mem_range.2 (Array.getElem?_eq_some_iff.1 ho).1))) hi) (fun _=>h)
theorem wx_step (hok : Q22 ops lights=true)(l : List Nat)(hl : readyX ops lights L=l)(hnl : l.all (fun k=> !Q7j lights k)=true)(hne : (List.range ops.size).all (Q7j L)=false)
  (h : ∀ k∈l,∀ o,ops[k]? =some o→WL P C n (QX P C n Q ops lights L D Φ k) Φ H S ops [o]):WX P C n Q ops lights L D Φ H S :=
 wx_core hok (fun i o listed a av w ho hi hpre hr=>by
  have hm:i∈l:=by
   rw [← hl]
   refine List.mem_filter.2 ⟨List.mem_range.2 (Array.getElem?_eq_some_iff.1 ho).1,?_⟩
   have h1:Q7j L i=false:=by
    cases hb:Q7j L i with
    | false=>rfl
    | true=>exact absurd (Q80.1 hb) hi
   simp only [h1,ho,Bool.not_false,Bool.true_and,List.all_eq_true,Bool.or_eq_true,Bool.not_eq_true']
   intro e he
   cases hb:Region.binds .any e with
   | false=>exact .inl rfl
   | true=>exact .inr (Q80.2 (hr.sub _ (hpre e (by simpa using he) hb)))
  have hn:Q7j lights i=false:=by
   have:=List.all_eq_true.1 hnl i hm
   simpa using this
  exact met hok ho hi hn (h i hm o ho) hpre hr) (fun hall=>by
  have:(List.range ops.size).all (Q7j L)=true:=List.all_eq_true.2 fun i hi=>Q80.2 (hall i (List.mem_range.1 hi))
  rw [this] at hne;cases hne)
theorem wx_step1 (hok:Q22 ops lights=true)(k:Nat) {o:Oper} (hl:readyX ops lights L=[k])(hnl:Q7j lights k=false)(hne:(List.range ops.size).all (Q7j L)=false)(ho:ops[k]? =some o)
  (h:WL P C n (QX P C n Q ops lights L D Φ k) Φ H S ops [o]):WX P C n Q ops lights L D Φ H S :=
 wx_step hok [k] hl (by simp [hnl]) hne fun k' hk' o' ho'=>by
  simp only [List.mem_singleton] at hk'
  subst hk';rw [ho] at ho';cases ho';exact h
theorem Qa6 (hok:Q22 ops lights=true)(k j:Nat) {o p:Oper} (hl:readyX ops lights L=[k,j])(hnl:Q7j lights k=false)(hnl' : Q7j lights j=false)(hne:(List.range ops.size).all (Q7j L)=false)(ho:ops[k]? =some o)(hp:ops[j]? =some p)
  (h:WL P C n (QX P C n Q ops lights L D Φ k) Φ H S ops [o]) (h' : WL P C n (QX P C n Q ops lights L D Φ j) Φ H S ops [p]):WX P C n Q ops lights L D Φ H S :=
 wx_step hok [k,j] hl (by simp [hnl,hnl']) hne fun k' hk' o' ho'=>by
  simp only [List.mem_cons,List.not_mem_nil,or_false] at hk'
  rcases hk' with rfl | rfl
  · rw [ho] at ho';cases ho';exact h
  · rw [hp] at ho';cases ho';exact h'
theorem wx_light {S' : List (Nat×Value)} (hok : Q22 ops lights=true)(i : Nat) {o : Oper} {d : Nat} {v : Value} (B : List Fact)(m : List Nat)(hi : ops[i]? =some o)(hli : Q7j lights i=true)(hL : Q7j L i=false)(hpre : (o.after.toList.all fun e=> !Region.binds .any e || Q7j L e.on)=true)
  (hd:o.dst=some d) (hdn:Nat.blt d n=true) (hS:Q4p d S=S') (hB:Q1d H m=B)
  (det:(Q18 ops S o=some true∧∀ a w,Frm n S a→DepW Φ B w→(execOp a.eval o).run P w=.ok (.value v) w)∨(Q18 ops S o=some false∧v=undef))
  (next:WX P C n Q ops lights (i :: L) (B.map (fun b=>(i,b))++D) Φ H ((d,v) :: S')):WX P C n Q ops lights L D Φ H S:=by
 intro listed a av w hr
 have hiL:i ∉ L:=fun h=>by rw [Q80.2 h] at hL;cases hL
 have hio:i < ops.size:=(Array.getElem?_eq_some_iff.1 hi).1
 have hdlt:d < n:=Nat.le_of_ble_eq_true hdn
 have hin : ∀ e∈o.after,Region.binds .any e=true→e.on∈L:=fun e he hb=>by
  have:=List.all_eq_true.1 hpre e (by simpa using he)
  simp only [hb,Bool.not_true,Bool.false_or] at this
  exact Q80.1 this
 have hsame : ∀ t,t≠d→(av.put (some d) v).tmps[t]? =av.tmps[t]?:=fun t ht=>by
  simp only [Act.put];rw [Array.getElem?_setIfInBounds_ne (Ne.symm ht)]
 have hB' : ∀ b∈B,b∈H:=fun b hb=>by
  rw [← hB] at hb
  obtain ⟨q,_,hq⟩:=List.mem_filterMap.1 hb
  exact List.mem_of_getElem? hq
 refine next listed a (av.put (some d) v) w ⟨hr.frm.put hdlt hS,hr.asize,hr.adef,hr.holds,hr.lsize,fun j hj=>List.mem_cons_of_mem _ (hr.sub j hj),fun j hj=>?_,fun t ht=>?_,fun j hj huj=>?_,fun x hx hux=>?_⟩
 ·rcases List.mem_cons.1 hj with rfl | hj
  · exact hio
  · exact hr.inL j hj
 ·have htd:t≠d:=fun e=>by
   subst e
   have hu:listed.getD i false=false:=by
    cases hb:listed.getD i false with
    | false=>rfl
    | true=>exact absurd (hr.sub i hb) hiL
   exact ht i o (by simp) hu hi hd
  rw [hsame t htd]
  exact hr.agree t fun j oj hj huj hoj hdj=>ht j oj (List.mem_cons_of_mem _ hj) huj hoj hdj
 ·rcases List.mem_cons.1 hj with rfl | hj
  ·refine ⟨o,d,v,Φ,B,hi,hd,hdlt,hli,?_,fun e he hb=>List.mem_cons_of_mem _ (hin e he hb),fun _ h=>h,fun b hb=>List.mem_append_left _ (List.mem_map.2 ⟨b,hb,rfl⟩),fun a' w' ha' hdep=>?_⟩
   · simp [Act.put,hr.frm.size,hdlt]
   ·have hrd : ∀ t∈rdOf ops o,a'.tmps[t]? =av.tmps[t]?:=fun t ht=>(ha' t ht).trans (hsame t fun e=>by
     subst e;exact (QaB hok hi).2.2.2 hli t hd ht)
    rcases det with ⟨h1,h2⟩ | ⟨h1,h2⟩
    ·left
     rw [QdH hrd]
     refine ⟨Q5J hr.frm h1,?_⟩
     rw [execOp_congr o (QaB hok hi).2.1 (eval_slots hrd)]
     exact h2 av w' hr.frm hdep
    ·right
     rw [QdH hrd]
     exact ⟨Q5J hr.frm h1,h2⟩
  ·obtain ⟨oj,dj,vj,Φi,Bj,hoj,hdj,hdnj,hlj,hvj,hinj,hΦi,hBj,hdet⟩:=(hr.owed j hj huj).ex
   have hij:i≠j:=fun e=>hiL (e ▸ hj)
   obtain ⟨p1,p2⟩:=Qct hok hi hoj hij hd
   have hdd:dj≠d:=fun e=>p1 (by rw [← e];exact hdj)
   refine ⟨oj,dj,vj,Φi,Bj,hoj,hdj,hdnj,hlj,(hsame dj hdd).trans hvj,fun e he hb=>List.mem_cons_of_mem _ (hinj e he hb),hΦi,fun b hb=>List.mem_append_right _ (hBj b hb),fun a' w' ha' hdep=>?_⟩
   refine hdet a' w' (fun t ht=>(ha' t ht).trans (hsame t fun e=>?_)) hdep
   subst e
   obtain ⟨e,he,hb,heq⟩:=Qak hoj ((p2 ht).1 hli)
   exact hiL (heq ▸ hinj e he hb)
 ·rcases List.mem_append.1 hx with hx | hx
  ·obtain ⟨b,hb,rfl⟩:=List.mem_map.1 hx
   exact hB' b hb
  · exact hr.deps x hx hux
theorem RelX.more {listed:Array Bool} {a av:Act} {w:World} {Φ' : List Fact} (hr:RelX P C n ops lights L D Φ H S listed a av w)(hsub : ∀ φ∈Φ,φ∈Φ')(hw:QC C Φ' H w):RelX P C n ops lights L D Φ' H S listed a av w :=
 ⟨hr.frm,hr.asize,hr.adef,hw,hr.lsize,hr.sub,hr.inL,hr.agree,fun j hj huj=>by
  obtain ⟨oj,dj,vj,Φi,Bj,hoj,hdj,hdnj,hlj,hvj,hinj,hΦi,hBj,hdet⟩:=(hr.owed j hj huj).ex
  exact ⟨oj,dj,vj,Φi,Bj,hoj,hdj,hdnj,hlj,hvj,hinj,fun φ hφ=>hsub φ (hΦi φ hφ),hBj,hdet⟩,hr.deps⟩
theorem wx_open {Λ:Type} {pure : Λ→Prop} {facts : Λ→List Fact} (hop : ∀ F w,(∀ ψ∈Φ,ψ.p F w)→∃ r : Λ,pure r∧∀ φ∈facts r,φ.p F w)(next : ∀ r,pure r→WX P C n Q ops lights L D (facts r++Φ) H S):WX P C n Q ops lights L D Φ H S:=fun listed a av w hr=>by
 obtain ⟨r,h1,h2⟩:=open_core hr.holds fun F=>hop F w
 exact next r h1 listed a av w (hr.more (fun φ hφ=>List.mem_append_right _ hφ) h2)
theorem QC.drew' {w w' : World} (h:QC C Φ H w)(hb:Below w.heap.size w w'):QC C Φ H w':=by
 obtain ⟨F,N,hi⟩:=h
 exact ⟨F,N,hi.grow hb⟩
theorem QG {id:Nat} {l:List Oper} (lights:List Nat)(hm:P.follows .mixedOrders=true)(hok:Q22 l.toArray lights=true)(h' : Q22 l.toArray lights=true→WX P C n Q l.toArray lights [] [] Φ H S):WC P C n Q Φ H S (.region id l.toArray true):=by
 intro a w hf hw
 have h:=h' hok
 refine wp_region_any hm (h (Array.replicate l.toArray.size false) a a { w with drawn:=w.drawn+1 } ⟨hf,hf.size,hf.defers,hw.drew' ⟨rfl,rfl,rfl,Nat.le_refl _,fun _ _=>rfl⟩,by simp,fun i hi=>?_,by simp,fun t _=>rfl,by simp,by simp⟩ _ ?_)
 ·have:(Array.replicate l.toArray.size false).getD i false=false:=by
   simp only [Array.getD_eq_getD_getElem?,Array.getElem?_replicate];split <;> rfl
  rw [this] at hi;cases hi
 ·have : ∀ m:Nat,((List.replicate m false).filter (! ·)).length≤m:=fun m=>by simp
  simp
end core
end
end Go.Proofs.YtbgodclhmgmcgaaGreatDoor
