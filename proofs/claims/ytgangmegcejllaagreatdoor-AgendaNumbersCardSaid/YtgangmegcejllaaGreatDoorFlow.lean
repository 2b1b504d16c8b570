import Derived.Test.YtgangmegcejllaaGreatDoorFun
import Derived.Test.YtgangmegcejllaaGreatDoorDraw
import Derived.Test.YtgangmegcejllaaGreatDoorAb
namespace Go.Proofs.YtgangmegcejllaaGreatDoor
open Go.RowKit
theorem Qac : ∀ {l:List Nat} {m:Nat},(∀ i ∈ l,i < m) → l.Nodup → Q3M l m = true
 | [],_,_,_=>rfl
 | i :: l,m,h,hn=>by
   have hn':=List.nodup_cons.1 hn
   simp only [Q3M,Bool.and_eq_true,Bool.not_eq_true',List.any_eq_false]
   exact ⟨⟨Nat.ble_eq_true_of_le (h i (by simp)),fun j hj hb=>hn'.1 (by rw [Nat.eq_of_beq_eq_true hb]; exact hj)⟩,Qac (fun j hj=>h j (by simp [hj])) hn'.2⟩
theorem pickH_append (H:List Fact) (l m:List Nat):Q1V H (l ++ m) = Q1V H l ++ Q1V H m:=by simp [Q1V,List.filterMap_append]
theorem Qad (A B:List Fact):Q1V (A ++ B) (List.range A.length) = A:=by
 apply List.ext_getElem?
 have key : ∀ (A B:List Fact),Q1V (A ++ B) (List.range A.length) = A:=by
  intro A
  induction A with
  | nil=>intro B; simp [Q1V]
  | cons a A ih =>
    intro B
    have h2:Q1V (a :: (A ++ B)) ((List.range A.length).map (· + 1)) = Q1V (A ++ B) (List.range A.length):=by
     unfold Q1V
     rw [List.filterMap_map]; rfl
    rw [List.length_cons,List.range_succ_eq_map,List.cons_append]
    have h3:Q1V (a :: (A ++ B)) (0 :: (List.range A.length).map Nat.succ) = a :: Q1V (a :: (A ++ B)) ((List.range A.length).map (· + 1)):=by simp [Q1V]
    rw [h3,h2,ih]
 intro i
 rw [key]
theorem pickH_right (A B:List Fact):Q1V (A ++ B) ((List.range B.length).map (· + A.length)) = B:=by
 have h1:Q1V (A ++ B) ((List.range B.length).map (· + A.length)) = Q1V B (List.range B.length):=by
  unfold Q1V
  rw [List.filterMap_map]
  congr 1
  funext i
  simp only [Function.comp]
  rw [List.getElem?_append_right (by omega),Nat.add_sub_cancel]
 have:=Qad B []
 rw [List.append_nil] at this
 rw [h1,this]
theorem QU.swapIn {C:Ctx} {Φ:List Fact} {w:World} (pre post:List Fact) (a b:Fact) (h:QU C Φ (pre ++ a :: b :: post) w):QU C Φ (pre ++ b :: a :: post) w:=by
 have hl:(pre ++ a :: b :: post).length = pre.length + post.length + 2:=by simp; omega
 have:=h.pick (List.range pre.length ++ ([pre.length + 1,pre.length] ++ (List.range post.length).map (· + (pre ++ [a,b]).length))) (Qac (fun i hi=>by
  rw [hl]
  simp only [List.mem_append,List.mem_range,List.mem_cons,List.not_mem_nil,or_false,List.mem_map,List.length_append,List.length_cons,List.length_nil] at hi
  rcases hi with hi | (hi | hi) | ⟨j,hj,rfl⟩ <;> omega) (by
  rw [List.nodup_append,List.nodup_append]
  refine ⟨List.nodup_range,⟨by simp,List.Pairwise.map _ (fun x y hxy=>by omega) List.nodup_range,?_⟩,?_⟩
  ·intro x hx y hy
   simp only [List.mem_range,List.mem_cons,List.not_mem_nil,or_false,List.mem_map,List.length_append,List.length_cons,List.length_nil] at hx hy
   obtain ⟨j,hj,rfl⟩:=hy
   omega
  ·intro x hx y hy
   simp only [List.mem_append,List.mem_range,List.mem_cons,List.not_mem_nil,or_false,List.mem_map,List.length_append,List.length_cons,List.length_nil] at hx hy
   rcases hy with (hy | hy) | ⟨j,hj,rfl⟩ <;> omega))
 rw [pickH_append,pickH_append,Qad,show pre ++ a :: b :: post = (pre ++ [a,b]) ++ post by simp,pickH_right] at this
 have e:Q1V ((pre ++ [a,b]) ++ post) [pre.length + 1,pre.length] = [b,a]:=by
  simp [Q1V,List.getElem?_append]
 rw [e] at this
 simpa using this
theorem QU.permH {C:Ctx} {Φ:List Fact} {w:World} {H H' : List Fact} (hp:H.Perm H') : ∀ pre,QU C Φ (pre ++ H) w → QU C Φ (pre ++ H') w:=by
 induction hp with
 | nil=>intro _ h; exact h
 | cons x _ ih=>intro pre h; have:=ih (pre ++ [x]) (by simpa using h); simpa using this
 | swap x y l=>intro pre h; exact QU.swapIn pre l y x h
 | trans _ _ ih1 ih2=>intro pre h; exact ih2 pre (ih1 pre h)
theorem QU.perm {C:Ctx} {Φ:List Fact} {w:World} {H H' : List Fact} (h:QU C Φ H w) (hp:H.Perm H'):QU C Φ H' w:=QU.permH hp [] h
def atL {α:Type 1} (d : α):List α → Nat → α
 | [],_=>d
 | x :: _,0=>x
 | _ :: l,k + 1=>atL d l k
structure FlowD (Y:Type) where
 d:Nat
 cl:List Nat
 dp:List Nat
 cn:Nat
 x:List Fact
 v:(Nat → Y) → Value
 ψ:(Nat → Y) → List Fact
 ω:(Nat → Y) → List Fact
def restr {Y:Type} [Inhabited Y] (l:List Nat) (E:Nat → Y):Nat → Y:=fun j=>cond (Q2l l j) (E j) default
def updE {Y:Type} (E:Nat → Y) (k:Nat) (y:Y):Nat → Y:=fun j=>cond (Nat.beq j k) y (E j)
section flow
variable {Y:Type} [Inhabited Y] (fl:List (FlowD Y))
def fAt (k:Nat):FlowD Y:=atL ⟨0,[],[],0,[],fun _=>undef,fun _=>[],fun _=>[]⟩ fl k
def fX (k:Nat):List Fact:=(fAt fl k).x
def fV (E:Nat → Y) (k:Nat):Value:=(fAt fl k).v (restr (fAt fl k).cl E)
def fP (E:Nat → Y) (k:Nat):List Fact:=(fAt fl k).ψ (restr (fAt fl k).cl E)
def fH (E:Nat → Y) (k:Nat):List Fact:=(fAt fl k).ω (restr (fAt fl k).cl E)
def Q65 {α:Type 1} (f:Nat → List α):List Nat → List α → List α
 | [],l=>l
 | k :: ks,l=>f k ++ Q65 f ks l
def slL (E:Nat → Y):List Nat → List (Nat × Value) → List (Nat × Value)
 | [],l=>l
 | k :: ks,l=>((fAt fl k).d,fV fl E k) :: slL E ks l
theorem catL_eq {α:Type 1} (f:Nat → List α) : ∀ (ks:List Nat) (l:List α),Q65 f ks l = Q65 f ks [] ++ l
 | [],_=>rfl
 | k :: ks,l=>by simp only [Q65]; rw [catL_eq f ks l,List.append_assoc]
theorem catL_mem {α:Type 1} {f:Nat → List α} {x : α} : ∀ {ks:List Nat} {l:List α},x ∈ Q65 f ks l ↔ (∃ k ∈ ks,x ∈ f k) ∨ x ∈ l
 | [],l=>by simp [Q65]
 | k :: ks,l=>by
   simp only [Q65,List.mem_append,catL_mem (ks:=ks),List.mem_cons]
   constructor
   ·rintro (h | ⟨q,h1,h2⟩ | h)
    · exact .inl ⟨k,.inl rfl,h⟩
    · exact .inl ⟨q,.inr h1,h2⟩
    · exact .inr h
   ·rintro (⟨q,rfl | h1,h2⟩ | h)
    · exact .inl h2
    · exact .inr (.inl ⟨q,h1,h2⟩)
    · exact .inr (.inr h)
theorem catL_perm {α:Type 1} {f:Nat → List α} {ks ks' : List Nat} (h:ks.Perm ks'):(Q65 f ks []).Perm (Q65 f ks' []):=by
 induction h with
 | nil=>exact .refl _
 | cons x _ ih=>simp only [Q65]; exact .append (.refl _) ih
 | swap x y l =>
   simp only [Q65]
   rw [← List.append_assoc,← List.append_assoc]
   exact .append List.perm_append_comm (.refl _)
 | trans _ _ ih1 ih2=>exact ih1.trans ih2
theorem catL_congr {α:Type 1} {f g:Nat → List α} : ∀ {ks:List Nat} {l:List α},(∀ k ∈ ks,f k = g k) → Q65 f ks l = Q65 g ks l
 | [],_,_=>rfl
 | k :: ks,l,h=>by simp only [Q65]; rw [h k (by simp),catL_congr fun q hq=>h q (by simp [hq])]
theorem catL_app {α:Type 1} {f:Nat → List α} : ∀ {ks ms:List Nat},Q65 f (ks ++ ms) [] = Q65 f ks [] ++ Q65 f ms []
 | [],_=>rfl
 | k :: ks,ms=>by simp only [List.cons_append,Q65]; rw [catL_app,List.append_assoc]
theorem Qai {E:Nat → Y} {x:Nat × Value} : ∀ {ks:List Nat} {l:List (Nat × Value)},x ∈ slL fl E ks l ↔ (∃ k ∈ ks,x = ((fAt fl k).d,fV fl E k)) ∨ x ∈ l
 | [],l=>by simp [slL]
 | k :: ks,l=>by
   simp only [slL,List.mem_cons,Qai (ks:=ks)]
   constructor
   ·rintro (h | ⟨q,h1,h2⟩ | h)
    · exact .inl ⟨k,.inl rfl,h⟩
    · exact .inl ⟨q,.inr h1,h2⟩
    · exact .inr h
   ·rintro (⟨q,rfl | h1,h2⟩ | h)
    · exact .inl h2
    · exact .inr (.inl ⟨q,h1,h2⟩)
    · exact .inr (.inr h)
variable (n:Nat) (ops:Array Oper) (S0:List (Nat × Value)) (Φ0 H0:List Fact)
def inOf (k:Nat):List Nat:=(List.range ops.size).filter fun i=>Nat.beq (fAt fl i).cn k
def flowB : Bool := (List.range ops.size).all fun k => match ops[k]? with
 | none=>false
 | some o =>
   (match o.dst with | some d=>Nat.beq d (fAt fl k).d && Nat.blt d n && newS d S0 | none=>false) && Q2l (fAt fl k).cl k &&
   ((fAt fl k).cl.all fun j=>Nat.beq j k || o.after.toList.any fun e=>Region.binds .any e && Q2l (fAt fl e.on).cl j) &&
   ((fAt fl k).dp.all fun j=>Q2l (fAt fl k).cl j && !Nat.beq j k) &&
   ((List.range ops.size).all fun i=>(Nat.beq i k || !Nat.beq (fAt fl i).d (fAt fl k).d) && (!Nat.beq (fAt fl i).cn k || (Q2l (fAt fl k).cl i && !Nat.beq i k)))
structure FlowOk (k:Nat) (o:Oper):Prop where
 dst:o.dst = some (fAt fl k).d
 lt:(fAt fl k).d < n
 new:newS (fAt fl k).d S0 = true
 self:k ∈ (fAt fl k).cl
 cl : ∀ j ∈ (fAt fl k).cl,j = k ∨ ∃ e ∈ o.after,Region.binds .any e = true ∧ j ∈ (fAt fl e.on).cl
 dp : ∀ j ∈ (fAt fl k).dp,j ∈ (fAt fl k).cl ∧ j ≠ k
 apart : ∀ i,i < ops.size → i ≠ k → (fAt fl i).d ≠ (fAt fl k).d
 cn : ∀ i,i < ops.size → (fAt fl i).cn = k → i ∈ (fAt fl k).cl ∧ i ≠ k
omit [Inhabited Y] in
theorem flowB_spec (h:flowB fl n ops S0 = true) {k:Nat} {o:Oper} (ho:ops[k]? = some o):FlowOk fl n ops S0 k o:=by
 have hk:=(Array.getElem?_eq_some_iff.1 ho).1
 have:=List.all_eq_true.1 h k (List.mem_range.2 hk)
 simp only [ho,Bool.and_eq_true] at this
 obtain ⟨⟨⟨⟨h1,h2⟩,h3⟩,h4⟩,h5⟩:=this
 have hd : ∃ d,o.dst = some d ∧ Nat.beq d (fAt fl k).d = true ∧ Nat.blt d n = true ∧ newS d S0 = true:=by
  split at h1
  ·rename_i d hd
   simp only [Bool.and_eq_true] at h1
   exact ⟨d,hd,h1.1.1,h1.1.2,h1.2⟩
  · cases h1
 obtain ⟨d,hd,q1,q2,q3⟩:=hd
 have e:=Nat.eq_of_beq_eq_true q1
 subst e
 refine ⟨hd,Nat.le_of_ble_eq_true q2,q3,Q2C.1 h2,fun j hj=>?_,fun j hj=>?_,fun i hi hne=>?_,fun i hi hc=>?_⟩
 ·have:=List.all_eq_true.1 h3 j hj
  simp only [Bool.or_eq_true,List.any_eq_true,Bool.and_eq_true] at this
  rcases this with h | ⟨e,he,hb,hm⟩
  · exact .inl (Nat.eq_of_beq_eq_true h)
  · exact .inr ⟨e,by simpa using he,hb,Q2C.1 hm⟩
 ·have:=List.all_eq_true.1 h4 j hj
  simp only [Bool.and_eq_true,Bool.not_eq_true'] at this
  exact ⟨Q2C.1 this.1,fun e=>by subst e; rw [Nat.beq_refl] at this; cases this.2⟩
 ·have:=List.all_eq_true.1 h5 i (List.mem_range.2 hi)
  simp only [Bool.and_eq_true,Bool.or_eq_true,Bool.not_eq_true'] at this
  intro e
  rcases this.1 with h | h
  · exact hne (Nat.eq_of_beq_eq_true h)
  · rw [e,Nat.beq_refl] at h; cases h
 ·have:=List.all_eq_true.1 h5 i (List.mem_range.2 hi)
  simp only [Bool.and_eq_true,Bool.or_eq_true,Bool.not_eq_true'] at this
  rcases this.2 with h | h
  · rw [hc,Nat.beq_refl] at h; cases h
  · exact ⟨Q2C.1 h.1,fun e=>by subst e; rw [Nat.beq_refl] at h; cases h.2⟩
variable (P:Program) (C:Ctx) (Q:Exit → Act → World → Prop)
def QF (k:Nat) (E:Nat → Y):Exit → Act → World → Prop
 | .normal,a,w=>∃ y,Frm n [((fAt fl k).d,fV fl (updE E k y) k)] a ∧ QU C (fP fl (updE E k y) k) (fH fl (updE E k y) k ++ H0) w
 | _,_,_=>False
variable {fl n H0 C}
theorem Q1j {k:Nat} {E:Nat → Y} {Φ' H' : List Fact} {S' : List (Nat × Value)} (y:Y) (l m:List Nat) (hv:look S' (fAt fl k).d = some (fV fl (updE E k y) k)) (hΦ:Q1V Φ' l = fP fl (updE E k y) k)
  (hm:Q3M m H'.length = true) (hH:Q1V H' m = fH fl (updE E k y) k ++ H0):WE C n (QF fl n H0 C k E) Φ' H' S' .normal:=fun a w hf hw=>by
 refine ⟨y,hf.sub fun x hx=>?_,?_⟩
 · rw [List.mem_singleton] at hx; subst hx; exact Q7m hv
 ·rw [← hH]
  refine (hw.pick m hm).sub fun φ hφ=>?_
  rw [← hΦ] at hφ
  obtain ⟨i,_,hi⟩:=List.mem_filterMap.1 hφ
  exact List.mem_of_getElem? hi
variable (fl n H0 C)
def StepF (k:Nat):Prop:=∀ (E:Nat → Y) (C:Ctx),match ops[k]? with
 | some o=>WL P C n (QF fl n H0 C k E) (Q65 (fP fl E) (fAt fl k).dp Φ0) (Q65 (fH fl E) (inOf fl ops k) (fX fl k ++ H0)) (slL fl E (fAt fl k).dp S0) ops [o]
 | none=>True
def allF (p:Nat → Prop):Nat → Nat → Prop
 | 0,_=>True
 | m + 1,k=>p k ∧ allF p m (k + 1)
theorem allF_spec {p:Nat → Prop} : ∀ {m k:Nat},allF p m k → ∀ i,k ≤ i → i < k + m → p i
 | 0,_,_,_,_,_=>by omega
 | m + 1,k,h,i,h1,h2=>by
   by_cases e:i = k
   · subst e; exact h.1
   · exact allF_spec h.2 i (by omega) (by omega)
def Q64 (L:List Nat) (i:Nat):Bool:=Q2l L i && !Q2l L (fAt fl i).cn
theorem restr_upd {l:List Nat} {E:Nat → Y} {k:Nat} {y:Y} (h:k ∉ l):restr l (updE E k y) = restr l E:=by
 funext j
 unfold restr updE
 cases hb:Q2l l j with
 | false=>rfl
 | true =>
   have hj:Nat.beq j k = false:=by
    cases hq:Nat.beq j k with
    | false=>rfl
    | true=>rw [Nat.eq_of_beq_eq_true hq] at hb; exact absurd (Q2C.1 hb) h
   simp [hj]
theorem Q9d {k i:Nat} {L:List Nat}:Q2l (k :: L) i = (Nat.beq i k || Q2l L i):=rfl
end flow
theorem perm5 {α:Type 1} (a r x u h:List α):((a ++ r) ++ ((x ++ u) ++ h)).Perm ((a ++ (x ++ h)) ++ (r ++ u)):=by
 simp only [List.append_assoc]
 refine .append (.refl _) ((List.perm_append_comm_assoc r x (u ++ h)).trans (.append (.refl _) ?_))
 rw [← List.append_assoc]
 exact List.perm_append_comm
section
variable {Y:Type} [Inhabited Y] {fl:List (FlowD Y)} {n:Nat} {ops:Array Oper} {S0:List (Nat × Value)} {Φ0 H0:List Fact} {P:Program} {C:Ctx} {Q:Exit → Act → World → Prop}
theorem flow_go (hok:Q2K ops [] = true) (hB:flowB fl n ops S0 = true) (step : ∀ k,k < ops.size → StepF fl n ops S0 Φ0 H0 P k)
   (fin : ∀ E:Nat → Y,WE C n Q (Q65 (fP fl E) (List.range ops.size) Φ0) (Q65 (fH fl E) ((List.range ops.size).filter fun i=>!Nat.blt (fAt fl i).cn ops.size) H0) (slL fl E (List.range ops.size) S0) .normal) :
   ∀ (u:Nat) (L:List Nat) (E:Nat → Y) (Φ:List Fact),((List.range ops.size).filter fun i=>!Q2l L i).length ≤ u → (∀ i ∈ L,i < ops.size) → (∀ i ∈ L,∀ j ∈ (fAt fl i).cl,j ∈ L) →
     (∀ φ ∈ Φ0,φ ∈ Φ) → (∀ i ∈ L,∀ φ ∈ fP fl E i,φ ∈ Φ) →
     WX P C n Q ops [] L [] Φ (Q65 (fH fl E) ((List.range ops.size).filter (Q64 fl L)) (Q65 (fX fl) ((List.range ops.size).filter fun i=>!Q2l L i) H0)) (slL fl E ((List.range ops.size).filter (Q2l L)) S0):=by
 intro u
 induction u with
 | zero =>
   intro L E Φ hu hLt hcl h0 hP
   have hall : ∀ i,i < ops.size → Q2l L i = true:=fun i hi=>by
     have:=List.filter_eq_nil_iff.1 (List.eq_nil_of_length_eq_zero (Nat.le_zero.1 hu)) i (List.mem_range.2 hi)
     simpa using this
   have e1:(List.range ops.size).filter (Q2l L) = List.range ops.size:=List.filter_eq_self.2 fun i hi=>hall i (List.mem_range.1 hi)
   have e2:(List.range ops.size).filter (Q64 fl L) = (List.range ops.size).filter fun i=>!Nat.blt (fAt fl i).cn ops.size:=List.filter_congr fun i hi=>by
     unfold Q64
     rw [hall i (List.mem_range.1 hi),Bool.true_and]
     congr 1
     by_cases hc:(fAt fl i).cn < ops.size
     · rw [hall _ hc,show Nat.blt (fAt fl i).cn ops.size = true from Nat.ble_eq_true_of_le hc]
     ·have h1:Q2l L (fAt fl i).cn = false:=by
       cases hb:Q2l L (fAt fl i).cn with
       | false=>rfl
       | true=>exact absurd (hLt _ (Q2C.1 hb)) hc
      have h2:Nat.blt (fAt fl i).cn ops.size = false:=by
       cases hb:Nat.blt (fAt fl i).cn ops.size with
       | false=>rfl
       | true=>exact absurd (Nat.le_of_ble_eq_true hb) hc
      rw [h1,h2]
   have e3:(List.range ops.size).filter (fun i=>!Q2l L i) = []:=List.filter_eq_nil_iff.2 fun i hi=>by simp [hall i (List.mem_range.1 hi)]
   rw [e1,e2,e3]
   refine QI hok (List.all_eq_true.2 fun i hi=>hall i (List.mem_range.1 hi)) fun a w hf hw=>fin E a w hf (hw.sub fun φ hφ=>?_)
   rcases catL_mem.1 hφ with ⟨k,hk,hx⟩ | hx
   · exact hP k (Q2C.1 (hall k (List.mem_range.1 hk))) φ hx
   · exact h0 φ hx
 | succ u ih =>
   intro L E Φ hu hLt hcl h0 hP
   by_cases hne:(List.range ops.size).all (Q2l L) = true
   · exact ih L E Φ (by
      have:(List.range ops.size).filter (fun i=>!Q2l L i) = []:=List.filter_eq_nil_iff.2 fun i hi=>by simpa using List.all_eq_true.1 hne i hi
      rw [this]; exact Nat.zero_le _) hLt hcl h0 hP
   · refine wx_step hok _ rfl (List.all_eq_true.2 fun k _=>by simp [Q2l]) (by simpa using hne) fun k hk o ho=>?_
     have hkr:=List.mem_filter.1 hk
     have hks:=List.mem_range.1 hkr.1
     have hkL:k ∉ L:=fun h=>by
      have:=hkr.2
      rw [Q2C.2 h] at this
      simp at this
     have hpre : ∀ e ∈ o.after,Region.binds .any e = true → e.on ∈ L:=fun e he hb=>by
      have:=hkr.2
      simp only [ho,Bool.and_eq_true,List.all_eq_true,Bool.or_eq_true,Bool.not_eq_true'] at this
      rcases this.2 e (by simpa using he) with h | h
      · rw [hb] at h; cases h
      · exact Q2C.1 h
     have fo:=flowB_spec fl n ops S0 hB ho
     have hclk : ∀ j ∈ (fAt fl k).cl,j = k ∨ j ∈ L:=fun j hj=>(fo.cl j hj).imp id fun ⟨e,he,hb,hm⟩=>hcl _ (hpre e he hb) j hm
     have hdp : ∀ j ∈ (fAt fl k).dp,j ∈ L:=fun j hj=>by
      obtain ⟨h1,h2⟩:=fo.dp j hj
      exact (hclk j h1).resolve_left h2
     have hin : ∀ i ∈ inOf fl ops k,i ∈ L ∧ (fAt fl i).cn = k:=fun i hi=>by
      obtain ⟨h1,h2⟩:=List.mem_filter.1 hi
      have e:=Nat.eq_of_beq_eq_true h2
      obtain ⟨h3,h4⟩:=fo.cn i (List.mem_range.1 h1) e
      exact ⟨(hclk i h3).resolve_left h4,e⟩
     have hcnL : ∀ i,i < ops.size → (fAt fl i).cn ∈ L → i ∈ L:=fun i hi hc=>by
      have hlt:=hLt _ hc
      obtain ⟨oc,hoc⟩ : ∃ oc,ops[(fAt fl i).cn]? = some oc:=⟨_,Array.getElem?_eq_getElem hlt⟩
      exact hcl _ hc i ((flowB_spec fl n ops S0 hB hoc).cn i hi rfl).1
     have hcnk:(fAt fl k).cn ≠ k:=fun e=>(fo.cn k hks e).2 rfl
     let A:=(List.range ops.size).filter (Q64 fl L)
     let R:=A.filter fun i=>!Nat.beq (fAt fl i).cn k
     have hA:(inOf fl ops k ++ R).Perm A:=by
      have h1:A.filter (fun i=>Nat.beq (fAt fl i).cn k) = inOf fl ops k:=by
       show ((List.range ops.size).filter (Q64 fl L)).filter _ = _
       rw [List.filter_filter]
       refine List.filter_congr fun i hi=>?_
       cases hq:Nat.beq (fAt fl i).cn k with
       | false=>rfl
       | true =>
         obtain ⟨h2,h3⟩:=hin i (List.mem_filter.2 ⟨hi,hq⟩)
         have h4:Q2l L (fAt fl i).cn = false:=by
           cases hb:Q2l L (fAt fl i).cn with
           | false=>rfl
           | true=>rw [h3] at hb; exact absurd (Q2C.1 hb) hkL
         simp [Q64,Q2C.2 h2,h4]
      have h2:=List.filter_append_perm (fun i=>Nat.beq (fAt fl i).cn k) A
      rw [h1] at h2
      exact h2
     have hRL : ∀ i ∈ R,i ∈ L:=fun i hi=>by
      have h1:=(List.mem_filter.1 (List.mem_filter.1 hi).1).2
      simp only [Q64,Bool.and_eq_true] at h1
      exact Q2C.1 h1.1
     have hA' : ((List.range ops.size).filter (Q64 fl (k :: L))).Perm (k :: R):=by
      have p1:(List.range ops.size).Perm (k :: (List.range ops.size).erase k):=List.perm_cons_erase (List.mem_range.2 hks)
      have e0 : ∀ i ∈ (List.range ops.size).erase k,i ≠ k:=fun i hi e=>by
       subst e
       exact List.Nodup.not_mem_erase List.nodup_range hi
      have q1:=p1.filter (Q64 fl (k :: L))
      have q2:=(p1.filter (fun i=>!Nat.beq (fAt fl i).cn k && Q64 fl L i))
      have ek:Q64 fl (k :: L) k = true:=by
       have h1:Q2l (k :: L) (fAt fl k).cn = false:=by
         cases hb:Q2l (k :: L) (fAt fl k).cn with
         | false=>rfl
         | true =>
           rcases List.mem_cons.1 (Q2C.1 hb) with h | h
           · exact absurd h hcnk
           · exact absurd (hcnL k hks h) hkL
       simp [Q64,h1,Q9d,Nat.beq_refl]
      have ek2:(!Nat.beq (fAt fl k).cn k && Q64 fl L k) = false:=by
       have h1:Q2l L k = false:=by
         cases hb:Q2l L k with
         | false=>rfl
         | true=>exact absurd (Q2C.1 hb) hkL
       simp [Q64,h1]
      rw [List.filter_cons_of_pos ek] at q1
      rw [List.filter_cons_of_neg (by simpa using ek2)] at q2
      have e1:((List.range ops.size).erase k).filter (Q64 fl (k :: L)) = ((List.range ops.size).erase k).filter (fun i=>!Nat.beq (fAt fl i).cn k && Q64 fl L i):=List.filter_congr fun i hi=>by
       have h1:Nat.beq i k = false:=by
         cases hb:Nat.beq i k with
         | false=>rfl
         | true=>exact absurd (Nat.eq_of_beq_eq_true hb) (e0 i hi)
       simp only [Q64,Q9d,h1,Bool.false_or,Bool.not_or]
       cases Q2l L i <;> cases Nat.beq (fAt fl i).cn k <;> simp
      rw [e1] at q1
      refine q1.trans (.cons k (q2.symm.trans ?_))
      show (List.filter _ _).Perm (((List.range ops.size).filter (Q64 fl L)).filter _)
      rw [List.filter_filter]
     have hU:((List.range ops.size).filter fun i=>!Q2l L i).Perm (k :: (List.range ops.size).filter fun i=>!Q2l (k :: L) i):=by
      have p1:(List.range ops.size).Perm (k :: (List.range ops.size).erase k):=List.perm_cons_erase (List.mem_range.2 hks)
      have h1:Q2l L k = false:=by
       cases hb:Q2l L k with
       | false=>rfl
       | true=>exact absurd (Q2C.1 hb) hkL
      have q1:=p1.filter (fun i=>!Q2l L i)
      have q2:=p1.filter (fun i=>!Q2l (k :: L) i)
      rw [List.filter_cons_of_pos (by simp [h1])] at q1
      rw [List.filter_cons_of_neg (by simp [Q9d,Nat.beq_refl])] at q2
      have e1:((List.range ops.size).erase k).filter (fun i=>!Q2l L i) = ((List.range ops.size).erase k).filter (fun i=>!Q2l (k :: L) i):=List.filter_congr fun i hi=>by
       have h2:Nat.beq i k = false:=by
         cases hb:Nat.beq i k with
         | false=>rfl
         | true =>
           have:=Nat.eq_of_beq_eq_true hb
           subst this
           exact absurd hi (List.Nodup.not_mem_erase List.nodup_range)
       simp only [Q9d,h2,Bool.false_or]
      rw [e1] at q1
      exact q1.trans (.cons k q2.symm)
     intro a w hf hw
     have hw1:QU C Φ (Q65 (fH fl E) (inOf fl ops k) (fX fl k ++ H0) ++ (Q65 (fH fl E) R [] ++ Q65 (fX fl) ((List.range ops.size).filter fun i=>!Q2l (k :: L) i) [])) w:=by
      refine hw.perm ?_
      rw [catL_eq (fH fl E) _ (Q65 _ _ _),catL_eq (fH fl E) (inOf fl ops k) (fX fl k ++ H0),catL_eq (fX fl) _ H0]
      refine (((catL_perm hA.symm).append ((catL_perm hU).append_right H0))).trans ?_
      rw [catL_app]
      simp only [Q65]
      exact perm5 _ _ _ _ _
     obtain ⟨F,N,hi⟩:=hw1
     generalize hA1:Q65 (fH fl E) (inOf fl ops k) (fX fl k ++ H0) = A1 at hi
     generalize hB1:Q65 (fH fl E) R [] ++ Q65 (fX fl) ((List.range ops.size).filter fun i=>!Q2l (k :: L) i) [] = B1 at hi
     have hl:Q3M (List.range A1.length ++ (List.range B1.length).map (· + A1.length)) (A1 ++ B1).length = true:=Qac (fun i hi=>by
      simp only [List.mem_append,List.mem_range,List.mem_map,List.length_append] at hi ⊢
      rcases hi with hi | ⟨j,hj,rfl⟩ <;> omega) (by
      rw [List.nodup_append]
      refine ⟨List.nodup_range,List.Pairwise.map _ (fun x y hxy=>by omega) List.nodup_range,fun x hx y hy=>?_⟩
      simp only [List.mem_range,List.mem_map] at hx hy
      obtain ⟨j,hj,rfl⟩:=hy
      omega)
     have hl1:Q3M (List.range A1.length) (A1 ++ B1).length = true:=Qac (fun i hi=>by simp only [List.mem_range,List.length_append] at hi ⊢; omega) List.nodup_range
     have hp:=hi.pick (List.range A1.length) hl1
     rw [Qad] at hp
     have hloc:QU ⟨w,fun q=>∃ i,i < A1.length ∧ N ((List.range A1.length).getD i 0) q,F⟩ (Q65 (fP fl E) (fAt fl k).dp Φ0) A1 w :=
      ⟨F,fun i=>N ((List.range A1.length).getD i 0),hp.flt,fun _ h=>h,fun _ h=>.inl h,fun φ hφ=>hi.facts φ (by
       rcases catL_mem.1 hφ with ⟨j,hj,hx⟩ | hx
       · exact hP j (hdp j hj) φ hx
       · exact h0 φ hx),hp.owns,fun i q hq hn=>⟨(hp.nlt i q hq hn).1,.inr ⟨i,hq,hn⟩,(hp.nlt i q hq hn).2.2⟩,hp.apart,Mod.refl _ _⟩
     have hfl:Frm n (slL fl E (fAt fl k).dp S0) a:=hf.sub fun x hx=>by
      rcases (Qai fl).1 hx with ⟨j,hj,rfl⟩ | hx
      · exact (Qai fl).2 (.inl ⟨j,List.mem_filter.2 ⟨List.mem_range.2 (hLt j (hdp j hj)),Q2C.2 (hdp j hj)⟩,rfl⟩)
      · exact (Qai fl).2 (.inr hx)
     have hst:=step k hks E ⟨w,fun q=>∃ i,i < A1.length ∧ N ((List.range A1.length).getD i 0) q,F⟩
     simp only [ho] at hst
     have hwp:=hst a w hfl (by rw [hA1]; exact hloc)
     have next : ∀ v w',QF fl n H0 ⟨w,fun q=>∃ i,i < A1.length ∧ N ((List.range A1.length).getD i 0) q,F⟩ k E .normal (a.put o.dst v) w' → QX P C n Q ops [] L [] Φ k .normal (a.put o.dst v) w':=by
      rintro v w' ⟨y,hf1,hw'⟩
      have hput : ∀ t,t ≠ (fAt fl k).d → (a.put o.dst v).tmps[t]? = a.tmps[t]?:=fun t ht=>by
       rw [fo.dst]; simp only [Act.put]; rw [Array.getElem?_setIfInBounds_ne (Ne.symm ht)]
      have hframe : ∀ i ∈ L,restr (fAt fl i).cl (updE E k y) = restr (fAt fl i).cl E:=fun i hi=>restr_upd fun h=>hkL (hcl i hi k h)
      have hV : ∀ i ∈ L,fV fl (updE E k y) i = fV fl E i:=fun i hi=>by unfold fV; rw [hframe i hi]
      have hPs : ∀ i ∈ L,fP fl (updE E k y) i = fP fl E i:=fun i hi=>by unfold fP; rw [hframe i hi]
      have hHs : ∀ i ∈ L,fH fl (updE E k y) i = fH fl E i:=fun i hi=>by unfold fH; rw [hframe i hi]
      have haft:=MInv.after hi (l:=List.range A1.length) (m:=(List.range B1.length).map (· + A1.length)) hl (Φr:=fP fl (updE E k y) k) (Hr:=fH fl (updE E k y) k ++ H0) (by rw [Qad]; exact hw')
      rw [pickH_right] at haft
      refine ⟨fP fl (updE E k y) k ++ Φ,Q65 (fH fl (updE E k y)) ((List.range ops.size).filter (Q64 fl (k :: L))) (Q65 (fX fl) ((List.range ops.size).filter fun i=>!Q2l (k :: L) i) H0),slL fl (updE E k y) ((List.range ops.size).filter (Q2l (k :: L))) S0,?_,?_,fun φ hφ=>List.mem_append_right _ hφ,(fun x hx=>by cases hx),?_⟩
      ·refine ⟨hf1.size,hf1.defers,fun x hx=>?_⟩
       rcases (Qai fl).1 hx with ⟨i,hi2,rfl⟩ | hx
       · rcases List.mem_cons.1 (Q2C.1 (List.mem_filter.1 hi2).2) with rfl | hiL
         · exact hf1.at_ _ (List.mem_singleton.2 rfl)
         · have hne:i ≠ k:=fun e=>hkL (e ▸ hiL)
           rw [hput _ (fo.apart i (hLt i hiL) hne),hV i hiL]
           exact hf.at_ _ ((Qai fl).2 (.inl ⟨i,List.mem_filter.2 ⟨List.mem_range.2 (hLt i hiL),Q2C.2 hiL⟩,rfl⟩))
       · have hne:x.1 ≠ (fAt fl k).d:=fun e=>by
           have:=List.all_eq_true.1 fo.new x hx
           rw [e,Nat.beq_refl] at this; cases this
         rw [hput _ hne]
         exact hf.at_ _ ((Qai fl).2 (.inr hx))
      ·refine haft.perm ?_
       rw [catL_eq (fH fl (updE E k y)) _ (Q65 _ _ _),catL_eq (fX fl) _ H0]
       refine List.Perm.trans ?_ ((catL_perm hA').symm.append_right _)
       have e1:Q65 (fH fl (updE E k y)) (k :: R) [] = fH fl (updE E k y) k ++ Q65 (fH fl E) R []:=by
         simp only [Q65]
         rw [catL_congr (g:=fH fl E) fun i hi2=>hHs i (hRL i hi2)]
       rw [e1,← hB1,List.append_assoc,List.append_assoc]
       refine .append (.refl _) ?_
       rw [← List.append_assoc (Q65 (fH fl E) R [])]
       exact List.perm_append_comm
      ·refine ih (k :: L) (updE E k y) _ ?_ (fun i hi2=>?_) (fun i hi2 j hj=>?_) (fun φ hφ=>List.mem_append_right _ (h0 φ hφ)) (fun i hi2 φ hφ=>?_)
       · have p1:(List.range ops.size).Perm (k :: (List.range ops.size).erase k):=List.perm_cons_erase (List.mem_range.2 hks)
         have h1:Q2l L k = false:=by
           cases hb:Q2l L k with
           | false=>rfl
           | true=>exact absurd (Q2C.1 hb) hkL
         have q1:=(p1.filter (fun i=>!Q2l L i)).length_eq
         have q2:=(p1.filter (fun i=>!Q2l (k :: L) i)).length_eq
         rw [List.filter_cons_of_pos (by simp [h1]),List.length_cons] at q1
         rw [List.filter_cons_of_neg (by simp [Q9d,Nat.beq_refl])] at q2
         have q3:(((List.range ops.size).erase k).filter fun i=>!Q2l (k :: L) i).length ≤ (((List.range ops.size).erase k).filter fun i=>!Q2l L i).length:=by
           refine (List.Sublist.length_le ?_)
           have:((List.range ops.size).erase k).filter (fun i=>!Q2l (k :: L) i) = (((List.range ops.size).erase k).filter fun i=>!Q2l L i).filter (fun i=>!Nat.beq i k):=by
            rw [List.filter_filter]
            refine List.filter_congr fun i _=>?_
            simp only [Q9d,Bool.not_or]
           rw [this]; exact List.filter_sublist
         omega
       · rcases List.mem_cons.1 hi2 with rfl | hi2
         · exact hks
         · exact hLt i hi2
       · rcases List.mem_cons.1 hi2 with rfl | hi2
         · rcases hclk j hj with rfl | h
           · exact List.mem_cons_self
           · exact List.mem_cons_of_mem _ h
         · exact List.mem_cons_of_mem _ (hcl i hi2 j hj)
       · rcases List.mem_cons.1 hi2 with rfl | hi2
         · exact List.mem_append_left _ hφ
         · rw [hPs i hi2] at hφ
           exact List.mem_append_right _ (hP i hi2 φ hφ)
     unfold wpList at hwp ⊢
     split at hwp
     ·rename_i hwant
      rw [if_pos hwant]
      left
      rcases hwp with hwp | ⟨_,_,_,hf'⟩
      ·refine Oper.wp_put (Q84 hok ho).2.1 (fun _ _=>rfl) (fun d v w' hh=>?_) next (fun e b w' hne hq=>?_) hwp
       · obtain ⟨y,hf1,_⟩:=(hh:QF fl n H0 _ k E .normal _ _)
         have:=hf1.defers
         rw [Act.put_defers] at this
         cases this
       · cases e <;> first | exact hne rfl | exact hq
      · exact hf'.elim
     ·rename_i hwant
      rw [if_neg hwant]
      exact next _ _ hwp
theorem wc_flow {H:List Fact} {id:Nat} {l:List Oper} (fl:List (FlowD Y)) (hH:Q65 (fX fl) (List.range l.length) H0 = H) (hm:P.follows .mixedOrders = true) (hok:Q2K l.toArray [] = true) (hB:flowB fl n l.toArray S0 = true) (step:allF (StepF fl n l.toArray S0 Φ0 H0 P) l.length 0)
  (fin : ∀ E:Nat → Y,WE C n Q (Q65 (fP fl E) (List.range l.length) Φ0) (Q65 (fH fl E) ((List.range l.length).filter fun i=>!Nat.blt (fAt fl i).cn l.length) H0) (slL fl E (List.range l.length) S0) .normal) :
  WC P C n Q Φ0 H S0 (.region id l.toArray true):=by
 subst hH
 refine QV [] hm hok fun _=>?_
 have e0:(List.range l.toArray.size).filter (Q64 fl []) = []:=List.filter_eq_nil_iff.2 fun i _=>by simp [Q64,Q2l]
 have e1:(List.range l.toArray.size).filter (Q2l []) = []:=List.filter_eq_nil_iff.2 fun i _=>by simp [Q2l]
 have:=flow_go (C:=C) (Q:=Q) hok hB (fun k hk=>allF_spec step k (Nat.zero_le _) (by simpa using hk)) (by simpa using fin) _ [] (fun _=>default) Φ0 (Nat.le_refl _) (by simp) (by simp) (fun _ h=>h) (by simp)
 have e2:(List.range l.toArray.size).filter (fun i=>!Q2l [] i) = List.range l.length:=by
  rw [List.size_toArray]
  exact List.filter_eq_self.2 fun i _=>by simp [Q2l]
 rw [e0,e1,e2] at this
 exact this
end
end Go.Proofs.YtgangmegcejllaaGreatDoor
