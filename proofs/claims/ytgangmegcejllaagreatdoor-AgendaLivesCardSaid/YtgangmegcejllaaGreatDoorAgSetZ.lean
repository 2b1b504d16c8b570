import Derived.Test.YtgangmegcejllaaGreatDoorPdqG
namespace Go.Proofs.YtgangmegcejllaaGreatDoor
open Go Go.RowKit
instance:DecidableEq Q1:=fun x y=>if h:x.rule = y.rule ∧ x.ids = y.ids then .isTrue (by cases x; cases y; simp at h ⊢; exact h) else .isFalse fun e=>h (by subst e; exact ⟨rfl,rfl⟩)
structure Q3S (x:Q1):Prop where
 rule : -9223372036854775808 ≤ x.rule ∧ x.rule ≤ 9223372036854775807
 ids : ∀ z ∈ x.ids,-9223372036854775808 ≤ z ∧ z ≤ 9223372036854775807
 len:x.ids.length ≤ 400
theorem fold_go {α σ:Type} {f:Nat × σ → Option ((Nat × σ) ⊕ σ)} (l:List α) (g : σ → α → σ) (I:Nat → σ → Prop) (step : ∀ i x a,l[i]? = some x → I i a → f (i,a) = some (.inl (i + 1,g a x)) ∧ I (i + 1) (g a x)) (stop : ∀ a,f (l.length,a) = some (.inr a)) :
   ∀ (k i:Nat) (a : σ),l.length - i ≤ k → i ≤ l.length → I i a → ∀ fuel,k < fuel → Q1o f fuel (i,a) = some ((l.drop i).foldl g a) ∧ I l.length ((l.drop i).foldl g a):=by
 intro k
 induction k with
 | zero =>
   intro i a hk hi hI fuel hf
   obtain ⟨fuel,rfl⟩ : ∃ f,fuel = f + 1:=⟨fuel - 1,by omega⟩
   have e:i = l.length:=by omega
   subst e
   rw [Q15 (stop a),List.drop_length]
   exact ⟨rfl,hI⟩
 | succ k ih =>
   intro i a hk hi hI fuel hf
   obtain ⟨fuel,rfl⟩ : ∃ f,fuel = f + 1:=⟨fuel - 1,by omega⟩
   by_cases h:i < l.length
   ·obtain ⟨h1,h2⟩:=step i _ a (List.getElem?_eq_getElem h) hI
    rw [Q1Y h1,List.drop_eq_getElem_cons h,List.foldl_cons]
    exact ih (i + 1) _ (by omega) (by omega) h2 fuel (by omega)
   ·have e:i = l.length:=by omega
    subst e
    rw [Q15 (stop a),List.drop_length]
    exact ⟨rfl,hI⟩
theorem decF_len : ∀ f n:Nat,(decF f n).length ≤ f
 | 0,_=>Nat.le_refl _
 | f + 1,n=>by
   unfold decF
   split
   · simp
   ·have:=decF_len f (n / 10)
    simp; omega
theorem itoa_len (n:Int):(Q6P n).size ≤ 21:=by
 have h1:=decF_len 20 n.natAbs
 have h2:=decF_len 20 n.toNat
 have e:(Q6P n).size = (if n < 0 then 45 :: decF 20 n.natAbs else decF 20 n.toNat).length:=by
  show (List.toArray _).size = _
  rw [List.size_toArray]
 rw [e]
 split
 · rw [List.length_cons]; omega
 · omega
def Q4h (x:Q1):ByteArray:=x.ids.foldl (fun b z=>b ++ ((⟨#[32]⟩ : ByteArray) ++ Q6P z)) (Q6P x.rule)
section
variable {N:Nat} (hN : 9223372036854775808 ≤ N)
include hN
theorem Q8v {x:Q1} (h:Q3S x):Q4J N x.rule x.ids = some (Q4h x):=by
 have hl:=h.len
 unfold Q4J
 have:=fold_go (f:=Q64 N x.ids) x.ids (fun b z=>b ++ ((⟨#[32]⟩ : ByteArray) ++ Q6P z)) (fun i b=>b.size ≤ 22 * (i + 1)) (fun i z b hz hb=>by
  have hi:i < x.ids.length:=(List.getElem?_eq_some_iff.1 hz).1
  have hm:=h.ids z (List.mem_of_getElem? hz)
  have h21:=itoa_len z
  have e32:(⟨#[32]⟩ : ByteArray).size = 1:=rfl
  unfold Q64
  simp only
  rw [if_pos (decide_eq_true hi),hz,Q8,Qg hm,Qg (by omega),Qg (by rw [ByteArray.size_append]; omega),Qg (by omega)]
  exact ⟨rfl,by rw [ByteArray.size_append,ByteArray.size_append]; omega⟩) (fun b=>by
  unfold Q64
  simp only
  rw [if_neg (by simp)]) x.ids.length 0 (Q6P x.rule) (by omega) (by omega) (by have:=itoa_len x.rule; omega) N (by omega)
 rw [Qg h.rule,this.1,Q8]
 rfl
omit hN in
theorem own_is {x:Q1} (h:Q3S x):Q57 N x.rule x.ids = some ():=by
 have:=h.len
 unfold Q57
 rw [Qg (by omega)]
def Tm (m:List (ByteArray × Bool)) (K:ByteArray → Prop):Prop:=∀ k,(Q3r k m = some true ∧ K k) ∨ (Q3r k m = none ∧ ¬ K k)
omit hN in
theorem tm_nil:Tm [] (fun _=>False):=fun _=>.inr ⟨rfl,id⟩
omit hN in
theorem mlook_mins {x k:ByteArray} : ∀ {m:List (ByteArray × Bool)},Q3r x m = none → Q3r k (mins ltB x true m) = if x = k then some true else Q3r k m
 | [],_=>rfl
 | y :: m,h=>by
   unfold mins
   split
   · rfl
   ·have hy:y.1 ≠ x:=fun e=>by rw [Q3r,if_pos e] at h; cases h
    rw [Q3r,if_neg hy] at h
    rw [Q3r,mlook_mins h]
    by_cases e:y.1 = k
    · rw [if_pos e,if_neg (fun e2=>hy (e.trans e2.symm)),Q3r,if_pos e]
    ·rw [if_neg e]
     rw [Q3r,if_neg e]
omit hN in
theorem mlook_mputT {x k:ByteArray} : ∀ {m:List (ByteArray × Bool)},Q3r k (mput x true m) = if x = k then some true else Q3r k m
 | []=>rfl
 | y :: m=>by
   unfold mput
   split
   ·rename_i h
    rw [Q3r]
    by_cases e:x = k
    · rw [if_pos e,if_pos e]
    · rw [if_neg e,if_neg e,Q3r,if_neg (fun e2=>e (h.symm.trans e2))]
   ·rename_i h
    rw [Q3r,mlook_mputT]
    by_cases e:y.1 = k
    · rw [if_pos e,if_neg (fun e2=>h (e.trans e2.symm)),Q3r,if_pos e]
    ·rw [if_neg e]
     rw [Q3r,if_neg e]
omit hN in
theorem Tm.put {m:List (ByteArray × Bool)} {K:ByteArray → Prop} (h:Tm m K) (x:ByteArray):Tm (Q61 ltB x true m) (fun k=>k = x ∨ K k):=by
 intro k
 have e:Q3r k (Q61 ltB x true m) = if x = k then some true else Q3r k m:=by
  unfold Q61
  cases hx:Q3r x m with
  | some b=>exact mlook_mputT
  | none=>exact mlook_mins hx
 rw [e]
 by_cases hk:x = k
 · left; rw [if_pos hk]; exact ⟨rfl,.inl hk.symm⟩
 ·rw [if_neg hk]
  rcases h k with ⟨h1,h2⟩ | ⟨h1,h2⟩
  · exact .inl ⟨h1,.inr h2⟩
  · exact .inr ⟨h1,fun h3=>h3.elim (fun e=>hk e.symm) h2⟩
omit hN in
theorem Tm.iff {m:List (ByteArray × Bool)} {K K' : ByteArray → Prop} (h:Tm m K) (e : ∀ k,K k ↔ K' k):Tm m K':=fun k=>(h k).imp (fun h=>⟨h.1,(e k).1 h.2⟩) (fun h=>⟨h.1,fun h2=>h.2 ((e k).2 h2)⟩)
omit hN in
theorem Tm.opt {m:List (ByteArray × Bool)} {K:ByteArray → Prop} (h:Tm m K) (k:ByteArray) : ∃ b:Bool,optE (Q3r k m) (some false) (fun x=>some x) = some b ∧ (b = true ↔ K k):=by
 rcases h k with ⟨h1,h2⟩ | ⟨h1,h2⟩
 · exact ⟨true,by rw [h1]; rfl,by simp [h2]⟩
 · exact ⟨false,by rw [h1]; rfl,by simp [h2]⟩
def LentT (D:List Qo) (l:List Q1):Prop:=∀ i (h:i < l.length),∃ t,D[i]? = some ⟨l[i].rule,l[i].ids,t⟩
def Takes (s:List Int) (l:List Q1):Prop:=(∀ x ∈ l,0 ≤ x.rule ∧ x.rule < ((s.length:Nat):Int)) ∧ (l.map Q4h).Nodup
theorem set_check {D : List Qo} {s : List Int} {l l1 l2 : List Q1} (hD : LentT D l) {e3 : List (ByteArray × Bool)} (hl : l.length ≤ 1000) (ho : ∀ x ∈ l, Q3S x) : ∀ (k i : Nat) (m : List (ByteArray × Bool)), l.length - i ≤ k → i ≤ l.length → Takes s (l.take i) → Tm m (fun n => ∃ x ∈ l.take i, Q4h x = n) → ∀ fuel, k < fuel →
   (Q1o (Q29 N l.length D s l1 l2 e3) fuel (i,m) = some (.inl ()) ∧ Takes s l) ∨ (Q1o (Q29 N l.length D s l1 l2 e3) fuel (i,m) = some (.inr (4,s,l1,l2,e3)) ∧ ¬ Takes s l):=by
 intro k
 induction k with
 | zero =>
   intro i m hk hi ht hm fuel hf
   obtain ⟨fuel,rfl⟩ : ∃ f,fuel = f + 1:=⟨fuel - 1,by omega⟩
   have e:i = l.length:=by omega
   subst e
   left
   rw [List.take_length] at ht
   exact ⟨Q15 (by unfold Q29; simp only; rw [if_neg (by simp)]),ht⟩
 | succ k ih =>
   intro i m hk hi ht hm fuel hf
   obtain ⟨fuel,rfl⟩ : ∃ f,fuel = f + 1:=⟨fuel - 1,by omega⟩
   by_cases h:i < l.length
   ·have hx:=List.getElem?_eq_getElem h
    have hox:=ho l[i] (List.getElem_mem h)
    obtain ⟨tl,hdx⟩:=hD i h
    have htl:l[i].ids.length ≤ (l[i].ids ++ tl).length:=by simp
    have hC : ∃ b:Bool,Q5r N ⟨l[i].rule,l[i].ids,tl⟩ s m = some b ∧ (b = true ↔ ¬ ((0 ≤ l[i].rule ∧ l[i].rule < ((s.length:Nat):Int)) ∧ ¬ ∃ x ∈ l.take i,Q4h x = Q4h l[i])):=by
      unfold Q5r
      simp only [List.take_left]
      by_cases h1:l[i].rule < 0
      · exact ⟨true,by rw [if_pos (decide_eq_true h1)],by simp; intro h2; omega⟩
      ·rw [if_neg (by rw [decide_eq_true_eq]; exact h1)]
       by_cases h2:l[i].rule ≥ ((s.length:Nat):Int)
       · exact ⟨true,by rw [if_pos (decide_eq_true h2)],by simp; intro _ h3; omega⟩
       ·rw [if_neg (by rw [decide_eq_true_eq]; exact h2),Qg htl,Q8v hN hox,Q8]
        obtain ⟨b,h3,h4⟩:=hm.opt (Q4h l[i])
        refine ⟨b,h3,h4.trans ⟨fun h5 h6=>h6.2 h5,fun h5=>Classical.byContradiction fun h6=>h5 ⟨by omega,h6⟩⟩⟩
    obtain ⟨b,hb,hiff⟩:=hC
    have htk:l.take (i + 1) = l.take i ++ [l[i]]:=by rw [List.take_add_one,hx]; rfl
    cases b with
    | true =>
      right
      refine ⟨Q15 (by unfold Q29; simp only; rw [if_pos (decide_eq_true h),hdx,Q8,Qg h,hb,Q8,if_pos rfl]),fun hT=>(hiff.1 rfl) ⟨hT.1 _ (List.getElem_mem h),?_⟩⟩
      rintro ⟨x,h1,h2⟩
      have h3:=hT.2
      rw [← List.take_append_drop i l,List.map_append,List.nodup_append] at h3
      exact h3.2.2 _ (List.mem_map_of_mem h1) _ (List.mem_map_of_mem (by rw [List.drop_eq_getElem_cons h]; exact List.mem_cons_self)) h2
    | false =>
      have hg:(0 ≤ l[i].rule ∧ l[i].rule < ((s.length:Nat):Int)) ∧ ¬ ∃ x ∈ l.take i,Q4h x = Q4h l[i]:=Classical.byContradiction fun h1=>by have:=hiff.2 h1; cases this
      have hst:Q29 N l.length D s l1 l2 e3 (i,m) = some (.inl (i + 1,Q61 ltB (Q4h l[i]) true m)):=by
       unfold Q29
       simp only
       rw [if_pos (decide_eq_true h),hdx,Q8,Qg h,hb,Q8,if_neg (by simp)]
       simp only [List.take_left]
       rw [Qg htl,Q8v hN hox,Q8,Qg (by omega)]
      rw [Q1Y hst]
      refine ih (i + 1) _ (by omega) (by omega) ?_ ((hm.put (Q4h l[i])).iff fun n=>?_) fuel (by omega)
      ·rw [htk]
       refine ⟨fun x hx2=>?_,?_⟩
       ·rcases List.mem_append.1 hx2 with hx2 | hx2
        · exact ht.1 x hx2
        · rw [List.mem_singleton] at hx2; subst hx2; exact hg.1
       ·rw [List.map_append,List.nodup_append]
        refine ⟨ht.2,by simp,fun a ha b hb2 e=>?_⟩
        simp only [List.map_cons,List.map_nil,List.mem_singleton] at hb2
        subst hb2; subst e
        obtain ⟨x,h1,h2⟩:=List.mem_map.1 ha
        exact hg.2 ⟨x,h1,h2⟩
      ·rw [htk]
       constructor
       ·rintro (e | ⟨x,h1,h2⟩)
        · exact ⟨l[i],List.mem_append_right _ (List.mem_singleton_self _),e.symm⟩
        · exact ⟨x,List.mem_append_left _ h1,h2⟩
       ·rintro ⟨x,h1,h2⟩
        rcases List.mem_append.1 h1 with h1 | h1
        · exact .inr ⟨x,h1,h2⟩
        · rw [List.mem_singleton] at h1; subst h1; exact .inl h2.symm
   ·have e:i = l.length:=by omega
    subst e
    left
    rw [List.take_length] at ht
    exact ⟨Q15 (by unfold Q29; simp only; rw [if_neg (by simp)]),ht⟩
noncomputable def Q4w (K:ByteArray → Prop) (x:Q1):Bool:=@decide (K (Q4h x)) (Classical.propDecidable _)
omit hN in
theorem Q6q {K:ByteArray → Prop} {x:Q1}:Q4w K x = true ↔ K (Q4h x):=by unfold Q4w; exact @decide_eq_true_iff _ (Classical.propDecidable _)
theorem set_split {D:List Qo} {l:List Q1} (hD:LentT D l) {e3:List (ByteArray × Bool)} {K:ByteArray → Prop} (hl:l.length ≤ 1000) (ho : ∀ x ∈ l,Q3S x) (hK:Tm e3 K) : ∀ (k i:Nat) (m:List (ByteArray × Bool)) (A B:List Q1) (J:ByteArray → Prop),l.length - i ≤ k → i ≤ l.length → A.length + B.length ≤ i → Tm m J → ∀ fuel,k < fuel →
   ∃ m',Q1o (Q2a N l.length D e3) fuel (i,m,A,B) = some (m',A ++ (l.drop i).filter (fun x=>!Q4w K x),B ++ (l.drop i).filter (Q4w K)) ∧ Tm m' (fun n=>J n ∨ ∃ x ∈ l.drop i,Q4h x = n ∧ K n):=by
 intro k
 induction k with
 | zero =>
   intro i m A B J hk hi hAB hm fuel hf
   obtain ⟨fuel,rfl⟩ : ∃ f,fuel = f + 1:=⟨fuel - 1,by omega⟩
   have e:i = l.length:=by omega
   subst e
   refine ⟨m,?_,hm.iff fun n=>by simp⟩
   rw [Q15 (o:=(m,A,B)) (by unfold Q2a; simp only; rw [if_neg (by simp)])]
   simp
 | succ k ih =>
   intro i m A B J hk hi hAB hm fuel hf
   obtain ⟨fuel,rfl⟩ : ∃ f,fuel = f + 1:=⟨fuel - 1,by omega⟩
   by_cases h:i < l.length
   ·have hx:=List.getElem?_eq_getElem h
    have hox:=ho l[i] (List.getElem_mem h)
    obtain ⟨tl,hdx⟩:=hD i h
    have htl:l[i].ids.length ≤ (l[i].ids ++ tl).length:=by simp
    have hxx:(⟨l[i].rule,l[i].ids⟩ : Q1) = l[i]:=rfl
    obtain ⟨b,h3,h4⟩:=hK.opt (Q4h l[i])
    rw [List.drop_eq_getElem_cons h]
    cases b with
    | true =>
      have hk1:K (Q4h l[i]):=h4.1 rfl
      have hsp:Q4w K l[i] = true:=Q6q.2 hk1
      have hst:Q2a N l.length D e3 (i,m,A,B) = some (.inl (i + 1,Q61 ltB (Q4h l[i]) true m,A,B ++ [l[i]])):=by
       unfold Q2a Q5s
       simp only
       rw [if_pos (decide_eq_true h),hdx,Q8]
       simp only [List.take_left,hxx]
       rw [Qg h,Qg htl,Q8v hN hox,Q8,h3,Q8,if_pos rfl,Qg htl,own_is hox,Q8,Qg (by simp; omega),Q8]
       simp only
       rw [Qg (by omega)]
      rw [Q1Y hst]
      obtain ⟨m',g1,g2⟩:=ih (i + 1) _ A (B ++ [l[i]]) _ (by omega) (by omega) (by simp; omega) (hm.put (Q4h l[i])) fuel (by omega)
      refine ⟨m',?_,g2.iff fun n=>?_⟩
      ·rw [g1,List.filter_cons_of_neg (p:=fun x=>!Q4w K x) (by simp [hsp]),List.filter_cons_of_pos (p:=Q4w K) hsp]
       simp
      ·simp only [List.mem_cons]
       constructor
       ·rintro ((e | h5) | ⟨x,h5,h6⟩)
        · subst e; exact .inr ⟨l[i],.inl rfl,rfl,hk1⟩
        · exact .inl h5
        · exact .inr ⟨x,.inr h5,h6⟩
       ·rintro (h5 | ⟨x,h5 | h5,h6⟩)
        · exact .inl (.inr h5)
        · subst h5; exact .inl (.inl h6.1.symm)
        · exact .inr ⟨x,h5,h6⟩
    | false =>
      have hk1 : ¬ K (Q4h l[i]):=fun h5=>by have:=h4.2 h5; cases this
      have hsp:Q4w K l[i] = false:=by
       cases hq:Q4w K l[i]
       · rfl
       · exact absurd (Q6q.1 hq) hk1
      have hst:Q2a N l.length D e3 (i,m,A,B) = some (.inl (i + 1,m,A ++ [l[i]],B)):=by
       unfold Q2a Q5s
       simp only
       rw [if_pos (decide_eq_true h),hdx,Q8]
       simp only [List.take_left,hxx]
       rw [Qg h,Qg htl,Q8v hN hox,Q8,h3,Q8,if_neg (by simp),Qg htl,own_is hox,Q8,Qg (by simp; omega),Q8]
       simp only
       rw [Qg (by omega)]
      rw [Q1Y hst]
      obtain ⟨m',g1,g2⟩:=ih (i + 1) m (A ++ [l[i]]) B J (by omega) (by omega) (by simp; omega) hm fuel (by omega)
      refine ⟨m',?_,g2.iff fun n=>?_⟩
      ·rw [g1,List.filter_cons_of_pos (p:=fun x=>!Q4w K x) (by simp [hsp]),List.filter_cons_of_neg (p:=Q4w K) (by simp [hsp])]
       simp
      ·simp only [List.mem_cons]
       constructor
       ·rintro (h5 | ⟨x,h5,h6⟩)
        · exact .inl h5
        · exact .inr ⟨x,.inr h5,h6⟩
       ·rintro (h5 | ⟨x,h5 | h5,h6⟩)
        · exact .inl h5
        · subst h5; exact absurd h6.2 (by rw [← h6.1]; exact hk1)
        · exact .inr ⟨x,h5,h6⟩
   ·have e:i = l.length:=by omega
    subst e
    refine ⟨m,?_,hm.iff fun n=>by simp⟩
    rw [Q15 (o:=(m,A,B)) (by unfold Q2a; simp only; rw [if_neg (by simp)])]
    simp
theorem set_is {D:List Qo} {s:List Int} {l l1 l2:List Q1} (hD:LentT D l) {e3:List (ByteArray × Bool)} {K:ByteArray → Prop} (hl:l.length ≤ 400) (ho : ∀ x ∈ l,Q3S x) (hK:Tm e3 K) :
  (Takes s l ∧ ∃ m',Q44 N s l1 l2 e3 D l.length = some (0,s,Q7J s (l.filter fun x=>!Q4w K x),Q7J s (l.filter (Q4w K)),m') ∧ Tm m' (fun n=>∃ x ∈ l,Q4h x = n ∧ K n)) ∨
  (¬ Takes s l ∧ Q44 N s l1 l2 e3 D l.length = some (4,s,l1,l2,e3)):=by
 have hc:=set_check (s:=s) (l1:=l1) (l2:=l2) (e3:=e3) hN hD (by omega:l.length ≤ 1000) ho l.length 0 [] (by omega) (by omega) ⟨by simp,by simp⟩ (tm_nil.iff fun n=>by simp) N (by omega)
 unfold Q44 Q1Z
 rw [Q8]
 rcases hc with ⟨h1,h2⟩ | ⟨h1,h2⟩
 ·left
  refine ⟨h2,?_⟩
  rw [h1,Q4H]
  obtain ⟨m',g1,g2⟩:=set_split hN hD (by omega:l.length ≤ 1000) ho hK l.length 0 [] [] [] (fun _=>False) (by omega) (by omega) (by simp) tm_nil N (by omega)
  rw [List.drop_zero,List.nil_append,List.nil_append] at g1
  have f1:=List.length_filter_le (fun x=>!Q4w K x) l
  have f2:=List.length_filter_le (Q4w K) l
  rw [g1,Q8]
  simp only
  rw [sort_is (by omega) (by omega) (fun x hx=>(ho x (List.mem_filter.1 hx).1).len),Q8]
  simp only
  rw [Qg (Q4i s _).length_eq,sort_is (by omega) (by omega) (fun x hx=>(ho x (List.mem_filter.1 hx).1).len),Q8]
  simp only
  rw [Qg (Q4i s _).length_eq]
  exact ⟨m',rfl,g2.iff fun n=>by simp⟩
 ·right
  exact ⟨h2,by rw [h1,Q6v]⟩
omit hN in
theorem next_nil {s:List Int} {l2:List Q1} {e:List (ByteArray × Bool)}:Q2g N s [] l2 e = some (0,[],false):=by
 unfold Q2g Q1Z
 rw [Q8,if_pos (by simp)]
omit hN in
theorem next_cons {s:List Int} {x:Q1} {l l2:List Q1} {e:List (ByteArray × Bool)} (hx:Q3S x):Q2g N s (x :: l) l2 e = some (x.rule,x.ids,true):=by
 unfold Q2g Q1Z
 rw [Q8,if_neg (by simp),List.getElem?_cons_zero,Q8,own_is hx,Q8]
theorem index_go {s:List Int} {l l2:List Q1} {e:List (ByteArray × Bool)} {t:Q1} (hl:l.length ≤ 1000) (ho : ∀ x ∈ l,Q3S x) (ht:Q3S t) : ∀ (k i:Nat),l.length - i ≤ k → i ≤ l.length → ∀ fuel,k < fuel →
   (Q5x (Q1o (Q1A N l s l2 e t.rule t.ids) fuel i) fun _=>some (-1)) = some (if t ∈ l.drop i then ((i + (l.drop i).idxOf t:Nat):Int) else -1):=by
 intro k
 induction k with
 | zero =>
   intro i hk hi fuel hf
   obtain ⟨fuel,rfl⟩ : ∃ f,fuel = f + 1:=⟨fuel - 1,by omega⟩
   have e:i = l.length:=by omega
   subst e
   rw [Q15 (o:=.inl ()) (by unfold Q1A; rw [if_neg (by simp)]),Q4H,List.drop_length,if_neg (by simp)]
 | succ k ih =>
   intro i hk hi fuel hf
   obtain ⟨fuel,rfl⟩ : ∃ f,fuel = f + 1:=⟨fuel - 1,by omega⟩
   by_cases h:i < l.length
   ·have hx:=List.getElem?_eq_getElem h
    have hox:=ho l[i] (List.getElem_mem h)
    have hst:Q1A N l s l2 e t.rule t.ids i = if l[i] = t then some (.inr (.inr ((i:Nat):Int))) else some (.inl (i + 1)):=by
     unfold Q1A Q3d
     rw [if_pos (decide_eq_true h),hx,Q8,order_is (by omega) (Nat.le_trans ht.len (by omega)) (Nat.le_trans hox.len (by omega)),Q8,Q8]
     by_cases e2:l[i] = t
     ·rw [if_pos e2,if_pos]
      have:=cfT_self s t
      rw [e2]
      unfold cfT at this
      simp [this]
     ·rw [if_neg e2,if_neg,Qg (by omega)]
      intro h5
      exact e2 (cfT_zero (s:=s) (x:=t) (y:=l[i]) (by unfold cfT; simpa using h5)).symm
    rw [List.drop_eq_getElem_cons h]
    by_cases e2:l[i] = t
    ·rw [if_pos e2] at hst
     rw [Q15 hst,Q6v,e2,if_pos (by simp),List.idxOf_cons_self]
     rfl
    ·rw [if_neg e2] at hst
     rw [Q1Y hst,ih (i + 1) (by omega) (by omega) fuel (by omega)]
     by_cases h6:t ∈ l.drop (i + 1)
     ·rw [if_pos h6,if_pos (List.mem_cons_of_mem _ h6),List.idxOf_cons,show (l[i] == t) = false from beq_false_of_ne e2,cond_false]
      congr 2; omega
     · rw [if_neg h6,if_neg (by simp only [List.mem_cons,not_or]; exact ⟨fun e3=>e2 e3.symm,h6⟩)]
   ·have e:i = l.length:=by omega
    subst e
    rw [Q15 (o:=.inl ()) (by unfold Q1A; rw [if_neg (by simp)]),Q4H,List.drop_length,if_neg (by simp)]
theorem fire_is {s:List Int} {l l2:List Q1} {e:List (ByteArray × Bool)} {t:Q1} (hl:l.length ≤ 400) (hl2:l2.length ≤ 400) (ho : ∀ x ∈ l,Q3S x) (ho2 : ∀ x ∈ l2,Q3S x) (ht:Q3S t) :
  Q1L N s l l2 e t.rule t.ids = some (if t ∈ l then (0,s,l.erase t,Q7J s (l2 ++ [t]),Q61 ltB (Q4h t) true e) else (6,s,l,l2,e)):=by
 have hi:=index_go (s:=s) (l2:=l2) (e:=e) hN (by omega:l.length ≤ 1000) ho ht l.length 0 (by omega) (by omega) N (by omega)
 rw [List.drop_zero] at hi
 unfold Q1L Q1Z Q2S
 rw [Q8,hi,Q8]
 by_cases h:t ∈ l
 ·have hlt:=List.idxOf_lt_length_of_mem h
  rw [if_pos h,if_pos h,if_neg (by rw [decide_eq_true_eq]; omega),Qg (by omega),Qg (by omega),Qg (by omega),Q8v hN ht,Q8,own_is ht,Q8,Qg (by simp; omega)]
  have hs:=sort_is (s:=s) (N:=N) (l:=l2 ++ [t]) (by omega) (by simp; omega) (fun x hx=>by
   rcases List.mem_append.1 hx with hx | hx
   · exact (ho2 x hx).len
   · rw [List.mem_singleton] at hx; subst hx; exact ht.len)
  have ht2:(⟨t.rule,t.ids⟩ : Q1) = t:=by cases t; rfl
  simp only [ht2]
  rw [hs,Q8]
  simp only
  rw [Qg (Q4i s _).length_eq,show (((0 + l.idxOf t:Nat):Int)).toNat = l.idxOf t by omega,← List.eraseIdx_eq_take_drop_succ,List.erase_eq_eraseIdx_of_idxOf rfl]
 · rw [if_neg h,if_neg h,if_pos (by decide)]
theorem fired_is {s:List Int} {l l2:List Q1} {e:List (ByteArray × Bool)} (hl2:l2.length ≤ 1000) (ho2 : ∀ x ∈ l2,Q3S x):Q2F N s l l2 e = some l2:=by
 unfold Q2F Q1Z
 have:=fold_go (f:=Q3X N l2) l2 (fun b z=>b ++ [z]) (fun i b=>b.length ≤ i) (fun i z b hz hb=>by
  have hi:i < l2.length:=(List.getElem?_eq_some_iff.1 hz).1
  unfold Q3X
  simp only
  rw [if_pos (decide_eq_true hi),hz,Q8,own_is (ho2 z (List.mem_of_getElem? hz)),Q8,Qg (by simp; omega),Qg (by omega)]
  exact ⟨rfl,by simp; omega⟩) (fun b=>by
  unfold Q3X
  simp only
  rw [if_neg (by simp)]) l2.length 0 [] (by omega) (by omega) (by simp) N (by omega)
 rw [Q8,this.1,Q8,List.drop_zero]
 have e2 : ∀ (l m:List Q1),l.foldl (fun b z=>b ++ [z]) m = m ++ l:=fun l=>by
  induction l with
  | nil=>intro m; simp
  | cons a l ih=>intro m; rw [List.foldl_cons,ih]; simp
 rw [e2]; rfl
theorem sameInts_is {l m:List Int} (hl:l.length ≤ 9223372036854775807):Says (Q3N N l m) (l = m):=by
 unfold Q3N
 refine Says.same hN hl (fun hlm i x y hi hx hy=>?_) (fun i hi=>by unfold Q3L; rw [if_neg (by simp; omega)])
 refine ⟨x == y,by simp,?_⟩
 unfold Q3L
 rw [if_pos (decide_eq_true hi),hx,Q8,hy,Q8]
 by_cases h:x = y
 · rw [if_neg (by simp [h]),Qg (by omega),if_pos (by simp [h])]
 · rw [if_pos (by simp [h]),if_neg (by simp [h])]
theorem Q9D {x y:Q1} (hl:x.ids.length ≤ 9223372036854775807):Says (Q2Y N x.rule x.ids y.rule y.ids) (x = y):=by
 unfold Q2Y
 refine (((sameInts_is hN hl).id).and (c:=x.rule == y.rule) (q:=x.rule = y.rule) (by simp)).iff ⟨fun h=>?_,fun h=>by subst h; exact ⟨rfl,rfl⟩⟩
 cases x; cases y; simp at h ⊢; exact h
theorem sameToks_is {l m:List Q1} (hl:l.length ≤ 1000) (ho : ∀ x ∈ l,x.ids.length ≤ 1000):Says (Q3Z N l m) (l = m):=by
 unfold Q3Z
 refine Says.same hN (by omega) (fun hlm i x y hi hx hy=>?_) (fun i hi=>by unfold Q4c; rw [if_neg (by simp; omega)])
 obtain ⟨b,h1,h2⟩:=Q9D (x:=x) (y:=y) hN (Nat.le_trans (ho x (List.mem_of_getElem? hx)) (by omega))
 refine ⟨b,h2,?_⟩
 unfold Q4c
 rw [if_pos (decide_eq_true hi),hx,Q8,hy,Q8,h1,Q8]
 cases b
 · rw [if_pos (by simp),if_neg (by simp)]
 · rw [if_neg (by simp),Qg (by omega),if_pos rfl]
end
end Go.Proofs.YtgangmegcejllaaGreatDoor
