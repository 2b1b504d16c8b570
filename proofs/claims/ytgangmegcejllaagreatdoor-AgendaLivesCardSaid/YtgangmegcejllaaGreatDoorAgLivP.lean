import Derived.Test.YtgangmegcejllaaGreatDoorAgAwP
namespace Go.Proofs.YtgangmegcejllaaGreatDoor
open Go Go.RowKit
theorem pick_in {N:Nat} {x n:Int} (hn:n ≤ 9223372036854775807) (h1 : 1 ≤ n) : ∃ y,Q4T N x n = some y ∧ 0 ≤ y ∧ y < n:=by
 unfold Q4T
 have h2:=Int.tmod_lt_of_pos x (show 0 < n by omega)
 have h3 : -n < Int.tmod x n:=by
  have:=Int.tmod_lt_of_pos (-x) (show 0 < n by omega)
  rw [Int.neg_tmod] at this; omega
 rw [if_neg (by rw [decide_eq_true_eq]; omega),Qg (by omega)]
 by_cases h:Int.tmod x n < 0
 · exact ⟨_,by rw [if_pos (decide_eq_true h),Qg (by omega),Q8],by omega,by omega⟩
 · exact ⟨_,by rw [if_neg (by rw [decide_eq_true_eq]; exact h),Q8],by omega,by omega⟩
theorem next_at {l:List Q1} (ho : ∀ x ∈ l,Q3S x):Q3S ⟨(Q93 l).1,(Q93 l).2.1⟩:=by
 cases l with
 | nil=>exact ⟨by simp [Q93],by simp [Q93],by simp [Q93]⟩
 | cons t l=>exact ho t List.mem_cons_self
section
variable {N:Nat} (hN : 9223372036854775808 ≤ N)
include hN
theorem great_all {l:List Q1} (hi : ∀ x ∈ l,x.ids.length ≤ 17592186043904) (hl:l.length ≤ 140737488351232) : ∃ g,Q5m N l = some g ∧ (g = false → l.length ≤ 400 ∧ ∀ x ∈ l,x.ids.length ≤ 400):=by
 unfold Q5m
 obtain ⟨o,h1,h2⟩:=Q67 (f:=Q4N N l) (fun q=>q.1 ≤ l.length ∧ l.length ≤ q.2 ∧ ∀ x ∈ l.take q.1,x.ids.length ≤ q.2) (fun q=>l.length - q.1) (fun o=>o ≤ 400 → l.length ≤ 400 ∧ ∀ x ∈ l,x.ids.length ≤ 400) (fun q hq=>by
  obtain ⟨i,n⟩:=q
  obtain ⟨q1,q2,q3⟩:=hq
  simp only at q1 q2 q3 ⊢
  unfold Q4N
  simp only
  by_cases h:i < l.length
  ·rw [if_pos (decide_eq_true h),Q8]
   by_cases h4:n ≤ 400
   ·left
    have hx:=List.getElem?_eq_getElem h
    have hxi:=hi l[i] (List.getElem_mem h)
    refine ⟨(i + 1,n + l[i].ids.length),by rw [if_pos (decide_eq_true h4),hx,Q8,Qg (by omega),Qg (by omega)],⟨by simp only; omega,by simp only; omega,?_⟩,by simp only; omega⟩
    intro x hx2
    simp only at hx2 ⊢
    rw [List.take_add_one,hx] at hx2
    rcases List.mem_append.1 hx2 with hx2 | hx2
    · exact Nat.le_trans (q3 x hx2) (Nat.le_add_right _ _)
    ·    simp only [Option.toList_some,List.mem_singleton] at hx2
         subst hx2; exact Nat.le_add_left _ _
   ·right
    exact ⟨n,by rw [if_neg (by rw [decide_eq_true_eq]; exact h4)],fun h5=>absurd h5 h4⟩
  ·right
   refine ⟨n,by rw [if_neg (by rw [decide_eq_true_eq]; exact h),Q8,if_neg (by simp)],fun h5=>⟨by omega,fun x hx=>?_⟩⟩
   rw [List.take_of_length_le (by omega)] at q3
   exact Nat.le_trans (q3 x hx) h5) N (0,l.length) ⟨Nat.zero_le _,Nat.le_refl _,by simp⟩ (by simp only; omega)
 rw [h1,Q8]
 exact ⟨_,rfl,fun hg=>h2 (by rw [decide_eq_false_iff_not] at hg; omega)⟩
theorem copyRule_is (y:Int):Q5b N (Q5B y).name (Q5B y).salience (Q5B y).vars (Q5B y).conds (Q5B y).acts = some ([],[]):=by
 obtain ⟨M,rfl⟩ : ∃ M,N = M + 1:=⟨N - 1,by omega⟩
 have h1:Q4V (M + 1) (Q5B y).conds = some []:=by
  unfold Q4V
  rw [Q15 (o:=([] : List Q2X)) (by unfold Q59; simp only; rw [if_neg (by simp [Q5B])]),Q8]
 have h2:Q58 (M + 1) (Q5B y).acts = some []:=by
  unfold Q58
  rw [Q15 (o:=([] : List Q3G)) (by unfold Q5i; simp only; rw [if_neg (by simp [Q5B])]),Q8]
 unfold Q5b
 rw [h1,Q8,h2,Q8]
theorem copyRules_is {s:List Int} (hs:s.length ≤ 1000):Q4W N ([] : List Qr) (s.map Q5B) = some (s.map Q5B):=by
 have h:=fold_go (f:=Q39 N (s.map Q5B)) (s.map Q5B) (fun b z=>b ++ [z]) (fun i b=>b.length ≤ i) (fun i z b hz hb=>by
  have hi:i < (s.map Q5B).length:=(List.getElem?_eq_some_iff.1 hz).1
  have hil:i < s.length:=by simpa using hi
  obtain ⟨y,_,rfl⟩:=List.mem_map.1 (List.mem_of_getElem? hz)
  unfold Q39
  simp only
  rw [if_pos (decide_eq_true hi),hz,Q8,copyRule_is hN y,Q8]
  simp only
  rw [Qg (by simp; omega),Qg (by omega)]
  exact ⟨rfl,by simp; omega⟩) (fun b=>by
  unfold Q39
  simp only
  rw [if_neg (by simp)]) (s.map Q5B).length 0 [] (by omega) (by omega) (by simp) N (by rw [List.length_map]; omega)
 have e2 : ∀ (l m:List QG),l.foldl (fun b z=>b ++ [z]) m = m ++ l:=fun l=>by
  induction l with
  | nil=>intro m; simp
  | cons a l ih=>intro m; rw [List.foldl_cons,ih]; simp
 unfold Q4W Q5I Q5j
 rw [Qg (by simp),Q8,h.1,Q8,Q8,List.drop_zero,e2]; rfl
theorem lstep_is {s:List Int} {L:List Q1} {sB:Q1 → Bool} {e:List (ByteArray × Bool)} (hR:AgR L sB e) {o w:Int} {l:List Q1} (hl:l.length ≤ 400) (ho : ∀ x ∈ l,Q3S x) :
  ∃ L' sB' e',AgR L' sB' e' ∧ Q5A N s (Q3T s L sB) (Q3F s L sB) e ([] : List Qr) (s.map Q5B) L (L.map sB) o w l = some (true,s,Q3T s L' sB',Q3F s L' sB',e',L',L'.map sB'):=by
 obtain ⟨v,hv,_,_⟩:=pick_in (N:=N) (x:=o) (n:=4) (by omega) (by omega)
 unfold Q5A Q6x
 rw [hv,Q8]
 have hids : ∀ x ∈ l,x.ids.length ≤ 1000000:=fun x hx=>Nat.le_trans (ho x hx).len (by omega)
 by_cases h0:v = 0
 ·obtain ⟨r,L',sB',e',g1,g2,g3⟩:=ag_set (s:=s) hN hR (lK_lent (l:=l)) hl ho
  obtain ⟨q,hq⟩:=overToks_is (l:=l) hN (by omega) hids
  refine ⟨L',sB',e',g1,?_⟩
  rw [if_pos (by simpa using h0),lentToks_is hN (by omega) hids,Q8,g2,Q8]
  simp only
  rw [g3,Q8]
  simp only
  rw [if_pos (by simp),keptToks_is hN (by omega) hids,Q8,Qg rfl,Q8]
  simp only
  rw [hq,Q8]
 ·rw [if_neg (by simpa using h0)]
  by_cases h3:v = 3
  ·have ht : ∃ t:Q1,Q3S t ∧ (if (decide (0 < l.length)) = true then Qf (Q4T N w ((l.length:Nat):Int)) fun v51=>gd (0 ≤ v51) <| Qf (l[v51.toNat]?) fun x52=>some (x52.rule,x52.ids) else some (0,([] : List Int))) = some (t.rule,t.ids):=by
     by_cases hp : 0 < l.length
     ·obtain ⟨k,hk,k1,k2⟩:=pick_in (N:=N) (x:=w) (n:=((l.length:Nat):Int)) (by omega) (by omega)
      have hlt:k.toNat < l.length:=by omega
      exact ⟨l[k.toNat],ho _ (List.getElem_mem hlt),by rw [if_pos (decide_eq_true hp),hk,Q8,Qg k1,List.getElem?_eq_getElem hlt,Q8]⟩
     · exact ⟨⟨0,[]⟩,⟨by simp,by simp,by simp⟩,by rw [if_neg (by rw [decide_eq_true_eq]; exact hp)]⟩
   obtain ⟨t,ht1,ht2⟩:=ht
   obtain ⟨r,sB',e',g1,g2,g3⟩:=ag_fire (s:=s) hN hR ht1
   refine ⟨L,sB',e',g1,?_⟩
   rw [if_pos (by simpa using h3),show Q13 N 0 ([] : List Int) = some () from rfl,Q8,ht2,Q8]
   simp only
   rw [g2,Q8]
   simp only
   rw [g3,Q8]
   simp
  ·rw [if_neg (by simpa using h3),(ag_next (s:=s) hN hR).1,Q8]
   have hlo : ∀ x ∈ Q3T s L sB,Q3S x:=fun x hx=>hR.ok x (Q77.1 hx).1
   cases hlr:Q3T s L sB with
   | nil =>
     refine ⟨L,sB,e,hR,?_⟩
     simp [Q93,hlr]
   | cons t m =>
     obtain ⟨r,sB',e',g1,g2,g3⟩:=ag_fire (s:=s) (t:=t) hN hR (hlo t (by rw [hlr]; exact List.mem_cons_self))
     refine ⟨L,sB',e',g1,?_⟩
     rw [hlr] at g2
     rw [show Q93 (t :: m) = (t.rule,t.ids,true) from rfl]
     simp only
     rw [if_neg (by simp),g2,Q8]
     simp only
     rw [g3,Q8]
     simp
theorem loop_is (aw:Q2G N = some ()) {s:List Int} {l:List Q3c} (hl:l.length ≤ 140737488351232) (hk : ∀ x ∈ l,Q5C x) :
  ∃ o,Q1o (Q2U N l (s.map Q5B)) N (0,[],[],s,[],[],([] : List (ByteArray × Bool))) = some o ∧ (o = .inr true ∨ ∃ L sB e,AgR L sB e ∧ o = .inl (L,L.map sB,s,Q3T s L sB,Q3F s L sB,e)):=by
 have r0:Q7J s ([] : List Q1) = []:=List.eq_nil_of_length_eq_zero (Q4i s []).length_eq
 refine Q67 (f:=Q2U N l (s.map Q5B)) (fun q=>q.1 ≤ 60 ∧ ∃ L sB e,AgR L sB e ∧ q.2 = (L,L.map sB,s,Q3T s L sB,Q3F s L sB,e)) (fun q=>60 - q.1) _ (fun q hq=>?_) N _ ⟨Nat.zero_le _,[],fun _=>false,[],AgR.start,by simp [Q3T,Q3F,r0]⟩ (by simp only; omega)
 obtain ⟨i,q⟩:=q
 obtain ⟨hi,L,sB,e,hR,rfl⟩:=hq
 simp only at hi
 unfold Q2U
 simp only
 by_cases h:i < l.length ∧ i < 60
 ·have e1:(if (decide (i < l.length)) = true then (if (decide (i < 60)) = true then some true else some false) else some false) = some true:=by
    rw [if_pos (decide_eq_true h.1),if_pos (decide_eq_true h.2)]
  have hx:=List.getElem?_eq_getElem h.1
  obtain ⟨ko,kw,kl,ka⟩:=hk l[i] (List.getElem_mem h.1)
  obtain ⟨g,hg,hgf⟩:=great_all hN (l:=l[i].l) (fun x hx=>(ka x hx).2.1) (by omega)
  rw [e1,Q8,if_pos rfl,hx,Q8,hg,Q8]
  cases g with
  | true=>right; exact ⟨_,by rw [if_pos rfl,aw,Q8],.inl rfl⟩
  | false =>
    left
    obtain ⟨h400,hids⟩:=hgf rfl
    obtain ⟨L',sB',e',hR',hst⟩:=lstep_is (s:=s) hN hR (o:=l[i].op) (w:=l[i].which) h400 (fun x hx=>⟨(ka x hx).1,(ka x hx).2.2,hids x hx⟩)
    refine ⟨(i + 1,L',L'.map sB',s,Q3T s L' sB',Q3F s L' sB',e'),?_,⟨by simp only; omega,L',sB',e',hR',rfl⟩,by simp only; omega⟩
    rw [if_neg (by simp),Q8,hst,Q8]
    simp only
    rw [Qg trivial,(ag_next (s:=s) hN hR').1,Q8,(ag_next (s:=s) hN hR').2,Q8]
    have hlo : ∀ x ∈ Q3T s L' sB',Q3S x:=fun x hx=>hR'.ok x (Q77.1 hx).1
    have hfo : ∀ x ∈ Q3F s L' sB',Q3S x:=fun x hx=>hR'.ok x (Q7W.1 hx).1
    have l2:=Q9m (s:=s) (L:=L') (sB:=sB')
    have hL:=hR'.len
    have hn:=next_at hlo
    rw [Qg (by simp),(Q9D (x:=⟨(Q93 (Q3T s L' sB')).1,(Q93 (Q3T s L' sB')).2.1⟩) (y:=⟨(Q93 (Q3T s L' sB')).1,(Q93 (Q3T s L' sB')).2.1⟩) hN (Nat.le_trans hn.len (by omega))).eq_true rfl,Q8,Qg rfl,(Q9U (s:=s) hN hR').1,Q8,(Q9U (s:=s) hN hR').2,Q8,(sameToks_is hN (by omega) (fun x hx=>Nat.le_trans (hfo x hx).len (by omega))).eq_true rfl,Q8,Qg rfl,Qg (by omega)]
 ·have e1:(if (decide (i < l.length)) = true then (if (decide (i < 60)) = true then some true else some false) else some false) = some false:=by
    by_cases h0:i < l.length
    · rw [if_pos (decide_eq_true h0),if_neg (by rw [decide_eq_true_eq]; exact fun h2=>h ⟨h0,h2⟩)]
    · rw [if_neg (by rw [decide_eq_true_eq]; exact h0)]
  right
  exact ⟨_,by rw [e1,Q8,if_neg (by simp)],.inr ⟨L,sB,e,hR,rfl⟩⟩
omit hN in
theorem neg_go {f:Nat × List QG → Option ((Nat × List QG) ⊕ Unit)} (hf : ∀ i m,f (i,m) = if (decide (i < m.length)) = true then (Qf (m[i]?) fun x49=>Qf (m[i]?) fun x53=>gd (i + 1 ≤ 9223372036854775807) <| some (.inl (i + 1,(m.set i (⟨x53.name,IntKind.wrap .i64 (0 - x49.salience),x53.vars,x53.conds,x53.acts⟩ : QG))))) else some (.inr ())) {r:List QG} (hr:r.length ≤ 1000) (h1000 : 2000 ≤ N):Q1o f N (0,r) = some ():=by
 obtain ⟨o,h1,_⟩:=Q67 (f:=f) (fun q=>q.1 ≤ q.2.length ∧ q.2.length ≤ 1000) (fun q=>q.2.length - q.1) (fun _=>True) (fun q hq=>by
  obtain ⟨i,m⟩:=q
  obtain ⟨q1,q2⟩:=hq
  simp only at q1 q2
  rw [hf]
  by_cases h:i < m.length
  ·left
   exact ⟨_,by rw [if_pos (decide_eq_true h),List.getElem?_eq_getElem h,Q8,Q8,Qg (by omega)],⟨by simp; omega,by simpa using q2⟩,by simp; omega⟩
  ·right
   exact ⟨(),by rw [if_neg (by rw [decide_eq_true_eq]; exact h)],trivial⟩) N (0,r) ⟨Nat.zero_le _,hr⟩ (by simp only; omega)
 exact h1
theorem agliv_is (aw:Q2G N = some ()) {s:List Int} {l:List Q3c} (hl:l.length ≤ 140737488351232) (hk : ∀ x ∈ l,Q5C x):Q4d N s l = some true:=by
 unfold Q4d
 by_cases h400 : 400 < s.length
 · rw [if_pos (decide_eq_true h400),aw,Q8]
 ·rw [if_neg (by rw [decide_eq_true_eq]; exact h400),of_is (by omega) (by omega),Q8]
  by_cases h64 : 64 < s.length
  ·have h1:Q4P N ([] : List Qr) (s.map Q5B) = some (.inl ()):=by
    unfold Q4P
    rw [if_pos (by simpa using h64)]
   have h2:Q31 N ([] : List Qr) (s.map Q5B) = some (.inl ()):=by
    unfold Q31
    rw [if_pos (by simpa using h64)]
   rw [h1,Q8]
   simp only
   rw [h2,Q8]
   simp only
   rw [neg_go (f:=Q4s N) (fun i m=>rfl) (by rw [List.length_map]; omega) (by omega),Q8]
   split <;> rw [Q8,aw,Q8]
  ·have h1:Q4P N ([] : List Qr) (s.map Q5B) = some (.inr s):=by
    unfold Q4P
    rw [if_neg (by simp; omega),by_is (by omega) (by omega),Q8]
   have h2:Q31 N ([] : List Qr) (s.map Q5B) = some (.inr (s.map Q5B)):=by
    unfold Q31
    rw [if_neg (by simp; omega),copyRules_is hN (by omega),Q8]
   rw [h1,Q8]
   simp only
   rw [h2,Q8]
   simp only
   rw [neg_go (f:=Q4t N) (fun i m=>rfl) (by rw [List.length_map]; omega) (by omega),Q8]
   obtain ⟨o,h3,h4⟩:=loop_is (s:=s) hN aw hl hk
   rw [h3]
   rcases h4 with rfl | ⟨L,sB,e,hR,rfl⟩
   · rfl
   ·have hlo : ∀ x ∈ Q3T s L sB,Q3S x:=fun x hx=>hR.ok x (Q77.1 hx).1
    have hfo : ∀ x ∈ Q3F s L sB,Q3S x:=fun x hx=>hR.ok x (Q7W.1 hx).1
    have l2:=Q9m (s:=s) (L:=L) (sB:=sB)
    have hL:=hR.len
    have hn:=next_at hlo
    rw [Q4H]
    simp only
    rw [(ag_next (s:=s) hN hR).1,Q8,Q8,(Q9U (s:=s) hN hR).1,Q8,Q8]
    rw [Qg,Q8,(Q9U (s:=s) hN hR).2,Q8,(sameToks_is hN (by omega) (fun x hx=>Nat.le_trans (hfo x hx).len (by omega))).eq_true rfl,Q8,Qg rfl,aw,Q8]
    refine ⟨by simp,fun y hy=>?_⟩
    simp only [List.mem_cons,List.not_mem_nil,or_false] at hy
    rcases hy with rfl | rfl | rfl | rfl
    ·refine ⟨by simp,fun u hu=>?_⟩
     rw [List.mem_singleton] at hu
     subst hu; exact Nat.le_trans hn.len (by omega)
    ·refine ⟨by simp,fun u hu=>?_⟩
     rw [List.mem_singleton] at hu
     subst hu; exact Nat.le_trans hn.len (by omega)
    · exact ⟨by omega,fun u hu=>Nat.le_trans (hfo u hu).len (by omega)⟩
    · exact ⟨by omega,fun u hu=>Nat.le_trans (hfo u hu).len (by omega)⟩
end
theorem agliv_arg (s:List Int) (_:s.length ≤ 140737488351232 ∧ ∀ y ∈ s,inK .i64 y) (l:List Q3c) (hl:l.length ≤ 140737488351232 ∧ ∀ y ∈ l,Q5C y):Q4d 9223372036854776808 s l = some true :=
 agliv_is (by decide) (awake_go (by decide)) hl.1 hl.2
end Go.Proofs.YtgangmegcejllaaGreatDoor
