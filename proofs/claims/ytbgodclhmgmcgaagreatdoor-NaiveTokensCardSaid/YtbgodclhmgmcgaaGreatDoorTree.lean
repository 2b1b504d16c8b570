import Derived.Test.YtbgodclhmgmcgaaGreatDoorStar
namespace Go.Proofs.YtbgodclhmgmcgaaGreatDoor
open Go Go.RowKit
structure Tre (α Λ:Type) where
 C : α→Λ→List Value
 G : α→Λ→List Fact
 one : ∀ x r,∀ u∈C x r,u.oneCell' =true
def Tre.pair {α Λ:Type} (T:Tre α Λ):Rep (α×Λ):=⟨fun _ _ cs z=>cs=T.C z.1 z.2,fun _ _ h=>h,fun h u hu=>T.one _ _ u (h ▸ hu)⟩
theorem pair_free {α Λ:Type} {T:Tre α Λ}:RFree T.pair:=fun _ _ _ _ _ h=>h
def Star:List Fact→Q1O→Q1O→World→Prop
 | [],_,_,_=>True
 | φ :: l,N,F,w=>∃ A B:Q1O,(∀ q,A q→N q)∧(∀ q,B q→N q∧¬ A q)∧φ.op A F w∧Star l B F w
theorem Star.good : ∀ {l:List Fact} {N N' F G:Q1O} {w w' : World},(∀ k,N k→N' k)→Q2W N w w' →(∀ k,F k→G k)→Q2W F w w' →Star l N F w→Star l N' G w'
 | [],_,_,_,_,_,_,_,_,_,_,_=>trivial
 | φ :: l,N,N',F,G,w,w',hN,ha,hF,hb,⟨A,B,h1,h2,h3,h4⟩ =>
   ⟨A,B,fun q hq=>hN q (h1 q hq),fun q hq=>⟨hN q (h2 q hq).1,(h2 q hq).2⟩,φ.opgood (fun _ h=>h) (fun q hq=>ha q (h1 q hq)) hF hb h3,Star.good (fun _ h=>h) (fun q hq=>ha q (h2 q hq).1) hF hb h4⟩
def starF (l:List Fact):Fact:=.duo (fun N F w=>Star l N F w) Star.good
def Bag {α Λ:Type} (T:Tre α Λ)(zs:List (α×Λ))(o:Option Nat)(N F:Q1O)(w:World):Prop :=
 ∃ Ns:Nat→Q1O,(∀ i q,Ns i q→N q)∧(∀ i j q,i≠j→Ns i q→¬ Ns j q)∧∀ i z,zs[i]? =some z→o≠some i→Star (T.G z.1 z.2) (Ns i) F w
section
variable {α Λ:Type} {T:Tre α Λ} {zs:List (α × Λ)} {o:Option Nat}
theorem Bag.good {N N' F G:Q1O} {w w' : World} (hN : ∀ k,N k→N' k)(ha:Q2W N w w')(hF : ∀ k,F k→G k)(hb:Q2W F w w')(h:Bag T zs o N F w):Bag T zs o N' G w':=by
 obtain ⟨Ns,h1,h2,h3⟩:=h
 exact ⟨Ns,fun i q hq=>hN q (h1 i q hq),h2,fun i z hz ho=>(h3 i z hz ho).good (fun _ h=>h) (fun q hq=>ha q (h1 i q hq)) hF hb⟩
def bagF (T:Tre α Λ)(zs:List (α×Λ))(o:Option Nat):Fact:=.duo (fun N F w=>Bag T zs o N F w) Bag.good
def TreeP (T:Tre α Λ)(e sz:Nat)(v:Value)(xs:List α)(N F:Q1O)(w:World):Prop :=
 ∃ (zs:List (α×Λ)) (A B:Q1O),zs.map (·.1)=xs∧(∀ q,A q→N q)∧(∀ q,B q→N q∧¬ A q)∧(Fact.own e sz T.pair v zs).op A F w∧(bagF T zs none).op B F w
theorem TreeP.good {e sz:Nat} {v:Value} {xs:List α} {N N' F G:Q1O} {w w' : World} (hN : ∀ k,N k→N' k)(ha:Q2W N w w')(hF : ∀ k,F k→G k)(hb:Q2W F w w')(h:TreeP T e sz v xs N F w):TreeP T e sz v xs N' G w':=by
 obtain ⟨zs,A,B,h0,h1,h2,h3,h4⟩:=h
 exact ⟨zs,A,B,h0,fun q hq=>hN q (h1 q hq),fun q hq=>⟨hN q (h2 q hq).1,(h2 q hq).2⟩,Fact.opgood _ (fun _ h=>h) (fun q hq=>ha q (h1 q hq)) hF hb h3,Fact.opgood _ (fun _ h=>h) (fun q hq=>ha q (h2 q hq).1) hF hb h4⟩
def Q23 (T:Tre α Λ)(e sz:Nat)(v:Value)(xs:List α):Fact:=.duo (fun N F w=>TreeP T e sz v xs N F w) TreeP.good
def Tre.free (T:Tre α Λ):Prop:=∀ x r,∀ φ∈T.G x r,LFree φ
theorem Star.free : ∀ {l:List Fact},(∀ φ∈l,LFree φ)→∀ N F G w,Star l N F w→Star l N G w
 | [],_,_,_,_,_,_=>trivial
 | φ :: l,hl,N,F,G,w,⟨A,B,h1,h2,h3,h4⟩=>⟨A,B,h1,h2,hl φ (by simp) _ _ _ _ h3,Star.free (fun ψ hψ=>hl ψ (by simp [hψ])) _ _ _ _ h4⟩
theorem tree_free {e sz:Nat} {v:Value} {xs:List α} (h:T.free):LFree (Q23 T e sz v xs):=fun N F G w ⟨zs,A,B,h0,h1,h2,h3,Ns,h4,h5,h6⟩=>
 ⟨zs,A,B,h0,h1,h2,own_free pair_free _ _ _ _ h3,Ns,h4,h5,fun i z hz ho=>Star.free (h _ _) _ _ _ _ (h6 i z hz ho)⟩
end
section
variable {C:Ctx} {Φ:List Fact} {w:World}
theorem QC.starsUp : ∀ {l H:List Fact},QC C Φ (l.reverse++H) w→QC C Φ (starF l :: H) w
 | [],H,⟨F,N,hi⟩=>⟨F,_,hi.push (starF []) (fun _=>False) trivial (fun k hk=>hk.elim) (fun _ k _ hk=>hk.elim)⟩
 | φ :: l,H,h=>by
   rw [List.reverse_cons,List.append_assoc] at h
   have h1:=QC.starsUp (H:=φ :: H) h
   exact h1.join (φ:=starF (φ :: l)) 0 1 (by decide) rfl rfl (fun A B F ha hb hd=>⟨B,A,fun q hq=>.inr hq,fun q hq=>⟨.inl hq,hd q hq⟩,hb,ha⟩)
variable {H:List Fact} {α Λ:Type} {T:Tre α Λ} {zs:List (α × Λ)} {x : α} {r : Λ}
theorem QC.bagPush (h:QC C Φ ((T.G x r).reverse++H) w)(j:Nat)(hj:H[j]? =some (bagF T zs none)):QC C Φ (H.set j (bagF T (zs++[(x,r)]) none)) w:=by
 have h1:=h.starsUp
 refine h1.join (φ:=bagF T (zs++[(x,r)]) none) (φ1:=bagF T zs none) (φ2:=starF (T.G x r)) (j+1) 0 (by omega) (by simpa using hj) rfl ?_
 ·intro A B F ha hb hd
  obtain ⟨Ns,a1,a2,a3⟩:=ha
  exact ⟨fun k q=>(k=zs.length∧B q)∨(k < zs.length∧Ns k q),fun k q hq=>hq.elim (fun hq=>.inr hq.2) (fun hq=>.inl (a1 k q hq.2)),
   fun k k' q hne hq hq'=>by
    rcases hq with hq | hq <;> rcases hq' with hq' | hq'
    · exact hne (hq.1.trans hq'.1.symm)
    · exact hd q (a1 k' q hq'.2) hq.2
    · exact hd q (a1 k q hq.2) hq'.2
    · exact a2 k k' q hne hq.2 hq'.2,
   fun k z hk _=>by
    by_cases e:k < zs.length
    ·rw [List.getElem?_append_left e] at hk
     exact (a3 k z hk (by simp)).good (fun q hq=>.inr ⟨e,hq⟩) (Q2W.refl _ _) (fun _ h=>h) (Q2W.refl _ _)
    ·have hkl:k=zs.length:=by
      have:=(List.getElem?_eq_some_iff.1 hk).1
      simp at this;omega
     subst hkl
     rw [List.getElem?_append_right (Nat.le_refl _)] at hk
     simp at hk
     subst hk
     exact Star.good (fun q hq=>.inl ⟨rfl,hq⟩) (Q2W.refl _ _) (fun _ h=>h) (Q2W.refl _ _) hb⟩
theorem QC.bagNil (T:Tre α Λ)(h:QC C Φ H w):QC C Φ (bagF T [] none :: H) w:=by
 obtain ⟨F,N,hi⟩:=h
 exact ⟨F,_,hi.push (bagF T [] none) (fun _=>False) ⟨fun _ _=>False,fun _ _ h=>h,fun _ _ _ _ h=>h.elim,fun i z hz=>by simp at hz⟩ (fun k hk=>hk.elim) (fun _ k _ hk=>hk.elim)⟩
theorem QC.as_ {φ φ' : Fact} (h:QC C Φ H w)(k:Nat)(hk:H[k]? =some φ)(hs : ∀ N F,φ.op N F w→φ'.op N F w):QC C Φ (H.set k φ') w:=by
 obtain ⟨F,N,hi⟩:=h
 have hlt:=(List.getElem?_eq_some_iff.1 hk).1
 exact ⟨F,N,hi.set k hlt (Mod.refl _ _) φ' (hs _ _ (hi.owns k φ hk))⟩
theorem QC.treeOut {e sz:Nat} {v:Value} {xs:List α} (h:QC C Φ H w)(j:Nat)(hj:H[j]? =some (Q23 T e sz v xs)) : ∃ zs:List (α×Λ),zs.map (·.1)=xs∧QC C Φ (bagF T zs none :: H.set j (.own e sz T.pair v zs)) w:=by
 obtain ⟨r,h1⟩:=h.split (Λ:={zs:List (α×Λ) // zs.map (·.1)=xs}) (φ1:=fun r=>.own e sz T.pair v r.1) (φ2:=fun r=>bagF T r.1 none) j hj (fun N F ⟨zs,A,B,h0,h1,h2,h3,h4⟩=>
  ⟨⟨zs,h0⟩,B,A,fun q hq=>(h2 q hq).1,fun q hq=>⟨h1 q hq,fun hn=>(h2 q hn).2 hq⟩,h3,h4⟩)
 exact ⟨r.1,r.2,h1⟩
theorem QC.treeIn {e sz:Nat} {v:Value} {xs:List α} (h:QC C Φ H w)(j k:Nat)(hne:Nat.beq j k=false)(hj:H[j]? =some (.own e sz T.pair v zs))(hk:H[k]? =some (bagF T zs none))(hx:zs.map (·.1)=xs):QC C Φ ((H.set j (Q23 T e sz v xs)).eraseIdx k) w :=
 h.join (φ:=Q23 T e sz v xs) j k (fun e=>by rw [e,Nat.beq_refl] at hne;cases hne) hj hk (fun A B F ha hb hd=>⟨zs,A,B,hx,fun q hq=>.inl hq,fun q hq=>⟨.inr hq,fun hn=>hd q hn hq⟩,ha,hb⟩)
theorem tree_let {e sz:Nat} {v:Value} {xs:List α} {R:Rep α} (hR : ∀ x r N F w,Star (T.G x r) N F w→R.p (fun q=>N q∨F q) w (T.C x r) x) {N F:Q1O} (h:TreeP T e sz v xs N F w):(Fact.own e sz R v xs).op N (fun q=>N q∨F q) w:=by
 obtain ⟨zs,A,B,h0,h1,h2,⟨h3,h4⟩,Ns,h5,h6,h7⟩:=h
 subst h0
 refine ⟨fun k hk=>h1 k (h3 k hk),?_⟩
 obtain ⟨ys,ho,hc⟩:=h4
 refine ⟨ys,by simpa using ho,?_⟩
 have go : ∀ (zs:List (α×Λ)) (ys:List Value),(∀ z∈zs,∃ M:Q1O,(∀ q,M q→N q)∧Star (T.G z.1 z.2) M F w)→Q1h sz (T.pair.p F w) ys zs→Q1h sz (R.p (fun q=>N q∨F q) w) ys (zs.map (·.1)):=by
  intro zs
  induction zs with
  | nil=>intro ys _ h;exact h
  | cons z zs ih =>
    intro ys hM hc
    obtain ⟨cs,rest,e1,e2,e3,e4⟩:=hc
    obtain ⟨M,m1,m2⟩:=hM z (by simp)
    refine ⟨cs,rest,e1,e2,?_,ih rest (fun y hy=>hM y (by simp [hy])) e4⟩
    have e3:cs=T.C z.1 z.2:=e3
    rw [e3]
    exact R.good (fun q hq=>hq.elim (fun hq=>.inl (m1 q hq)) .inr) (Q2W.refl _ _) (hR _ _ _ _ _ m2)
 refine go zs ys (fun z hz=>?_) hc
 obtain ⟨i,hi⟩:=List.getElem?_of_mem hz
 exact ⟨Ns i,fun q hq=>(h2 q (h5 i q hq)).1,h7 i z hi (by simp)⟩
theorem QC.treeLen {e sz m c:Nat} {p:Option Addr} {xs:List α} (h:QC C Φ H w)(j:Nat)(hj:H[j]? =some (Q23 T e sz (.slice p m c) xs)):m=xs.length∧(0 < xs.length→∃ g,p=some ⟨g,0,none⟩):=by
 obtain ⟨zs,h0,h1⟩:=h.treeOut j hj
 have hlt:=(List.getElem?_eq_some_iff.1 hj).1
 have h2:=Qdq h1 (k:=j+1) (e:=e) (sz:=sz) (R:=T.pair) (p:=p) (m:=m) (cp:=c) (l:=zs) (by simp [List.getElem?_set_self hlt])
 have h3:zs.length=xs.length:=by rw [← h0];simp
 rw [← h3];exact h2
end
section
variable {α Λ:Type} {T:Tre α Λ} {R:Rep α} {e sz m c:Nat} {p:Option Addr} {xs:List α} {A F G:Q1O} {w:World}
theorem op_sli (h:(Fact.own e sz R (.slice p m c) xs).op A F w)(hA : ∀ q,A q→G q)(hF : ∀ q,F q→G q):(Fact.sli sz R p c xs).p G w:=Q3g (Fact.opgood _ hA (Q2W.refl _ _) hF (Q2W.refl _ _) h)
theorem tree_own (hR : ∀ x r N F w,Star (T.G x r) N F w→R.p (fun q=>N q∨F q) w (T.C x r) x) {v:Value} (h:(Q23 T e sz v xs).op A F w)(hA : ∀ q,A q→G q)(hF : ∀ q,F q→G q):(Fact.own e sz R v xs).p G w:=Fact.opgood _ hA (Q2W.refl _ _) (fun q hq=>hq.elim (hA q) (hF q)) (Q2W.refl _ _) (tree_let hR h)
theorem tree_sli (hR : ∀ x r N F w,Star (T.G x r) N F w→R.p (fun q=>N q∨F q) w (T.C x r) x)(h:(Q23 T e sz (.slice p m c) xs).op A F w)(hA : ∀ q,A q→G q)(hF : ∀ q,F q→G q):(Fact.sli sz R p c xs).p G w:=Q3g (tree_own hR h hA hF)
theorem nil_own:(Fact.own e sz R (.slice none 0 0) []).op (fun _=>False) F w:=⟨fun k hk=>(by cases hk),OwnL.nil⟩
theorem nil_tree:(Q23 T e sz (.slice none 0 0) []).op (fun _=>False) F w:=⟨[],fun _=>False,fun _=>False,rfl,fun _ h=>h,fun _ h=>h.elim,nil_own,fun _ _=>False,fun _ _ h=>h,fun _ _ _ _ h=>h.elim,fun i z hz=>by simp at hz⟩
theorem pair_app {zs ys:List (α×Λ)} {us:List α} (hz:zs.map (·.1)=xs)(hy:ys.map (·.1)=us):(zs++ys).map (·.1)=xs++us:=by subst hz;subst hy;simp
theorem Q81 {zs:List (α×Λ)} (hz:zs.map (·.1)=xs):zs.length=xs.length:=by subst hz;simp
end
theorem free_cons {φ:Fact} {l:List Fact} (h:LFree φ)(h' : ∀ x∈l,LFree x) : ∀ x∈φ :: l,LFree x:=fun x hx=>by
 rcases List.mem_cons.1 hx with rfl | hx
 · exact h
 · exact h' x hx
section
variable {C:Ctx} {Φ H:List Fact} {w:World} {α Λ:Type} {T:Tre α Λ} {zs:List (α × Λ)} {e sz:Nat} {v:Value}
theorem QC.treeNil (T:Tre α Λ)(e sz:Nat)(h:QC C Φ H w):QC C Φ (Q23 T e sz (.slice none 0 0) [] :: H) w:=by
 obtain ⟨F,N,hi⟩:=h
 exact ⟨F,_,hi.push (Q23 T e sz (.slice none 0 0) []) (fun _=>False) nil_tree (fun k hk=>hk.elim) (fun _ k _ hk=>hk.elim)⟩
end
section
variable {α β Λ Λ' : Type} {T:Tre α Λ} {T' : Tre β Λ'} {R:Rep β} {f : α → β} {e sz m c:Nat} {p:Option Addr} {xs:List α} {A F G:Q1O} {w:World}
theorem tree_letM (hR : ∀ x r N F w,Star (T.G x r) N F w→R.p (fun q=>N q∨F q) w (T.C x r) (f x)) {v:Value} {N:Q1O} (h:TreeP T e sz v xs N F w):(Fact.own e sz R v (xs.map f)).op N (fun q=>N q∨F q) w:=by
 obtain ⟨zs,A,B,h0,h1,h2,⟨h3,h4⟩,Ns,h5,h6,h7⟩:=h
 subst h0
 refine ⟨fun k hk=>h1 k (h3 k hk),?_⟩
 obtain ⟨ys,ho,hc⟩:=h4
 refine ⟨ys,by simpa using ho,?_⟩
 have go : ∀ (zs:List (α×Λ)) (ys:List Value),(∀ z∈zs,∃ M:Q1O,(∀ q,M q→N q)∧Star (T.G z.1 z.2) M F w)→Q1h sz (T.pair.p F w) ys zs→Q1h sz (R.p (fun q=>N q∨F q) w) ys ((zs.map (·.1)).map f):=by
  intro zs
  induction zs with
  | nil=>intro ys _ h;exact h
  | cons z zs ih =>
    intro ys hM hc
    obtain ⟨cs,rest,e1,e2,e3,e4⟩:=hc
    obtain ⟨M,m1,m2⟩:=hM z (by simp)
    refine ⟨cs,rest,e1,e2,?_,ih rest (fun y hy=>hM y (by simp [hy])) e4⟩
    have e3:cs=T.C z.1 z.2:=e3
    rw [e3]
    exact R.good (fun q hq=>hq.elim (fun hq=>.inl (m1 q hq)) .inr) (Q2W.refl _ _) (hR _ _ _ _ _ m2)
 refine go zs ys (fun z hz=>?_) hc
 obtain ⟨i,hi⟩:=List.getElem?_of_mem hz
 exact ⟨Ns i,fun q hq=>(h2 q (h5 i q hq)).1,h7 i z hi (by simp)⟩
theorem tree_sliM (hR : ∀ x r N F w,Star (T.G x r) N F w→R.p (fun q=>N q∨F q) w (T.C x r) (f x))(h:(Q23 T e sz (.slice p m c) xs).op A F w)(hA : ∀ q,A q→G q)(hF : ∀ q,F q→G q):(Fact.sli sz R p c (xs.map f)).p G w :=
 Q3g (Fact.opgood _ hA (Q2W.refl _ _) (fun q hq=>hq.elim (hA q) (hF q)) (Q2W.refl _ _) (tree_letM hR h))
theorem QbK {R:Rep β} {a b:List β} (h:(Fact.sli sz R p c (a++b)).p F w):(Fact.sli sz R p c a).p F w:=by
 have h1:=view_to h a.length
 rwa [List.take_left'] at h1
 rfl
theorem op_sliL {R:Rep β} {a b:List β} (h:(Fact.own e sz R (.slice p m c) (a++b)).op A F w)(hA : ∀ q,A q→G q)(hF : ∀ q,F q→G q):(Fact.sli sz R p c a).p G w:=QbK (op_sli h hA hF)
theorem sli_take {R:Rep β} {l:List β} (h:(Fact.sli sz R p c l).p F w)(k:Nat):(Fact.sli sz R p c (l.take k)).p F w:=view_to h k
theorem Q2e {l:List β} {k:Nat} (h:k≤l.length):(l.take k).length=k:=by rw [List.length_take];omega
theorem Q9F {l:List α} {k:Nat} (h:k≤l.length):((l.map f).take k).length=k:=by rw [List.length_take,List.length_map];omega
theorem QC.treeKind {C:Ctx} {Φ H:List Fact} {v:Value} (T' : Tre β Λ')(h:QC C Φ H w)(j:Nat)(hj:H[j]? =some (Q23 T e sz v [])):QC C Φ (H.set j (Q23 T' e sz v [])) w :=
 h.as_ j hj (fun N F ⟨zs,A,B,h0,h1,h2,⟨h3,ys,ho,hc⟩,_⟩=>by
  have hz:zs=[]:=List.map_eq_nil_iff.1 h0
  subst hz
  exact ⟨[],A,B,rfl,h1,h2,⟨h3,ys,ho,hc⟩,fun _ _=>False,fun _ _ h=>h.elim,fun _ _ _ _ h=>h.elim,fun i z hz=>by simp at hz⟩)
end
section rules
variable {P:Program} {C:Ctx} {n:FD} {Q:Exit → Act → World → Prop} {Φ Φ' : List Fact} {H H' : List Fact} {S S' : List (Nat × Value)} {ops:Array Oper} {rest:List Oper} {o:Oper} {d:Nat} {c:Code} {e:Exit}
theorem wl_sh (H' : List Fact)(hs : ∀ w,QC C Φ H w→QC C Φ H' w)(next:WL P C n Q Φ H' S ops rest):WL P C n Q Φ H S ops rest:=fun a w hf hw=>next a w hf (hs w hw)
theorem wc_sh (H' : List Fact)(hs : ∀ w,QC C Φ H w→QC C Φ H' w)(next:WC P C n Q Φ H' S c):WC P C n Q Φ H S c:=fun a w hf hw=>next a w hf (hs w hw)
theorem we_sh (H' : List Fact)(hs : ∀ w,QC C Φ H w→QC C Φ H' w)(next:WE C n Q Φ H' S e):WE C n Q Φ H S e:=fun a w hf hw=>next a w hf (hs w hw)
variable {α Λ:Type} {T:Tre α Λ} {et sz:Nat} {v:Value} {xs:List α}
theorem Qc4 (j:Nat)(hj:H[j]? =some (Q23 T et sz v xs))(next : ∀ zs,zs.map (·.1)=xs→WL P C n Q Φ (bagF T zs none :: H.set j (.own et sz T.pair v zs)) S ops rest):WL P C n Q Φ H S ops rest:=fun a w hf hw=>by
 obtain ⟨zs,h0,h1⟩:=hw.treeOut j hj
 exact next zs h0 a w hf h1
theorem Qar {p:Option Addr} {m cp:Nat} (j:Nat)(hj:H[j]? =some (Q23 T et sz (.slice p m cp) xs))(next:m=xs.length→(0 < xs.length→∃ g,p=some ⟨g,0,none⟩)→WL P C n Q Φ H S ops rest):WL P C n Q Φ H S ops rest:=fun a w hf hw=>next (hw.treeLen j hj).1 (hw.treeLen j hj).2 a w hf hw
theorem wc_treeLen {p:Option Addr} {m cp:Nat} (j:Nat)(hj:H[j]? =some (Q23 T et sz (.slice p m cp) xs))(next:m=xs.length→(0 < xs.length→∃ g,p=some ⟨g,0,none⟩)→WC P C n Q Φ H S c):WC P C n Q Φ H S c:=fun a w hf hw=>next (hw.treeLen j hj).1 (hw.treeLen j hj).2 a w hf hw
theorem we_treeLen {p:Option Addr} {m cp:Nat} (j:Nat)(hj:H[j]? =some (Q23 T et sz (.slice p m cp) xs))(next:m=xs.length→(0 < xs.length→∃ g,p=some ⟨g,0,none⟩)→WE C n Q Φ H S e):WE C n Q Φ H S e:=fun a w hf hw=>next (hw.treeLen j hj).1 (hw.treeLen j hj).2 a w hf hw
end rules
end Go.Proofs.YtbgodclhmgmcgaaGreatDoor
