import Derived.Test.YtbgodclhmgmcgaaGreatDoorStar
import Derived.Test.YtbgodclhmgmcgaaGreatDoorView
namespace Go.Proofs.YtbgodclhmgmcgaaGreatDoor
open Go Go.RowKit
structure Tre (α Λ:Type) where
 C : α → Λ → List Value
 G : α → Λ → List Fact
 one : ∀ x r,∀ u ∈ C x r,u.oneCell' = true
def Tre.pair {α Λ:Type} (T:Tre α Λ):Rep (α × Λ):=⟨fun _ _ cs z=>cs = T.C z.1 z.2,fun _ _ h=>h,fun h u hu=>T.one _ _ u (h ▸ hu)⟩
theorem pair_opens {α Λ:Type} {T:Tre α Λ}:Q7k T.pair (fun z (_:Unit)=>T.C z.1 z.2) (fun _ _=>True) (fun _ _=>[]):=fun _ _ _ _ h=>⟨(),h,trivial,by simp⟩
def Star:List Fact → Q2t → Q2t → World → Prop
 | [],_,_,_=>True
 | φ :: l,N,F,w=>∃ A B:Q2t,(∀ q,A q → N q) ∧ (∀ q,B q → N q ∧ ¬ A q) ∧ φ.op A F w ∧ Star l B F w
theorem Star.good : ∀ {l:List Fact} {N N' F G:Q2t} {w w' : World},(∀ k,N k → N' k) → Q2H N w w' → (∀ k,F k → G k) → Q2H F w w' → Star l N F w → Star l N' G w'
 | [],_,_,_,_,_,_,_,_,_,_,_=>trivial
 | φ :: l,N,N',F,G,w,w',hN,ha,hF,hb,⟨A,B,h1,h2,h3,h4⟩ =>
   ⟨A,B,fun q hq=>hN q (h1 q hq),fun q hq=>⟨hN q (h2 q hq).1,(h2 q hq).2⟩,φ.opgood (fun _ h=>h) (fun q hq=>ha q (h1 q hq)) hF hb h3,Star.good (fun _ h=>h) (fun q hq=>ha q (h2 q hq).1) hF hb h4⟩
def starF (l:List Fact):Fact:=.duo (fun N F w=>Star l N F w) Star.good
def Bag {α Λ:Type} (T:Tre α Λ) (zs:List (α × Λ)) (o:Option Nat) (N F:Q2t) (w:World):Prop :=
 ∃ Ns:Nat → Q2t,(∀ i q,Ns i q → N q) ∧ (∀ i j q,i ≠ j → Ns i q → ¬ Ns j q) ∧ ∀ i z,zs[i]? = some z → o ≠ some i → Star (T.G z.1 z.2) (Ns i) F w
section
variable {α Λ:Type} {T:Tre α Λ} {zs:List (α × Λ)} {o:Option Nat}
theorem Bag.good {N N' F G:Q2t} {w w' : World} (hN : ∀ k,N k → N' k) (ha:Q2H N w w') (hF : ∀ k,F k → G k) (hb:Q2H F w w') (h:Bag T zs o N F w):Bag T zs o N' G w':=by
 obtain ⟨Ns,h1,h2,h3⟩:=h
 exact ⟨Ns,fun i q hq=>hN q (h1 i q hq),h2,fun i z hz ho=>(h3 i z hz ho).good (fun _ h=>h) (fun q hq=>ha q (h1 i q hq)) hF hb⟩
def Q4i (T:Tre α Λ) (zs:List (α × Λ)) (o:Option Nat):Fact:=.duo (fun N F w=>Bag T zs o N F w) Bag.good
def TreeP (T:Tre α Λ) (e sz:Nat) (v:Value) (xs:List α) (N F:Q2t) (w:World):Prop :=
 ∃ (zs:List (α × Λ)) (A B:Q2t),zs.map (·.1) = xs ∧ (∀ q,A q → N q) ∧ (∀ q,B q → N q ∧ ¬ A q) ∧ (Fact.own e sz T.pair v zs).op A F w ∧ (Q4i T zs none).op B F w
theorem TreeP.good {e sz:Nat} {v:Value} {xs:List α} {N N' F G:Q2t} {w w' : World} (hN : ∀ k,N k → N' k) (ha:Q2H N w w') (hF : ∀ k,F k → G k) (hb:Q2H F w w') (h:TreeP T e sz v xs N F w):TreeP T e sz v xs N' G w':=by
 obtain ⟨zs,A,B,h0,h1,h2,h3,h4⟩:=h
 exact ⟨zs,A,B,h0,fun q hq=>hN q (h1 q hq),fun q hq=>⟨hN q (h2 q hq).1,(h2 q hq).2⟩,Fact.opgood _ (fun _ h=>h) (fun q hq=>ha q (h1 q hq)) hF hb h3,Fact.opgood _ (fun _ h=>h) (fun q hq=>ha q (h2 q hq).1) hF hb h4⟩
def Q21 (T:Tre α Λ) (e sz:Nat) (v:Value) (xs:List α):Fact:=.duo (fun N F w=>TreeP T e sz v xs N F w) TreeP.good
end
section
variable {C:Ctx} {Φ:List Fact} {w:World}
theorem Q16.stars : ∀ {l H:List Fact},Q16 C Φ (starF l :: H) w → Q16 C Φ (l.reverse ++ H) w
 | [],H,h=>h.drop 0 (by simp) rfl
 | φ :: l,H,h=>by
   have h1 : ∃ _:Unit,Q16 C Φ (starF l :: (starF (φ :: l) :: H).set 0 φ) w:=h.split (φ1:=fun _=>φ) (φ2:=fun _=>starF l) 0 rfl (fun N F ⟨A,B,h1,h2,h3,h4⟩=>⟨(),B,A,fun q hq=>(h2 q hq).1,fun q hq=>⟨h1 q hq,fun hb=>(h2 q hb).2 hq⟩,h3,h4⟩)
   obtain ⟨_,h1⟩:=h1
   have h3:=Q16.stars (H:=φ :: H) h1
   rw [List.reverse_cons,List.append_assoc]
   exact h3
theorem Q16.starsUp : ∀ {l H:List Fact},Q16 C Φ (l.reverse ++ H) w → Q16 C Φ (starF l :: H) w
 | [],H,⟨F,N,hi⟩=>⟨F,_,hi.push (starF []) (fun _=>False) trivial (fun k hk=>hk.elim) (fun _ k _ hk=>hk.elim)⟩
 | φ :: l,H,h=>by
   rw [List.reverse_cons,List.append_assoc] at h
   have h1:=Q16.starsUp (H:=φ :: H) h
   exact h1.join (φ:=starF (φ :: l)) 0 1 (by decide) rfl rfl (fun A B F ha hb hd=>⟨B,A,fun q hq=>.inr hq,fun q hq=>⟨.inl hq,hd q hq⟩,hb,ha⟩)
variable {H:List Fact} {α Λ:Type} {T:Tre α Λ} {zs:List (α × Λ)} {x : α} {r : Λ}
theorem Q16.bagOpen (h:Q16 C Φ H w) (j i:Nat) (hj:H[j]? = some (Q4i T zs none)) (hz:zs[i]? = some (x,r)):Q16 C Φ ((T.G x r).reverse ++ H.set j (Q4i T zs (some i))) w:=by
 obtain ⟨_,h1⟩:=h.split (Λ:=Unit) (φ1:=fun _=>Q4i T zs (some i)) (φ2:=fun _=>starF (T.G x r)) j hj (fun N F ⟨Ns,h1,h2,h3⟩ =>
  ⟨(),Ns i,fun q=>N q ∧ ¬ Ns i q,fun q hq=>h1 i q hq,fun q hq=>hq,⟨fun k q=>Ns k q ∧ k ≠ i,fun k q hq=>⟨h1 k q hq.1,fun hn=>h2 k i q hq.2 hq.1 hn⟩,fun k k' q hne hq hq'=>h2 k k' q hne hq.1 hq'.1,fun k z hk ho =>
    have hki:k ≠ i:=fun e=>ho (by rw [e])
    (h3 k z hk (by simp)).good (fun q hq=>⟨hq,hki⟩) (Q2H.refl _ _) (fun _ h=>h) (Q2H.refl _ _)⟩,h3 i _ hz (by simp)⟩)
 exact h1.stars
theorem Q16.bagPush (h:Q16 C Φ ((T.G x r).reverse ++ H) w) (j:Nat) (hj:H[j]? = some (Q4i T zs none)):Q16 C Φ (H.set j (Q4i T (zs ++ [(x,r)]) none)) w:=by
 have h1:=h.starsUp
 refine h1.join (φ:=Q4i T (zs ++ [(x,r)]) none) (φ1:=Q4i T zs none) (φ2:=starF (T.G x r)) (j + 1) 0 (by omega) (by simpa using hj) rfl ?_
 ·intro A B F ha hb hd
  obtain ⟨Ns,a1,a2,a3⟩:=ha
  exact ⟨fun k q=>(k = zs.length ∧ B q) ∨ (k < zs.length ∧ Ns k q),fun k q hq=>hq.elim (fun hq=>.inr hq.2) (fun hq=>.inl (a1 k q hq.2)),
   fun k k' q hne hq hq'=>by
    rcases hq with hq | hq <;> rcases hq' with hq' | hq'
    · exact hne (hq.1.trans hq'.1.symm)
    · exact hd q (a1 k' q hq'.2) hq.2
    · exact hd q (a1 k q hq.2) hq'.2
    · exact a2 k k' q hne hq.2 hq'.2,
   fun k z hk _=>by
    by_cases e:k < zs.length
    ·rw [List.getElem?_append_left e] at hk
     exact (a3 k z hk (by simp)).good (fun q hq=>.inr ⟨e,hq⟩) (Q2H.refl _ _) (fun _ h=>h) (Q2H.refl _ _)
    ·have hkl:k = zs.length:=by
      have:=(List.getElem?_eq_some_iff.1 hk).1
      simp at this; omega
     subst hkl
     rw [List.getElem?_append_right (Nat.le_refl _)] at hk
     simp at hk
     subst hk
     exact Star.good (fun q hq=>.inl ⟨rfl,hq⟩) (Q2H.refl _ _) (fun _ h=>h) (Q2H.refl _ _) hb⟩
theorem Q16.bagNil (T:Tre α Λ) (h:Q16 C Φ H w):Q16 C Φ (Q4i T [] none :: H) w:=by
 obtain ⟨F,N,hi⟩:=h
 exact ⟨F,_,hi.push (Q4i T [] none) (fun _=>False) ⟨fun _ _=>False,fun _ _ h=>h,fun _ _ _ _ h=>h.elim,fun i z hz=>by simp at hz⟩ (fun k hk=>hk.elim) (fun _ k _ hk=>hk.elim)⟩
theorem Q16.treeOut {e sz:Nat} {v:Value} {xs:List α} (h:Q16 C Φ H w) (j:Nat) (hj:H[j]? = some (Q21 T e sz v xs)) : ∃ zs:List (α × Λ),zs.map (·.1) = xs ∧ Q16 C Φ (Q4i T zs none :: H.set j (.own e sz T.pair v zs)) w:=by
 obtain ⟨r,h1⟩:=h.split (Λ:={zs:List (α × Λ) // zs.map (·.1) = xs}) (φ1:=fun r=>.own e sz T.pair v r.1) (φ2:=fun r=>Q4i T r.1 none) j hj (fun N F ⟨zs,A,B,h0,h1,h2,h3,h4⟩ =>
  ⟨⟨zs,h0⟩,B,A,fun q hq=>(h2 q hq).1,fun q hq=>⟨h1 q hq,fun hn=>(h2 q hn).2 hq⟩,h3,h4⟩)
 exact ⟨r.1,r.2,h1⟩
theorem Q16.treeIn {e sz:Nat} {v:Value} {xs:List α} (h:Q16 C Φ H w) (j k:Nat) (hne:Nat.beq j k = false) (hj:H[j]? = some (.own e sz T.pair v zs)) (hk:H[k]? = some (Q4i T zs none)) (hx:zs.map (·.1) = xs):Q16 C Φ ((H.set j (Q21 T e sz v xs)).eraseIdx k) w :=
 h.join (φ:=Q21 T e sz v xs) j k (fun e=>by rw [e,Nat.beq_refl] at hne; cases hne) hj hk (fun A B F ha hb hd=>⟨zs,A,B,hx,fun q hq=>.inl hq,fun q hq=>⟨.inr hq,fun hn=>hd q hn hq⟩,ha,hb⟩)
theorem Q16.letgo {e sz:Nat} {v:Value} {xs:List α} {R:Rep α} (hR : ∀ x r N F w,Star (T.G x r) N F w → R.p (fun q=>N q ∨ F q) w (T.C x r) x) (h:Q16 C Φ H w) (j:Nat) (hj:H[j]? = some (Q21 T e sz v xs)):Q16 C Φ (H.set j (.own e sz R v xs)) w:=by
 obtain ⟨F,N,hi⟩:=h
 have hlt:=(List.getElem?_eq_some_iff.1 hj).1
 obtain ⟨zs,A,B,h0,h1,h2,h3,h4⟩ : TreeP T e sz v xs (N j) F w:=hi.owns j _ hj
 have hown:(Fact.own e sz R v xs).op A (fun q=>B q ∨ F q) w:=by
  subst h0
  obtain ⟨h5,ys,ho,hc⟩:=h3
  obtain ⟨Ns,h6,h7,h8⟩:=h4
  refine ⟨h5,ys,by simpa using ho,?_⟩
  have go : ∀ (zs:List (α × Λ)) (ys:List Value),(∀ z ∈ zs,∃ M:Q2t,(∀ q,M q → B q) ∧ Star (T.G z.1 z.2) M F w) → Q1N sz (T.pair.p F w) ys zs → Q1N sz (R.p (fun q=>B q ∨ F q) w) ys (zs.map (·.1)):=by
   intro zs
   induction zs with
   | nil=>intro ys _ h; exact h
   | cons z zs ih =>
     intro ys hM hc
     obtain ⟨cs,rest,e1,e2,e3,e4⟩:=hc
     obtain ⟨M,m1,m2⟩:=hM z (by simp)
     refine ⟨cs,rest,e1,e2,?_,ih rest (fun y hy=>hM y (by simp [hy])) e4⟩
     have e3:cs = T.C z.1 z.2:=e3
     rw [e3]
     exact R.good (fun q hq=>hq.elim (fun hq=>.inl (m1 q hq)) .inr) (Q2H.refl _ _) (hR _ _ _ _ _ m2)
  refine go zs ys (fun z hz=>?_) hc
  obtain ⟨i,hi⟩:=List.getElem?_of_mem hz
  exact ⟨Ns i,h6 i,h8 i z hi (by simp)⟩
 have hF : ∀ q,F q → (B q ∨ F q):=fun _ h=>.inr h
 refine ⟨fun q=>B q ∨ F q,fun i=>if i = j then A else N i,fun k hk=>?_,fun k hk=>.inr (hi.fold k hk),fun k hk=>?_,fun φ hφ=>φ.good hF (Q2H.refl _ _) (hi.facts φ hφ),fun i φ hφ=>?_,fun i k hik hk=>?_,fun i i' k hik hik' hne hk hk'=>?_,hi.mod⟩
 ·rcases hk with hk | hk
  · exact (hi.nlt j k hlt (h2 k hk).1).1
  · exact hi.flt k hk
 ·rcases hk with hk | hk
  · exact .inr (hi.nlt j k hlt (h2 k hk).1).2.1
  · exact hi.fnew k hk
 ·by_cases e:i = j
  ·subst e
   rw [List.getElem?_set_self hlt] at hφ
   cases hφ; simpa using hown
  ·rw [List.getElem?_set_ne (Ne.symm e)] at hφ
   simp only [if_neg e]
   exact φ.opgood (fun _ h=>h) (Q2H.refl _ _) hF (Q2H.refl _ _) (hi.owns i φ hφ)
 ·rw [List.length_set] at hik
  by_cases e:i = j
  ·simp only [if_pos e] at hk
   have hn:=hi.nlt j k hlt (h1 k hk)
   exact ⟨hn.1,hn.2.1,fun hq=>hq.elim (fun hq=>(h2 k hq).2 hk) hn.2.2⟩
  ·simp only [if_neg e] at hk
   have hn:=hi.nlt i k hik hk
   exact ⟨hn.1,hn.2.1,fun hq=>hq.elim (fun hq=>hi.apart i j k hik hlt e hk (h2 k hq).1) hn.2.2⟩
 ·rw [List.length_set] at hik hik'
  by_cases e:i = j <;> by_cases e' : i' = j
  · exact hne (e.trans e'.symm)
  ·simp only [if_pos e] at hk; simp only [if_neg e'] at hk'
   exact hi.apart j i' k hlt hik' (Ne.symm e') (h1 k hk) hk'
  ·simp only [if_neg e] at hk; simp only [if_pos e'] at hk'
   exact hi.apart i j k hik hlt e hk (h1 k hk')
  ·simp only [if_neg e] at hk; simp only [if_neg e'] at hk'
   exact hi.apart i i' k hik hik' hne hk hk'
theorem Q16.treeLen {e sz m c:Nat} {p:Option Addr} {xs:List α} (h:Q16 C Φ H w) (j:Nat) (hj:H[j]? = some (Q21 T e sz (.slice p m c) xs)):m = xs.length ∧ (0 < xs.length → ∃ g,p = some ⟨g,0,none⟩):=by
 obtain ⟨zs,h0,h1⟩:=h.treeOut j hj
 have hlt:=(List.getElem?_eq_some_iff.1 hj).1
 have h2:=own_len h1 (k:=j + 1) (e:=e) (sz:=sz) (R:=T.pair) (p:=p) (m:=m) (cp:=c) (l:=zs) (by simp [List.getElem?_set_self hlt])
 have h3:zs.length = xs.length:=by rw [← h0]; simp
 rw [← h3]; exact h2
end
section
variable {α Λ:Type} {T:Tre α Λ} {R:Rep α} {e sz m c:Nat} {p:Option Addr} {xs:List α} {A F G:Q2t} {w:World}
theorem op_sli (h:(Fact.own e sz R (.slice p m c) xs).op A F w) (hA : ∀ q,A q → G q) (hF : ∀ q,F q → G q):(Fact.sli sz R p c xs).p G w:=Q1A (Fact.opgood _ hA (Q2H.refl _ _) hF (Q2H.refl _ _) h)
theorem nil_own:(Fact.own e sz R (.slice none 0 0) []).op (fun _=>False) F w:=⟨fun k hk=>(by cases hk),OwnL.nil⟩
theorem nil_tree:(Q21 T e sz (.slice none 0 0) []).op (fun _=>False) F w:=⟨[],fun _=>False,fun _=>False,rfl,fun _ h=>h,fun _ h=>h.elim,nil_own,fun _ _=>False,fun _ _ h=>h,fun _ _ _ _ h=>h.elim,fun i z hz=>by simp at hz⟩
theorem zip_at {zs:List (α × Λ)} {i:Nat} {x : α} (hz:zs.map (·.1) = xs) (h:xs[i]? = some x) : ∃ r,zs[i]? = some (x,r):=by
 subst hz
 rw [List.getElem?_map] at h
 cases hq:zs[i]? with
 | none=>rw [hq] at h; cases h
 | some z =>
   rw [hq] at h
   simp only [Option.map_some,Option.some.injEq] at h
   subst h
   exact ⟨z.2,rfl⟩
theorem pair_app {zs ys:List (α × Λ)} {us:List α} (hz:zs.map (·.1) = xs) (hy:ys.map (·.1) = us):(zs ++ ys).map (·.1) = xs ++ us:=by subst hz; subst hy; simp
theorem pair_len {zs:List (α × Λ)} (hz:zs.map (·.1) = xs):zs.length = xs.length:=by subst hz; simp
end
theorem free_cons {φ:Fact} {l:List Fact} (h:LFree φ) (h' : ∀ x ∈ l,LFree x) : ∀ x ∈ φ :: l,LFree x:=fun x hx=>by
 rcases List.mem_cons.1 hx with rfl | hx
 · exact h
 · exact h' x hx
section
variable {C:Ctx} {Φ H:List Fact} {w:World} {α Λ:Type} {T:Tre α Λ} {zs:List (α × Λ)} {e sz:Nat} {v:Value}
theorem Q16.treeNil (T:Tre α Λ) (e sz:Nat) (h:Q16 C Φ H w):Q16 C Φ (Q21 T e sz (.slice none 0 0) [] :: H) w:=by
 obtain ⟨F,N,hi⟩:=h
 exact ⟨F,_,hi.push (Q21 T e sz (.slice none 0 0) []) (fun _=>False) nil_tree (fun k hk=>hk.elim) (fun _ k _ hk=>hk.elim)⟩
end
section rules
variable {P:Program} {C:Ctx} {n:FD} {Q:Exit → Act → World → Prop} {Φ Φ' : List Fact} {H H' : List Fact} {S S' : List (Nat × Value)} {ops:Array Oper} {rest:List Oper} {o:Oper} {d:Nat} {c:Code} {e:Exit}
theorem Q27 (H' : List Fact) (hs : ∀ w,Q16 C Φ H w → Q16 C Φ H' w) (next:WL P C n Q Φ H' S ops rest):WL P C n Q Φ H S ops rest:=fun a w hf hw=>next a w hf (hs w hw)
theorem we_sh (H' : List Fact) (hs : ∀ w,Q16 C Φ H w → Q16 C Φ H' w) (next:WE C n Q Φ H' S e):WE C n Q Φ H S e:=fun a w hf hw=>next a w hf (hs w hw)
variable {α Λ:Type} {T:Tre α Λ} {et sz:Nat} {v:Value} {xs:List α}
theorem wl_treeOut (j:Nat) (hj:H[j]? = some (Q21 T et sz v xs)) (next : ∀ zs,zs.map (·.1) = xs → WL P C n Q Φ (Q4i T zs none :: H.set j (.own et sz T.pair v zs)) S ops rest):WL P C n Q Φ H S ops rest:=fun a w hf hw=>by
 obtain ⟨zs,h0,h1⟩:=hw.treeOut j hj
 exact next zs h0 a w hf h1
theorem wl_treeLen {p:Option Addr} {m cp:Nat} (j:Nat) (hj:H[j]? = some (Q21 T et sz (.slice p m cp) xs)) (next:m = xs.length → (0 < xs.length → ∃ g,p = some ⟨g,0,none⟩) → WL P C n Q Φ H S ops rest):WL P C n Q Φ H S ops rest:=fun a w hf hw=>next (hw.treeLen j hj).1 (hw.treeLen j hj).2 a w hf hw
end rules
end Go.Proofs.YtbgodclhmgmcgaaGreatDoor
