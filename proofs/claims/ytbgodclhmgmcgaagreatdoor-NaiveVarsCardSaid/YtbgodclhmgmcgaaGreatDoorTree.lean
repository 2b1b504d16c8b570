import Derived.Test.YtbgodclhmgmcgaaGreatDoorAuto
import Derived.Test.YtbgodclhmgmcgaaGreatDoorMapE
namespace Go.Proofs.YtbgodclhmgmcgaaGreatDoor
open Go Go.RowKit
theorem wc_row {α:Type} {P:Program} {C:Ctx} {n:FD} {Q:Exit → Act → World → Prop} {Φ:List Fact} {H H' : List Fact} {S:List (Nat × Value)} {c:Code} {g e sz m:Nat} {cs:List Value} (R:Rep α) (l:List α) (k:Nat) (hk:H[k]? = some (.blk g cs e)) (hch : ∀ F w,(∀ ψ ∈ Φ,ψ.p F w) → Q1C sz (R.p F w) cs l) (hm:m = l.length) (hle:m ≤ 9223372036854775807)
 (hH:H.set k (.own e sz R (.slice (some ⟨g,0,none⟩) m m) l) = H') (next:WC P C n Q Φ H' S c):WC P C n Q Φ H S c:=fun a w hf hw=>next a w hf (hw.row k hk (fun F=>hch F w) hm hle hH)
end Go.Proofs.YtbgodclhmgmcgaaGreatDoor
namespace Go.Proofs.YtbgodclhmgmcgaaGreatDoor
open Go Go.RowKit
section
variable {C:Ctx} {Φ H:List Fact} {F:Q2b} {N:Nat → Q2b} {w:World}
theorem MInv.shrink (h:MInv C Φ H F N w) (k:Nat) {φ1:Fact} (hk:k < H.length) (B:Q2b) (hB : ∀ q,B q → N k q) (h1 : φ1.op B F w):MInv C Φ (H.set k φ1) F (fun i=>if i = k then B else N i) w:=by
 have hsub : ∀ i q,(if i = k then B else N i) q → N i q:=fun i q hq=>by
  by_cases e:i = k
  · subst e; rw [if_pos rfl] at hq; exact hB q hq
  · rw [if_neg e] at hq; exact hq
 refine { h with owns:=fun i ψ hi=>?_,nlt:=fun i q hi hq=>h.nlt i q (by simpa using hi) (hsub i q hq),apart:=fun i j q hi hj hne hq hq'=>h.apart i j q (by simpa using hi) (by simpa using hj) hne (hsub i q hq) (hsub j q hq') }
 by_cases e:i = k
 ·subst e
  rw [List.getElem?_set_self hk] at hi
  cases hi
  rw [if_pos rfl]; exact h1
 ·rw [List.getElem?_set_ne (Ne.symm e)] at hi
  rw [if_neg e]; exact h.owns i ψ hi
theorem QL.split {Λ:Type} (h:QL C Φ H w) (k:Nat) {φ:Fact} {φ1 φ2 : Λ → Fact} (hk:H[k]? = some φ)
  (hs : ∀ N F,φ.op N F w → ∃ (r : Λ) (A B:Q2b),(∀ q,A q → N q) ∧ (∀ q,B q → N q ∧ ¬ A q) ∧ (φ1 r).op B F w ∧ (φ2 r).op A F w) : ∃ r,QL C Φ (φ2 r :: H.set k (φ1 r)) w:=by
 obtain ⟨F,N,hi⟩:=h
 have hlt:=(List.getElem?_eq_some_iff.1 hk).1
 obtain ⟨r,A,B,hA,hB,h1,h2⟩:=hs (N k) F (hi.owns k φ hk)
 refine ⟨r,F,_,(hi.shrink k hlt B (fun q hq=>(hB q hq).1) h1).push (φ2 r) A h2 (fun q hq=>hi.nlt k q hlt (hA q hq)) (fun i q hil hq hq'=>?_)⟩
 by_cases e:i = k
 ·subst e
  simp only [if_true] at hq'
  exact (hB q hq').2 hq
 ·simp only [if_neg e] at hq'
  exact hi.apart k i q hlt (by simpa using hil) (Ne.symm e) (hA q hq) hq'
theorem QL.join (h:QL C Φ H w) (k j:Nat) {φ φ1 φ2:Fact} (hne:k ≠ j) (hk:H[k]? = some φ1) (hj:H[j]? = some φ2)
  (hs : ∀ A B F,φ1.op A F w → φ2.op B F w → (∀ q,A q → ¬ B q) → φ.op (fun q=>A q ∨ B q) F w):QL C Φ ((H.set k φ).eraseIdx j) w:=by
 obtain ⟨F,N,hi⟩:=h
 have hkl:=(List.getElem?_eq_some_iff.1 hk).1
 have hjl:=(List.getElem?_eq_some_iff.1 hj).1
 have hop:=hs (N k) (N j) F (hi.owns k φ1 hk) (hi.owns j φ2 hj) (fun q=>hi.apart k j q hkl hjl hne)
 have hlen:((H.set k φ).eraseIdx j).length = H.length - 1:=by rw [List.length_eraseIdx_of_lt (by simpa using hjl)]; simp
 let at' : Nat → Nat:=fun i=>if i < j then i else i + 1
 have hat : ∀ i,at' i ≠ j:=fun i=>by simp only [at']; split <;> omega
 have hlt : ∀ i,i < ((H.set k φ).eraseIdx j).length → at' i < H.length:=fun i hil=>by rw [hlen] at hil; simp only [at']; split <;> omega
 have hinj : ∀ i i',at' i = at' i' → i = i':=fun i i' e=>by simp only [at'] at e; split at e <;> split at e <;> omega
 refine ⟨F,fun i=>if at' i = k then fun q=>N k q ∨ N j q else N (at' i),hi.flt,hi.fold,hi.fnew,hi.facts,fun i ψ hψ=>?_,fun i q hil hq=>?_,fun i i' q hil hil' hii hq hq'=>?_,hi.mod⟩
 ·have hψ' : (H.set k φ)[at' i]? = some ψ:=by
   rw [List.getElem?_eraseIdx] at hψ
   simp only [at']
   split at hψ <;> rename_i hij
   · rw [if_pos hij]; exact hψ
   · rw [if_neg hij]; exact hψ
  by_cases e:at' i = k
  ·simp only [if_pos e]
   rw [e,List.getElem?_set_self hkl] at hψ'
   cases hψ'; exact hop
  ·simp only [if_neg e]
   rw [List.getElem?_set_ne (Ne.symm e)] at hψ'
   exact hi.owns _ ψ hψ'
 ·by_cases e:at' i = k
  ·simp only [if_pos e] at hq
   rcases hq with hq | hq
   · exact hi.nlt k q hkl hq
   · exact hi.nlt j q hjl hq
  ·simp only [if_neg e] at hq
   exact hi.nlt _ q (hlt i hil) hq
 ·by_cases e:at' i = k
  ·have e' : at' i' ≠ k:=fun e2=>hii (hinj _ _ (e.trans e2.symm))
   simp only [if_pos e] at hq
   simp only [if_neg e'] at hq'
   rcases hq with hq | hq
   · exact hi.apart k _ q hkl (hlt i' hil') (Ne.symm e') hq hq'
   · exact hi.apart j _ q hjl (hlt i' hil') (Ne.symm (hat i')) hq hq'
  ·simp only [if_neg e] at hq
   by_cases e' : at' i' = k
   ·simp only [if_pos e'] at hq'
    rcases hq' with hq' | hq'
    · exact hi.apart _ k q (hlt i hil) hkl e hq hq'
    · exact hi.apart _ j q (hlt i hil) hjl (hat i) hq hq'
   ·simp only [if_neg e'] at hq'
    exact hi.apart _ _ q (hlt i hil) (hlt i' hil') (fun q=>hii (hinj _ _ q)) hq hq'
end
end Go.Proofs.YtbgodclhmgmcgaaGreatDoor
namespace Go.Proofs.YtbgodclhmgmcgaaGreatDoor
open Go Go.RowKit
structure Tre (α Λ:Type) where
 C : α → Λ → List Value
 G : α → Λ → List Fact
 one : ∀ x r,∀ u ∈ C x r,u.oneCell' = true
def Tre.pair {α Λ:Type} (T:Tre α Λ):Rep (α × Λ):=⟨fun _ _ cs z=>cs = T.C z.1 z.2,fun _ _ h=>h,fun h u hu=>T.one _ _ u (h ▸ hu)⟩
def Star:List Fact → Q2b → Q2b → World → Prop
 | [],_,_,_=>True
 | φ :: l,N,F,w=>∃ A B:Q2b,(∀ q,A q → N q) ∧ (∀ q,B q → N q ∧ ¬ A q) ∧ φ.op A F w ∧ Star l B F w
theorem Star.good : ∀ {l:List Fact} {N N' F G:Q2b} {w w' : World},(∀ k,N k → N' k) → Q2P N w w' → (∀ k,F k → G k) → Q2P F w w' → Star l N F w → Star l N' G w'
 | [],_,_,_,_,_,_,_,_,_,_,_=>trivial
 | φ :: l,N,N',F,G,w,w',hN,ha,hF,hb,⟨A,B,h1,h2,h3,h4⟩ =>
   ⟨A,B,fun q hq=>hN q (h1 q hq),fun q hq=>⟨hN q (h2 q hq).1,(h2 q hq).2⟩,φ.opgood (fun _ h=>h) (fun q hq=>ha q (h1 q hq)) hF hb h3,Star.good (fun _ h=>h) (fun q hq=>ha q (h2 q hq).1) hF hb h4⟩
def starF (l:List Fact):Fact:=.duo (fun N F w=>Star l N F w) Star.good
def Bag {α Λ:Type} (T:Tre α Λ) (zs:List (α × Λ)) (o:Option Nat) (N F:Q2b) (w:World):Prop :=
 ∃ Ns:Nat → Q2b,(∀ i q,Ns i q → N q) ∧ (∀ i j q,i ≠ j → Ns i q → ¬ Ns j q) ∧ ∀ i z,zs[i]? = some z → o ≠ some i → Star (T.G z.1 z.2) (Ns i) F w
section
variable {α Λ:Type} {T:Tre α Λ} {zs:List (α × Λ)} {o:Option Nat}
theorem Bag.good {N N' F G:Q2b} {w w' : World} (hN : ∀ k,N k → N' k) (ha:Q2P N w w') (hF : ∀ k,F k → G k) (hb:Q2P F w w') (h:Bag T zs o N F w):Bag T zs o N' G w':=by
 obtain ⟨Ns,h1,h2,h3⟩:=h
 exact ⟨Ns,fun i q hq=>hN q (h1 i q hq),h2,fun i z hz ho=>(h3 i z hz ho).good (fun _ h=>h) (fun q hq=>ha q (h1 i q hq)) hF hb⟩
def bagF (T:Tre α Λ) (zs:List (α × Λ)) (o:Option Nat):Fact:=.duo (fun N F w=>Bag T zs o N F w) Bag.good
def TreeP (T:Tre α Λ) (e sz:Nat) (v:Value) (xs:List α) (N F:Q2b) (w:World):Prop :=
 ∃ (zs:List (α × Λ)) (A B:Q2b),zs.map (·.1) = xs ∧ (∀ q,A q → N q) ∧ (∀ q,B q → N q ∧ ¬ A q) ∧ (Fact.own e sz T.pair v zs).op A F w ∧ (bagF T zs none).op B F w
theorem TreeP.good {e sz:Nat} {v:Value} {xs:List α} {N N' F G:Q2b} {w w' : World} (hN : ∀ k,N k → N' k) (ha:Q2P N w w') (hF : ∀ k,F k → G k) (hb:Q2P F w w') (h:TreeP T e sz v xs N F w):TreeP T e sz v xs N' G w':=by
 obtain ⟨zs,A,B,h0,h1,h2,h3,h4⟩:=h
 exact ⟨zs,A,B,h0,fun q hq=>hN q (h1 q hq),fun q hq=>⟨hN q (h2 q hq).1,(h2 q hq).2⟩,Fact.opgood _ (fun _ h=>h) (fun q hq=>ha q (h1 q hq)) hF hb h3,Fact.opgood _ (fun _ h=>h) (fun q hq=>ha q (h2 q hq).1) hF hb h4⟩
def Q6F (T:Tre α Λ) (e sz:Nat) (v:Value) (xs:List α):Fact:=.duo (fun N F w=>TreeP T e sz v xs N F w) TreeP.good
end
section
variable {C:Ctx} {Φ:List Fact} {w:World}
theorem QL.starsUp : ∀ {l H:List Fact},QL C Φ (l.reverse ++ H) w → QL C Φ (starF l :: H) w
 | [],H,⟨F,N,hi⟩=>⟨F,_,hi.push (starF []) (fun _=>False) trivial (fun k hk=>hk.elim) (fun _ k _ hk=>hk.elim)⟩
 | φ :: l,H,h=>by
   rw [List.reverse_cons,List.append_assoc] at h
   have h1:=QL.starsUp (H:=φ :: H) h
   exact h1.join (φ:=starF (φ :: l)) 0 1 (by decide) rfl rfl (fun A B F ha hb hd=>⟨B,A,fun q hq=>.inr hq,fun q hq=>⟨.inl hq,hd q hq⟩,hb,ha⟩)
variable {H:List Fact} {α Λ:Type} {T:Tre α Λ} {zs:List (α × Λ)} {x : α} {r : Λ}
theorem QL.bagPush (h:QL C Φ ((T.G x r).reverse ++ H) w) (j:Nat) (hj:H[j]? = some (bagF T zs none)):QL C Φ (H.set j (bagF T (zs ++ [(x,r)]) none)) w:=by
 have h1:=h.starsUp
 refine h1.join (φ:=bagF T (zs ++ [(x,r)]) none) (φ1:=bagF T zs none) (φ2:=starF (T.G x r)) (j + 1) 0 (by omega) (by simpa using hj) rfl ?_
 ·intro A B F ha hb hd
  obtain ⟨Ns,a1,a2,a3⟩:=ha
  exact ⟨fun k q=>(k = zs.length ∧ B q) ∨ (k < zs.length ∧ Ns k q),fun k q hq=>hq.elim (fun hq=>.inr hq.2) (fun hq=>.inl (a1 k q hq.2)),
   fun k k' q hne hq hq'=>by
    rcases hq with hq | hq <;> rcases hq' with hq' | hq'
    · exact hne (hq.1.trans hq'.1.symm)
    · exact hd q (a1 k' q hq'.2) hq.2
    · exact hd q (a1 k q hq.2) hq'.2
    · exact a2 k k' q hne hq.2 hq'.2,
   fun k z hk _=>by
    by_cases e:k < zs.length
    ·rw [List.getElem?_append_left e] at hk
     exact (a3 k z hk (by simp)).good (fun q hq=>.inr ⟨e,hq⟩) (Q2P.refl _ _) (fun _ h=>h) (Q2P.refl _ _)
    ·have hkl:k = zs.length:=by
      have:=(List.getElem?_eq_some_iff.1 hk).1
      simp at this; omega
     subst hkl
     rw [List.getElem?_append_right (Nat.le_refl _)] at hk
     simp at hk
     subst hk
     exact Star.good (fun q hq=>.inl ⟨rfl,hq⟩) (Q2P.refl _ _) (fun _ h=>h) (Q2P.refl _ _) hb⟩
theorem QL.bagNil (T:Tre α Λ) (h:QL C Φ H w):QL C Φ (bagF T [] none :: H) w:=by
 obtain ⟨F,N,hi⟩:=h
 exact ⟨F,_,hi.push (bagF T [] none) (fun _=>False) ⟨fun _ _=>False,fun _ _ h=>h,fun _ _ _ _ h=>h.elim,fun i z hz=>by simp at hz⟩ (fun k hk=>hk.elim) (fun _ k _ hk=>hk.elim)⟩
theorem QL.treeOut {e sz:Nat} {v:Value} {xs:List α} (h:QL C Φ H w) (j:Nat) (hj:H[j]? = some (Q6F T e sz v xs)) : ∃ zs:List (α × Λ),zs.map (·.1) = xs ∧ QL C Φ (bagF T zs none :: H.set j (.own e sz T.pair v zs)) w:=by
 obtain ⟨r,h1⟩:=h.split (Λ:={zs:List (α × Λ) // zs.map (·.1) = xs}) (φ1:=fun r=>.own e sz T.pair v r.1) (φ2:=fun r=>bagF T r.1 none) j hj (fun N F ⟨zs,A,B,h0,h1,h2,h3,h4⟩ =>
  ⟨⟨zs,h0⟩,B,A,fun q hq=>(h2 q hq).1,fun q hq=>⟨h1 q hq,fun hn=>(h2 q hn).2 hq⟩,h3,h4⟩)
 exact ⟨r.1,r.2,h1⟩
theorem QL.treeIn {e sz:Nat} {v:Value} {xs:List α} (h:QL C Φ H w) (j k:Nat) (hne:Nat.beq j k = false) (hj:H[j]? = some (.own e sz T.pair v zs)) (hk:H[k]? = some (bagF T zs none)) (hx:zs.map (·.1) = xs):QL C Φ ((H.set j (Q6F T e sz v xs)).eraseIdx k) w :=
 h.join (φ:=Q6F T e sz v xs) j k (fun e=>by rw [e,Nat.beq_refl] at hne; cases hne) hj hk (fun A B F ha hb hd=>⟨zs,A,B,hx,fun q hq=>.inl hq,fun q hq=>⟨.inr hq,fun hn=>hd q hn hq⟩,ha,hb⟩)
theorem tree_let {e sz:Nat} {v:Value} {xs:List α} {R:Rep α} (hR : ∀ x r N F w,Star (T.G x r) N F w → R.p (fun q=>N q ∨ F q) w (T.C x r) x) {N F:Q2b} (h:TreeP T e sz v xs N F w):(Fact.own e sz R v xs).op N (fun q=>N q ∨ F q) w:=by
 obtain ⟨zs,A,B,h0,h1,h2,⟨h3,h4⟩,Ns,h5,h6,h7⟩:=h
 subst h0
 refine ⟨fun k hk=>h1 k (h3 k hk),?_⟩
 obtain ⟨ys,ho,hc⟩:=h4
 refine ⟨ys,by simpa using ho,?_⟩
 have go : ∀ (zs:List (α × Λ)) (ys:List Value),(∀ z ∈ zs,∃ M:Q2b,(∀ q,M q → N q) ∧ Star (T.G z.1 z.2) M F w) → Q1C sz (T.pair.p F w) ys zs → Q1C sz (R.p (fun q=>N q ∨ F q) w) ys (zs.map (·.1)):=by
  intro zs
  induction zs with
  | nil=>intro ys _ h; exact h
  | cons z zs ih =>
    intro ys hM hc
    obtain ⟨cs,rest,e1,e2,e3,e4⟩:=hc
    obtain ⟨M,m1,m2⟩:=hM z (by simp)
    refine ⟨cs,rest,e1,e2,?_,ih rest (fun y hy=>hM y (by simp [hy])) e4⟩
    have e3:cs = T.C z.1 z.2:=e3
    rw [e3]
    exact R.good (fun q hq=>hq.elim (fun hq=>.inl (m1 q hq)) .inr) (Q2P.refl _ _) (hR _ _ _ _ _ m2)
 refine go zs ys (fun z hz=>?_) hc
 obtain ⟨i,hi⟩:=List.getElem?_of_mem hz
 exact ⟨Ns i,fun q hq=>(h2 q (h5 i q hq)).1,h7 i z hi (by simp)⟩
theorem QL.treeLen {e sz m c:Nat} {p:Option Addr} {xs:List α} (h:QL C Φ H w) (j:Nat) (hj:H[j]? = some (Q6F T e sz (.slice p m c) xs)):m = xs.length ∧ (0 < xs.length → ∃ g,p = some ⟨g,0,none⟩):=by
 obtain ⟨zs,h0,h1⟩:=h.treeOut j hj
 have hlt:=(List.getElem?_eq_some_iff.1 hj).1
 have h2:=Q9J h1 (k:=j + 1) (e:=e) (sz:=sz) (R:=T.pair) (p:=p) (m:=m) (cp:=c) (l:=zs) (by simp [List.getElem?_set_self hlt])
 have h3:zs.length = xs.length:=by rw [← h0]; simp
 rw [← h3]; exact h2
end
section
variable {α Λ:Type} {T:Tre α Λ} {R:Rep α} {e sz m c:Nat} {p:Option Addr} {xs:List α} {A F G:Q2b} {w:World}
theorem op_sli (h:(Fact.own e sz R (.slice p m c) xs).op A F w) (hA : ∀ q,A q → G q) (hF : ∀ q,F q → G q):(Fact.sli sz R p c xs).p G w:=Q5R (Fact.opgood _ hA (Q2P.refl _ _) hF (Q2P.refl _ _) h)
theorem tree_own (hR : ∀ x r N F w,Star (T.G x r) N F w → R.p (fun q=>N q ∨ F q) w (T.C x r) x) {v:Value} (h:(Q6F T e sz v xs).op A F w) (hA : ∀ q,A q → G q) (hF : ∀ q,F q → G q):(Fact.own e sz R v xs).p G w:=Fact.opgood _ hA (Q2P.refl _ _) (fun q hq=>hq.elim (hA q) (hF q)) (Q2P.refl _ _) (tree_let hR h)
theorem tree_sli (hR : ∀ x r N F w,Star (T.G x r) N F w → R.p (fun q=>N q ∨ F q) w (T.C x r) x) (h:(Q6F T e sz (.slice p m c) xs).op A F w) (hA : ∀ q,A q → G q) (hF : ∀ q,F q → G q):(Fact.sli sz R p c xs).p G w:=Q5R (tree_own hR h hA hF)
theorem nil_own:(Fact.own e sz R (.slice none 0 0) []).op (fun _=>False) F w:=⟨fun k hk=>(by cases hk),OwnL.nil⟩
theorem nil_tree:(Q6F T e sz (.slice none 0 0) []).op (fun _=>False) F w:=⟨[],fun _=>False,fun _=>False,rfl,fun _ h=>h,fun _ h=>h.elim,nil_own,fun _ _=>False,fun _ _ h=>h,fun _ _ _ _ h=>h.elim,fun i z hz=>by simp at hz⟩
theorem pair_app {zs ys:List (α × Λ)} {us:List α} (hz:zs.map (·.1) = xs) (hy:ys.map (·.1) = us):(zs ++ ys).map (·.1) = xs ++ us:=by subst hz; subst hy; simp
theorem pair_len {zs:List (α × Λ)} (hz:zs.map (·.1) = xs):zs.length = xs.length:=by subst hz; simp
end
theorem free_cons {φ:Fact} {l:List Fact} (h:LFree φ) (h' : ∀ x ∈ l,LFree x) : ∀ x ∈ φ :: l,LFree x:=fun x hx=>by
 rcases List.mem_cons.1 hx with rfl | hx
 · exact h
 · exact h' x hx
section
variable {C:Ctx} {Φ H:List Fact} {w:World} {α Λ:Type} {T:Tre α Λ} {zs:List (α × Λ)} {e sz:Nat} {v:Value}
theorem QL.treeNil (T:Tre α Λ) (e sz:Nat) (h:QL C Φ H w):QL C Φ (Q6F T e sz (.slice none 0 0) [] :: H) w:=by
 obtain ⟨F,N,hi⟩:=h
 exact ⟨F,_,hi.push (Q6F T e sz (.slice none 0 0) []) (fun _=>False) nil_tree (fun k hk=>hk.elim) (fun _ k _ hk=>hk.elim)⟩
end
section rules
variable {P:Program} {C:Ctx} {n:FD} {Q:Exit → Act → World → Prop} {Φ Φ' : List Fact} {H H' : List Fact} {S S' : List (Nat × Value)} {ops:Array Oper} {rest:List Oper} {o:Oper} {d:Nat} {c:Code} {e:Exit}
theorem wl_sh (H' : List Fact) (hs : ∀ w,QL C Φ H w → QL C Φ H' w) (next:WL P C n Q Φ H' S ops rest):WL P C n Q Φ H S ops rest:=fun a w hf hw=>next a w hf (hs w hw)
theorem wc_sh (H' : List Fact) (hs : ∀ w,QL C Φ H w → QL C Φ H' w) (next:WC P C n Q Φ H' S c):WC P C n Q Φ H S c:=fun a w hf hw=>next a w hf (hs w hw)
variable {α Λ:Type} {T:Tre α Λ} {et sz:Nat} {v:Value} {xs:List α}
theorem wl_treeOut (j:Nat) (hj:H[j]? = some (Q6F T et sz v xs)) (next : ∀ zs,zs.map (·.1) = xs → WL P C n Q Φ (bagF T zs none :: H.set j (.own et sz T.pair v zs)) S ops rest):WL P C n Q Φ H S ops rest:=fun a w hf hw=>by
 obtain ⟨zs,h0,h1⟩:=hw.treeOut j hj
 exact next zs h0 a w hf h1
theorem wl_treeLen {p:Option Addr} {m cp:Nat} (j:Nat) (hj:H[j]? = some (Q6F T et sz (.slice p m cp) xs)) (next:m = xs.length → (0 < xs.length → ∃ g,p = some ⟨g,0,none⟩) → WL P C n Q Φ H S ops rest):WL P C n Q Φ H S ops rest:=fun a w hf hw=>next (hw.treeLen j hj).1 (hw.treeLen j hj).2 a w hf hw
theorem wc_treeLen {p:Option Addr} {m cp:Nat} (j:Nat) (hj:H[j]? = some (Q6F T et sz (.slice p m cp) xs)) (next:m = xs.length → (0 < xs.length → ∃ g,p = some ⟨g,0,none⟩) → WC P C n Q Φ H S c):WC P C n Q Φ H S c:=fun a w hf hw=>next (hw.treeLen j hj).1 (hw.treeLen j hj).2 a w hf hw
theorem we_treeLen {p:Option Addr} {m cp:Nat} (j:Nat) (hj:H[j]? = some (Q6F T et sz (.slice p m cp) xs)) (next:m = xs.length → (0 < xs.length → ∃ g,p = some ⟨g,0,none⟩) → WE C n Q Φ H S e):WE C n Q Φ H S e:=fun a w hf hw=>next (hw.treeLen j hj).1 (hw.treeLen j hj).2 a w hf hw
end rules
end Go.Proofs.YtbgodclhmgmcgaaGreatDoor
