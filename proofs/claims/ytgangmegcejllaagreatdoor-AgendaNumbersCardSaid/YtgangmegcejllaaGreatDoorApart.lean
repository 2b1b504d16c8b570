import Derived.Test.YtgangmegcejllaaGreatDoorFlat
namespace Go.Proofs.YtgangmegcejllaaGreatDoor
open Go Go.RowKit
def Bd (hs:List Hdr):Prop:=∀ h ∈ hs,h.2.1 ≤ 1073741824
theorem Bd.nil:Bd []:=fun _ h=>by cases h
theorem Bd.push {hs:List Hdr} {h:Hdr} (hb:Bd hs) (hn:h.2.1 ≤ 10000):Bd (hs ++ [h]):=fun x hx=>by
 rcases List.mem_append.1 hx with hx | hx
 · exact hb x hx
 · rw [List.mem_singleton.1 hx]; omega
theorem chunks_any {α:Type} {sz:Nat} {R:Rep α} {F:Q2a} {w:World} : ∀ {l:List α} {cs:List Value},Q1F sz (R.p F w) cs l → Q1F sz celO cs (List.replicate l.length (none:Cel))
 | [],_,h=>h
 | x :: l,cs,h=>by
   obtain ⟨a,b,e1,e2,e3,e4⟩:=h
   exact ⟨a,b,e1,e2,⟨R.one e3,fun _ h=>by cases h⟩,chunks_any e4⟩
theorem Q6k.any {α:Type} {e sz n c:Nat} {p:Option Addr} {R:Rep α} {F:Q2a} {l:List α} {w:World} (h:Q6k 0 e sz (R.p F w) l (.slice p n c) w):Q6k 0 e sz celO (List.replicate n (none:Cel)) (.slice p n c) w:=by
 obtain rfl:=h.len
 obtain ⟨xs,ho,hc⟩:=h
 exact ⟨xs,by rw [List.length_replicate]; exact ho,chunks_any hc⟩
section
variable {C:Ctx} {Φ H:List Fact} {w:World} {e sz n c:Nat} {p:Option Addr}
theorem FlatP.one {N F:Q2a} {α:Type} {R:Rep α} {l:List α} (h:(Fact.own e sz R (.slice p n c) l).op N F w):FlatP e sz [Q58 (p,n,c)] N w:=by
 obtain ⟨hN,ho⟩:=h
 refine ⟨fun i q=>i = 0 ∧ N q,fun i q hq=>hq.2,fun i j q hne hq hq'=>hne (hq.1.trans hq'.1.symm),fun i r hr=>?_⟩
 cases i with
 | succ i=>simp at hr
 | zero =>
   simp at hr; subst hr
   exact ⟨fun k hk=>⟨rfl,hN k hk⟩,fun k hk=>⟨rfl,hN k hk⟩,ho.any,ho.any,fun _=>Nat.le_refl _⟩
theorem QU.flOne {α:Type} {R:Rep α} {l:List α} (h:QU C Φ H w) (k:Nat) (hk:H[k]? = some (.own e sz R (.slice p n c) l)):QU C Φ (H.set k (Q1x e sz [Q58 (p,n,c)])) w :=
 h.as_ k hk (fun _ _ hf=>FlatP.one hf)
theorem QU.flNil (e sz:Nat) (h:QU C Φ H w):QU C Φ (Q1x e sz [] :: H) w:=by
 obtain ⟨F,N,hi⟩:=h
 exact ⟨F,_,hi.push (Q1x e sz []) (fun _=>False) ⟨fun _ _=>False,fun _ _ h=>h,fun _ _ _ _ h=>h.elim,fun i r hr=>by simp at hr⟩ (fun k hk=>hk.elim) (fun _ k _ hk=>hk.elim)⟩
theorem QU.flPush {hs:List Hdr} {h0:Hdr} (h:QU C Φ H w) (j k:Nat) (hne:Nat.beq j k = false) (hj:H[j]? = some (Q1x e sz (hs.map Q58))) (hk:H[k]? = some (Q1x e sz [Q58 h0])):QU C Φ ((H.set j (Q1x e sz ((hs ++ [h0]).map Q58))).eraseIdx k) w:=by
 refine h.join (φ:=Q1x e sz ((hs ++ [h0]).map Q58)) j k (fun e=>by rw [e,Nat.beq_refl] at hne; cases hne) hj hk ?_
 intro A B F ha hb hd
 obtain ⟨Ns,a1,a2,a3⟩:=ha
 obtain ⟨Ms,b1,b2,b3⟩:=hb
 refine ⟨fun i q=>(i < hs.length ∧ Ns i q) ∨ (i = hs.length ∧ Ms 0 q),fun i q hq=>hq.elim (fun hq=>.inl (a1 i q hq.2)) (fun hq=>.inr (b1 0 q hq.2)),fun i i' q hne hq hq'=>?_,fun i r hr=>?_⟩
 ·rcases hq with hq | hq <;> rcases hq' with hq' | hq'
  · exact a2 i i' q hne hq.2 hq'.2
  · exact hd q (a1 i q hq.2) (b1 0 q hq'.2)
  · exact hd q (a1 i' q hq'.2) (b1 0 q hq.2)
  · exact hne (hq.1.trans hq'.1.symm)
 ·rw [List.map_append] at hr
  by_cases hi:i < hs.length
  ·rw [List.getElem?_append_left (by simpa using hi)] at hr
   exact (a3 i r hr).good (fun q hq=>.inl ⟨hi,hq⟩) (Q2b.refl _ _)
  ·rw [List.getElem?_append_right (by simpa using hi)] at hr
   have hil:i = hs.length:=by
    have:=(List.getElem?_eq_some_iff.1 hr).1
    simp at this; omega
   subst hil
   simp at hr
   exact (b3 0 r (by simpa using hr)).good (fun q hq=>.inr ⟨rfl,hq⟩) (Q2b.refl _ _)
theorem QU.bagUncons {α Λ:Type} {T:Tre α Λ} {zs:List (α × Λ)} {x : α × Λ} {i:Nat} (h:QU C Φ H w) (j:Nat) (hj:H[j]? = some (Q1w T (zs.drop i) none)) (hz:zs[i]? = some x):QU C Φ ((T.G x.1 x.2).reverse ++ H.set j (Q1w T (zs.drop (i + 1)) none)) w:=by
 obtain ⟨x,r⟩:=x
 have h0:(zs.drop i)[0]? = some (x,r):=by rw [List.getElem?_drop]; simpa using hz
 have h1:=h.bagOpen j 0 hj h0
 have hlt:=(List.getElem?_eq_some_iff.1 hj).1
 have h2:=h1.as_ (φ:=Q1w T (zs.drop i) (some 0)) (φ':=Q1w T (zs.drop (i + 1)) none) ((T.G x r).reverse.length + j) (by
  rw [List.getElem?_append_right (by omega)]
  simp [List.getElem?_set_self,hlt]) (fun N F hb=>by
   obtain ⟨Ns,a1,a2,a3⟩:=hb
   refine ⟨fun k=>Ns (k + 1),fun k q hq=>a1 _ q hq,fun k k' q hne hq hq'=>a2 _ _ q (by omega) hq hq',fun k z hk _=>a3 (k + 1) z ?_ (by simp)⟩
   rw [List.getElem?_drop] at hk ⊢
   rw [← hk]; congr 1; omega)
 rw [List.set_append_right _ _ (by omega),Nat.add_sub_cancel_left,List.set_set] at h2
 exact h2
end
end Go.Proofs.YtgangmegcejllaaGreatDoor
