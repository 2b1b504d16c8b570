import Derived.Test.YtjfpefddanmliaaGreatTree
namespace Go.Proofs.YtjfpefddanmliaaGreat
open Go Go.RowKit
section
variable {α Λ:Type} (T:Tre α Λ) (R:Rep α)
def Later (zs:List (α × Λ)) (k:Nat) (F:Foot) (w:World):Prop:=∀ (j:Nat) (z : α × Λ),zs[j]? = some z → k ≤ j → R.p F w (T.C z.1 z.2) z.1
def Q89 (zs:List (α × Λ)) (k:Nat):Fact:=.raw (fun F w=>Later T R zs k F w) (fun hF ha h j z hz hk=>R.good hF ha (h j z hz hk))
def ShellP (e sz:Nat) (v:Value) (xs:List α) (k:Nat) (N F:Foot) (w:World):Prop :=
  ∃ (zs:List (α × Λ)) (A B:Foot),zs.map (·.1) = xs ∧ (∀ q,A q → N q) ∧ (∀ q,B q → N q ∧ ¬ A q) ∧ (Fact.own e sz T.pair v zs).op A F w ∧ (QR T (zs.take k) none).op B F w ∧ Later T R zs k F w
theorem ShellP.good {T:Tre α Λ} {R:Rep α} {e sz:Nat} {v:Value} {xs:List α} {k:Nat} {N N' F G:Foot} {w w' : World} (hN : ∀ k,N k → N' k) (ha:Q1w N w w') (hF : ∀ k,F k → G k) (hb:Q1w F w w') (h:ShellP T R e sz v xs k N F w):ShellP T R e sz v xs k N' G w':=by
  obtain ⟨zs,A,B,h0,h1,h2,h3,h4,h5⟩:=h
  exact ⟨zs,A,B,h0,fun q hq=>hN q (h1 q hq),fun q hq=>⟨hN q (h2 q hq).1,(h2 q hq).2⟩,Fact.opgood _ (fun _ h=>h) (fun q hq=>ha q (h1 q hq)) hF hb h3,Fact.opgood _ (fun _ h=>h) (fun q hq=>ha q (h2 q hq).1) hF hb h4,fun j z hz hk=>R.good hF hb (h5 j z hz hk)⟩
def Q6H (e sz:Nat) (v:Value) (xs:List α) (k:Nat):Fact:=.duo (fun N F w=>ShellP T R e sz v xs k N F w) ShellP.good
end
section
variable {C:Ctx} {Φ H:List Fact} {w:World} {α Λ:Type} {T:Tre α Λ} {R:Rep α} {e sz:Nat} {v:Value} {xs:List α} {k:Nat} {zs:List (α × Λ)}
theorem Qo.joinF (h:Qo C Φ H w) (k j:Nat) {φ φ1 φ2:Fact} (hne:k ≠ j) (hk:H[k]? = some φ1) (hj:H[j]? = some φ2)
    (hs : ∀ A B F,(∀ ψ ∈ Φ,ψ.p F w) → φ1.op A F w → φ2.op B F w → (∀ q,A q → ¬ B q) → φ.op (fun q=>A q ∨ B q) F w):Qo C Φ ((H.set k φ).eraseIdx j) w:=by
  obtain ⟨F,N,hi⟩:=h
  have hkl:=(List.getElem?_eq_some_iff.1 hk).1
  have hjl:=(List.getElem?_eq_some_iff.1 hj).1
  have hop:=hs (N k) (N j) F hi.facts (hi.owns k φ1 hk) (hi.owns j φ2 hj) (fun q=>hi.apart k j q hkl hjl hne)
  have hlen:((H.set k φ).eraseIdx j).length = H.length - 1:=by rw [List.length_eraseIdx_of_lt (by simpa using hjl)]; simp
  let at' : Nat → Nat:=fun i=>if i < j then i else i + 1
  have hat : ∀ i,at' i ≠ j:=fun i=>by simp only [at']; split <;> omega
  have hlt : ∀ i,i < ((H.set k φ).eraseIdx j).length → at' i < H.length:=fun i hil=>by rw [hlen] at hil; simp only [at']; split <;> omega
  have hinj : ∀ i i',at' i = at' i' → i = i':=fun i i' e=>by simp only [at'] at e; split at e <;> split at e <;> omega
  refine ⟨F,fun i=>if at' i = k then fun q=>N k q ∨ N j q else N (at' i),hi.flt,hi.fold,hi.fnew,hi.facts,fun i ψ hψ=>?_,fun i q hil hq=>?_,fun i i' q hil hil' hii hq hq'=>?_,hi.mod⟩
  · have hψ' : (H.set k φ)[at' i]? = some ψ:=by
      rw [List.getElem?_eraseIdx] at hψ
      simp only [at']
      split at hψ <;> rename_i hij
      · rw [if_pos hij]; exact hψ
      · rw [if_neg hij]; exact hψ
    by_cases e:at' i = k
    · simp only [if_pos e]
      rw [e,List.getElem?_set_self hkl] at hψ'
      cases hψ'; exact hop
    · simp only [if_neg e]
      rw [List.getElem?_set_ne (Ne.symm e)] at hψ'
      exact hi.owns _ ψ hψ'
  · by_cases e:at' i = k
    · simp only [if_pos e] at hq
      rcases hq with hq | hq
      · exact hi.nlt k q hkl hq
      · exact hi.nlt j q hjl hq
    · simp only [if_neg e] at hq
      exact hi.nlt _ q (hlt i hil) hq
  · by_cases e:at' i = k
    · have e' : at' i' ≠ k:=fun e2=>hii (hinj _ _ (e.trans e2.symm))
      simp only [if_pos e] at hq
      simp only [if_neg e'] at hq'
      rcases hq with hq | hq
      · exact hi.apart k _ q hkl (hlt i' hil') (Ne.symm e') hq hq'
      · exact hi.apart j _ q hjl (hlt i' hil') (Ne.symm (hat i')) hq hq'
    · simp only [if_neg e] at hq
      by_cases e' : at' i' = k
      · simp only [if_pos e'] at hq'
        rcases hq' with hq' | hq'
        · exact hi.apart _ k q (hlt i hil) hkl e hq hq'
        · exact hi.apart _ j q (hlt i hil) hjl (hat i) hq hq'
      · simp only [if_neg e'] at hq'
        exact hi.apart _ _ q (hlt i hil) (hlt i' hil') (fun q=>hii (hinj _ _ q)) hq hq'
theorem chunks_pairs (hTR : ∀ F w cs x,R.p F w cs x → ∃ r,cs = T.C x r) {F:Foot} {w:World} : ∀ {xs:List α} {ys:List Value},Q1a sz (R.p F w) ys xs → ∃ zs:List (α × Λ),zs.map (·.1) = xs ∧ Q1a sz (T.pair.p F w) ys zs ∧ ∀ z ∈ zs,R.p F w (T.C z.1 z.2) z.1
  | [],ys,h=>⟨[],rfl,h,by simp⟩
  | x :: xs,ys,⟨cs,rest,e1,e2,e3,e4⟩=>by
    obtain ⟨zs,h1,h2,h3⟩:=chunks_pairs hTR e4
    obtain ⟨r,hr⟩:=hTR F w cs x e3
    subst hr
    refine ⟨(x,r) :: zs,by simp [h1],⟨T.C x r,rest,e1,e2,rfl,h2⟩,fun z hz=>?_⟩
    rcases List.mem_cons.1 hz with rfl | hz
    · exact e3
    · exact h3 z hz
theorem Qo.toShell (hTR : ∀ F w cs x,R.p F w cs x → ∃ r,cs = T.C x r) (h:Qo C Φ H w) (j:Nat) (hj:H[j]? = some (.own e sz R v xs)):Qo C Φ (H.set j (Q6H T R e sz v xs 0)) w :=
  h.as_ j hj (fun N F ⟨h1,ys,ho,hc⟩=>by
    obtain ⟨zs,g1,g2,g3⟩:=chunks_pairs hTR hc
    subst g1
    exact ⟨zs,N,fun _=>False,rfl,fun _ h=>h,fun _ h=>h.elim,⟨h1,ys,by simpa using ho,g2⟩,⟨fun _ _=>False,fun _ _ h=>h,fun _ _ _ _ h=>h.elim,fun i z hz=>by simp at hz⟩,fun j z hz _=>g3 z (List.mem_of_getElem? hz)⟩)
theorem Qo.shellOut (h:Qo C Φ H w) (j:Nat) (hj:H[j]? = some (Q6H T R e sz v xs k)) : ∃ zs:List (α × Λ),zs.map (·.1) = xs ∧ Qo C (Q89 T R zs k :: Φ) (QR T (zs.take k) none :: H.set j (.own e sz T.pair v zs)) w:=by
  obtain ⟨F,N,hi⟩:=h
  have hlt:=(List.getElem?_eq_some_iff.1 hj).1
  obtain ⟨zs,A,B,h0,h1,h2,h3,h4,h5⟩ : ShellP T R e sz v xs k (N j) F w:=hi.owns j _ hj
  have hfx : ∀ φ ∈ Q89 T R zs k :: Φ,φ.p F w:=fun φ hφ=>by
    rcases List.mem_cons.1 hφ with rfl | hφ
    · exact h5
    · exact hi.facts φ hφ
  have hi2:MInv C (Q89 T R zs k :: Φ) H F N w:={ hi with facts:=hfx }
  refine ⟨zs,h0,F,_,(hi2.shrink j hlt A h1 h3).push (QR T (zs.take k) none) B h4 (fun q hq=>hi2.nlt j q hlt (h2 q hq).1) (fun i q hil hq hq'=>?_)⟩
  by_cases e:i = j
  · subst e
    simp only [if_true] at hq'
    exact (h2 q hq).2 hq'
  · simp only [if_neg e] at hq'
    exact hi2.apart j i q hlt (by simpa using hil) (Ne.symm e) (h2 q hq).1 hq'
theorem Qo.shellIn (h:Qo C Φ H w) (j b m:Nat) (hne:Nat.beq j b = false) (hj:H[j]? = some (.own e sz T.pair v zs)) (hb:H[b]? = some (QR T (zs.take k) none)) (hm : Φ[m]? = some (Q89 T R zs k)) (hx:zs.map (·.1) = xs):Qo C Φ ((H.set j (Q6H T R e sz v xs k)).eraseIdx b) w :=
  h.joinF (φ:=Q6H T R e sz v xs k) j b (fun e=>by rw [e,Nat.beq_refl] at hne; cases hne) hj hb (fun A B F hF ha hb hd=>⟨zs,A,B,hx,fun q hq=>.inl hq,fun q hq=>⟨.inr hq,fun hn=>hd q hn hq⟩,ha,hb,hF _ (QS hm)⟩)
theorem Qo.shellDone (h:Qo C Φ H w) (j:Nat) (hj:H[j]? = some (Q6H T R e sz v xs k)) (hk:xs.length ≤ k):Qo C Φ (H.set j (Qi T e sz v xs)) w :=
  h.as_ j hj (fun N F ⟨zs,A,B,h0,h1,h2,h3,h4,_⟩=>by
    have hl:zs.take k = zs:=List.take_of_length_le (by rw [Q12 h0]; exact hk)
    rw [hl] at h4
    exact ⟨zs,A,B,h0,h1,h2,h3,h4⟩)
theorem later_set {F:Foot} {w:World} {y : α × Λ} (h:(Q89 T R zs k).p F w):(Q89 T R (zs.set k y) (k + 1)).p F w:=fun j z hz hk=>by
  rw [List.getElem?_set_ne (by omega)] at hz
  exact h j z hz (by omega)
theorem take_setZ {β:Type} {l:List β} {k:Nat} {x y : β} (h:l[k]? = some x):l.take k ++ [y] = (l.set k y).take (k + 1):=by
  have hlt:=(List.getElem?_eq_some_iff.1 h).1
  apply List.ext_getElem?
  intro i
  rw [List.getElem?_take]
  by_cases h1:i < k
  · rw [List.getElem?_append_left (by simp; omega),List.getElem?_take,if_pos h1,if_pos (by omega),List.getElem?_set_ne (by omega)]
  · rw [List.getElem?_append_right (by simp; omega)]
    have hl:(l.take k).length = k:=by simp; omega
    rw [hl]
    by_cases h2:i = k
    · subst h2
      simp [hlt]
    · rw [if_neg (by omega)]
      have:i - k ≠ 0:=by omega
      cases hq:i - k with
      | zero=>omega
      | succ m=>simp
end
section rules
variable {P:Program} {C:Ctx} {n:Nat} {Q:Exit → Act → World → Prop} {Φ Φ' : List Fact} {H H' : List Fact} {S S' : List (Nat × Value)} {ops:Array Oper} {rest:List Oper} {o:Oper} {d:Nat} {c:Code}
variable {α Λ:Type} {T:Tre α Λ} {R:Rep α} {et sz k:Nat} {v:Value} {xs:List α}
theorem wl_shellOut (j:Nat) (hj:H[j]? = some (Q6H T R et sz v xs k)) (next : ∀ zs,zs.map (·.1) = xs → WL P C n Q (Q89 T R zs k :: Φ) (QR T (zs.take k) none :: H.set j (.own et sz T.pair v zs)) S ops rest):WL P C n Q Φ H S ops rest:=fun a w hf hw=>by
  obtain ⟨zs,h0,h1⟩:=hw.shellOut j hj
  exact next zs h0 a w hf h1
end rules
end Go.Proofs.YtjfpefddanmliaaGreat
