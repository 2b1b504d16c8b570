import Derived.Test.YtbgodclhmgmcgaaGreatDoorOpenA
import Derived.Test.YtbgodclhmgmcgaaGreatDoorTree
namespace Go.Proofs.YtbgodclhmgmcgaaGreatDoor
open Go Go.RowKit Go.Deep
section
variable {α Λ:Type} (C : α → Option Addr × Nat → List Value) (kids : α → List α) (sz:Nat) (one : ∀ x r,∀ u ∈ C x r,u.oneCell' = true)
def recN:Nat → Rep α
 | 0=>⟨fun _ _ _ _=>False,fun _ _ h=>h,fun h=>h.elim⟩
 | n + 1=>Q9c C (fun x r=>[.sli sz (recN n) r.1 r.2 (kids x)]) one
def recR:Rep α:=⟨fun F w cs x=>∃ n,(recN C kids sz one n).p F w cs x,fun hF ha ⟨n,h⟩=>⟨n,(recN C kids sz one n).good hF ha h⟩,fun ⟨n,h⟩=>(recN C kids sz one n).one h⟩
end
section
variable {α:Type} {C : α → Option Addr × Nat → List Value} {kids : α → List α} {sz:Nat} {one : ∀ x r,∀ u ∈ C x r,u.oneCell' = true}
theorem recN_mono : ∀ {n m:Nat} {F:Q2t} {w:World} {cs:List Value} {x : α},n ≤ m → (recN C kids sz one n).p F w cs x → (recN C kids sz one m).p F w cs x
 | 0,_,_,_,_,_,_,h=>h.elim
 | n + 1,0,_,_,_,_,hm,_=>by omega
 | n + 1,m + 1,F,w,cs,x,hm,⟨r,h1,h2⟩=>⟨r,h1,fun φ hφ=>by
     simp only [List.mem_cons,List.not_mem_nil,or_false] at hφ
     subst hφ
     exact sli_rel (R:=recN C kids sz one n) (h2 _ (List.mem_cons_self)) (fun cs x hr=>recN_mono (by omega) hr)⟩
theorem rec_opens:Q7k (recR C kids sz one) C (fun _ _=>True) (fun x r=>[.sli sz (recR C kids sz one) r.1 r.2 (kids x)]):=fun F w cs x ⟨n,h⟩=>by
 cases n with
 | zero=>exact h.elim
 | succ n =>
   obtain ⟨r,h1,h2⟩:=h
   exact ⟨r,h1,trivial,Q14 (sli_rel (R:=recN C kids sz one n) (h2 _ (List.mem_cons_self)) (fun cs x hr=>⟨n,hr⟩)) Qu⟩
theorem chunks_rec {F:Q2t} {w:World} : ∀ {l:List α} {ys:List Value},Q1N sz ((recR C kids sz one).p F w) ys l → ∃ n,Q1N sz ((recN C kids sz one n).p F w) ys l
 | [],ys,h=>⟨0,h⟩
 | x :: l,ys,⟨cs,rest,e1,e2,⟨n,e3⟩,e4⟩=>by
   obtain ⟨m,hm⟩:=chunks_rec e4
   exact ⟨max n m,cs,rest,e1,e2,recN_mono (Nat.le_max_left _ _) e3,hm.mono fun cs x _ hr=>recN_mono (Nat.le_max_right _ _) hr⟩
theorem Q7B {F:Q2t} {w:World} {x : α} {cs:List Value} (r:Option Addr × Nat) (hcs:cs = C x r) (h : ∀ φ ∈ ([.sli sz (recR C kids sz one) r.1 r.2 (kids x)] : List Fact),φ.p F w):(recR C kids sz one).p F w cs x:=by
 obtain ⟨p,n,c,xs,hv,hn,hc,hm,hx,hrow⟩:=(h (.sli sz (recR C kids sz one) r.1 r.2 (kids x)) List.mem_cons_self:Sli F w sz ((recR C kids sz one).p F w) (.slice r.1 (kids x).length r.2) (kids x))
 obtain ⟨m,hx⟩:=chunks_rec hx
 exact ⟨m + 1,r,hcs,Q14 (⟨p,n,c,xs,hv,hn,hc,hm,hx,hrow⟩ : Sli F w sz ((recN C kids sz one m).p F w) (.slice r.1 (kids x).length r.2) (kids x)) Qu⟩
end
section
variable {H:Type} {enc:TypeId × Value → H} {P:Program} {w:World} {base:Nat} {spare:Nat → Bool} {held:Bool} {fuel:Nat} {cs:List Value} {y:DataW H × List MemPlace}
theorem trod_fieldsN {t:TypeId} {fs:Array Field} (ht:P.underlying t = some (.struct fs)) (h:DataW.trod enc P w base spare held fuel t cs = some y) (hw:Q3d P t y.1) :
  ∃ n,fuel = n + 1 ∧ cs.length = P.cellsOf t ∧ ∀ (i:Nat) (f:Field),fs[i]? = some f → ∃ z,DataW.trod enc P w base spare held n f.type ((cs.drop f.offset).take (P.cellsOf f.type)) = some z ∧ Q3d P f.type z.1:=by
 obtain ⟨xs,n,hn,rfl,hl,hlen,hf⟩:=DataW.trod_struct ht h
 refine ⟨n,hn,hl,fun i f hi=>?_⟩
 have hlt:i < xs.length:=by rw [hlen]; exact (Array.getElem?_eq_some_iff.1 hi).1
 refine ⟨xs[i],by have:=hf i f hi; simpa [List.getElem?_eq_getElem hlt] using this,fun k hk=>hw k ?_⟩
 simp only [DataW.weights,ht]
 refine DataW.weights_mem_each (j:=i) (t:=f.type) (d:=xs[i].1) ?_ ?_ k hk
 · rw [List.getElem?_map,Array.getElem?_toList,hi]; rfl
 · rw [List.getElem?_map,List.getElem?_eq_getElem hlt]; rfl
theorem open_sliR {α:Type} {t e sz:Nat} {R:List Value → α → Prop} (ht:P.underlying t = some (.slice e)) (hC:P.cellsOf e = sz) (hz : 0 < sz)
  (hel : ∀ n,n < fuel → ∀ cs y,DataW.trod enc P w base spare held n e cs = some y → Q3d P e y.1 → ∃ a,R cs a) (h:DataW.trod enc P w base spare held fuel t cs = some y) (hw:Q3d P t y.1) :
  ∃ v l,cs = [v] ∧ Sli (fun k=>k < w.heap.size) w sz R v l ∧ l.length * P.bytesOf e ≤ reachBytes:=by
 rcases DataW.trod_slice ht h with ⟨rfl,_⟩ | ⟨a,len,cap,elems,rest,n,hfu,rfl,rfl,hb,hl,hm,hlen,hi,_,_⟩
 · exact ⟨_,[],rfl,Sli.nil,by simp⟩
 ·subst hC
  have hD : ∀ d ∈ elems,Q3d P e d.1:=fun d hd k hk=>hw k (by
   simp only [DataW.weights,ht,List.mem_cons,List.mem_append]
   exact .inr (.inl (Qa6 (d:=d.1) (List.mem_map.2 ⟨d,hd,rfl⟩) hk)))
  have hsz:len * P.bytesOf e ≤ reachBytes:=by
   have:=hw _ (by simp only [DataW.weights,ht]; exact List.mem_cons_self)
   simp only [List.length_map] at this
   exact Nat.le_trans (Nat.mul_le_mul_right _ (by omega)) this
  have key : ∀ k,k ≤ len → ∃ xs l,l.length = k ∧ Q1N (P.cellsOf e) R xs l ∧ ∀ j u,xs[j]? = some u → w.cell? (a.add j) = some u:=by
   intro k
   induction k with
   | zero=>intro _; exact ⟨[],[],rfl,rfl,by simp⟩
   | succ k ih =>
     intro hk
     obtain ⟨xs,l,hl',hx,hc⟩:=ih (by omega)
     have hki:=hi k (by omega)
     rw [List.getElem?_eq_getElem (by omega:k < elems.length)] at hki
     obtain ⟨cs',h1,h2⟩:=Option.bind_eq_some_iff.1 hki
     obtain ⟨_,hlen2,hat⟩:=World.cells?_some h1
     obtain ⟨y,hy⟩:=hel n (by omega) _ _ h2 (hD _ (List.getElem_mem _))
     refine ⟨xs ++ cs',l ++ [y],by simp [hl'],hx.append (Q1N.one hy hlen2),fun j u hj=>?_⟩
     have hxl:=hx.length
     rw [hl'] at hxl
     by_cases hjl:j < xs.length
     · rw [List.getElem?_append_left hjl] at hj; exact hc j u hj
     ·rw [List.getElem?_append_right (by omega)] at hj
      have h3:=(List.getElem?_eq_some_iff.1 hj).1
      have:=hat (j - xs.length) (by omega)
      rw [hj,Go.Deep.add_add] at this
      rw [← this]; congr 2; omega
  obtain ⟨xs,l,hl',hx,hc⟩:=key len (Nat.le_refl _)
  refine ⟨_,l,rfl,⟨some a,len,cap,xs,rfl,hl'.symm,hl,hm,hx,fun h0=>?_⟩,by rw [hl']; exact hsz⟩
  have h1 : 0 < xs.length:=by rw [hx.length,hl']; exact Nat.mul_pos h0 hz
  have h2:=hc 0 _ (List.getElem?_eq_getElem h1)
  have h3:a.add 0 = a:=rfl
  rw [h3] at h2
  have hsp:a = ⟨a.block,a.off,none⟩:=by
   rcases a with ⟨b,o,s⟩
   cases s with
   | none=>rfl
   | some s =>
     exfalso
     simp only [World.cell?] at h2
     split at h2 <;> simp at h2
  have hlt:=World.block_lt_of_cell? w a h2
  refine ⟨a.block,a.off,by rw [← hsp],hlt,fun j u hj=>?_⟩
  have:=hc j u hj
  rw [hsp,Q71] at this
  exact this
theorem open_listR {α:Type} {t e sz:Nat} {R:Rep α} {q : α → Prop} (ht:P.underlying t = some (.slice e)) (hC:P.cellsOf e = sz) (hz : 0 < sz)
  (hel : ∀ n,n < fuel → ∀ cs y,DataW.trod enc P w base spare held n e cs = some y → Q3d P e y.1 → ∃ a,R.p (fun k=>k < w.heap.size) w cs a ∧ q a) {us:List Value} (h:DataW.trod enc P w base spare held fuel t us = some y) (hw:Q3d P t y.1) :
  ∃ (p:Option Addr) (c:Nat) (l:List α),us = [.slice p l.length c] ∧ (Fact.sli sz R p c l).p (fun k=>k < w.heap.size) w ∧ l.length * P.bytesOf e ≤ reachBytes ∧ ∀ x ∈ l,q x:=by
 obtain ⟨v,l,e1,hs,hsz⟩:=open_sliR (R:=fun cs x=>R.p (fun k=>k < w.heap.size) w cs x ∧ q x) ht hC hz hel h hw
 subst e1
 obtain ⟨p,n,c,xs,e2,hn,hc,hm,hch,hrow⟩:=hs
 subst hn; subst e2
 obtain ⟨h1,h2⟩:=Q1N.pure hch
 exact ⟨p,c,l,rfl,⟨p,l.length,c,xs,rfl,rfl,hc,hm,h1,hrow⟩,hsz,h2⟩
end
end Go.Proofs.YtbgodclhmgmcgaaGreatDoor
