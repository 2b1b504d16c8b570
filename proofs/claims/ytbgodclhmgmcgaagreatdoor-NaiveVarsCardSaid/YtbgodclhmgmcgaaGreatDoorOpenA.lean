import Derived.Test.YtbgodclhmgmcgaaGreatDoorBase
import Derived.ProofKit
import Derived.OpenShut
import Derived.Deep.Slices
import Derived.Deep.Fields
import Derived.Test.YtbgodclhmgmcgaaGreatDoorLight
import Derived.Deep.Strs
import Derived.Lib.SmallJoins
import Derived.Test.YtbgodclhmgmcgaaGreatDoorAuto
import Derived.SizedLaws
namespace Go.Proofs.YtbgodclhmgmcgaaGreatDoor
open Go.RowKit Go.ChangeShapes Go.WideShapes Go.Deep
theorem QaQ {H:Type} {enc:TypeId × Value → H} {P:Program} (hl:laidOutB P = true) {W W' : World} (hb:Below W.heap.size W W') : ∀ {ts:List TypeId} {vs:List Value} {ds:List (DataW H)} {ps:List MemPlace},(∀ t ∈ ts,P.readableRec t = true ∧ t < P.types.size) →
   DataW.TrodAll enc P W 0 (fun _=>true) true ts vs ds ps → (∀ x ∈ ps,x.block < W.heap.size) → DataW.TrodAll enc P W' 0 (fun b=>decide (b < W.heap.size)) true ts vs ds ps
 | [],vs,ds,ps,_,h,_=>by
   cases vs with
   | nil=>cases ds with
     | nil=>exact h
     | cons d ds=>exact h
   | cons v vs=>cases ds <;> exact h
 | t :: ts,vs,ds,ps,ht,h,hlt=>by
   obtain ⟨v0,vs0,d0,ds0,p0,q0,rfl,rfl,rfl,h0,r0⟩:=trodAll_cons h
   exact trodAll_cons_mk (Below.trod hl (ht t (by simp)).1 (ht t (by simp)).2 h0 hb (fun x hx=>hlt x (by simp [hx]))) (QaQ hl hb (fun t h=>ht t (by simp [h])) r0 (fun x hx=>hlt x (by simp [hx])))
theorem law_post {H:Type} {enc:TypeId × Value → H} {P:Program} {f:Func} {s:ChangeSpec} {apart fresh handsOn:Bool} {W W' : World} {args:Array Value} {ds gs:List (DataW H)} {before:List MemPlace} {tb:TypeId}
  (hl:laidOutB P = true) (hr : ∀ t ∈ f.params.toList,P.readableRec t = true ∧ t < P.types.size) (hres:f.resultTypes = #[tb]) (htb:P.underlying tb = some .bool) (hv:s.vars = [])
  (hW:DataW.Whole enc P f.params.toList s.vars apart W args.toList ds gs before) (hfn:(s.fn H (ds ++ gs)).results = [.lit (.bool true)]) (hfa:(s.fn H (ds ++ gs)).args = ds) (hfv:(s.fn H (ds ++ gs)).vars = [])
  (hb:Below W.heap.size W W'):s.post enc P f apart fresh handsOn false W args (.bool true) W':=by
 have hW':=hW
 obtain ⟨p,q,hA,hV,rfl,hfz,hnd⟩:=hW
 rw [hv] at hV
 obtain ⟨rfl,rfl⟩:=trodVars_none hV
 refine ⟨ds,[],p ++ [],[],p ++ [],[],hW',?_,?_,?_,hb.frame _,fun h=>by cases h⟩
 ·rw [hfn,hres]
  exact trodAll_mk1 (shut_bool htb true)
 ·rw [hfa,List.append_nil]
  exact QaQ hl hb hr hA (fun x hx=>hW'.lt x (by simpa using hx))
 · rw [hfv,hv]; rfl
end Go.Proofs.YtbgodclhmgmcgaaGreatDoor
namespace Go.Proofs.YtbgodclhmgmcgaaGreatDoor
open Go.RowKit Go.Deep
theorem okWide_agg {P:Program} {w:World} {r:Reach} {base t:Nat} {v:Value} {fs:Array Field} (ht:P.underlying t = some (.struct fs)) (h:Value.okWide P w r base t v) : ∃ cs,v = .agg cs:=by
 unfold Value.okWide at h
 rw [ht] at h
 obtain ⟨cs,h1,_⟩:=h
 exact ⟨cs,h1⟩
theorem okWide_sl {P:Program} {w:World} {r:Reach} {base t e:Nat} {v:Value} (ht:P.underlying t = some (.slice e)) (h:Value.okWide P w r base t v):v.cells.toList = [v]:=by
 unfold Value.okWide at h
 rw [ht] at h
 unfold Cell.okWide at h
 rw [ht] at h
 unfold Cell.ok at h
 rw [ht] at h
 cases v <;> first | rfl | (simp at h)
theorem spec_calls {P : Program} {f : FuncId} {args : List Value} {Φ : List Fact} {v : Value} {w : World} (h : Q1d P f args Φ [] (fun u Φr Hr => u = v ∧ Φr = [] ∧ Hr = [])) (hΦ : ∀ φ ∈ Φ, φ.p (fun k => k < w.heap.size) w) :
  Calls P f args.toArray w fun e w'=>e = .returned v ∧ Mod (fun _=>False) w w':=by
 refine Calls.mono (h (fun k=>k < w.heap.size) (fun _ _=>False) w (fun _ h=>h) hΦ (fun i x hx=>by simp at hx) (fun i k hi=>by simp at hi) (fun i j k hi=>by simp at hi)) fun e w' he=>?_
 obtain ⟨u,Φr,Hr,rfl,⟨rfl,_⟩,F,N,hm⟩:=he
 exact ⟨rfl,hm.mod.mono fun k _ hk=>by obtain ⟨i,hi,_⟩:=hk; simp at hi⟩
end Go.Proofs.YtbgodclhmgmcgaaGreatDoor
namespace Go.Proofs.YtbgodclhmgmcgaaGreatDoor
open Go Go.RowKit Go.Deep
theorem wf_inK {k:IntKind} {n:Int} (h:(Lit.int k n).wf = true):inK k n:=by
 simp only [Lit.wf,Bool.and_eq_true,decide_eq_true_eq] at h
 exact h
theorem inK_i64 {x:Int} (h:inK .i64 x) : -9223372036854775808 ≤ x ∧ x ≤ 9223372036854775807:=by
 have e1:IntKind.min .i64 = -9223372036854775808:=by decide
 have e2:IntKind.max .i64 = 9223372036854775807:=by decide
 unfold inK at h; rwa [e1,e2] at h
section
variable {H:Type} {enc:TypeId × Value → H} {P:Program} {w:World} {base:Nat} {spare:Nat → Bool} {held:Bool} {fuel:Nat} {cs:List Value} {y:DataW H × List MemPlace}
def Q2U (P:Program) (t:TypeId) (d:DataW H):Prop:=∀ n ∈ d.weights P t,n ≤ reachBytes
theorem Q8q {e:TypeId} {n:Nat} : ∀ {ds:List (DataW H)} {d:DataW H},d ∈ ds → n ∈ d.weights P e → n ∈ DataW.weightsAll P e ds
 | d0 :: ds,d,hd,hn=>by
   simp only [DataW.weightsAll,List.mem_append]
   rcases List.mem_cons.1 hd with rfl | hd
   · exact .inl hn
   · exact .inr (Q8q hd hn)
theorem Q5j {t:TypeId} {fs:Array Field} (ht:P.underlying t = some (.struct fs)) (h:DataW.trod enc P w base spare held fuel t cs = some y) (hw:Q2U P t y.1) :
  ∃ n,cs.length = P.cellsOf t ∧ ∀ (i:Nat) (f:Field),fs[i]? = some f → ∃ z,DataW.trod enc P w base spare held n f.type ((cs.drop f.offset).take (P.cellsOf f.type)) = some z ∧ Q2U P f.type z.1:=by
 obtain ⟨xs,n,_,rfl,hl,hlen,hf⟩:=DataW.trod_struct ht h
 refine ⟨n,hl,fun i f hi=>?_⟩
 have hlt:i < xs.length:=by rw [hlen]; exact (Array.getElem?_eq_some_iff.1 hi).1
 refine ⟨xs[i],by have:=hf i f hi; simpa [List.getElem?_eq_getElem hlt] using this,fun k hk=>hw k ?_⟩
 simp only [DataW.weights,ht]
 refine DataW.weights_mem_each (j:=i) (t:=f.type) (d:=xs[i].1) ?_ ?_ k hk
 · rw [List.getElem?_map,Array.getElem?_toList,hi]; rfl
 · rw [List.getElem?_map,List.getElem?_eq_getElem hlt]; rfl
theorem Q1C.pure {α : Type} {sz : Nat} {R : List Value → α → Prop} {q : α → Prop} : ∀ {l : List α} {xs : List Value}, Q1C sz (fun cs x => R cs x ∧ q x) xs l → Q1C sz R xs l ∧ ∀ x ∈ l, q x
 | [],xs,h=>⟨h,by simp⟩
 | x :: l,xs,⟨cs,rest,h1,h2,h3,h4⟩=>by
   obtain ⟨h5,h6⟩:=Q1C.pure h4
   refine ⟨⟨cs,rest,h1,h2,h3.1,h5⟩,fun z hz=>?_⟩
   rcases List.mem_cons.1 hz with rfl | hz
   · exact h3.2
   · exact h6 z hz
theorem open_sliW {α:Type} {t e sz:Nat} {R:List Value → α → Prop} (ht:P.underlying t = some (.slice e)) (hC:P.cellsOf e = sz) (hz : 0 < sz)
  (hel : ∀ n cs y,DataW.trod enc P w base spare held n e cs = some y → Q2U P e y.1 → ∃ a,R cs a) (h:DataW.trod enc P w base spare held fuel t cs = some y) (hw:Q2U P t y.1) :
  ∃ v l,cs = [v] ∧ Sli (fun k=>k < w.heap.size) w sz R v l ∧ l.length * P.bytesOf e ≤ reachBytes:=by
 rcases open_slice ht h with ⟨rfl,_⟩ | ⟨a,len,cap,m,n,D,Pl,rfl,hb,hl,hm,hmm,rfl,hi⟩
 · exact ⟨_,[],rfl,Sli.nil,by simp⟩
 ·subst hC
  have hle:len ≤ m:=by rw [hmm]; split <;> omega
  have hD : ∀ i,i < len → Q2U P e (D i):=fun i hlt k hk=>hw k (by
   simp only [DataW.weights,ht,List.mem_cons,List.mem_append]
   exact .inr (.inl (Q8q (d:=D i) (List.mem_map.2 ⟨i,List.mem_range.2 hlt,rfl⟩) hk)))
  have hsz:len * P.bytesOf e ≤ reachBytes:=by
   have:=hw _ (by simp only [DataW.weights,ht]; exact List.mem_cons_self)
   simp only [List.length_map,List.length_range] at this
   exact Nat.le_trans (Nat.mul_le_mul_right _ (by omega)) this
  have key : ∀ k,k ≤ len → ∃ xs l,l.length = k ∧ Q1C (P.cellsOf e) R xs l ∧ ∀ j u,xs[j]? = some u → w.cell? (a.add j) = some u:=by
   intro k
   induction k with
   | zero=>intro _; exact ⟨[],[],rfl,rfl,by simp⟩
   | succ k ih =>
     intro hk
     obtain ⟨xs,l,hl',hx,hc⟩:=ih (by omega)
     obtain ⟨cs',h1,h2⟩:=hi k (by omega)
     obtain ⟨_,hlen,hat⟩:=World.cells?_some h1
     obtain ⟨y,hy⟩:=hel _ _ _ h2 (hD k (by omega))
     refine ⟨xs ++ cs',l ++ [y],by simp [hl'],hx.append (Q1C.one hy hlen),fun j u hj=>?_⟩
     have hxl:=hx.length
     rw [hl'] at hxl
     by_cases hjl:j < xs.length
     · rw [List.getElem?_append_left hjl] at hj; exact hc j u hj
     ·rw [List.getElem?_append_right (by omega)] at hj
      have h3:=(List.getElem?_eq_some_iff.1 hj).1
      have:=hat (j - xs.length) (by omega)
      rw [hj,Go.Deep.add_add] at this
      rw [← this]; congr 2; omega
  obtain ⟨xs,l,hl',hx,hc⟩:=key len (Nat.le_refl _)
  refine ⟨_,l,rfl,⟨some a,len,cap,xs,rfl,hl'.symm,hl,hm,hx,fun h0=>?_⟩,by rw [hl']; exact hsz⟩
  have h1 : 0 < xs.length:=by rw [hx.length,hl']; exact Nat.mul_pos h0 hz
  have h2:=hc 0 _ (List.getElem?_eq_getElem h1)
  have h3:a.add 0 = a:=rfl
  rw [h3] at h2
  have hsp:a = ⟨a.block,a.off,none⟩:=by
   rcases a with ⟨b,o,s⟩
   cases s with
   | none=>rfl
   | some s =>
     exfalso
     simp only [World.cell?] at h2
     split at h2 <;> simp at h2
  have hlt:=World.block_lt_of_cell? w a h2
  refine ⟨a.block,a.off,by rw [← hsp],hlt,fun j u hj=>?_⟩
  have:=hc j u hj
  rw [hsp,Q4v] at this
  exact this
theorem Q5Q {α:Type} {t e sz:Nat} {R:Rep α} {q : α → Prop} (ht:P.underlying t = some (.slice e)) (hC:P.cellsOf e = sz) (hz : 0 < sz)
  (hel : ∀ n cs y,DataW.trod enc P w base spare held n e cs = some y → Q2U P e y.1 → ∃ a,R.p (fun k=>k < w.heap.size) w cs a ∧ q a) {us:List Value} (h:DataW.trod enc P w base spare held fuel t us = some y) (hw:Q2U P t y.1) :
  ∃ (p:Option Addr) (c:Nat) (l:List α),us = [.slice p l.length c] ∧ (Fact.sli sz R p c l).p (fun k=>k < w.heap.size) w ∧ l.length * P.bytesOf e ≤ reachBytes ∧ ∀ x ∈ l,q x:=by
 obtain ⟨v,l,e1,hs,hsz⟩:=open_sliW (R:=fun cs x=>R.p (fun k=>k < w.heap.size) w cs x ∧ q x) ht hC hz hel h hw
 subst e1
 obtain ⟨p,n,c,xs,e2,hn,hc,hm,hch,hrow⟩:=hs
 subst hn; subst e2
 obtain ⟨h1,h2⟩:=Q1C.pure hch
 exact ⟨p,c,l,rfl,⟨p,l.length,c,xs,rfl,rfl,hc,hm,h1,hrow⟩,hsz,h2⟩
theorem Q4E {n b k r m:Nat} (h:n * b ≤ r) (hb:b = k) (hr:r = 140737488351232) (hk : 0 < k) (hm : 140737488351232 / k = m):n ≤ m:=by
 subst hb; subst hr; subst hm
 exact (Nat.le_div_iff_mul_le hk).2 h
theorem fits_arg {ts:List TypeId} {ds:List (DataW H)} (h:(DataW.weightsEach P ts ds).all (· ≤ reachBytes) = true) (j:Nat) {t:TypeId} {d:DataW H} (ht:ts[j]? = some t) (hd:ds[j]? = some d):Q2U P t d:=fun n hn=>by
 have:=List.all_eq_true.1 h n (DataW.weights_mem_each ht hd n hn)
 simpa using this
theorem fits_str {t:TypeId} {s:ByteArray} (h:Q2U P t (.lit (.string s.data.toList):DataW H)):s.size ≤ reachBytes:=by
 have:=h s.data.toList.length (by simp [DataW.weights])
 simpa using this
theorem okWide_one {r:Reach} {b t:Nat} {v:Value} {k:IntKind} (ht:P.underlying t = some (.int k)) (h:Value.okWide P w r b t v):v.cells.toList = [v]:=by
 unfold Value.okWide at h
 rw [ht] at h
 unfold Cell.okWide at h
 rw [ht] at h
 unfold Cell.ok at h
 rw [ht] at h
 cases v <;> first | rfl | (simp at h)
end
end Go.Proofs.YtbgodclhmgmcgaaGreatDoor
