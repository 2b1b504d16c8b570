import Derived.Test.YtbgodclhmgmcgaaGreatDoorBase
import Derived.ProofKit
import Derived.OpenShut
import Derived.Deep.Slices
import Derived.Deep.Fields
import Derived.Test.YtbgodclhmgmcgaaGreatDoorLight
import Derived.Deep.Strs
import Derived.Lib.SmallJoins
namespace Go.Proofs.YtbgodclhmgmcgaaGreatDoor
open Go.RowKit Go.ChangeShapes Go.WideShapes Go.Deep
theorem Qcs {H:Type} {enc:TypeId × Value → H} {P:Program} (hl:laidOutB P = true) {W W' : World} (hb:Below W.heap.size W W') : ∀ {ts:List TypeId} {vs:List Value} {ds:List (DataW H)} {ps:List MemPlace},(∀ t ∈ ts,P.readableRec t = true ∧ t < P.types.size) →
   DataW.TrodAll enc P W 0 (fun _=>true) true ts vs ds ps → (∀ x ∈ ps,x.block < W.heap.size) → DataW.TrodAll enc P W' 0 (fun b=>decide (b < W.heap.size)) true ts vs ds ps
 | [],vs,ds,ps,_,h,_=>by
   cases vs with
   | nil=>cases ds with
     | nil=>exact h
     | cons d ds=>exact h
   | cons v vs=>cases ds <;> exact h
 | t :: ts,vs,ds,ps,ht,h,hlt=>by
   obtain ⟨v0,vs0,d0,ds0,p0,q0,rfl,rfl,rfl,h0,r0⟩:=trodAll_cons h
   exact trodAll_cons_mk (Below.trod hl (ht t (by simp)).1 (ht t (by simp)).2 h0 hb (fun x hx=>hlt x (by simp [hx]))) (Qcs hl hb (fun t h=>ht t (by simp [h])) r0 (fun x hx=>hlt x (by simp [hx])))
theorem law_post {H:Type} {enc:TypeId × Value → H} {P:Program} {f:Func} {s:ChangeSpec} {apart fresh handsOn:Bool} {W W' : World} {args:Array Value} {ds gs:List (DataW H)} {before:List MemPlace} {tb:TypeId}
  (hl:laidOutB P = true) (hr : ∀ t ∈ f.params.toList,P.readableRec t = true ∧ t < P.types.size) (hres:f.resultTypes = #[tb]) (htb:P.underlying tb = some .bool) (hv:s.vars = [])
  (hW:DataW.Whole enc P f.params.toList s.vars apart W args.toList ds gs before) (hfn:(s.fn H (ds ++ gs)).results = [.lit (.bool true)]) (hfa:(s.fn H (ds ++ gs)).args = ds) (hfv:(s.fn H (ds ++ gs)).vars = [])
  (hb:Below W.heap.size W W'):s.post enc P f apart fresh handsOn false W args (.bool true) W':=by
 have hW':=hW
 obtain ⟨p,q,hA,hV,rfl,hfz,hnd⟩:=hW
 rw [hv] at hV
 obtain ⟨rfl,rfl⟩:=trodVars_none hV
 refine ⟨ds,[],p ++ [],[],p ++ [],[],hW',?_,?_,?_,hb.frame _,fun h=>by cases h⟩
 ·rw [hfn,hres]
  exact trodAll_mk1 (shut_bool htb true)
 ·rw [hfa,List.append_nil]
  exact Qcs hl hb hr hA (fun x hx=>hW'.lt x (by simpa using hx))
 · rw [hfv,hv]; rfl
end Go.Proofs.YtbgodclhmgmcgaaGreatDoor
namespace Go.Proofs.YtbgodclhmgmcgaaGreatDoor
open Go.RowKit Go.Deep
theorem okWide_agg {P:Program} {w:World} {r:Reach} {base t:Nat} {v:Value} {fs:Array Field} (ht:P.underlying t = some (.struct fs)) (h:Value.okWide P w r base t v) : ∃ cs,v = .agg cs:=by
 unfold Value.okWide at h
 rw [ht] at h
 obtain ⟨cs,h1,_⟩:=h
 exact ⟨cs,h1⟩
theorem okWide_sl {P:Program} {w:World} {r:Reach} {base t e:Nat} {v:Value} (ht:P.underlying t = some (.slice e)) (h:Value.okWide P w r base t v):v.cells.toList = [v]:=by
 unfold Value.okWide at h
 rw [ht] at h
 unfold Cell.okWide at h
 rw [ht] at h
 unfold Cell.ok at h
 rw [ht] at h
 cases v <;> first | rfl | (simp at h)
theorem spec_calls {P : Program} {f : FuncId} {args : List Value} {Φ : List Fact} {v : Value} {w : World} (h : Q17 P f args Φ [] (fun u Φr Hr => u = v ∧ Φr = [] ∧ Hr = [])) (hΦ : ∀ φ ∈ Φ, φ.p (fun k => k < w.heap.size) w) :
  Calls P f args.toArray w fun e w'=>e = .returned v ∧ Mod (fun _=>False) w w':=by
 refine Calls.mono (h (fun k=>k < w.heap.size) (fun _ _=>False) w (fun _ h=>h) hΦ (fun i x hx=>by simp at hx) (fun i k hi=>by simp at hi) (fun i j k hi=>by simp at hi)) fun e w' he=>?_
 obtain ⟨u,Φr,Hr,rfl,⟨rfl,_⟩,F,N,hm⟩:=he
 exact ⟨rfl,hm.mod.mono fun k _ hk=>by obtain ⟨i,hi,_⟩:=hk; simp at hi⟩
end Go.Proofs.YtbgodclhmgmcgaaGreatDoor
