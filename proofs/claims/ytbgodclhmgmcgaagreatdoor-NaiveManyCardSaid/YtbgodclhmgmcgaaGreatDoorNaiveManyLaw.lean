import Derived.Test.YtbgodclhmgmcgaaGreatDoorRows
import Derived.Test.YtbgodclhmgmcgaaGreatDoorCards
import Derived.Test.YtbgodclhmgmcgaaGreatDoorTie
import Derived.ProofKit
import Derived.LaidMore
import Derived.OpenShut
import Derived.Stop.Joined
import Derived.SevenTiedAt
import Derived.Test.YtbgodclhmgmcgaaGreatDoorXW10
import Derived.Test.YtbgodclhmgmcgaaGreatDoorNaivManyP
namespace Go.Proofs.YtbgodclhmgmcgaaGreatDoor
open Go.ChangeShapes Go.WideShapes Go.ChangeAt Go.RowKit Go.Deep
set_option maxRecDepth 100000 in
theorem open_i64_3 {H:Type} {enc:TypeId × Value → H} {w:World} {base:Nat} {spare:Nat → Bool} {held:Bool} {fuel:Nat} {cs:List Value} {y:DataW H × List MemPlace} (h:DataW.trod enc Tryz.prog w base spare held fuel 3 cs = some y) (hw:Snug Tryz.prog 3 y.1) : ∃ x:Int,Q2i.p (fun k=>k < w.heap.size) w cs x ∧ inK .i64 x:=by
 obtain ⟨x,e,_,ok⟩:=DataW.trod_int Tryz.underlying3 h
 exact ⟨x,⟨(),e,Qr⟩,wf_inK ok⟩
theorem law_own:ownKnob Tryz.prog.godebug = none:=by kernel_rfl
theorem law_laid:laidOutB Tryz.prog = true:=by kernel_rfl
def pinCells:Array Value:=match Go.Pinned.utf8First with
 | .agg l=>(l.map fun d=>match d with | .lit (.int k n)=>Value.int k n | _=>.bool false).toArray
 | _=>#[]
noncomputable def pinW (os:Os):World:={ World.doorLaid Tryz.prog 4000 os with heap:=match Tryz.prog.globalNamed "unicode/utf8.first" with
 | some g=>match (((begin Tryz.prog (fun _ _=>0) default).world.heap[g]?).bind Obj.row?) with
   | some (_,t)=>(World.doorLaid Tryz.prog 4000 os).heap.setIfInBounds g (.cells pinCells t (0,0))
   | none=>#[]
 | none=>#[] }
theorem door_met (os:Os) (args:Array Value):laidMetH Tryz.prog Rows.naiveManyRow.laid ((pinW os).forCall (fun _ _=>0) ⟨#[],args,[]⟩).memory :=
 laidMetH_of_parts3 (fuel:=8) (laidMet_of_run' 8 (by kernel_rfl) (by kernel_rfl)) (by kernel_rfl) (by kernel_rfl)
set_option maxRecDepth 100000 in
theorem naiveMany_lifted (os:Os) (started:os.Started) (H:Type) (enc:TypeId × Value → H) :
  ReturnsInHanded {} Tryz.checked os 5 .any (fun w args => (Rows.naiveManySpec.pre enc Tryz.prog Tryz.f5 [] false w args ∧ laidMetH Tryz.prog Rows.naiveManyRow.laid w) ∧ sizedMet enc Tryz.prog Tryz.f5 (OpenSpec.ofChange Rows.naiveManySpec) false w args)
   (Rows.naiveManySpec.post enc Tryz.prog Tryz.f5 false true false false):=by
 refine returnsInHanded_of_change_and (C := Tryz.checked) (X := fun w _ => laidMetH Tryz.prog Rows.naiveManyRow.laid w) (fun _ _ _ hh h => h.of_heap hh) law_own started (by kernel_rfl) Tryz.func5
  (ChangeSpec.witness_shaped (enc:=enc) (C:=Tryz.checked) (os:=os) (X:=fun w _=>laidMetH Tryz.prog Rows.naiveManyRow.laid w) false (pinW os) #[.int .i64 0,.int .i64 0] 8 rfl (World.shaped_of_RefB (by kernel_rfl) (by kernel_rfl)) (by kernel_rfl) (by kernel_rfl) (by kernel_rfl) (door_met os _)) ?_
 intro W base args ds gs before hval0 hW hcnd hsz0 _ _
 have hval : ∀ (j:Nat) t v,Tryz.f5.params[j]? = some t → args[j]? = some v → Value.okWide Tryz.prog W .any base t v:=hval0
 have hW':=hW
 obtain ⟨p,q,hA0,hV,rfl,hfz,hnd⟩:=hW
 have hA:DataW.TrodAll enc Tryz.prog W 0 (fun _=>true) true Tryz.f5.params.toList args.toList ds p:=hA0
 have hsz:(DataW.weightsEach Tryz.prog (Tryz.f5.params.toList ++ _) (ds ++ gs)).all (· ≤ reachBytes) = true:=hsz0
 rw [Tryz.params5] at hA hval hsz
 clear hA0 hval0 hsz0
 obtain ⟨args⟩:=args
 obtain ⟨v0,r0,d0,s0,p0,q0,e0,rfl,rfl,⟨n0,h0⟩,hA⟩:=trodAll_cons hA
 obtain ⟨v1,r1,d1,s1,p1,q1,e1,rfl,rfl,⟨n1,h1⟩,hA⟩:=trodAll_cons hA
 obtain ⟨e2,rfl,rfl⟩:=trodAll_nil hA
 subst e2; subst e1
 simp only at e0
 subst e0
 obtain ⟨rfl,rfl⟩:=trodVars_none hV
 rw [okWide_one Tryz.underlying3 (hval 0 _ v0 rfl rfl)] at h0
 obtain ⟨x0,⟨r0,e,f0⟩,ok0⟩:=open_i64_3 h0 (fits_arg hsz 0 rfl rfl)
 simp only [C_i64,List.cons.injEq,and_true] at e
 subst e
 rw [okWide_one Tryz.underlying3 (hval 1 _ v1 rfl rfl)] at h1
 obtain ⟨x1,⟨r1,e,f1⟩,ok1⟩:=open_i64_3 h1 (fits_arg hsz 1 rfl rfl)
 simp only [C_i64,List.cons.injEq,and_true] at e
 subst e
 have hcall:=spec_calls (Q99 9223372036854776808 x0 x1 _ (naivmany_arg x0 ok0 x1 ok1)) (w:=W) Qr
 refine hcall.mono fun e W' ⟨he,hm⟩=>?_
 subst he
 have hb:Below W.heap.size W W':=hm.to_below (Nat.le_refl _) (fun _ h=>h.elim)
 refine ⟨_,rfl,law_post law_laid ?_ rfl Tryz.underlying4 rfl hW' rfl rfl rfl hb⟩
 rw [Tryz.params5]
 intro t ht
 simp only [List.mem_cons,List.not_mem_nil,or_false] at ht
 rcases ht with rfl | rfl <;> exact ⟨by kernel_rfl,of_decide_eq_true (by kernel_rfl)⟩
theorem naiveMany_row:Rows.NaiveManySaid :=
 OpenClaim.holds_of_wide 5 Tryz.f5 rfl rfl rfl rfl rfl rfl rfl ⟨rfl, rfl, rfl, rfl, rfl⟩ rfl rfl rfl rfl rfl (by kernel_rfl) Tryz.func5 (by kernel_rfl)
  (of_decide_eq_true (by kernel_rfl)) (by unfold Func.isWrapper; first | (rw [if_pos (by decide +kernel)]; kernel_rfl) | (rw [if_neg (by decide +kernel)]; exact ⟨rfl,rfl⟩))
  (fun os started H enc _=>naiveMany_lifted os started H enc)
theorem naive_many:Rows.NaiveManyCardSaid :=
 Claim7.holds_tied_plain_at .later [] [.data,.pinned] true (true,"33eaeb7a1da3363ff42a25bc84914ba91457d6427959cb463ee6324a42d66590") true
  naiveMany_row (fun _ h=>by cases h) (by kernel_rfl) (fun _ h=>by cases h) naiveMany_row_tie rfl ⟨rfl,rfl⟩ (by kernel_rfl) rfl
  (fun f fn hf hfn=>by
   obtain rfl:f = 5:=Option.some.inj ((show Tryz.prog.funcNamed "ropewalk/ropewalklaw12.NaiveMany" = some 5 by kernel_rfl).symm.trans hf) |>.symm
   obtain rfl:fn = Tryz.f5:=(Option.some.inj (Tryz.func5.symm.trans hfn)).symm
   exact ⟨by kernel_rfl,fun j t ht=>by
    rw [Tryz.params5] at ht
    have hm:t ∈ [3,3]:=by simpa using Array.mem_of_getElem? ht
    have hall:([3,3].all fun u=>!Tryz.prog.wantsStandIn u) = true:=by kernel_rfl
    exact (show Tryz.prog.wantsStandIn t = false by simpa using List.all_eq_true.1 hall t hm)⟩)
  (by kernel_rfl)
#print axioms naive_many
end Go.Proofs.YtbgodclhmgmcgaaGreatDoor
