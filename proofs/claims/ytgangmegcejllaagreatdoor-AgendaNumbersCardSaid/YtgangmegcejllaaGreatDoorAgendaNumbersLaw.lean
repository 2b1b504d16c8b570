import Derived.Test.YtgangmegcejllaaGreatDoorRows
import Derived.Test.YtgangmegcejllaaGreatDoorCards
import Derived.Test.YtgangmegcejllaaGreatDoorTie
import Derived.SizedLaws
import Derived.ProofKit
import Derived.LaidMore
import Derived.OpenShut
import Derived.Stop.Joined
import Derived.SevenTiedAt
import Derived.Test.YtgangmegcejllaaGreatDoorXW10
import Derived.Test.YtgangmegcejllaaGreatDoorAgNumK
namespace Go.Proofs.YtgangmegcejllaaGreatDoor
open Go.ChangeShapes Go.WideShapes Go.ChangeAt Go.RowKit Go.Deep
theorem law_own:ownKnob Tryz.prog.godebug = none:=by kernel_rfl
theorem law_laid:laidOutB Tryz.prog = true:=by kernel_rfl
theorem door_met (os:Os) (args:Array Value):laidMetH Tryz.prog Rows.agendaNumbersRow.laid ((World.doorLaid Tryz.prog 4000 os).forCall (fun _ _=>0) ⟨#[],args,[]⟩).memory :=
 laidMetH_of_parts3 (fuel:=8) (laidMet_of_run' 8 (by kernel_rfl) (by kernel_rfl)) (by kernel_rfl) (by kernel_rfl)
set_option maxRecDepth 100000 in
theorem agendaNumbers_lifted (os:Os) (started:os.Started) (H:Type) (enc:TypeId × Value → H) :
  ReturnsInHanded {} Tryz.checked os 4 .any (fun w args => (Rows.agendaNumbersSpec.pre enc Tryz.prog Tryz.f4 [] false w args ∧ laidMetH Tryz.prog Rows.agendaNumbersRow.laid w) ∧ sizedMet enc Tryz.prog Tryz.f4 (OpenSpec.ofChange Rows.agendaNumbersSpec) false w args)
   (Rows.agendaNumbersSpec.post enc Tryz.prog Tryz.f4 false true false false):=by
 refine returnsInHanded_of_change_and (C := Tryz.checked) (X := fun w _ => laidMetH Tryz.prog Rows.agendaNumbersRow.laid w) (fun _ _ _ hh h => h.of_heap hh) law_own started (by kernel_rfl) Tryz.func4
  (ChangeSpec.witness_shaped (enc:=enc) (C:=Tryz.checked) (os:=os) (X:=fun w _=>laidMetH Tryz.prog Rows.agendaNumbersRow.laid w) false (World.doorLaid Tryz.prog 4000 os) #[] 8 rfl (World.shaped_of_RefB (by kernel_rfl) (by kernel_rfl)) (by kernel_rfl) (by kernel_rfl) (by kernel_rfl) (door_met os _)) ?_
 intro W base args ds gs before hval0 hW hcnd hsz0 hL _
 have hval : ∀ (j:Nat) t v,Tryz.f4.params[j]? = some t → args[j]? = some v → Value.okWide Tryz.prog W .any base t v:=hval0
 have hW':=hW
 obtain ⟨p,q,hA0,hV,rfl,hfz,hnd⟩:=hW
 have hA:DataW.TrodAll enc Tryz.prog W 0 (fun _=>true) true Tryz.f4.params.toList args.toList ds p:=hA0
 have hsz:(DataW.weightsEach Tryz.prog (Tryz.f4.params.toList ++ _) (ds ++ gs)).all (· ≤ reachBytes) = true:=hsz0
 rw [Tryz.params4] at hA hval hsz
 clear hA0 hval0 hsz0
 obtain ⟨args⟩:=args
 obtain ⟨e0,rfl,rfl⟩:=trodAll_nil hA
 simp only at e0
 subst e0
 obtain ⟨rfl,rfl⟩:=trodVars_none hV
 have hfil:=(laidMetH_iff.1 hL).1.filter (fun x=>x.1 == "internal/strconv.uint64pow10")
 have efil:((Rows.agendaNumbersRow.laid.filter fun x=>x.2.handleName?.isNone).filter fun x=>x.1 == "internal/strconv.uint64pow10") = [("internal/strconv.uint64pow10",Lib.tabData .u64 Lib.pow10Tab)]:=by kernel_rfl
 rw [efil] at hfil
 have htab:Lib.TabIs Tryz.prog W "internal/strconv.uint64pow10" .u64 Lib.pow10Tab:=Lib.tabIs_of_head (t:=332) (e:=163) (n:=20) pow10_g (by kernel_rfl) (by kernel_rfl) (by kernel_rfl) (by kernel_rfl) (by kernel_rfl) hfil
 have hcall:=spec_calls (Q8n 9223372036854776808 agnum_arg) (w:=W) (Qe (tabF_of htab) Ql)
 refine hcall.mono fun e W' ⟨he,hm⟩=>?_
 subst he
 have hb:Below W.heap.size W W':=hm.to_below (Nat.le_refl _) (fun _ h=>h.elim)
 refine ⟨_,rfl,law_post law_laid ?_ rfl Tryz.underlying4 rfl hW' rfl rfl rfl hb⟩
 rw [Tryz.params4]
 intro t ht
 cases ht
theorem agendaNumbers_row:Rows.AgendaNumbersSaid :=
 OpenClaim.holds_of_wide 4 Tryz.f4 rfl rfl rfl rfl rfl rfl rfl ⟨rfl, rfl, rfl, rfl, rfl⟩ rfl rfl rfl rfl rfl (by kernel_rfl) Tryz.func4 (by kernel_rfl)
  (of_decide_eq_true (by kernel_rfl)) (by unfold Func.isWrapper; first | (rw [if_pos (by decide +kernel)]; kernel_rfl) | (rw [if_neg (by decide +kernel)]; exact ⟨rfl,rfl⟩))
  (fun os started H enc _=>agendaNumbers_lifted os started H enc)
theorem agenda_numbers:Rows.AgendaNumbersCardSaid :=
 Claim7.holds_tied_plain_at .later [] [.data,.data,.data] true (true,"dc8217bd6819ecd668e8d2e7ab6a3bcf24b62d3b312f3cba4077581d8b3217ab") false
  agendaNumbers_row (fun _ h=>by cases h) (by kernel_rfl) (fun _ h=>by cases h) agendaNumbers_row_tie rfl ⟨rfl,rfl⟩ (by kernel_rfl) rfl
  (fun f fn hf hfn=>by
   obtain rfl:f = 4:=Option.some.inj ((show Tryz.prog.funcNamed "ropewalk/ropewalklaw14.AgendaNumbers" = some 4 by kernel_rfl).symm.trans hf) |>.symm
   obtain rfl:fn = Tryz.f4:=(Option.some.inj (Tryz.func4.symm.trans hfn)).symm
   exact ⟨by kernel_rfl,fun j t ht=>by
    rw [Tryz.params4] at ht
    have hm:t ∈ []:=by simpa using Array.mem_of_getElem? ht
    have hall:([].all fun u=>!Tryz.prog.wantsStandIn u) = true:=by kernel_rfl
    exact (show Tryz.prog.wantsStandIn t = false by simpa using List.all_eq_true.1 hall t hm)⟩)
  (by kernel_rfl)
#print axioms agenda_numbers
end Go.Proofs.YtgangmegcejllaaGreatDoor
