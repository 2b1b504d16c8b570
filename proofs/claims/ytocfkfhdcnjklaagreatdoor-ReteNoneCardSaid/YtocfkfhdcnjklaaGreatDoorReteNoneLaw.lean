/- PROVED: ropewalklaw13.ReteNone answers true whatever its input is, never panics, and leaves its input as it was. Conditions: those of the given statement, and no other. -/
import Derived.Test.YtocfkfhdcnjklaaGreatDoorReteNoneLawA
import Derived.Test.YtocfkfhdcnjklaaGreatDoorReteNoneLawR
namespace Go.Proofs.YtocfkfhdcnjklaaGreatDoor
open Go.ChangeShapes Go.WideShapes Go.ChangeAt
theorem xY:Rows.ReteNoneSaid:=
 OpenClaim.holds_of_wide 5 Tryz.f5 rfl rfl rfl rfl rfl rfl rfl ⟨rfl,rfl,rfl,rfl,rfl⟩ rfl rfl rfl rfl rfl (by as_aux_lemma=>kernel_rfl) Tryz.func5 Dr
  (of_decide_eq_true (by as_aux_lemma=>kernel_rfl)) (by unfold Func.isWrapper;first|(rw[if_pos (by decide+kernel)];kernel_rfl)|(rw[if_neg (by decide+kernel)];exact⟨rfl,rfl⟩))
  (λos started H enc _=>qe os started H enc)
theorem rete_none:Rows.ReteNoneCardSaid:=
 Claim7.holds_tied_plain_at .later [] [.data,.data,.data,.data,.pinned] true (true,"ee92048d643bc1be72006fc38120d827e112d8b7b666b90b7b572fefd3d13a0a") true
  xY (λ_ h=>by cases h) (by as_aux_lemma=>kernel_rfl) (λ_ h=>by cases h) reteNone_row_tie rfl ⟨rfl,rfl⟩ (by as_aux_lemma=>kernel_rfl) rfl
  (fun f fn hf ji=>by
   obtain rfl:f=5:=Option.some.inj ((show Tryz.prog.funcNamed "ropewalk/ropewalklaw13.ReteNone" =some 5 by as_aux_lemma=>kernel_rfl).symm.trans hf) |>.symm;obtain rfl:fn=Tryz.f5:=(Option.some.inj (Tryz.func5.symm.trans ji)).symm
   exact ⟨by as_aux_lemma=>kernel_rfl,λj t U=>by
    rw[Tryz.params5]at U;have hm:t∈[40]:=by simpa using Array.mem_of_getElem? U
    have ej:([40].all λu=>!Tryz.prog.wantsStandIn u)=true:=by as_aux_lemma=>kernel_rfl
    exact(show Tryz.prog.wantsStandIn t=false by simpa using List.all_eq_true.1 ej t hm)⟩)
  (by as_aux_lemma=>kernel_rfl)
#print axioms rete_none
end Go.Proofs.YtocfkfhdcnjklaaGreatDoor
