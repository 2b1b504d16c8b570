/- PROVED: ropewalklaw13.ReteMany answers true whatever its input is, never panics, and leaves its input as it was. Conditions: those of the given statement, and no other. -/
import Derived.Test.YtocfkfhdcnjklaaGreatDoorReteManyLawA
import Derived.Test.YtocfkfhdcnjklaaGreatDoorReteManyLawR
namespace Go.Proofs.YtocfkfhdcnjklaaGreatDoor
open Go.ChangeShapes Go.WideShapes Go.ChangeAt
theorem yg:Rows.ReteManySaid:=
 OpenClaim.holds_of_wide 4 Tryz.f4 rfl rfl rfl rfl rfl rfl rfl ⟨rfl,rfl,rfl,rfl,rfl⟩ rfl rfl rfl rfl rfl (by as_aux_lemma=>kernel_rfl) Tryz.func4 DJ
  (of_decide_eq_true (by as_aux_lemma=>kernel_rfl)) (by unfold Func.isWrapper;first|(rw[if_pos (by decide+kernel)];kernel_rfl)|(rw[if_neg (by decide+kernel)];exact⟨rfl,rfl⟩))
  (λos started H enc _=>qp os started H enc)
theorem rete_many:Rows.ReteManyCardSaid:=
 Claim7.holds_tied_plain_at .later [] [.data,.data,.data,.data,.pinned] true (true,"ee92048d643bc1be72006fc38120d827e112d8b7b666b90b7b572fefd3d13a0a") true
  yg (λ_ h=>by cases h) (by as_aux_lemma=>kernel_rfl) (λ_ h=>by cases h) reteMany_row_tie rfl ⟨rfl,rfl⟩ (by as_aux_lemma=>kernel_rfl) rfl
  (fun f fn hf jq=>by
   obtain rfl:f=4:=Option.some.inj ((show Tryz.prog.funcNamed "ropewalk/ropewalklaw13.ReteMany" =some 4 by as_aux_lemma=>kernel_rfl).symm.trans hf) |>.symm;obtain rfl:fn=Tryz.f4:=(Option.some.inj (Tryz.func4.symm.trans jq)).symm
   exact ⟨by as_aux_lemma=>kernel_rfl,λj t U=>by
    rw[Tryz.params4]at U;have hm:t∈[3,3]:=by simpa using Array.mem_of_getElem? U
    have ef:([3,3].all λu=>!Tryz.prog.wantsStandIn u)=true:=by as_aux_lemma=>kernel_rfl
    exact(show Tryz.prog.wantsStandIn t=false by simpa using List.all_eq_true.1 ef t hm)⟩)
  (by as_aux_lemma=>kernel_rfl)
#print axioms rete_many
end Go.Proofs.YtocfkfhdcnjklaaGreatDoor
