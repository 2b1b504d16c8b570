/- PROVED: ropewalklaw13.ReteOrders answers true whatever its input is, never panics, and leaves its input as it was. Conditions: those of the given statement, and no other. -/
import Derived.Test.YtocfkfhdcnjklaaGreatDoorReteOrdersLawA
import Derived.Test.YtocfkfhdcnjklaaGreatDoorReteOrdersLawR
namespace Go.Proofs.YtocfkfhdcnjklaaGreatDoor
open Go.ChangeShapes Go.WideShapes Go.ChangeAt
theorem uX:Rows.ReteOrdersSaid:=
 OpenClaim.holds_of_wide 6 Tryz.f6 rfl rfl rfl rfl rfl rfl rfl ⟨rfl,rfl,rfl,rfl,rfl⟩ rfl rfl rfl rfl rfl (by as_aux_lemma=>kernel_rfl) Tryz.func6 FI
  (of_decide_eq_true (by as_aux_lemma=>kernel_rfl)) (by unfold Func.isWrapper;first|(rw[if_pos (by decide+kernel)];kernel_rfl)|(rw[if_neg (by decide+kernel)];exact⟨rfl,rfl⟩))
  (λos started H enc _=>oQ os started H enc)
theorem rete_orders:Rows.ReteOrdersCardSaid:=
 Claim7.holds_tied_plain_at .later [] [.data,.data,.data,.data,.pinned] true (true,"ee92048d643bc1be72006fc38120d827e112d8b7b666b90b7b572fefd3d13a0a") true
  uX (λ_ h=>by cases h) (by as_aux_lemma=>kernel_rfl) (λ_ h=>by cases h) reteOrders_row_tie rfl ⟨rfl,rfl⟩ (by as_aux_lemma=>kernel_rfl) rfl
  (fun f fn hf kS=>by
   obtain rfl:f=6:=Option.some.inj ((show Tryz.prog.funcNamed "ropewalk/ropewalklaw13.ReteOrders" =some 6 by as_aux_lemma=>kernel_rfl).symm.trans hf) |>.symm;obtain rfl:fn=Tryz.f6:=(Option.some.inj (Tryz.func6.symm.trans kS)).symm
   exact ⟨by as_aux_lemma=>kernel_rfl,λj t U=>by
    rw[Tryz.params6]at U;have hm:t∈[25,50,50,3]:=by simpa using Array.mem_of_getElem? U
    have fe:([25,50,50,3].all λu=>!Tryz.prog.wantsStandIn u)=true:=by as_aux_lemma=>kernel_rfl
    exact(show Tryz.prog.wantsStandIn t=false by simpa using List.all_eq_true.1 fe t hm)⟩)
  (by as_aux_lemma=>kernel_rfl)
#print axioms rete_orders
end Go.Proofs.YtocfkfhdcnjklaaGreatDoor
