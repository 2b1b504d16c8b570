import Derived.Test.YtocfkfhdcnjklaaGreatDoorReteNaiveLawA
import Derived.Test.YtocfkfhdcnjklaaGreatDoorReteNaiveLawR
namespace Go.Proofs.YtocfkfhdcnjklaaGreatDoor
open Go.ChangeShapes Go.WideShapes Go.ChangeAt
theorem xc:Rows.ReteNaiveSaid:=
 OpenClaim.holds_of_wide 8 Tryz.f8 rfl rfl rfl rfl rfl rfl rfl ⟨rfl,rfl,rfl,rfl,rfl⟩ rfl rfl rfl rfl rfl (by as_aux_lemma=>kernel_rfl) Tryz.func8 FK
  (of_decide_eq_true (by as_aux_lemma=>kernel_rfl)) (by unfold Func.isWrapper;first|(rw[if_pos (by decide+kernel)];kernel_rfl)|(rw[if_neg (by decide+kernel)];exact⟨rfl,rfl⟩))
  (λos started H enc _=>qB os started H enc)
end Go.Proofs.YtocfkfhdcnjklaaGreatDoor
