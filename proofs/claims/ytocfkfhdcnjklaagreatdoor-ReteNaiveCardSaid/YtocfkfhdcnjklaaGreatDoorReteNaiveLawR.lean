import Derived.Test.YtocfkfhdcnjklaaGreatDoorCards
import Derived.Test.YtocfkfhdcnjklaaGreatDoorTie
import Derived.ProofKit
import Derived.LaidMore
import Derived.OpenShut
import Derived.Stop.Joined
namespace Go.Proofs.YtocfkfhdcnjklaaGreatDoor
open Go.ChangeShapes Go.WideShapes Go.ChangeAt
set_option maxHeartbeats 4000000 in
set_option maxRecDepth 100000 in
theorem FK:joinedFacts Tryz.pinned.checked.prog 8 Tryz.f8 Rows.reteNaiveSpec Rows.reteNaiveRow=true:=by
 simp only[joinedFacts,Bool.and_eq_true];repeat' apply And.intro
 all_goals (as_aux_lemma=>kernel_rfl)
end Go.Proofs.YtocfkfhdcnjklaaGreatDoor
