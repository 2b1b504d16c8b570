import Derived.Test.YtighbinghbnjhaaGreatTypes
import Derived.Test.YtighbinghbnjhaaGreatAuto
namespace Go.Proofs.YtighbinghbnjhaaGreat
theorem tQ_33:tPtr Tryz.prog 33 = some 65:=by kernel_rfl
end Go.Proofs.YtighbinghbnjhaaGreat
