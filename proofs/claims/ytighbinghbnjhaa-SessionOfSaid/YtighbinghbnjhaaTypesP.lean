/- What the program says of its pointer types. -/
import Derived.Test.YtighbinghbnjhaaTypes
import Derived.Test.YtighbinghbnjhaaAuto
namespace Go.Proofs.Ytighbinghbnjhaa
theorem tQ_24 : tPtr Try.prog 24 = some 50 := by kernel_rfl
theorem tArr_44 : tArr Try.prog 44 = some 1 := by kernel_rfl
end Go.Proofs.Ytighbinghbnjhaa
