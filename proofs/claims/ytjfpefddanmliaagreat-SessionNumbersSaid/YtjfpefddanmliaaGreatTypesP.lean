import Derived.Test.YtjfpefddanmliaaGreatTypes
import Derived.Test.YtjfpefddanmliaaGreatAuto
namespace Go.Proofs.YtjfpefddanmliaaGreat
theorem tQ_38:tPtr Tryz.prog 38 = some 65:=by kernel_rfl
end Go.Proofs.YtjfpefddanmliaaGreat
