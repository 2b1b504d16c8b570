import Derived.Test.YtegkmbkbaenkcaaGreatTypes
import Derived.Test.YtegkmbkbaenkcaaGreatStr
namespace Go.Proofs.YtegkmbkbaenkcaaGreat
theorem tI_3 : tInt Tryz.prog 3 = some .i64 := by kernel_rfl
theorem tI_5 : tInt Tryz.prog 5 = some .u8 := by kernel_rfl
theorem tQ_24 : tPtr Tryz.prog 24 = some 47 := by kernel_rfl
theorem tArr_51 : tArr Tryz.prog 51 = some 1 := by kernel_rfl
theorem tI_85 : tInt Tryz.prog 85 = some .u64 := by kernel_rfl
end Go.Proofs.YtegkmbkbaenkcaaGreat
