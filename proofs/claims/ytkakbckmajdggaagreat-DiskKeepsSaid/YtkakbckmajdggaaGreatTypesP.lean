import Derived.Test.YtkakbckmajdggaaGreatTypes
import Derived.Test.YtkakbckmajdggaaGreatStr
namespace Go.Proofs.YtkakbckmajdggaaGreat
theorem tI_3 : tInt Tryz.prog 3 = some .i64 := by kernel_rfl
theorem tI_5 : tInt Tryz.prog 5 = some .u8 := by kernel_rfl
theorem tT_9 : tStr Tryz.prog 9 = true := by kernel_rfl
theorem tQ_24 : tPtr Tryz.prog 24 = some 45 := by kernel_rfl
theorem tI_92 : tInt Tryz.prog 92 = some .u64 := by kernel_rfl
end Go.Proofs.YtkakbckmajdggaaGreat
