/- What the program says of its pointer types. -/
import Derived.Test.YtdnolbmbmncefaaDoorTypes
import Derived.Test.YtdnolbmbmncefaaDoorStr
namespace Go.Proofs.YtdnolbmbmncefaaDoor
theorem tI_2 : tInt Tryd.prog 2 = some .i64 := by kernel_rfl
theorem tI_3 : tInt Tryd.prog 3 = some .i64 := by kernel_rfl
theorem tI_5 : tInt Tryd.prog 5 = some .u8 := by kernel_rfl
theorem tT_9 : tStr Tryd.prog 9 = true := by kernel_rfl
theorem tI_21 : tInt Tryd.prog 21 = some .i32 := by kernel_rfl
theorem tQ_24 : tPtr Tryd.prog 24 = some 60 := by kernel_rfl
theorem tI_29 : tInt Tryd.prog 29 = some .i64 := by kernel_rfl
theorem tI_53 : tInt Tryd.prog 53 = some .u8 := by kernel_rfl
theorem tI_75 : tInt Tryd.prog 75 = some .u64 := by kernel_rfl
theorem tAE_81 : tArrE Tryd.prog 81 = some (256, 4) := by kernel_rfl
theorem tArr_81 : tArr Tryd.prog 81 = some 1 := by kernel_rfl
theorem tQ_85 : tPtr Tryd.prog 85 = some 81 := by kernel_rfl
theorem tAE_91 : tArrE Tryd.prog 91 = some (256, 5) := by kernel_rfl
theorem tArr_91 : tArr Tryd.prog 91 = some 1 := by kernel_rfl
theorem tAE_94 : tArrE Tryd.prog 94 = some (16, 93) := by kernel_rfl
theorem tArr_94 : tArr Tryd.prog 94 = some 2 := by kernel_rfl
end Go.Proofs.YtdnolbmbmncefaaDoor
