/- What the program says of its pointer types. -/
import Derived.Test.YtdkmibdiokmfbaaDoorTypes
import Derived.Test.YtdkmibdiokmfbaaDoorStr
namespace Go.Proofs.YtdkmibdiokmfbaaDoor
theorem tI_2 : tInt Tryd.prog 2 = some .i64 := by kernel_rfl
theorem tI_3 : tInt Tryd.prog 3 = some .i64 := by kernel_rfl
theorem tI_5 : tInt Tryd.prog 5 = some .u8 := by kernel_rfl
theorem tT_9 : tStr Tryd.prog 9 = true := by kernel_rfl
theorem tI_21 : tInt Tryd.prog 21 = some .i32 := by kernel_rfl
theorem tI_22 : tInt Tryd.prog 22 = some .u8 := by kernel_rfl
theorem tI_23 : tInt Tryd.prog 23 = some .u8 := by kernel_rfl
theorem tI_26 : tInt Tryd.prog 26 = some .u8 := by kernel_rfl
theorem tI_35 : tInt Tryd.prog 35 = some .i64 := by kernel_rfl
theorem tAE_74 : tArrE Tryd.prog 74 = some (256, 4) := by kernel_rfl
theorem tArr_74 : tArr Tryd.prog 74 = some 1 := by kernel_rfl
theorem tQ_78 : tPtr Tryd.prog 78 = some 74 := by kernel_rfl
theorem tI_79 : tInt Tryd.prog 79 = some .u64 := by kernel_rfl
theorem tAE_88 : tArrE Tryd.prog 88 = some (256, 5) := by kernel_rfl
theorem tArr_88 : tArr Tryd.prog 88 = some 1 := by kernel_rfl
theorem tAE_91 : tArrE Tryd.prog 91 = some (16, 90) := by kernel_rfl
theorem tArr_91 : tArr Tryd.prog 91 = some 2 := by kernel_rfl
end Go.Proofs.YtdkmibdiokmfbaaDoor
