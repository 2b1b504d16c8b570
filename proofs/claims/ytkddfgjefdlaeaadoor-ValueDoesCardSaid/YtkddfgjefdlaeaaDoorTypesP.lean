/- What the program says of its pointer types. -/
import Derived.Test.YtkddfgjefdlaeaaDoorTypes
import Derived.Test.YtkddfgjefdlaeaaDoorStr
namespace Go.Proofs.YtkddfgjefdlaeaaDoor
theorem tI_2 : tInt Tryd.prog 2 = some .i64 := by kernel_rfl
theorem tI_3 : tInt Tryd.prog 3 = some .i64 := by kernel_rfl
theorem tI_5 : tInt Tryd.prog 5 = some .u8 := by kernel_rfl
theorem tT_9 : tStr Tryd.prog 9 = true := by kernel_rfl
theorem tI_21 : tInt Tryd.prog 21 = some .i32 := by kernel_rfl
theorem tI_22 : tInt Tryd.prog 22 = some .u8 := by kernel_rfl
theorem tI_27 : tInt Tryd.prog 27 = some .u8 := by kernel_rfl
theorem tI_30 : tInt Tryd.prog 30 = some .i64 := by kernel_rfl
theorem tI_66 : tInt Tryd.prog 66 = some .u64 := by kernel_rfl
theorem tAE_71 : tArrE Tryd.prog 71 = some (256, 4) := by kernel_rfl
theorem tArr_71 : tArr Tryd.prog 71 = some 1 := by kernel_rfl
theorem tQ_75 : tPtr Tryd.prog 75 = some 71 := by kernel_rfl
theorem tAE_77 : tArrE Tryd.prog 77 = some (24, 5) := by kernel_rfl
theorem tArr_77 : tArr Tryd.prog 77 = some 1 := by kernel_rfl
theorem tI_82 : tInt Tryd.prog 82 = some .u64 := by kernel_rfl
theorem tAE_89 : tArrE Tryd.prog 89 = some (20, 66) := by kernel_rfl
theorem tArr_89 : tArr Tryd.prog 89 = some 1 := by kernel_rfl
theorem tI_90 : tInt Tryd.prog 90 = some .u32 := by kernel_rfl
theorem tAE_91 : tArrE Tryd.prog 91 = some (65, 5) := by kernel_rfl
theorem tArr_91 : tArr Tryd.prog 91 = some 1 := by kernel_rfl
theorem tAE_96 : tArrE Tryd.prog 96 = some (256, 5) := by kernel_rfl
theorem tArr_96 : tArr Tryd.prog 96 = some 1 := by kernel_rfl
theorem tAE_99 : tArrE Tryd.prog 99 = some (16, 98) := by kernel_rfl
theorem tArr_99 : tArr Tryd.prog 99 = some 2 := by kernel_rfl
theorem tAE_101 : tArrE Tryd.prog 101 = some (32, 5) := by kernel_rfl
theorem tArr_101 : tArr Tryd.prog 101 = some 1 := by kernel_rfl
theorem tAE_102 : tArrE Tryd.prog 102 = some (64, 5) := by kernel_rfl
theorem tArr_102 : tArr Tryd.prog 102 = some 1 := by kernel_rfl
end Go.Proofs.YtkddfgjefdlaeaaDoor
