/- What the program says of its pointer types. -/
import Derived.Test.YtkakbckmajdggaaTypes
import Derived.Test.YtkakbckmajdggaaStr
namespace Go.Proofs.Ytkakbckmajdggaa
theorem tI_3 : tInt Try.prog 3 = some .i64 := by kernel_rfl
theorem tI_5 : tInt Try.prog 5 = some .u8 := by kernel_rfl
theorem tT_9 : tStr Try.prog 9 = true := by kernel_rfl
theorem tI_21 : tInt Try.prog 21 = some .i32 := by kernel_rfl
theorem tQ_24 : tPtr Try.prog 24 = some 59 := by kernel_rfl
theorem tI_28 : tInt Try.prog 28 = some .i64 := by kernel_rfl
theorem tQ_42 : tPtr Try.prog 42 = some 85 := by kernel_rfl
theorem tI_88 : tInt Try.prog 88 = some .u64 := by kernel_rfl
theorem tQ_92 : tPtr Try.prog 92 = some 94 := by kernel_rfl
theorem tI_109 : tInt Try.prog 109 = some .u32 := by kernel_rfl
theorem tI_112 : tInt Try.prog 112 = some .u64 := by kernel_rfl
theorem tQ_115 : tPtr Try.prog 115 = some 5 := by kernel_rfl
theorem tI_125 : tInt Try.prog 125 = some .i64 := by kernel_rfl
theorem tI_134 : tInt Try.prog 134 = some .u64 := by kernel_rfl
theorem tQ_138 : tPtr Try.prog 138 = some 3 := by kernel_rfl
end Go.Proofs.Ytkakbckmajdggaa
