import Derived.Test.YtegkmbkbaenkcaaTypes
import Derived.Test.YtegkmbkbaenkcaaStr
namespace Go.Proofs.Ytegkmbkbaenkcaa
theorem tI_3 : tInt Try.prog 3 = some .i64 := by kernel_rfl
theorem tI_5 : tInt Try.prog 5 = some .u8 := by kernel_rfl
theorem tQ_24 : tPtr Try.prog 24 = some 54 := by kernel_rfl
theorem tAE_48 : tArrE Try.prog 48 = some (2, 3) := by kernel_rfl
theorem tArr_48 : tArr Try.prog 48 = some 1 := by kernel_rfl
theorem tArr_57 : tArr Try.prog 57 = some 1 := by kernel_rfl
end Go.Proofs.Ytegkmbkbaenkcaa
