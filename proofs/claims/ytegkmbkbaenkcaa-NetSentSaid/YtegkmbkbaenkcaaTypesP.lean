import Derived.Test.YtegkmbkbaenkcaaTypes
import Derived.Test.YtegkmbkbaenkcaaStr
namespace Go.Proofs.Ytegkmbkbaenkcaa
theorem tQ_24 : tPtr Try.prog 24 = some 54 := by kernel_rfl
theorem tAE_27 : tArrE Try.prog 27 = some (16, 26) := by kernel_rfl
theorem tAE_48 : tArrE Try.prog 48 = some (2, 3) := by kernel_rfl
theorem tArr_48 : tArr Try.prog 48 = some 1 := by kernel_rfl
theorem tArr_57 : tArr Try.prog 57 = some 1 := by kernel_rfl
end Go.Proofs.Ytegkmbkbaenkcaa
