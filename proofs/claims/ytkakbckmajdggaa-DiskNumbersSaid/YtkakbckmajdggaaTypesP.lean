import Derived.Test.YtkakbckmajdggaaTypes
import Derived.Test.YtkakbckmajdggaaStr
namespace Go.Proofs.Ytkakbckmajdggaa
theorem tI_3 : tInt Try.prog 3 = some .i64 := by kernel_rfl
theorem tT_9 : tStr Try.prog 9 = true := by kernel_rfl
theorem tQ_24 : tPtr Try.prog 24 = some 59 := by kernel_rfl
end Go.Proofs.Ytkakbckmajdggaa
