import Derived.Test.YtalbennlmcpnmaaGreatTypes
import Derived.Test.YtalbennlmcpnmaaGreatStr
namespace Go.Proofs.YtalbennlmcpnmaaGreat
theorem tI_3 : tInt Tryz.prog 3 = some .i64 := by kernel_rfl
theorem tI_22 : tInt Tryz.prog 22 = some .u8 := by kernel_rfl
theorem tI_62 : tInt Tryz.prog 62 = some .u8 := by kernel_rfl
end Go.Proofs.YtalbennlmcpnmaaGreat
