import Derived.Test.YtbgodclhmgmcgaaGreatDoorTypes
import Derived.Test.YtbgodclhmgmcgaaGreatDoorStr
namespace Go.Proofs.YtbgodclhmgmcgaaGreatDoor
theorem tI_2:tInt Tryz.prog 2 = some .i64:=by kernel_rfl
theorem tI_3:tInt Tryz.prog 3 = some .i64:=by kernel_rfl
theorem tI_5:tInt Tryz.prog 5 = some .u8:=by kernel_rfl
theorem Q64:tStr Tryz.prog 9 = true:=by kernel_rfl
theorem tI_61:tInt Tryz.prog 61 = some .u8:=by kernel_rfl
theorem Q1O:tInt Tryz.prog 62 = some .u8:=by kernel_rfl
theorem tI_149:tInt Tryz.prog 149 = some .u64:=by kernel_rfl
theorem tI_246:tInt Tryz.prog 246 = some .u64:=by kernel_rfl
end Go.Proofs.YtbgodclhmgmcgaaGreatDoor
