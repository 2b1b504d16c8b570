/- What the program says of its types: closed facts, by program. -/
import Derived.Test.YtdnolbmbmncefaaDoorChecked
import Derived.Test.YtdnolbmbmncefaaDoorIdx
namespace Go.Proofs.YtdnolbmbmncefaaDoor
open Go.RowKit
theorem tS_2 : tSize Tryd.prog 2 = some 1 := by kernel_rfl
theorem tA_2 : tAgg Tryd.prog 2 = some false := by kernel_rfl
theorem tZ_2 : tZero Tryd.prog 2 = some (.int .i64 0) := by kernel_rfl
theorem tR_2 : tRow Tryd.prog 2 = some (.int .i64 0, 1, 8) := by kernel_rfl
theorem tU_2 : Tryd.prog.underlying 2 = some (.int .i64) := by kernel_rfl
theorem tS_3 : tSize Tryd.prog 3 = some 1 := by kernel_rfl
theorem tA_3 : tAgg Tryd.prog 3 = some false := by kernel_rfl
theorem tZ_3 : tZero Tryd.prog 3 = some (.int .i64 0) := by kernel_rfl
theorem tR_3 : tRow Tryd.prog 3 = some (.int .i64 0, 1, 8) := by kernel_rfl
theorem tU_3 : Tryd.prog.underlying 3 = some (.int .i64) := by kernel_rfl
theorem tS_4 : tSize Tryd.prog 4 = some 1 := by kernel_rfl
theorem tA_4 : tAgg Tryd.prog 4 = some false := by kernel_rfl
theorem tZ_4 : tZero Tryd.prog 4 = some (.bool false) := by kernel_rfl
theorem tR_4 : tRow Tryd.prog 4 = some (.bool false, 1, 1) := by kernel_rfl
theorem tU_4 : Tryd.prog.underlying 4 = some .bool := by kernel_rfl
theorem tS_5 : tSize Tryd.prog 5 = some 1 := by kernel_rfl
theorem tA_5 : tAgg Tryd.prog 5 = some false := by kernel_rfl
theorem tZ_5 : tZero Tryd.prog 5 = some (.int .u8 0) := by kernel_rfl
theorem tR_5 : tRow Tryd.prog 5 = some (.int .u8 0, 1, 1) := by kernel_rfl
theorem tS_9 : tSize Tryd.prog 9 = some 1 := by kernel_rfl
theorem tA_9 : tAgg Tryd.prog 9 = some false := by kernel_rfl
theorem tZ_9 : tZero Tryd.prog 9 = some (.string ⟨#[]⟩) := by kernel_rfl
theorem tR_9 : tRow Tryd.prog 9 = some (.string ⟨#[]⟩, 1, 16) := by kernel_rfl
theorem tS_21 : tSize Tryd.prog 21 = some 1 := by kernel_rfl
theorem tA_21 : tAgg Tryd.prog 21 = some false := by kernel_rfl
theorem tZ_21 : tZero Tryd.prog 21 = some (.int .i32 0) := by kernel_rfl
theorem tR_21 : tRow Tryd.prog 21 = some (.int .i32 0, 1, 4) := by kernel_rfl
theorem tS_22 : tSize Tryd.prog 22 = some 1 := by kernel_rfl
theorem tA_22 : tAgg Tryd.prog 22 = some false := by kernel_rfl
theorem tZ_22 : tZero Tryd.prog 22 = some (.slice none 0 0) := by kernel_rfl
theorem tR_22 : tRow Tryd.prog 22 = some (.slice none 0 0, 1, 24) := by kernel_rfl
theorem tE_22 : tElem Tryd.prog 22 = some 28 := by kernel_rfl
theorem tS_24 : tSize Tryd.prog 24 = some 1 := by kernel_rfl
theorem tA_24 : tAgg Tryd.prog 24 = some false := by kernel_rfl
theorem tZ_24 : tZero Tryd.prog 24 = some (.pointer none) := by kernel_rfl
theorem tR_24 : tRow Tryd.prog 24 = some (.pointer none, 1, 8) := by kernel_rfl
theorem tS_26 : tSize Tryd.prog 26 = some 1 := by kernel_rfl
theorem tA_26 : tAgg Tryd.prog 26 = some false := by kernel_rfl
theorem tZ_26 : tZero Tryd.prog 26 = some (.slice none 0 0) := by kernel_rfl
theorem tR_26 : tRow Tryd.prog 26 = some (.slice none 0 0, 1, 24) := by kernel_rfl
theorem tE_26 : tElem Tryd.prog 26 = some 55 := by kernel_rfl
theorem tS_28 : tSize Tryd.prog 28 = some 4 := by kernel_rfl
theorem tA_28 : tAgg Tryd.prog 28 = some true := by kernel_rfl
theorem tZ_28 : tZero Tryd.prog 28 = some (.agg #[.int .i64 0, .int .i64 0, .int .i64 0, .slice none 0 0]) := by kernel_rfl
theorem tR_28 : tRow Tryd.prog 28 = some (.agg #[.int .i64 0, .int .i64 0, .int .i64 0, .slice none 0 0], 4, 48) := by kernel_rfl
theorem tP_28 : tPlaces Tryd.prog 28 = some [(0, 1), (1, 1), (2, 1), (3, 1)] := by kernel_rfl
theorem tF_28_0 : fldOff Tryd.prog 28 0 = some 0 := by kernel_rfl
theorem tF_28_1 : fldOff Tryd.prog 28 1 = some 1 := by kernel_rfl
theorem tF_28_2 : fldOff Tryd.prog 28 2 = some 2 := by kernel_rfl
theorem tF_28_3 : fldOff Tryd.prog 28 3 = some 3 := by kernel_rfl
theorem tS_29 : tSize Tryd.prog 29 = some 1 := by kernel_rfl
theorem tA_29 : tAgg Tryd.prog 29 = some false := by kernel_rfl
theorem tZ_29 : tZero Tryd.prog 29 = some (.int .i64 0) := by kernel_rfl
theorem tR_29 : tRow Tryd.prog 29 = some (.int .i64 0, 1, 8) := by kernel_rfl
theorem tU_29 : Tryd.prog.underlying 29 = some (.int .i64) := by kernel_rfl
theorem tS_35 : tSize Tryd.prog 35 = some 1 := by kernel_rfl
theorem tA_35 : tAgg Tryd.prog 35 = some false := by kernel_rfl
theorem tZ_35 : tZero Tryd.prog 35 = some (.slice none 0 0) := by kernel_rfl
theorem tR_35 : tRow Tryd.prog 35 = some (.slice none 0 0, 1, 24) := by kernel_rfl
theorem tE_35 : tElem Tryd.prog 35 = some 42 := by kernel_rfl
theorem tS_42 : tSize Tryd.prog 42 = some 3 := by kernel_rfl
theorem tA_42 : tAgg Tryd.prog 42 = some true := by kernel_rfl
theorem tZ_42 : tZero Tryd.prog 42 = some (.agg #[.int .i64 0, .int .i64 0, .slice none 0 0]) := by kernel_rfl
theorem tR_42 : tRow Tryd.prog 42 = some (.agg #[.int .i64 0, .int .i64 0, .slice none 0 0], 3, 40) := by kernel_rfl
theorem tP_42 : tPlaces Tryd.prog 42 = some [(0, 1), (1, 1), (2, 1)] := by kernel_rfl
theorem tF_42_0 : fldOff Tryd.prog 42 0 = some 0 := by kernel_rfl
theorem tF_42_1 : fldOff Tryd.prog 42 1 = some 1 := by kernel_rfl
theorem tF_42_2 : fldOff Tryd.prog 42 2 = some 2 := by kernel_rfl
theorem tS_53 : tSize Tryd.prog 53 = some 1 := by kernel_rfl
theorem tA_53 : tAgg Tryd.prog 53 = some false := by kernel_rfl
theorem tZ_53 : tZero Tryd.prog 53 = some (.int .u8 0) := by kernel_rfl
theorem tR_53 : tRow Tryd.prog 53 = some (.int .u8 0, 1, 1) := by kernel_rfl
theorem tS_55 : tSize Tryd.prog 55 = some 3 := by kernel_rfl
theorem tA_55 : tAgg Tryd.prog 55 = some true := by kernel_rfl
theorem tZ_55 : tZero Tryd.prog 55 = some (.agg #[.int .u8 0, .int .i64 0, .string ⟨#[]⟩]) := by kernel_rfl
theorem tR_55 : tRow Tryd.prog 55 = some (.agg #[.int .u8 0, .int .i64 0, .string ⟨#[]⟩], 3, 32) := by kernel_rfl
theorem tP_55 : tPlaces Tryd.prog 55 = some [(0, 1), (1, 1), (2, 1)] := by kernel_rfl
theorem tF_55_0 : fldOff Tryd.prog 55 0 = some 0 := by kernel_rfl
theorem tF_55_1 : fldOff Tryd.prog 55 1 = some 1 := by kernel_rfl
theorem tF_55_2 : fldOff Tryd.prog 55 2 = some 2 := by kernel_rfl
theorem tS_58 : tSize Tryd.prog 58 = some 1 := by kernel_rfl
theorem tA_58 : tAgg Tryd.prog 58 = some true := by kernel_rfl
theorem tZ_58 : tZero Tryd.prog 58 = some (.agg #[.slice none 0 0]) := by kernel_rfl
theorem tR_58 : tRow Tryd.prog 58 = some (.agg #[.slice none 0 0], 1, 24) := by kernel_rfl
theorem tP_58 : tPlaces Tryd.prog 58 = some [(0, 1)] := by kernel_rfl
theorem tF_58_0 : fldOff Tryd.prog 58 0 = some 0 := by kernel_rfl
theorem tS_60 : tSize Tryd.prog 60 = some 2 := by kernel_rfl
theorem tA_60 : tAgg Tryd.prog 60 = some true := by kernel_rfl
theorem tZ_60 : tZero Tryd.prog 60 = some (.agg #[.slice none 0 0, .int .i64 0]) := by kernel_rfl
theorem tR_60 : tRow Tryd.prog 60 = some (.agg #[.slice none 0 0, .int .i64 0], 2, 32) := by kernel_rfl
theorem tP_60 : tPlaces Tryd.prog 60 = some [(0, 1), (1, 1)] := by kernel_rfl
theorem tF_60_0 : fldOff Tryd.prog 60 0 = some 0 := by kernel_rfl
theorem tF_60_1 : fldOff Tryd.prog 60 1 = some 1 := by kernel_rfl
theorem tS_67 : tSize Tryd.prog 67 = some 1 := by kernel_rfl
theorem tA_67 : tAgg Tryd.prog 67 = some false := by kernel_rfl
theorem tZ_67 : tZero Tryd.prog 67 = some (.nilFunc) := by kernel_rfl
theorem tR_67 : tRow Tryd.prog 67 = some (.nilFunc, 1, 8) := by kernel_rfl
theorem tS_70 : tSize Tryd.prog 70 = some 1 := by kernel_rfl
theorem tA_70 : tAgg Tryd.prog 70 = some false := by kernel_rfl
theorem tZ_70 : tZero Tryd.prog 70 = some (.nilFunc) := by kernel_rfl
theorem tR_70 : tRow Tryd.prog 70 = some (.nilFunc, 1, 8) := by kernel_rfl
theorem tS_72 : tSize Tryd.prog 72 = some 1 := by kernel_rfl
theorem tA_72 : tAgg Tryd.prog 72 = some false := by kernel_rfl
theorem tZ_72 : tZero Tryd.prog 72 = some (.nilFunc) := by kernel_rfl
theorem tR_72 : tRow Tryd.prog 72 = some (.nilFunc, 1, 8) := by kernel_rfl
theorem tS_75 : tSize Tryd.prog 75 = some 1 := by kernel_rfl
theorem tA_75 : tAgg Tryd.prog 75 = some false := by kernel_rfl
theorem tZ_75 : tZero Tryd.prog 75 = some (.int .u64 0) := by kernel_rfl
theorem tR_75 : tRow Tryd.prog 75 = some (.int .u64 0, 1, 8) := by kernel_rfl
theorem tS_81 : tSize Tryd.prog 81 = some 256 := by kernel_rfl
theorem tA_81 : tAgg Tryd.prog 81 = some true := by kernel_rfl
theorem tZ_81 : tZero Tryd.prog 81 = some (.agg #[.bool false, .bool false, .bool false, .bool false, .bool false, .bool false, .bool false, .bool false, .bool false, .bool false, .bool false, .bool false, .bool false, .bool false, .bool false, .bool false, .bool false, .bool false, .bool false, .bool false, .bool false, .bool false, .bool false, .bool false, .bool false, .bool false, .bool false, .bool false, .bool false, .bool false, .bool false, .bool false, .bool false, .bool false, .bool false, .bool false, .bool false, .bool false, .bool false, .bool false, .bool false, .bool false, .bool false, .bool false, .bool false, .bool false, .bool false, .bool false, .bool false, .bool false, .bool false, .bool false, .bool false, .bool false, .bool false, .bool false, .bool false, .bool false, .bool false, .bool false, .bool false, .bool false, .bool false, .bool false, .bool false, .bool false, .bool false, .bool false, .bool false, .bool false, .bool false, .bool false, .bool false, .bool false, .bool false, .bool false, .bool false, .bool false, .bool false, .bool false, .bool false, .bool false, .bool false, .bool false, .bool false, .bool false, .bool false, .bool false, .bool false, .bool false, .bool false, .bool false, .bool false, .bool false, .bool false, .bool false, .bool false, .bool false, .bool false, .bool false, .bool false, .bool false, .bool false, .bool false, .bool false, .bool false, .bool false, .bool false, .bool false, .bool false, .bool false, .bool false, .bool false, .bool false, .bool false, .bool false, .bool false, .bool false, .bool false, .bool false, .bool false, .bool false, .bool false, .bool false, .bool false, .bool false, .bool false, .bool false, .bool false, .bool false, .bool false, .bool false, .bool false, .bool false, .bool false, .bool false, .bool false, .bool false, .bool false, .bool false, .bool false, .bool false, .bool false, .bool false, .bool false, .bool false, .bool false, .bool false, .bool false, .bool false, .bool false, .bool false, .bool false, .bool false, .bool false, .bool false, .bool false, .bool false, .bool false, .bool false, .bool false, .bool false, .bool false, .bool false, .bool false, .bool false, .bool false, .bool false, .bool false, .bool false, .bool false, .bool false, .bool false, .bool false, .bool false, .bool false, .bool false, .bool false, .bool false, .bool false, .bool false, .bool false, .bool false, .bool false, .bool false, .bool false, .bool false, .bool false, .bool false, .bool false, .bool false, .bool false, .bool false, .bool false, .bool false, .bool false, .bool false, .bool false, .bool false, .bool false, .bool false, .bool false, .bool false, .bool false, .bool false, .bool false, .bool false, .bool false, .bool false, .bool false, .bool false, .bool false, .bool false, .bool false, .bool false, .bool false, .bool false, .bool false, .bool false, .bool false, .bool false, .bool false, .bool false, .bool false, .bool false, .bool false, .bool false, .bool false, .bool false, .bool false, .bool false, .bool false, .bool false, .bool false, .bool false, .bool false, .bool false, .bool false, .bool false, .bool false, .bool false, .bool false, .bool false, .bool false, .bool false, .bool false, .bool false, .bool false, .bool false, .bool false, .bool false, .bool false, .bool false, .bool false, .bool false, .bool false]) := by kernel_rfl
theorem tR_81 : tRow Tryd.prog 81 = some (.agg #[.bool false, .bool false, .bool false, .bool false, .bool false, .bool false, .bool false, .bool false, .bool false, .bool false, .bool false, .bool false, .bool false, .bool false, .bool false, .bool false, .bool false, .bool false, .bool false, .bool false, .bool false, .bool false, .bool false, .bool false, .bool false, .bool false, .bool false, .bool false, .bool false, .bool false, .bool false, .bool false, .bool false, .bool false, .bool false, .bool false, .bool false, .bool false, .bool false, .bool false, .bool false, .bool false, .bool false, .bool false, .bool false, .bool false, .bool false, .bool false, .bool false, .bool false, .bool false, .bool false, .bool false, .bool false, .bool false, .bool false, .bool false, .bool false, .bool false, .bool false, .bool false, .bool false, .bool false, .bool false, .bool false, .bool false, .bool false, .bool false, .bool false, .bool false, .bool false, .bool false, .bool false, .bool false, .bool false, .bool false, .bool false, .bool false, .bool false, .bool false, .bool false, .bool false, .bool false, .bool false, .bool false, .bool false, .bool false, .bool false, .bool false, .bool false, .bool false, .bool false, .bool false, .bool false, .bool false, .bool false, .bool false, .bool false, .bool false, .bool false, .bool false, .bool false, .bool false, .bool false, .bool false, .bool false, .bool false, .bool false, .bool false, .bool false, .bool false, .bool false, .bool false, .bool false, .bool false, .bool false, .bool false, .bool false, .bool false, .bool false, .bool false, .bool false, .bool false, .bool false, .bool false, .bool false, .bool false, .bool false, .bool false, .bool false, .bool false, .bool false, .bool false, .bool false, .bool false, .bool false, .bool false, .bool false, .bool false, .bool false, .bool false, .bool false, .bool false, .bool false, .bool false, .bool false, .bool false, .bool false, .bool false, .bool false, .bool false, .bool false, .bool false, .bool false, .bool false, .bool false, .bool false, .bool false, .bool false, .bool false, .bool false, .bool false, .bool false, .bool false, .bool false, .bool false, .bool false, .bool false, .bool false, .bool false, .bool false, .bool false, .bool false, .bool false, .bool false, .bool false, .bool false, .bool false, .bool false, .bool false, .bool false, .bool false, .bool false, .bool false, .bool false, .bool false, .bool false, .bool false, .bool false, .bool false, .bool false, .bool false, .bool false, .bool false, .bool false, .bool false, .bool false, .bool false, .bool false, .bool false, .bool false, .bool false, .bool false, .bool false, .bool false, .bool false, .bool false, .bool false, .bool false, .bool false, .bool false, .bool false, .bool false, .bool false, .bool false, .bool false, .bool false, .bool false, .bool false, .bool false, .bool false, .bool false, .bool false, .bool false, .bool false, .bool false, .bool false, .bool false, .bool false, .bool false, .bool false, .bool false, .bool false, .bool false, .bool false, .bool false, .bool false, .bool false, .bool false, .bool false, .bool false, .bool false, .bool false, .bool false, .bool false, .bool false, .bool false, .bool false, .bool false, .bool false, .bool false, .bool false, .bool false, .bool false, .bool false, .bool false], 256, 256) := by kernel_rfl
theorem tS_85 : tSize Tryd.prog 85 = some 1 := by kernel_rfl
theorem tA_85 : tAgg Tryd.prog 85 = some false := by kernel_rfl
theorem tZ_85 : tZero Tryd.prog 85 = some (.pointer none) := by kernel_rfl
theorem tR_85 : tRow Tryd.prog 85 = some (.pointer none, 1, 8) := by kernel_rfl
theorem tS_91 : tSize Tryd.prog 91 = some 256 := by kernel_rfl
theorem tA_91 : tAgg Tryd.prog 91 = some true := by kernel_rfl
theorem tZ_91 : tZero Tryd.prog 91 = some (.agg #[.int .u8 0, .int .u8 0, .int .u8 0, .int .u8 0, .int .u8 0, .int .u8 0, .int .u8 0, .int .u8 0, .int .u8 0, .int .u8 0, .int .u8 0, .int .u8 0, .int .u8 0, .int .u8 0, .int .u8 0, .int .u8 0, .int .u8 0, .int .u8 0, .int .u8 0, .int .u8 0, .int .u8 0, .int .u8 0, .int .u8 0, .int .u8 0, .int .u8 0, .int .u8 0, .int .u8 0, .int .u8 0, .int .u8 0, .int .u8 0, .int .u8 0, .int .u8 0, .int .u8 0, .int .u8 0, .int .u8 0, .int .u8 0, .int .u8 0, .int .u8 0, .int .u8 0, .int .u8 0, .int .u8 0, .int .u8 0, .int .u8 0, .int .u8 0, .int .u8 0, .int .u8 0, .int .u8 0, .int .u8 0, .int .u8 0, .int .u8 0, .int .u8 0, .int .u8 0, .int .u8 0, .int .u8 0, .int .u8 0, .int .u8 0, .int .u8 0, .int .u8 0, .int .u8 0, .int .u8 0, .int .u8 0, .int .u8 0, .int .u8 0, .int .u8 0, .int .u8 0, .int .u8 0, .int .u8 0, .int .u8 0, .int .u8 0, .int .u8 0, .int .u8 0, .int .u8 0, .int .u8 0, .int .u8 0, .int .u8 0, .int .u8 0, .int .u8 0, .int .u8 0, .int .u8 0, .int .u8 0, .int .u8 0, .int .u8 0, .int .u8 0, .int .u8 0, .int .u8 0, .int .u8 0, .int .u8 0, .int .u8 0, .int .u8 0, .int .u8 0, .int .u8 0, .int .u8 0, .int .u8 0, .int .u8 0, .int .u8 0, .int .u8 0, .int .u8 0, .int .u8 0, .int .u8 0, .int .u8 0, .int .u8 0, .int .u8 0, .int .u8 0, .int .u8 0, .int .u8 0, .int .u8 0, .int .u8 0, .int .u8 0, .int .u8 0, .int .u8 0, .int .u8 0, .int .u8 0, .int .u8 0, .int .u8 0, .int .u8 0, .int .u8 0, .int .u8 0, .int .u8 0, .int .u8 0, .int .u8 0, .int .u8 0, .int .u8 0, .int .u8 0, .int .u8 0, .int .u8 0, .int .u8 0, .int .u8 0, .int .u8 0, .int .u8 0, .int .u8 0, .int .u8 0, .int .u8 0, .int .u8 0, .int .u8 0, .int .u8 0, .int .u8 0, .int .u8 0, .int .u8 0, .int .u8 0, .int .u8 0, .int .u8 0, .int .u8 0, .int .u8 0, .int .u8 0, .int .u8 0, .int .u8 0, .int .u8 0, .int .u8 0, .int .u8 0, .int .u8 0, .int .u8 0, .int .u8 0, .int .u8 0, .int .u8 0, .int .u8 0, .int .u8 0, .int .u8 0, .int .u8 0, .int .u8 0, .int .u8 0, .int .u8 0, .int .u8 0, .int .u8 0, .int .u8 0, .int .u8 0, .int .u8 0, .int .u8 0, .int .u8 0, .int .u8 0, .int .u8 0, .int .u8 0, .int .u8 0, .int .u8 0, .int .u8 0, .int .u8 0, .int .u8 0, .int .u8 0, .int .u8 0, .int .u8 0, .int .u8 0, .int .u8 0, .int .u8 0, .int .u8 0, .int .u8 0, .int .u8 0, .int .u8 0, .int .u8 0, .int .u8 0, .int .u8 0, .int .u8 0, .int .u8 0, .int .u8 0, .int .u8 0, .int .u8 0, .int .u8 0, .int .u8 0, .int .u8 0, .int .u8 0, .int .u8 0, .int .u8 0, .int .u8 0, .int .u8 0, .int .u8 0, .int .u8 0, .int .u8 0, .int .u8 0, .int .u8 0, .int .u8 0, .int .u8 0, .int .u8 0, .int .u8 0, .int .u8 0, .int .u8 0, .int .u8 0, .int .u8 0, .int .u8 0, .int .u8 0, .int .u8 0, .int .u8 0, .int .u8 0, .int .u8 0, .int .u8 0, .int .u8 0, .int .u8 0, .int .u8 0, .int .u8 0, .int .u8 0, .int .u8 0, .int .u8 0, .int .u8 0, .int .u8 0, .int .u8 0, .int .u8 0, .int .u8 0, .int .u8 0, .int .u8 0, .int .u8 0, .int .u8 0, .int .u8 0, .int .u8 0, .int .u8 0, .int .u8 0, .int .u8 0, .int .u8 0, .int .u8 0, .int .u8 0, .int .u8 0, .int .u8 0, .int .u8 0, .int .u8 0, .int .u8 0, .int .u8 0, .int .u8 0, .int .u8 0, .int .u8 0, .int .u8 0]) := by kernel_rfl
theorem tR_91 : tRow Tryd.prog 91 = some (.agg #[.int .u8 0, .int .u8 0, .int .u8 0, .int .u8 0, .int .u8 0, .int .u8 0, .int .u8 0, .int .u8 0, .int .u8 0, .int .u8 0, .int .u8 0, .int .u8 0, .int .u8 0, .int .u8 0, .int .u8 0, .int .u8 0, .int .u8 0, .int .u8 0, .int .u8 0, .int .u8 0, .int .u8 0, .int .u8 0, .int .u8 0, .int .u8 0, .int .u8 0, .int .u8 0, .int .u8 0, .int .u8 0, .int .u8 0, .int .u8 0, .int .u8 0, .int .u8 0, .int .u8 0, .int .u8 0, .int .u8 0, .int .u8 0, .int .u8 0, .int .u8 0, .int .u8 0, .int .u8 0, .int .u8 0, .int .u8 0, .int .u8 0, .int .u8 0, .int .u8 0, .int .u8 0, .int .u8 0, .int .u8 0, .int .u8 0, .int .u8 0, .int .u8 0, .int .u8 0, .int .u8 0, .int .u8 0, .int .u8 0, .int .u8 0, .int .u8 0, .int .u8 0, .int .u8 0, .int .u8 0, .int .u8 0, .int .u8 0, .int .u8 0, .int .u8 0, .int .u8 0, .int .u8 0, .int .u8 0, .int .u8 0, .int .u8 0, .int .u8 0, .int .u8 0, .int .u8 0, .int .u8 0, .int .u8 0, .int .u8 0, .int .u8 0, .int .u8 0, .int .u8 0, .int .u8 0, .int .u8 0, .int .u8 0, .int .u8 0, .int .u8 0, .int .u8 0, .int .u8 0, .int .u8 0, .int .u8 0, .int .u8 0, .int .u8 0, .int .u8 0, .int .u8 0, .int .u8 0, .int .u8 0, .int .u8 0, .int .u8 0, .int .u8 0, .int .u8 0, .int .u8 0, .int .u8 0, .int .u8 0, .int .u8 0, .int .u8 0, .int .u8 0, .int .u8 0, .int .u8 0, .int .u8 0, .int .u8 0, .int .u8 0, .int .u8 0, .int .u8 0, .int .u8 0, .int .u8 0, .int .u8 0, .int .u8 0, .int .u8 0, .int .u8 0, .int .u8 0, .int .u8 0, .int .u8 0, .int .u8 0, .int .u8 0, .int .u8 0, .int .u8 0, .int .u8 0, .int .u8 0, .int .u8 0, .int .u8 0, .int .u8 0, .int .u8 0, .int .u8 0, .int .u8 0, .int .u8 0, .int .u8 0, .int .u8 0, .int .u8 0, .int .u8 0, .int .u8 0, .int .u8 0, .int .u8 0, .int .u8 0, .int .u8 0, .int .u8 0, .int .u8 0, .int .u8 0, .int .u8 0, .int .u8 0, .int .u8 0, .int .u8 0, .int .u8 0, .int .u8 0, .int .u8 0, .int .u8 0, .int .u8 0, .int .u8 0, .int .u8 0, .int .u8 0, .int .u8 0, .int .u8 0, .int .u8 0, .int .u8 0, .int .u8 0, .int .u8 0, .int .u8 0, .int .u8 0, .int .u8 0, .int .u8 0, .int .u8 0, .int .u8 0, .int .u8 0, .int .u8 0, .int .u8 0, .int .u8 0, .int .u8 0, .int .u8 0, .int .u8 0, .int .u8 0, .int .u8 0, .int .u8 0, .int .u8 0, .int .u8 0, .int .u8 0, .int .u8 0, .int .u8 0, .int .u8 0, .int .u8 0, .int .u8 0, .int .u8 0, .int .u8 0, .int .u8 0, .int .u8 0, .int .u8 0, .int .u8 0, .int .u8 0, .int .u8 0, .int .u8 0, .int .u8 0, .int .u8 0, .int .u8 0, .int .u8 0, .int .u8 0, .int .u8 0, .int .u8 0, .int .u8 0, .int .u8 0, .int .u8 0, .int .u8 0, .int .u8 0, .int .u8 0, .int .u8 0, .int .u8 0, .int .u8 0, .int .u8 0, .int .u8 0, .int .u8 0, .int .u8 0, .int .u8 0, .int .u8 0, .int .u8 0, .int .u8 0, .int .u8 0, .int .u8 0, .int .u8 0, .int .u8 0, .int .u8 0, .int .u8 0, .int .u8 0, .int .u8 0, .int .u8 0, .int .u8 0, .int .u8 0, .int .u8 0, .int .u8 0, .int .u8 0, .int .u8 0, .int .u8 0, .int .u8 0, .int .u8 0, .int .u8 0, .int .u8 0, .int .u8 0, .int .u8 0, .int .u8 0, .int .u8 0, .int .u8 0, .int .u8 0, .int .u8 0, .int .u8 0, .int .u8 0, .int .u8 0, .int .u8 0, .int .u8 0, .int .u8 0, .int .u8 0, .int .u8 0, .int .u8 0, .int .u8 0], 256, 256) := by kernel_rfl
theorem tS_93 : tSize Tryd.prog 93 = some 2 := by kernel_rfl
theorem tA_93 : tAgg Tryd.prog 93 = some true := by kernel_rfl
theorem tZ_93 : tZero Tryd.prog 93 = some (.agg #[.int .u8 0, .int .u8 0]) := by kernel_rfl
theorem tR_93 : tRow Tryd.prog 93 = some (.agg #[.int .u8 0, .int .u8 0], 2, 2) := by kernel_rfl
theorem tP_93 : tPlaces Tryd.prog 93 = some [(0, 1), (1, 1)] := by kernel_rfl
theorem tF_93_0 : fldOff Tryd.prog 93 0 = some 0 := by kernel_rfl
theorem tF_93_1 : fldOff Tryd.prog 93 1 = some 1 := by kernel_rfl
theorem tS_94 : tSize Tryd.prog 94 = some 32 := by kernel_rfl
theorem tA_94 : tAgg Tryd.prog 94 = some true := by kernel_rfl
theorem tZ_94 : tZero Tryd.prog 94 = some (.agg #[.int .u8 0, .int .u8 0, .int .u8 0, .int .u8 0, .int .u8 0, .int .u8 0, .int .u8 0, .int .u8 0, .int .u8 0, .int .u8 0, .int .u8 0, .int .u8 0, .int .u8 0, .int .u8 0, .int .u8 0, .int .u8 0, .int .u8 0, .int .u8 0, .int .u8 0, .int .u8 0, .int .u8 0, .int .u8 0, .int .u8 0, .int .u8 0, .int .u8 0, .int .u8 0, .int .u8 0, .int .u8 0, .int .u8 0, .int .u8 0, .int .u8 0, .int .u8 0]) := by kernel_rfl
theorem tR_94 : tRow Tryd.prog 94 = some (.agg #[.int .u8 0, .int .u8 0, .int .u8 0, .int .u8 0, .int .u8 0, .int .u8 0, .int .u8 0, .int .u8 0, .int .u8 0, .int .u8 0, .int .u8 0, .int .u8 0, .int .u8 0, .int .u8 0, .int .u8 0, .int .u8 0, .int .u8 0, .int .u8 0, .int .u8 0, .int .u8 0, .int .u8 0, .int .u8 0, .int .u8 0, .int .u8 0, .int .u8 0, .int .u8 0, .int .u8 0, .int .u8 0, .int .u8 0, .int .u8 0, .int .u8 0, .int .u8 0], 32, 32) := by kernel_rfl
theorem fn_2 : isFn Tryd.prog 2 = true := by kernel_rfl
theorem fn_3 : isFn Tryd.prog 3 = true := by kernel_rfl
theorem fn_4 : isFn Tryd.prog 4 = true := by kernel_rfl
theorem fn_5 : isFn Tryd.prog 5 = true := by kernel_rfl
theorem fn_6 : isFn Tryd.prog 6 = true := by kernel_rfl
theorem fn_7 : isFn Tryd.prog 7 = true := by kernel_rfl
theorem fn_8 : isFn Tryd.prog 8 = true := by kernel_rfl
theorem fn_9 : isFn Tryd.prog 9 = true := by kernel_rfl
theorem fn_10 : isFn Tryd.prog 10 = true := by kernel_rfl
theorem fn_11 : isFn Tryd.prog 11 = true := by kernel_rfl
theorem fn_12 : isFn Tryd.prog 12 = true := by kernel_rfl
theorem fn_13 : isFn Tryd.prog 13 = true := by kernel_rfl
theorem fn_14 : isFn Tryd.prog 14 = true := by kernel_rfl
theorem fn_15 : isFn Tryd.prog 15 = true := by kernel_rfl
theorem fn_16 : isFn Tryd.prog 16 = true := by kernel_rfl
theorem fn_17 : isFn Tryd.prog 17 = true := by kernel_rfl
theorem fn_18 : isFn Tryd.prog 18 = true := by kernel_rfl
theorem fn_19 : isFn Tryd.prog 19 = true := by kernel_rfl
theorem fn_20 : isFn Tryd.prog 20 = true := by kernel_rfl
theorem fn_21 : isFn Tryd.prog 21 = true := by kernel_rfl
theorem fn_22 : isFn Tryd.prog 22 = true := by kernel_rfl
theorem fn_23 : isFn Tryd.prog 23 = true := by kernel_rfl
theorem fn_24 : isFn Tryd.prog 24 = true := by kernel_rfl
theorem fn_25 : isFn Tryd.prog 25 = true := by kernel_rfl
theorem fn_26 : isFn Tryd.prog 26 = true := by kernel_rfl
theorem fn_27 : isFn Tryd.prog 27 = true := by kernel_rfl
theorem fn_28 : isFn Tryd.prog 28 = true := by kernel_rfl
theorem fn_29 : isFn Tryd.prog 29 = true := by kernel_rfl
theorem fn_30 : isFn Tryd.prog 30 = true := by kernel_rfl
theorem fn_31 : isFn Tryd.prog 31 = true := by kernel_rfl
theorem fn_32 : isFn Tryd.prog 32 = true := by kernel_rfl
theorem fn_33 : isFn Tryd.prog 33 = true := by kernel_rfl
theorem fn_34 : isFn Tryd.prog 34 = true := by kernel_rfl
theorem fn_35 : isFn Tryd.prog 35 = true := by kernel_rfl
theorem fn_36 : isFn Tryd.prog 36 = true := by kernel_rfl
theorem fn_37 : isFn Tryd.prog 37 = true := by kernel_rfl
theorem fn_38 : isFn Tryd.prog 38 = true := by kernel_rfl
theorem fn_39 : isFn Tryd.prog 39 = true := by kernel_rfl
theorem fn_40 : isFn Tryd.prog 40 = true := by kernel_rfl
theorem fn_41 : isFn Tryd.prog 41 = true := by kernel_rfl
theorem fn_42 : isFn Tryd.prog 42 = true := by kernel_rfl
theorem fn_43 : isFn Tryd.prog 43 = true := by kernel_rfl
theorem fn_44 : isFn Tryd.prog 44 = true := by kernel_rfl
theorem fn_45 : isFn Tryd.prog 45 = true := by kernel_rfl
theorem fn_46 : isFn Tryd.prog 46 = true := by kernel_rfl
theorem fn_47 : isFn Tryd.prog 47 = true := by kernel_rfl
theorem fn_48 : isFn Tryd.prog 48 = true := by kernel_rfl
theorem fn_49 : isFn Tryd.prog 49 = true := by kernel_rfl
theorem fn_50 : isFn Tryd.prog 50 = true := by kernel_rfl
theorem fn_51 : isFn Tryd.prog 51 = true := by kernel_rfl
theorem fn_52 : isFn Tryd.prog 52 = true := by kernel_rfl
theorem fn_53 : isFn Tryd.prog 53 = true := by kernel_rfl
theorem fn_55 : isFn Tryd.prog 55 = true := by kernel_rfl
theorem fn_56 : isFn Tryd.prog 56 = true := by kernel_rfl
theorem fn_57 : isFn Tryd.prog 57 = true := by kernel_rfl
theorem fn_58 : isFn Tryd.prog 58 = true := by kernel_rfl
theorem fn_59 : isFn Tryd.prog 59 = true := by kernel_rfl
theorem fn_60 : isFn Tryd.prog 60 = true := by kernel_rfl
theorem fn_61 : isFn Tryd.prog 61 = true := by kernel_rfl
theorem fn_62 : isFn Tryd.prog 62 = true := by kernel_rfl
theorem fn_63 : isFn Tryd.prog 63 = true := by kernel_rfl
theorem fn_86 : isFn Tryd.prog 86 = true := by kernel_rfl
end Go.Proofs.YtdnolbmbmncefaaDoor
