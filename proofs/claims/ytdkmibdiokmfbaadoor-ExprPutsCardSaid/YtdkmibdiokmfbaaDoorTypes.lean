/- What the program says of its types: closed facts, by program. -/
import Derived.Test.YtdkmibdiokmfbaaDoorChecked
import Derived.Test.YtdkmibdiokmfbaaDoorIdx
namespace Go.Proofs.YtdkmibdiokmfbaaDoor
open Go.RowKit
theorem tS_2 : tSize Tryd.prog 2 = some 1 := by kernel_rfl
theorem tA_2 : tAgg Tryd.prog 2 = some false := by kernel_rfl
theorem tZ_2 : tZero Tryd.prog 2 = some (.int .i64 0) := by kernel_rfl
theorem tR_2 : tRow Tryd.prog 2 = some (.int .i64 0, 1, 8) := by kernel_rfl
theorem tU_2 : Tryd.prog.underlying 2 = some (.int .i64) := by kernel_rfl
theorem tS_3 : tSize Tryd.prog 3 = some 1 := by kernel_rfl
theorem tA_3 : tAgg Tryd.prog 3 = some false := by kernel_rfl
theorem tZ_3 : tZero Tryd.prog 3 = some (.int .i64 0) := by kernel_rfl
theorem tR_3 : tRow Tryd.prog 3 = some (.int .i64 0, 1, 8) := by kernel_rfl
theorem tU_3 : Tryd.prog.underlying 3 = some (.int .i64) := by kernel_rfl
theorem tS_4 : tSize Tryd.prog 4 = some 1 := by kernel_rfl
theorem tA_4 : tAgg Tryd.prog 4 = some false := by kernel_rfl
theorem tZ_4 : tZero Tryd.prog 4 = some (.bool false) := by kernel_rfl
theorem tR_4 : tRow Tryd.prog 4 = some (.bool false, 1, 1) := by kernel_rfl
theorem tU_4 : Tryd.prog.underlying 4 = some .bool := by kernel_rfl
theorem tS_5 : tSize Tryd.prog 5 = some 1 := by kernel_rfl
theorem tA_5 : tAgg Tryd.prog 5 = some false := by kernel_rfl
theorem tZ_5 : tZero Tryd.prog 5 = some (.int .u8 0) := by kernel_rfl
theorem tR_5 : tRow Tryd.prog 5 = some (.int .u8 0, 1, 1) := by kernel_rfl
theorem tS_9 : tSize Tryd.prog 9 = some 1 := by kernel_rfl
theorem tA_9 : tAgg Tryd.prog 9 = some false := by kernel_rfl
theorem tZ_9 : tZero Tryd.prog 9 = some (.string ⟨#[]⟩) := by kernel_rfl
theorem tR_9 : tRow Tryd.prog 9 = some (.string ⟨#[]⟩, 1, 16) := by kernel_rfl
theorem tS_21 : tSize Tryd.prog 21 = some 1 := by kernel_rfl
theorem tA_21 : tAgg Tryd.prog 21 = some false := by kernel_rfl
theorem tZ_21 : tZero Tryd.prog 21 = some (.int .i32 0) := by kernel_rfl
theorem tR_21 : tRow Tryd.prog 21 = some (.int .i32 0, 1, 4) := by kernel_rfl
theorem tS_22 : tSize Tryd.prog 22 = some 1 := by kernel_rfl
theorem tA_22 : tAgg Tryd.prog 22 = some false := by kernel_rfl
theorem tZ_22 : tZero Tryd.prog 22 = some (.int .u8 0) := by kernel_rfl
theorem tR_22 : tRow Tryd.prog 22 = some (.int .u8 0, 1, 1) := by kernel_rfl
theorem tS_23 : tSize Tryd.prog 23 = some 1 := by kernel_rfl
theorem tA_23 : tAgg Tryd.prog 23 = some false := by kernel_rfl
theorem tZ_23 : tZero Tryd.prog 23 = some (.int .u8 0) := by kernel_rfl
theorem tR_23 : tRow Tryd.prog 23 = some (.int .u8 0, 1, 1) := by kernel_rfl
theorem tS_25 : tSize Tryd.prog 25 = some 3 := by kernel_rfl
theorem tA_25 : tAgg Tryd.prog 25 = some true := by kernel_rfl
theorem tZ_25 : tZero Tryd.prog 25 = some (.agg #[.int .u8 0, .int .i64 0, .string ⟨#[]⟩]) := by kernel_rfl
theorem tR_25 : tRow Tryd.prog 25 = some (.agg #[.int .u8 0, .int .i64 0, .string ⟨#[]⟩], 3, 32) := by kernel_rfl
theorem tP_25 : tPlaces Tryd.prog 25 = some [(0, 1), (1, 1), (2, 1)] := by kernel_rfl
theorem tF_25_0 : fldOff Tryd.prog 25 0 = some 0 := by kernel_rfl
theorem tF_25_1 : fldOff Tryd.prog 25 1 = some 1 := by kernel_rfl
theorem tF_25_2 : fldOff Tryd.prog 25 2 = some 2 := by kernel_rfl
theorem tS_26 : tSize Tryd.prog 26 = some 1 := by kernel_rfl
theorem tA_26 : tAgg Tryd.prog 26 = some false := by kernel_rfl
theorem tZ_26 : tZero Tryd.prog 26 = some (.int .u8 0) := by kernel_rfl
theorem tR_26 : tRow Tryd.prog 26 = some (.int .u8 0, 1, 1) := by kernel_rfl
theorem tS_27 : tSize Tryd.prog 27 = some 1 := by kernel_rfl
theorem tA_27 : tAgg Tryd.prog 27 = some false := by kernel_rfl
theorem tZ_27 : tZero Tryd.prog 27 = some (.slice none 0 0) := by kernel_rfl
theorem tR_27 : tRow Tryd.prog 27 = some (.slice none 0 0, 1, 24) := by kernel_rfl
theorem tE_27 : tElem Tryd.prog 27 = some 29 := by kernel_rfl
theorem tS_29 : tSize Tryd.prog 29 = some 7 := by kernel_rfl
theorem tA_29 : tAgg Tryd.prog 29 = some true := by kernel_rfl
theorem tZ_29 : tZero Tryd.prog 29 = some (.agg #[.int .u8 0, .int .u8 0, .int .i64 0, .string ⟨#[]⟩, .int .i64 0, .int .u8 0, .slice none 0 0]) := by kernel_rfl
theorem tR_29 : tRow Tryd.prog 29 = some (.agg #[.int .u8 0, .int .u8 0, .int .i64 0, .string ⟨#[]⟩, .int .i64 0, .int .u8 0, .slice none 0 0], 7, 80) := by kernel_rfl
theorem tP_29 : tPlaces Tryd.prog 29 = some [(0, 1), (1, 3), (4, 1), (5, 1), (6, 1)] := by kernel_rfl
theorem tF_29_0 : fldOff Tryd.prog 29 0 = some 0 := by kernel_rfl
theorem tF_29_1 : fldOff Tryd.prog 29 1 = some 1 := by kernel_rfl
theorem tF_29_2 : fldOff Tryd.prog 29 2 = some 4 := by kernel_rfl
theorem tF_29_3 : fldOff Tryd.prog 29 3 = some 5 := by kernel_rfl
theorem tF_29_4 : fldOff Tryd.prog 29 4 = some 6 := by kernel_rfl
theorem tS_30 : tSize Tryd.prog 30 = some 1 := by kernel_rfl
theorem tA_30 : tAgg Tryd.prog 30 = some false := by kernel_rfl
theorem tZ_30 : tZero Tryd.prog 30 = some (.slice none 0 0) := by kernel_rfl
theorem tR_30 : tRow Tryd.prog 30 = some (.slice none 0 0, 1, 24) := by kernel_rfl
theorem tE_30 : tElem Tryd.prog 30 = some 25 := by kernel_rfl
theorem tS_35 : tSize Tryd.prog 35 = some 1 := by kernel_rfl
theorem tA_35 : tAgg Tryd.prog 35 = some false := by kernel_rfl
theorem tZ_35 : tZero Tryd.prog 35 = some (.int .i64 0) := by kernel_rfl
theorem tR_35 : tRow Tryd.prog 35 = some (.int .i64 0, 1, 8) := by kernel_rfl
theorem tU_35 : Tryd.prog.underlying 35 = some (.int .i64) := by kernel_rfl
theorem tS_53 : tSize Tryd.prog 53 = some 1 := by kernel_rfl
theorem tA_53 : tAgg Tryd.prog 53 = some false := by kernel_rfl
theorem tZ_53 : tZero Tryd.prog 53 = some (.nilFunc) := by kernel_rfl
theorem tR_53 : tRow Tryd.prog 53 = some (.nilFunc, 1, 8) := by kernel_rfl
theorem tS_57 : tSize Tryd.prog 57 = some 1 := by kernel_rfl
theorem tA_57 : tAgg Tryd.prog 57 = some false := by kernel_rfl
theorem tZ_57 : tZero Tryd.prog 57 = some (.map none) := by kernel_rfl
theorem tR_57 : tRow Tryd.prog 57 = some (.map none, 1, 8) := by kernel_rfl
theorem tS_64 : tSize Tryd.prog 64 = some 1 := by kernel_rfl
theorem tA_64 : tAgg Tryd.prog 64 = some false := by kernel_rfl
theorem tZ_64 : tZero Tryd.prog 64 = some (.nilFunc) := by kernel_rfl
theorem tR_64 : tRow Tryd.prog 64 = some (.nilFunc, 1, 8) := by kernel_rfl
theorem tS_70 : tSize Tryd.prog 70 = some 1 := by kernel_rfl
theorem tA_70 : tAgg Tryd.prog 70 = some false := by kernel_rfl
theorem tZ_70 : tZero Tryd.prog 70 = some (.nilFunc) := by kernel_rfl
theorem tR_70 : tRow Tryd.prog 70 = some (.nilFunc, 1, 8) := by kernel_rfl
theorem tS_71 : tSize Tryd.prog 71 = some 1 := by kernel_rfl
theorem tA_71 : tAgg Tryd.prog 71 = some false := by kernel_rfl
theorem tZ_71 : tZero Tryd.prog 71 = some (.map none) := by kernel_rfl
theorem tR_71 : tRow Tryd.prog 71 = some (.map none, 1, 8) := by kernel_rfl
theorem tS_74 : tSize Tryd.prog 74 = some 256 := by kernel_rfl
theorem tA_74 : tAgg Tryd.prog 74 = some true := by kernel_rfl
theorem tZ_74 : tZero Tryd.prog 74 = some (.agg #[.bool false, .bool false, .bool false, .bool false, .bool false, .bool false, .bool false, .bool false, .bool false, .bool false, .bool false, .bool false, .bool false, .bool false, .bool false, .bool false, .bool false, .bool false, .bool false, .bool false, .bool false, .bool false, .bool false, .bool false, .bool false, .bool false, .bool false, .bool false, .bool false, .bool false, .bool false, .bool false, .bool false, .bool false, .bool false, .bool false, .bool false, .bool false, .bool false, .bool false, .bool false, .bool false, .bool false, .bool false, .bool false, .bool false, .bool false, .bool false, .bool false, .bool false, .bool false, .bool false, .bool false, .bool false, .bool false, .bool false, .bool false, .bool false, .bool false, .bool false, .bool false, .bool false, .bool false, .bool false, .bool false, .bool false, .bool false, .bool false, .bool false, .bool false, .bool false, .bool false, .bool false, .bool false, .bool false, .bool false, .bool false, .bool false, .bool false, .bool false, .bool false, .bool false, .bool false, .bool false, .bool false, .bool false, .bool false, .bool false, .bool false, .bool false, .bool false, .bool false, .bool false, .bool false, .bool false, .bool false, .bool false, .bool false, .bool false, .bool false, .bool false, .bool false, .bool false, .bool false, .bool false, .bool false, .bool false, .bool false, .bool false, .bool false, .bool false, .bool false, .bool false, .bool false, .bool false, .bool false, .bool false, .bool false, .bool false, .bool false, .bool false, .bool false, .bool false, .bool false, .bool false, .bool false, .bool false, .bool false, .bool false, .bool false, .bool false, .bool false, .bool false, .bool false, .bool false, .bool false, .bool false, .bool false, .bool false, .bool false, .bool false, .bool false, .bool false, .bool false, .bool false, .bool false, .bool false, .bool false, .bool false, .bool false, .bool false, .bool false, .bool false, .bool false, .bool false, .bool false, .bool false, .bool false, .bool false, .bool false, .bool false, .bool false, .bool false, .bool false, .bool false, .bool false, .bool false, .bool false, .bool false, .bool false, .bool false, .bool false, .bool false, .bool false, .bool false, .bool false, .bool false, .bool false, .bool false, .bool false, .bool false, .bool false, .bool false, .bool false, .bool false, .bool false, .bool false, .bool false, .bool false, .bool false, .bool false, .bool false, .bool false, .bool false, .bool false, .bool false, .bool false, .bool false, .bool false, .bool false, .bool false, .bool false, .bool false, .bool false, .bool false, .bool false, .bool false, .bool false, .bool false, .bool false, .bool false, .bool false, .bool false, .bool false, .bool false, .bool false, .bool false, .bool false, .bool false, .bool false, .bool false, .bool false, .bool false, .bool false, .bool false, .bool false, .bool false, .bool false, .bool false, .bool false, .bool false, .bool false, .bool false, .bool false, .bool false, .bool false, .bool false, .bool false, .bool false, .bool false, .bool false, .bool false, .bool false, .bool false, .bool false, .bool false, .bool false, .bool false, .bool false, .bool false, .bool false, .bool false, .bool false, .bool false, .bool false, .bool false]) := by kernel_rfl
theorem tR_74 : tRow Tryd.prog 74 = some (.agg #[.bool false, .bool false, .bool false, .bool false, .bool false, .bool false, .bool false, .bool false, .bool false, .bool false, .bool false, .bool false, .bool false, .bool false, .bool false, .bool false, .bool false, .bool false, .bool false, .bool false, .bool false, .bool false, .bool false, .bool false, .bool false, .bool false, .bool false, .bool false, .bool false, .bool false, .bool false, .bool false, .bool false, .bool false, .bool false, .bool false, .bool false, .bool false, .bool false, .bool false, .bool false, .bool false, .bool false, .bool false, .bool false, .bool false, .bool false, .bool false, .bool false, .bool false, .bool false, .bool false, .bool false, .bool false, .bool false, .bool false, .bool false, .bool false, .bool false, .bool false, .bool false, .bool false, .bool false, .bool false, .bool false, .bool false, .bool false, .bool false, .bool false, .bool false, .bool false, .bool false, .bool false, .bool false, .bool false, .bool false, .bool false, .bool false, .bool false, .bool false, .bool false, .bool false, .bool false, .bool false, .bool false, .bool false, .bool false, .bool false, .bool false, .bool false, .bool false, .bool false, .bool false, .bool false, .bool false, .bool false, .bool false, .bool false, .bool false, .bool false, .bool false, .bool false, .bool false, .bool false, .bool false, .bool false, .bool false, .bool false, .bool false, .bool false, .bool false, .bool false, .bool false, .bool false, .bool false, .bool false, .bool false, .bool false, .bool false, .bool false, .bool false, .bool false, .bool false, .bool false, .bool false, .bool false, .bool false, .bool false, .bool false, .bool false, .bool false, .bool false, .bool false, .bool false, .bool false, .bool false, .bool false, .bool false, .bool false, .bool false, .bool false, .bool false, .bool false, .bool false, .bool false, .bool false, .bool false, .bool false, .bool false, .bool false, .bool false, .bool false, .bool false, .bool false, .bool false, .bool false, .bool false, .bool false, .bool false, .bool false, .bool false, .bool false, .bool false, .bool false, .bool false, .bool false, .bool false, .bool false, .bool false, .bool false, .bool false, .bool false, .bool false, .bool false, .bool false, .bool false, .bool false, .bool false, .bool false, .bool false, .bool false, .bool false, .bool false, .bool false, .bool false, .bool false, .bool false, .bool false, .bool false, .bool false, .bool false, .bool false, .bool false, .bool false, .bool false, .bool false, .bool false, .bool false, .bool false, .bool false, .bool false, .bool false, .bool false, .bool false, .bool false, .bool false, .bool false, .bool false, .bool false, .bool false, .bool false, .bool false, .bool false, .bool false, .bool false, .bool false, .bool false, .bool false, .bool false, .bool false, .bool false, .bool false, .bool false, .bool false, .bool false, .bool false, .bool false, .bool false, .bool false, .bool false, .bool false, .bool false, .bool false, .bool false, .bool false, .bool false, .bool false, .bool false, .bool false, .bool false, .bool false, .bool false, .bool false, .bool false, .bool false, .bool false, .bool false, .bool false, .bool false, .bool false, .bool false, .bool false, .bool false, .bool false, .bool false, .bool false], 256, 256) := by kernel_rfl
theorem tS_78 : tSize Tryd.prog 78 = some 1 := by kernel_rfl
theorem tA_78 : tAgg Tryd.prog 78 = some false := by kernel_rfl
theorem tZ_78 : tZero Tryd.prog 78 = some (.pointer none) := by kernel_rfl
theorem tR_78 : tRow Tryd.prog 78 = some (.pointer none, 1, 8) := by kernel_rfl
theorem tS_79 : tSize Tryd.prog 79 = some 1 := by kernel_rfl
theorem tA_79 : tAgg Tryd.prog 79 = some false := by kernel_rfl
theorem tZ_79 : tZero Tryd.prog 79 = some (.int .u64 0) := by kernel_rfl
theorem tR_79 : tRow Tryd.prog 79 = some (.int .u64 0, 1, 8) := by kernel_rfl
theorem tS_88 : tSize Tryd.prog 88 = some 256 := by kernel_rfl
theorem tA_88 : tAgg Tryd.prog 88 = some true := by kernel_rfl
theorem tZ_88 : tZero Tryd.prog 88 = some (.agg #[.int .u8 0, .int .u8 0, .int .u8 0, .int .u8 0, .int .u8 0, .int .u8 0, .int .u8 0, .int .u8 0, .int .u8 0, .int .u8 0, .int .u8 0, .int .u8 0, .int .u8 0, .int .u8 0, .int .u8 0, .int .u8 0, .int .u8 0, .int .u8 0, .int .u8 0, .int .u8 0, .int .u8 0, .int .u8 0, .int .u8 0, .int .u8 0, .int .u8 0, .int .u8 0, .int .u8 0, .int .u8 0, .int .u8 0, .int .u8 0, .int .u8 0, .int .u8 0, .int .u8 0, .int .u8 0, .int .u8 0, .int .u8 0, .int .u8 0, .int .u8 0, .int .u8 0, .int .u8 0, .int .u8 0, .int .u8 0, .int .u8 0, .int .u8 0, .int .u8 0, .int .u8 0, .int .u8 0, .int .u8 0, .int .u8 0, .int .u8 0, .int .u8 0, .int .u8 0, .int .u8 0, .int .u8 0, .int .u8 0, .int .u8 0, .int .u8 0, .int .u8 0, .int .u8 0, .int .u8 0, .int .u8 0, .int .u8 0, .int .u8 0, .int .u8 0, .int .u8 0, .int .u8 0, .int .u8 0, .int .u8 0, .int .u8 0, .int .u8 0, .int .u8 0, .int .u8 0, .int .u8 0, .int .u8 0, .int .u8 0, .int .u8 0, .int .u8 0, .int .u8 0, .int .u8 0, .int .u8 0, .int .u8 0, .int .u8 0, .int .u8 0, .int .u8 0, .int .u8 0, .int .u8 0, .int .u8 0, .int .u8 0, .int .u8 0, .int .u8 0, .int .u8 0, .int .u8 0, .int .u8 0, .int .u8 0, .int .u8 0, .int .u8 0, .int .u8 0, .int .u8 0, .int .u8 0, .int .u8 0, .int .u8 0, .int .u8 0, .int .u8 0, .int .u8 0, .int .u8 0, .int .u8 0, .int .u8 0, .int .u8 0, .int .u8 0, .int .u8 0, .int .u8 0, .int .u8 0, .int .u8 0, .int .u8 0, .int .u8 0, .int .u8 0, .int .u8 0, .int .u8 0, .int .u8 0, .int .u8 0, .int .u8 0, .int .u8 0, .int .u8 0, .int .u8 0, .int .u8 0, .int .u8 0, .int .u8 0, .int .u8 0, .int .u8 0, .int .u8 0, .int .u8 0, .int .u8 0, .int .u8 0, .int .u8 0, .int .u8 0, .int .u8 0, .int .u8 0, .int .u8 0, .int .u8 0, .int .u8 0, .int .u8 0, .int .u8 0, .int .u8 0, .int .u8 0, .int .u8 0, .int .u8 0, .int .u8 0, .int .u8 0, .int .u8 0, .int .u8 0, .int .u8 0, .int .u8 0, .int .u8 0, .int .u8 0, .int .u8 0, .int .u8 0, .int .u8 0, .int .u8 0, .int .u8 0, .int .u8 0, .int .u8 0, .int .u8 0, .int .u8 0, .int .u8 0, .int .u8 0, .int .u8 0, .int .u8 0, .int .u8 0, .int .u8 0, .int .u8 0, .int .u8 0, .int .u8 0, .int .u8 0, .int .u8 0, .int .u8 0, .int .u8 0, .int .u8 0, .int .u8 0, .int .u8 0, .int .u8 0, .int .u8 0, .int .u8 0, .int .u8 0, .int .u8 0, .int .u8 0, .int .u8 0, .int .u8 0, .int .u8 0, .int .u8 0, .int .u8 0, .int .u8 0, .int .u8 0, .int .u8 0, .int .u8 0, .int .u8 0, .int .u8 0, .int .u8 0, .int .u8 0, .int .u8 0, .int .u8 0, .int .u8 0, .int .u8 0, .int .u8 0, .int .u8 0, .int .u8 0, .int .u8 0, .int .u8 0, .int .u8 0, .int .u8 0, .int .u8 0, .int .u8 0, .int .u8 0, .int .u8 0, .int .u8 0, .int .u8 0, .int .u8 0, .int .u8 0, .int .u8 0, .int .u8 0, .int .u8 0, .int .u8 0, .int .u8 0, .int .u8 0, .int .u8 0, .int .u8 0, .int .u8 0, .int .u8 0, .int .u8 0, .int .u8 0, .int .u8 0, .int .u8 0, .int .u8 0, .int .u8 0, .int .u8 0, .int .u8 0, .int .u8 0, .int .u8 0, .int .u8 0, .int .u8 0, .int .u8 0, .int .u8 0, .int .u8 0, .int .u8 0, .int .u8 0, .int .u8 0, .int .u8 0, .int .u8 0, .int .u8 0, .int .u8 0, .int .u8 0, .int .u8 0, .int .u8 0, .int .u8 0, .int .u8 0, .int .u8 0, .int .u8 0]) := by kernel_rfl
theorem tR_88 : tRow Tryd.prog 88 = some (.agg #[.int .u8 0, .int .u8 0, .int .u8 0, .int .u8 0, .int .u8 0, .int .u8 0, .int .u8 0, .int .u8 0, .int .u8 0, .int .u8 0, .int .u8 0, .int .u8 0, .int .u8 0, .int .u8 0, .int .u8 0, .int .u8 0, .int .u8 0, .int .u8 0, .int .u8 0, .int .u8 0, .int .u8 0, .int .u8 0, .int .u8 0, .int .u8 0, .int .u8 0, .int .u8 0, .int .u8 0, .int .u8 0, .int .u8 0, .int .u8 0, .int .u8 0, .int .u8 0, .int .u8 0, .int .u8 0, .int .u8 0, .int .u8 0, .int .u8 0, .int .u8 0, .int .u8 0, .int .u8 0, .int .u8 0, .int .u8 0, .int .u8 0, .int .u8 0, .int .u8 0, .int .u8 0, .int .u8 0, .int .u8 0, .int .u8 0, .int .u8 0, .int .u8 0, .int .u8 0, .int .u8 0, .int .u8 0, .int .u8 0, .int .u8 0, .int .u8 0, .int .u8 0, .int .u8 0, .int .u8 0, .int .u8 0, .int .u8 0, .int .u8 0, .int .u8 0, .int .u8 0, .int .u8 0, .int .u8 0, .int .u8 0, .int .u8 0, .int .u8 0, .int .u8 0, .int .u8 0, .int .u8 0, .int .u8 0, .int .u8 0, .int .u8 0, .int .u8 0, .int .u8 0, .int .u8 0, .int .u8 0, .int .u8 0, .int .u8 0, .int .u8 0, .int .u8 0, .int .u8 0, .int .u8 0, .int .u8 0, .int .u8 0, .int .u8 0, .int .u8 0, .int .u8 0, .int .u8 0, .int .u8 0, .int .u8 0, .int .u8 0, .int .u8 0, .int .u8 0, .int .u8 0, .int .u8 0, .int .u8 0, .int .u8 0, .int .u8 0, .int .u8 0, .int .u8 0, .int .u8 0, .int .u8 0, .int .u8 0, .int .u8 0, .int .u8 0, .int .u8 0, .int .u8 0, .int .u8 0, .int .u8 0, .int .u8 0, .int .u8 0, .int .u8 0, .int .u8 0, .int .u8 0, .int .u8 0, .int .u8 0, .int .u8 0, .int .u8 0, .int .u8 0, .int .u8 0, .int .u8 0, .int .u8 0, .int .u8 0, .int .u8 0, .int .u8 0, .int .u8 0, .int .u8 0, .int .u8 0, .int .u8 0, .int .u8 0, .int .u8 0, .int .u8 0, .int .u8 0, .int .u8 0, .int .u8 0, .int .u8 0, .int .u8 0, .int .u8 0, .int .u8 0, .int .u8 0, .int .u8 0, .int .u8 0, .int .u8 0, .int .u8 0, .int .u8 0, .int .u8 0, .int .u8 0, .int .u8 0, .int .u8 0, .int .u8 0, .int .u8 0, .int .u8 0, .int .u8 0, .int .u8 0, .int .u8 0, .int .u8 0, .int .u8 0, .int .u8 0, .int .u8 0, .int .u8 0, .int .u8 0, .int .u8 0, .int .u8 0, .int .u8 0, .int .u8 0, .int .u8 0, .int .u8 0, .int .u8 0, .int .u8 0, .int .u8 0, .int .u8 0, .int .u8 0, .int .u8 0, .int .u8 0, .int .u8 0, .int .u8 0, .int .u8 0, .int .u8 0, .int .u8 0, .int .u8 0, .int .u8 0, .int .u8 0, .int .u8 0, .int .u8 0, .int .u8 0, .int .u8 0, .int .u8 0, .int .u8 0, .int .u8 0, .int .u8 0, .int .u8 0, .int .u8 0, .int .u8 0, .int .u8 0, .int .u8 0, .int .u8 0, .int .u8 0, .int .u8 0, .int .u8 0, .int .u8 0, .int .u8 0, .int .u8 0, .int .u8 0, .int .u8 0, .int .u8 0, .int .u8 0, .int .u8 0, .int .u8 0, .int .u8 0, .int .u8 0, .int .u8 0, .int .u8 0, .int .u8 0, .int .u8 0, .int .u8 0, .int .u8 0, .int .u8 0, .int .u8 0, .int .u8 0, .int .u8 0, .int .u8 0, .int .u8 0, .int .u8 0, .int .u8 0, .int .u8 0, .int .u8 0, .int .u8 0, .int .u8 0, .int .u8 0, .int .u8 0, .int .u8 0, .int .u8 0, .int .u8 0, .int .u8 0, .int .u8 0, .int .u8 0, .int .u8 0, .int .u8 0, .int .u8 0, .int .u8 0, .int .u8 0, .int .u8 0, .int .u8 0, .int .u8 0, .int .u8 0, .int .u8 0, .int .u8 0, .int .u8 0, .int .u8 0, .int .u8 0, .int .u8 0, .int .u8 0], 256, 256) := by kernel_rfl
theorem tS_90 : tSize Tryd.prog 90 = some 2 := by kernel_rfl
theorem tA_90 : tAgg Tryd.prog 90 = some true := by kernel_rfl
theorem tZ_90 : tZero Tryd.prog 90 = some (.agg #[.int .u8 0, .int .u8 0]) := by kernel_rfl
theorem tR_90 : tRow Tryd.prog 90 = some (.agg #[.int .u8 0, .int .u8 0], 2, 2) := by kernel_rfl
theorem tP_90 : tPlaces Tryd.prog 90 = some [(0, 1), (1, 1)] := by kernel_rfl
theorem tF_90_0 : fldOff Tryd.prog 90 0 = some 0 := by kernel_rfl
theorem tF_90_1 : fldOff Tryd.prog 90 1 = some 1 := by kernel_rfl
theorem tS_91 : tSize Tryd.prog 91 = some 32 := by kernel_rfl
theorem tA_91 : tAgg Tryd.prog 91 = some true := by kernel_rfl
theorem tZ_91 : tZero Tryd.prog 91 = some (.agg #[.int .u8 0, .int .u8 0, .int .u8 0, .int .u8 0, .int .u8 0, .int .u8 0, .int .u8 0, .int .u8 0, .int .u8 0, .int .u8 0, .int .u8 0, .int .u8 0, .int .u8 0, .int .u8 0, .int .u8 0, .int .u8 0, .int .u8 0, .int .u8 0, .int .u8 0, .int .u8 0, .int .u8 0, .int .u8 0, .int .u8 0, .int .u8 0, .int .u8 0, .int .u8 0, .int .u8 0, .int .u8 0, .int .u8 0, .int .u8 0, .int .u8 0, .int .u8 0]) := by kernel_rfl
theorem tR_91 : tRow Tryd.prog 91 = some (.agg #[.int .u8 0, .int .u8 0, .int .u8 0, .int .u8 0, .int .u8 0, .int .u8 0, .int .u8 0, .int .u8 0, .int .u8 0, .int .u8 0, .int .u8 0, .int .u8 0, .int .u8 0, .int .u8 0, .int .u8 0, .int .u8 0, .int .u8 0, .int .u8 0, .int .u8 0, .int .u8 0, .int .u8 0, .int .u8 0, .int .u8 0, .int .u8 0, .int .u8 0, .int .u8 0, .int .u8 0, .int .u8 0, .int .u8 0, .int .u8 0, .int .u8 0, .int .u8 0], 32, 32) := by kernel_rfl
theorem fn_2 : isFn Tryd.prog 2 = true := by kernel_rfl
theorem fn_3 : isFn Tryd.prog 3 = true := by kernel_rfl
theorem fn_4 : isFn Tryd.prog 4 = true := by kernel_rfl
theorem fn_5 : isFn Tryd.prog 5 = true := by kernel_rfl
theorem fn_6 : isFn Tryd.prog 6 = true := by kernel_rfl
theorem fn_7 : isFn Tryd.prog 7 = true := by kernel_rfl
theorem fn_8 : isFn Tryd.prog 8 = true := by kernel_rfl
theorem fn_9 : isFn Tryd.prog 9 = true := by kernel_rfl
theorem fn_10 : isFn Tryd.prog 10 = true := by kernel_rfl
theorem fn_11 : isFn Tryd.prog 11 = true := by kernel_rfl
theorem fn_12 : isFn Tryd.prog 12 = true := by kernel_rfl
theorem fn_13 : isFn Tryd.prog 13 = true := by kernel_rfl
theorem fn_14 : isFn Tryd.prog 14 = true := by kernel_rfl
theorem fn_15 : isFn Tryd.prog 15 = true := by kernel_rfl
theorem fn_16 : isFn Tryd.prog 16 = true := by kernel_rfl
theorem fn_17 : isFn Tryd.prog 17 = true := by kernel_rfl
theorem fn_18 : isFn Tryd.prog 18 = true := by kernel_rfl
theorem fn_19 : isFn Tryd.prog 19 = true := by kernel_rfl
theorem fn_20 : isFn Tryd.prog 20 = true := by kernel_rfl
theorem fn_21 : isFn Tryd.prog 21 = true := by kernel_rfl
theorem fn_22 : isFn Tryd.prog 22 = true := by kernel_rfl
theorem fn_23 : isFn Tryd.prog 23 = true := by kernel_rfl
theorem fn_24 : isFn Tryd.prog 24 = true := by kernel_rfl
theorem fn_25 : isFn Tryd.prog 25 = true := by kernel_rfl
theorem fn_26 : isFn Tryd.prog 26 = true := by kernel_rfl
theorem fn_27 : isFn Tryd.prog 27 = true := by kernel_rfl
theorem fn_28 : isFn Tryd.prog 28 = true := by kernel_rfl
theorem fn_29 : isFn Tryd.prog 29 = true := by kernel_rfl
theorem fn_30 : isFn Tryd.prog 30 = true := by kernel_rfl
theorem fn_31 : isFn Tryd.prog 31 = true := by kernel_rfl
theorem fn_32 : isFn Tryd.prog 32 = true := by kernel_rfl
theorem fn_33 : isFn Tryd.prog 33 = true := by kernel_rfl
theorem fn_34 : isFn Tryd.prog 34 = true := by kernel_rfl
theorem fn_35 : isFn Tryd.prog 35 = true := by kernel_rfl
theorem fn_36 : isFn Tryd.prog 36 = true := by kernel_rfl
theorem fn_37 : isFn Tryd.prog 37 = true := by kernel_rfl
theorem fn_38 : isFn Tryd.prog 38 = true := by kernel_rfl
theorem fn_39 : isFn Tryd.prog 39 = true := by kernel_rfl
theorem fn_40 : isFn Tryd.prog 40 = true := by kernel_rfl
theorem fn_41 : isFn Tryd.prog 41 = true := by kernel_rfl
theorem fn_42 : isFn Tryd.prog 42 = true := by kernel_rfl
theorem fn_43 : isFn Tryd.prog 43 = true := by kernel_rfl
theorem fn_44 : isFn Tryd.prog 44 = true := by kernel_rfl
theorem fn_45 : isFn Tryd.prog 45 = true := by kernel_rfl
theorem fn_46 : isFn Tryd.prog 46 = true := by kernel_rfl
theorem fn_47 : isFn Tryd.prog 47 = true := by kernel_rfl
theorem fn_48 : isFn Tryd.prog 48 = true := by kernel_rfl
theorem fn_49 : isFn Tryd.prog 49 = true := by kernel_rfl
theorem fn_50 : isFn Tryd.prog 50 = true := by kernel_rfl
theorem fn_51 : isFn Tryd.prog 51 = true := by kernel_rfl
theorem fn_52 : isFn Tryd.prog 52 = true := by kernel_rfl
theorem fn_53 : isFn Tryd.prog 53 = true := by kernel_rfl
theorem fn_54 : isFn Tryd.prog 54 = true := by kernel_rfl
theorem fn_55 : isFn Tryd.prog 55 = true := by kernel_rfl
theorem fn_56 : isFn Tryd.prog 56 = true := by kernel_rfl
theorem fn_57 : isFn Tryd.prog 57 = true := by kernel_rfl
theorem fn_58 : isFn Tryd.prog 58 = true := by kernel_rfl
theorem fn_59 : isFn Tryd.prog 59 = true := by kernel_rfl
theorem fn_60 : isFn Tryd.prog 60 = true := by kernel_rfl
theorem fn_61 : isFn Tryd.prog 61 = true := by kernel_rfl
theorem fn_62 : isFn Tryd.prog 62 = true := by kernel_rfl
theorem fn_63 : isFn Tryd.prog 63 = true := by kernel_rfl
theorem fn_64 : isFn Tryd.prog 64 = true := by kernel_rfl
theorem fn_65 : isFn Tryd.prog 65 = true := by kernel_rfl
theorem fn_66 : isFn Tryd.prog 66 = true := by kernel_rfl
theorem fn_67 : isFn Tryd.prog 67 = true := by kernel_rfl
theorem fn_69 : isFn Tryd.prog 69 = true := by kernel_rfl
theorem fn_70 : isFn Tryd.prog 70 = true := by kernel_rfl
theorem fn_71 : isFn Tryd.prog 71 = true := by kernel_rfl
theorem fn_72 : isFn Tryd.prog 72 = true := by kernel_rfl
theorem fn_73 : isFn Tryd.prog 73 = true := by kernel_rfl
theorem fn_74 : isFn Tryd.prog 74 = true := by kernel_rfl
theorem fn_75 : isFn Tryd.prog 75 = true := by kernel_rfl
theorem fn_76 : isFn Tryd.prog 76 = true := by kernel_rfl
theorem fn_77 : isFn Tryd.prog 77 = true := by kernel_rfl
theorem fn_100 : isFn Tryd.prog 100 = true := by kernel_rfl
end Go.Proofs.YtdkmibdiokmfbaaDoor
