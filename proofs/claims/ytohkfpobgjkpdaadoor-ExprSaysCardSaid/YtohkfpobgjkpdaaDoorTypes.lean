import Derived.Test.YtohkfpobgjkpdaaDoorChecked
import Derived.Test.YtohkfpobgjkpdaaDoorIdx
namespace Go.Proofs.YtohkfpobgjkpdaaDoor
open Go.RowKit
theorem tS_2 : tSize Tryd.prog 2 = some 1 := by kernel_rfl
theorem tA_2 : tAgg Tryd.prog 2 = some false := by kernel_rfl
theorem tS_3 : tSize Tryd.prog 3 = some 1 := by kernel_rfl
theorem tA_3 : tAgg Tryd.prog 3 = some false := by kernel_rfl
theorem tS_9 : tSize Tryd.prog 9 = some 1 := by kernel_rfl
theorem tA_9 : tAgg Tryd.prog 9 = some false := by kernel_rfl
theorem tS_22 : tSize Tryd.prog 22 = some 1 := by kernel_rfl
theorem tA_22 : tAgg Tryd.prog 22 = some false := by kernel_rfl
theorem tS_23 : tSize Tryd.prog 23 = some 1 := by kernel_rfl
theorem tA_23 : tAgg Tryd.prog 23 = some false := by kernel_rfl
theorem tS_25 : tSize Tryd.prog 25 = some 3 := by kernel_rfl
theorem tA_25 : tAgg Tryd.prog 25 = some true := by kernel_rfl
theorem tZ_25 : tZero Tryd.prog 25 = some (.agg #[.int .u8 0, .int .i64 0, .string ⟨#[]⟩]) := by kernel_rfl
theorem tR_25 : tRow Tryd.prog 25 = some (.agg #[.int .u8 0, .int .i64 0, .string ⟨#[]⟩], 3, 32) := by kernel_rfl
theorem tP_25 : tPlaces Tryd.prog 25 = some [(0, 1), (1, 1), (2, 1)] := by kernel_rfl
theorem tF_25_0 : fldOff Tryd.prog 25 0 = some 0 := by kernel_rfl
theorem tF_25_1 : fldOff Tryd.prog 25 1 = some 1 := by kernel_rfl
theorem tF_25_2 : fldOff Tryd.prog 25 2 = some 2 := by kernel_rfl
theorem tS_26 : tSize Tryd.prog 26 = some 1 := by kernel_rfl
theorem tA_26 : tAgg Tryd.prog 26 = some false := by kernel_rfl
theorem tS_27 : tSize Tryd.prog 27 = some 1 := by kernel_rfl
theorem tA_27 : tAgg Tryd.prog 27 = some false := by kernel_rfl
theorem tE_27 : tElem Tryd.prog 27 = some 29 := by kernel_rfl
theorem tS_29 : tSize Tryd.prog 29 = some 7 := by kernel_rfl
theorem tA_29 : tAgg Tryd.prog 29 = some true := by kernel_rfl
theorem tZ_29 : tZero Tryd.prog 29 = some (.agg #[.int .u8 0, .int .u8 0, .int .i64 0, .string ⟨#[]⟩, .int .i64 0, .int .u8 0, .slice none 0 0]) := by kernel_rfl
theorem tR_29 : tRow Tryd.prog 29 = some (.agg #[.int .u8 0, .int .u8 0, .int .i64 0, .string ⟨#[]⟩, .int .i64 0, .int .u8 0, .slice none 0 0], 7, 80) := by kernel_rfl
theorem tP_29 : tPlaces Tryd.prog 29 = some [(0, 1), (1, 3), (4, 1), (5, 1), (6, 1)] := by kernel_rfl
theorem tF_29_0 : fldOff Tryd.prog 29 0 = some 0 := by kernel_rfl
theorem tF_29_1 : fldOff Tryd.prog 29 1 = some 1 := by kernel_rfl
theorem tF_29_2 : fldOff Tryd.prog 29 2 = some 4 := by kernel_rfl
theorem tF_29_3 : fldOff Tryd.prog 29 3 = some 5 := by kernel_rfl
theorem tF_29_4 : fldOff Tryd.prog 29 4 = some 6 := by kernel_rfl
theorem tS_30 : tSize Tryd.prog 30 = some 1 := by kernel_rfl
theorem tA_30 : tAgg Tryd.prog 30 = some false := by kernel_rfl
theorem tE_30 : tElem Tryd.prog 30 = some 25 := by kernel_rfl
theorem tZ_46 : tZero Tryd.prog 46 = some (.nilFunc) := by kernel_rfl
theorem tZ_60 : tZero Tryd.prog 60 = some (.nilFunc) := by kernel_rfl
theorem tS_65 : tSize Tryd.prog 65 = some 1 := by kernel_rfl
theorem tA_65 : tAgg Tryd.prog 65 = some false := by kernel_rfl
theorem tZ_65 : tZero Tryd.prog 65 = some (.nilFunc) := by kernel_rfl
theorem fn_4 : isFn Tryd.prog 4 = true := by kernel_rfl
theorem fn_5 : isFn Tryd.prog 5 = true := by kernel_rfl
theorem fn_6 : isFn Tryd.prog 6 = true := by kernel_rfl
theorem fn_7 : isFn Tryd.prog 7 = true := by kernel_rfl
theorem fn_8 : isFn Tryd.prog 8 = true := by kernel_rfl
theorem fn_9 : isFn Tryd.prog 9 = true := by kernel_rfl
theorem fn_10 : isFn Tryd.prog 10 = true := by kernel_rfl
theorem fn_11 : isFn Tryd.prog 11 = true := by kernel_rfl
theorem fn_12 : isFn Tryd.prog 12 = true := by kernel_rfl
theorem fn_13 : isFn Tryd.prog 13 = true := by kernel_rfl
theorem fn_14 : isFn Tryd.prog 14 = true := by kernel_rfl
theorem fn_15 : isFn Tryd.prog 15 = true := by kernel_rfl
theorem fn_16 : isFn Tryd.prog 16 = true := by kernel_rfl
theorem fn_17 : isFn Tryd.prog 17 = true := by kernel_rfl
theorem fn_18 : isFn Tryd.prog 18 = true := by kernel_rfl
theorem fn_19 : isFn Tryd.prog 19 = true := by kernel_rfl
theorem fn_20 : isFn Tryd.prog 20 = true := by kernel_rfl
theorem fn_21 : isFn Tryd.prog 21 = true := by kernel_rfl
theorem fn_22 : isFn Tryd.prog 22 = true := by kernel_rfl
theorem fn_23 : isFn Tryd.prog 23 = true := by kernel_rfl
theorem fn_24 : isFn Tryd.prog 24 = true := by kernel_rfl
theorem fn_25 : isFn Tryd.prog 25 = true := by kernel_rfl
theorem fn_26 : isFn Tryd.prog 26 = true := by kernel_rfl
theorem fn_27 : isFn Tryd.prog 27 = true := by kernel_rfl
theorem fn_28 : isFn Tryd.prog 28 = true := by kernel_rfl
theorem fn_29 : isFn Tryd.prog 29 = true := by kernel_rfl
theorem fn_30 : isFn Tryd.prog 30 = true := by kernel_rfl
theorem fn_31 : isFn Tryd.prog 31 = true := by kernel_rfl
theorem fn_32 : isFn Tryd.prog 32 = true := by kernel_rfl
theorem fn_33 : isFn Tryd.prog 33 = true := by kernel_rfl
theorem fn_34 : isFn Tryd.prog 34 = true := by kernel_rfl
theorem fn_35 : isFn Tryd.prog 35 = true := by kernel_rfl
theorem fn_36 : isFn Tryd.prog 36 = true := by kernel_rfl
theorem fn_37 : isFn Tryd.prog 37 = true := by kernel_rfl
theorem fn_38 : isFn Tryd.prog 38 = true := by kernel_rfl
theorem fn_39 : isFn Tryd.prog 39 = true := by kernel_rfl
theorem fn_40 : isFn Tryd.prog 40 = true := by kernel_rfl
theorem fn_41 : isFn Tryd.prog 41 = true := by kernel_rfl
theorem fn_42 : isFn Tryd.prog 42 = true := by kernel_rfl
theorem fn_43 : isFn Tryd.prog 43 = true := by kernel_rfl
theorem fn_44 : isFn Tryd.prog 44 = true := by kernel_rfl
theorem fn_45 : isFn Tryd.prog 45 = true := by kernel_rfl
theorem fn_46 : isFn Tryd.prog 46 = true := by kernel_rfl
theorem fn_47 : isFn Tryd.prog 47 = true := by kernel_rfl
theorem fn_48 : isFn Tryd.prog 48 = true := by kernel_rfl
theorem fn_49 : isFn Tryd.prog 49 = true := by kernel_rfl
theorem fn_50 : isFn Tryd.prog 50 = true := by kernel_rfl
theorem fn_51 : isFn Tryd.prog 51 = true := by kernel_rfl
theorem fn_52 : isFn Tryd.prog 52 = true := by kernel_rfl
theorem fn_53 : isFn Tryd.prog 53 = true := by kernel_rfl
end Go.Proofs.YtohkfpobgjkpdaaDoor
