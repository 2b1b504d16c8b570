import Derived.Test.YtegkmbkbaenkcaaGreatChecked
import Derived.Test.YtegkmbkbaenkcaaGreatIdx
namespace Go.Proofs.YtegkmbkbaenkcaaGreat
open Go.RowKit
theorem tS_5 : tSize Tryz.prog 5 = some 1 := by kernel_rfl
theorem tA_5 : tAgg Tryz.prog 5 = some false := by kernel_rfl
theorem tZ_5 : tZero Tryz.prog 5 = some (.int .u8 0) := by kernel_rfl
theorem tR_5 : tRow Tryz.prog 5 = some (.int .u8 0, 1, 1) := by kernel_rfl
theorem tS_22 : tSize Tryz.prog 22 = some 1 := by kernel_rfl
theorem tA_22 : tAgg Tryz.prog 22 = some false := by kernel_rfl
theorem tZ_22 : tZero Tryz.prog 22 = some (.slice none 0 0) := by kernel_rfl
theorem tR_22 : tRow Tryz.prog 22 = some (.slice none 0 0, 1, 24) := by kernel_rfl
theorem tE_22 : tElem Tryz.prog 22 = some 5 := by kernel_rfl
theorem tS_35 : tSize Tryz.prog 35 = some 1 := by kernel_rfl
theorem tA_35 : tAgg Tryz.prog 35 = some false := by kernel_rfl
theorem tE_35 : tElem Tryz.prog 35 = some 22 := by kernel_rfl
theorem tS_43 : tSize Tryz.prog 43 = some 1 := by kernel_rfl
theorem tA_43 : tAgg Tryz.prog 43 = some false := by kernel_rfl
theorem tZ_45 : tZero Tryz.prog 45 = some (.agg #[.map none]) := by kernel_rfl
theorem tP_45 : tPlaces Tryz.prog 45 = some [(0, 1)] := by kernel_rfl
theorem tF_45_0 : fldOff Tryz.prog 45 0 = some 0 := by kernel_rfl
theorem tZ_47 : tZero Tryz.prog 47 = some (.agg #[.map none]) := by kernel_rfl
theorem tP_47 : tPlaces Tryz.prog 47 = some [(0, 1)] := by kernel_rfl
theorem tF_47_0 : fldOff Tryz.prog 47 0 = some 0 := by kernel_rfl
theorem tS_51 : tSize Tryz.prog 51 = some 2 := by kernel_rfl
theorem tA_51 : tAgg Tryz.prog 51 = some true := by kernel_rfl
theorem tZ_51 : tZero Tryz.prog 51 = some (.agg #[.int .i64 0, .int .i64 0]) := by kernel_rfl
theorem tS_55 : tSize Tryz.prog 55 = some 1 := by kernel_rfl
theorem tA_55 : tAgg Tryz.prog 55 = some false := by kernel_rfl
theorem tS_56 : tSize Tryz.prog 56 = some 1 := by kernel_rfl
theorem tA_56 : tAgg Tryz.prog 56 = some false := by kernel_rfl
theorem tS_57 : tSize Tryz.prog 57 = some 1 := by kernel_rfl
theorem tA_57 : tAgg Tryz.prog 57 = some false := by kernel_rfl
theorem tS_58 : tSize Tryz.prog 58 = some 1 := by kernel_rfl
theorem tA_58 : tAgg Tryz.prog 58 = some false := by kernel_rfl
theorem tS_59 : tSize Tryz.prog 59 = some 1 := by kernel_rfl
theorem tA_59 : tAgg Tryz.prog 59 = some false := by kernel_rfl
theorem tS_60 : tSize Tryz.prog 60 = some 1 := by kernel_rfl
theorem tA_60 : tAgg Tryz.prog 60 = some false := by kernel_rfl
theorem tS_61 : tSize Tryz.prog 61 = some 1 := by kernel_rfl
theorem tA_61 : tAgg Tryz.prog 61 = some false := by kernel_rfl
theorem tS_62 : tSize Tryz.prog 62 = some 1 := by kernel_rfl
theorem tA_62 : tAgg Tryz.prog 62 = some false := by kernel_rfl
theorem tS_63 : tSize Tryz.prog 63 = some 1 := by kernel_rfl
theorem tA_63 : tAgg Tryz.prog 63 = some false := by kernel_rfl
theorem tS_64 : tSize Tryz.prog 64 = some 1 := by kernel_rfl
theorem tA_64 : tAgg Tryz.prog 64 = some false := by kernel_rfl
theorem tS_65 : tSize Tryz.prog 65 = some 1 := by kernel_rfl
theorem tA_65 : tAgg Tryz.prog 65 = some false := by kernel_rfl
theorem tS_66 : tSize Tryz.prog 66 = some 1 := by kernel_rfl
theorem tA_66 : tAgg Tryz.prog 66 = some false := by kernel_rfl
theorem tS_67 : tSize Tryz.prog 67 = some 1 := by kernel_rfl
theorem tA_67 : tAgg Tryz.prog 67 = some false := by kernel_rfl
theorem tS_68 : tSize Tryz.prog 68 = some 1 := by kernel_rfl
theorem tA_68 : tAgg Tryz.prog 68 = some false := by kernel_rfl
theorem tS_69 : tSize Tryz.prog 69 = some 1 := by kernel_rfl
theorem tA_69 : tAgg Tryz.prog 69 = some false := by kernel_rfl
theorem tS_70 : tSize Tryz.prog 70 = some 1 := by kernel_rfl
theorem tA_70 : tAgg Tryz.prog 70 = some false := by kernel_rfl
theorem tS_71 : tSize Tryz.prog 71 = some 1 := by kernel_rfl
theorem tA_71 : tAgg Tryz.prog 71 = some false := by kernel_rfl
theorem tS_72 : tSize Tryz.prog 72 = some 1 := by kernel_rfl
theorem tA_72 : tAgg Tryz.prog 72 = some false := by kernel_rfl
theorem tS_73 : tSize Tryz.prog 73 = some 1 := by kernel_rfl
theorem tA_73 : tAgg Tryz.prog 73 = some false := by kernel_rfl
theorem tS_74 : tSize Tryz.prog 74 = some 1 := by kernel_rfl
theorem tA_74 : tAgg Tryz.prog 74 = some false := by kernel_rfl
theorem tS_75 : tSize Tryz.prog 75 = some 1 := by kernel_rfl
theorem tA_75 : tAgg Tryz.prog 75 = some false := by kernel_rfl
theorem tS_76 : tSize Tryz.prog 76 = some 1 := by kernel_rfl
theorem tA_76 : tAgg Tryz.prog 76 = some false := by kernel_rfl
theorem tS_77 : tSize Tryz.prog 77 = some 1 := by kernel_rfl
theorem tA_77 : tAgg Tryz.prog 77 = some false := by kernel_rfl
theorem tS_78 : tSize Tryz.prog 78 = some 1 := by kernel_rfl
theorem tA_78 : tAgg Tryz.prog 78 = some false := by kernel_rfl
theorem tS_79 : tSize Tryz.prog 79 = some 1 := by kernel_rfl
theorem tA_79 : tAgg Tryz.prog 79 = some false := by kernel_rfl
theorem tS_80 : tSize Tryz.prog 80 = some 1 := by kernel_rfl
theorem tA_80 : tAgg Tryz.prog 80 = some false := by kernel_rfl
theorem tS_81 : tSize Tryz.prog 81 = some 1 := by kernel_rfl
theorem tA_81 : tAgg Tryz.prog 81 = some false := by kernel_rfl
theorem tS_82 : tSize Tryz.prog 82 = some 1 := by kernel_rfl
theorem tA_82 : tAgg Tryz.prog 82 = some false := by kernel_rfl
theorem tZ_84 : tZero Tryz.prog 84 = some (.agg #[.slice none 0 0, .slice none 0 0, .slice none 0 0, .slice none 0 0, .slice none 0 0, .slice none 0 0, .slice none 0 0, .slice none 0 0, .slice none 0 0, .slice none 0 0, .slice none 0 0, .slice none 0 0, .slice none 0 0, .slice none 0 0, .slice none 0 0, .slice none 0 0, .slice none 0 0, .slice none 0 0, .slice none 0 0, .slice none 0 0, .slice none 0 0, .slice none 0 0, .slice none 0 0, .slice none 0 0, .slice none 0 0, .slice none 0 0, .slice none 0 0, .slice none 0 0, .slice none 0 0]) := by kernel_rfl
theorem tP_84 : tPlaces Tryz.prog 84 = some [(0, 1), (1, 1), (2, 1), (3, 1), (4, 1), (5, 1), (6, 1), (7, 1), (8, 1), (9, 1), (10, 1), (11, 1), (12, 1), (13, 1), (14, 1), (15, 1), (16, 1), (17, 1), (18, 1), (19, 1), (20, 1), (21, 1), (22, 1), (23, 1), (24, 1), (25, 1), (26, 1), (27, 1), (28, 1)] := by kernel_rfl
theorem tF_84_0 : fldOff Tryz.prog 84 0 = some 0 := by kernel_rfl
theorem tF_84_1 : fldOff Tryz.prog 84 1 = some 1 := by kernel_rfl
theorem tF_84_2 : fldOff Tryz.prog 84 2 = some 2 := by kernel_rfl
theorem tF_84_3 : fldOff Tryz.prog 84 3 = some 3 := by kernel_rfl
theorem tF_84_4 : fldOff Tryz.prog 84 4 = some 4 := by kernel_rfl
theorem tF_84_5 : fldOff Tryz.prog 84 5 = some 5 := by kernel_rfl
theorem tF_84_6 : fldOff Tryz.prog 84 6 = some 6 := by kernel_rfl
theorem tF_84_7 : fldOff Tryz.prog 84 7 = some 7 := by kernel_rfl
theorem tF_84_8 : fldOff Tryz.prog 84 8 = some 8 := by kernel_rfl
theorem tF_84_9 : fldOff Tryz.prog 84 9 = some 9 := by kernel_rfl
theorem tF_84_10 : fldOff Tryz.prog 84 10 = some 10 := by kernel_rfl
theorem tF_84_11 : fldOff Tryz.prog 84 11 = some 11 := by kernel_rfl
theorem tF_84_12 : fldOff Tryz.prog 84 12 = some 12 := by kernel_rfl
theorem tF_84_13 : fldOff Tryz.prog 84 13 = some 13 := by kernel_rfl
theorem tF_84_14 : fldOff Tryz.prog 84 14 = some 14 := by kernel_rfl
theorem tF_84_15 : fldOff Tryz.prog 84 15 = some 15 := by kernel_rfl
theorem tF_84_16 : fldOff Tryz.prog 84 16 = some 16 := by kernel_rfl
theorem tF_84_17 : fldOff Tryz.prog 84 17 = some 17 := by kernel_rfl
theorem tF_84_18 : fldOff Tryz.prog 84 18 = some 18 := by kernel_rfl
theorem tF_84_19 : fldOff Tryz.prog 84 19 = some 19 := by kernel_rfl
theorem tF_84_20 : fldOff Tryz.prog 84 20 = some 20 := by kernel_rfl
theorem tF_84_21 : fldOff Tryz.prog 84 21 = some 21 := by kernel_rfl
theorem tF_84_22 : fldOff Tryz.prog 84 22 = some 22 := by kernel_rfl
theorem tF_84_23 : fldOff Tryz.prog 84 23 = some 23 := by kernel_rfl
theorem tF_84_24 : fldOff Tryz.prog 84 24 = some 24 := by kernel_rfl
theorem tF_84_25 : fldOff Tryz.prog 84 25 = some 25 := by kernel_rfl
theorem tF_84_26 : fldOff Tryz.prog 84 26 = some 26 := by kernel_rfl
theorem tF_84_27 : fldOff Tryz.prog 84 27 = some 27 := by kernel_rfl
theorem tF_84_28 : fldOff Tryz.prog 84 28 = some 28 := by kernel_rfl
theorem fn_4 : isFn Tryz.prog 4 = true := by kernel_rfl
theorem fn_5 : isFn Tryz.prog 5 = true := by kernel_rfl
theorem fn_6 : isFn Tryz.prog 6 = true := by kernel_rfl
theorem fn_7 : isFn Tryz.prog 7 = true := by kernel_rfl
theorem fn_8 : isFn Tryz.prog 8 = true := by kernel_rfl
theorem fn_9 : isFn Tryz.prog 9 = true := by kernel_rfl
theorem fn_10 : isFn Tryz.prog 10 = true := by kernel_rfl
theorem fn_11 : isFn Tryz.prog 11 = true := by kernel_rfl
theorem fn_12 : isFn Tryz.prog 12 = true := by kernel_rfl
theorem fn_13 : isFn Tryz.prog 13 = true := by kernel_rfl
theorem fn_14 : isFn Tryz.prog 14 = true := by kernel_rfl
theorem fn_18 : isFn Tryz.prog 18 = true := by kernel_rfl
theorem fn_19 : isFn Tryz.prog 19 = true := by kernel_rfl
theorem fn_20 : isFn Tryz.prog 20 = true := by kernel_rfl
theorem fn_21 : isFn Tryz.prog 21 = true := by kernel_rfl
theorem fn_22 : isFn Tryz.prog 22 = true := by kernel_rfl
theorem fn_23 : isFn Tryz.prog 23 = true := by kernel_rfl
theorem fn_24 : isFn Tryz.prog 24 = true := by kernel_rfl
theorem fn_27 : isFn Tryz.prog 27 = true := by kernel_rfl
theorem fn_28 : isFn Tryz.prog 28 = true := by kernel_rfl
theorem fn_29 : isFn Tryz.prog 29 = true := by kernel_rfl
theorem fn_30 : isFn Tryz.prog 30 = true := by kernel_rfl
theorem fn_31 : isFn Tryz.prog 31 = true := by kernel_rfl
theorem fn_32 : isFn Tryz.prog 32 = true := by kernel_rfl
theorem fn_33 : isFn Tryz.prog 33 = true := by kernel_rfl
theorem fn_34 : isFn Tryz.prog 34 = true := by kernel_rfl
theorem fn_35 : isFn Tryz.prog 35 = true := by kernel_rfl
theorem fn_36 : isFn Tryz.prog 36 = true := by kernel_rfl
theorem fn_37 : isFn Tryz.prog 37 = true := by kernel_rfl
theorem fn_38 : isFn Tryz.prog 38 = true := by kernel_rfl
theorem fn_39 : isFn Tryz.prog 39 = true := by kernel_rfl
theorem fn_40 : isFn Tryz.prog 40 = true := by kernel_rfl
theorem fn_41 : isFn Tryz.prog 41 = true := by kernel_rfl
theorem fn_42 : isFn Tryz.prog 42 = true := by kernel_rfl
theorem fn_43 : isFn Tryz.prog 43 = true := by kernel_rfl
theorem fn_44 : isFn Tryz.prog 44 = true := by kernel_rfl
theorem fn_45 : isFn Tryz.prog 45 = true := by kernel_rfl
theorem fn_46 : isFn Tryz.prog 46 = true := by kernel_rfl
theorem fn_47 : isFn Tryz.prog 47 = true := by kernel_rfl
theorem fn_48 : isFn Tryz.prog 48 = true := by kernel_rfl
theorem fn_49 : isFn Tryz.prog 49 = true := by kernel_rfl
theorem fn_50 : isFn Tryz.prog 50 = true := by kernel_rfl
theorem fn_51 : isFn Tryz.prog 51 = true := by kernel_rfl
theorem fn_52 : isFn Tryz.prog 52 = true := by kernel_rfl
theorem fn_53 : isFn Tryz.prog 53 = true := by kernel_rfl
theorem fn_54 : isFn Tryz.prog 54 = true := by kernel_rfl
theorem fn_55 : isFn Tryz.prog 55 = true := by kernel_rfl
theorem fn_56 : isFn Tryz.prog 56 = true := by kernel_rfl
theorem fn_57 : isFn Tryz.prog 57 = true := by kernel_rfl
theorem fn_58 : isFn Tryz.prog 58 = true := by kernel_rfl
end Go.Proofs.YtegkmbkbaenkcaaGreat
