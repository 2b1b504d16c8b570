import Derived.Test.YtkakbckmajdggaaGreatChecked
import Derived.Test.YtkakbckmajdggaaGreatIdx
namespace Go.Proofs.YtkakbckmajdggaaGreat
open Go.RowKit
theorem tS_3 : tSize Tryz.prog 3 = some 1 := by kernel_rfl
theorem tA_3 : tAgg Tryz.prog 3 = some false := by kernel_rfl
theorem tS_5 : tSize Tryz.prog 5 = some 1 := by kernel_rfl
theorem tA_5 : tAgg Tryz.prog 5 = some false := by kernel_rfl
theorem tZ_5 : tZero Tryz.prog 5 = some (.int .u8 0) := by kernel_rfl
theorem tR_5 : tRow Tryz.prog 5 = some (.int .u8 0, 1, 1) := by kernel_rfl
theorem tS_9 : tSize Tryz.prog 9 = some 1 := by kernel_rfl
theorem tA_9 : tAgg Tryz.prog 9 = some false := by kernel_rfl
theorem tZ_9 : tZero Tryz.prog 9 = some (.string ⟨#[]⟩) := by kernel_rfl
theorem tR_9 : tRow Tryz.prog 9 = some (.string ⟨#[]⟩, 1, 16) := by kernel_rfl
theorem tS_22 : tSize Tryz.prog 22 = some 1 := by kernel_rfl
theorem tA_22 : tAgg Tryz.prog 22 = some false := by kernel_rfl
theorem tZ_22 : tZero Tryz.prog 22 = some (.slice none 0 0) := by kernel_rfl
theorem tR_22 : tRow Tryz.prog 22 = some (.slice none 0 0, 1, 24) := by kernel_rfl
theorem tE_22 : tElem Tryz.prog 22 = some 5 := by kernel_rfl
theorem tS_27 : tSize Tryz.prog 27 = some 1 := by kernel_rfl
theorem tA_27 : tAgg Tryz.prog 27 = some false := by kernel_rfl
theorem tZ_27 : tZero Tryz.prog 27 = some (.int .i64 0) := by kernel_rfl
theorem tR_27 : tRow Tryz.prog 27 = some (.int .i64 0, 1, 8) := by kernel_rfl
theorem tS_33 : tSize Tryz.prog 33 = some 1 := by kernel_rfl
theorem tA_33 : tAgg Tryz.prog 33 = some false := by kernel_rfl
theorem tZ_33 : tZero Tryz.prog 33 = some (.slice none 0 0) := by kernel_rfl
theorem tR_33 : tRow Tryz.prog 33 = some (.slice none 0 0, 1, 24) := by kernel_rfl
theorem tE_33 : tElem Tryz.prog 33 = some 9 := by kernel_rfl
theorem tS_35 : tSize Tryz.prog 35 = some 1 := by kernel_rfl
theorem tA_35 : tAgg Tryz.prog 35 = some false := by kernel_rfl
theorem tE_35 : tElem Tryz.prog 35 = some 33 := by kernel_rfl
theorem tS_37 : tSize Tryz.prog 37 = some 1 := by kernel_rfl
theorem tA_37 : tAgg Tryz.prog 37 = some false := by kernel_rfl
theorem tE_37 : tElem Tryz.prog 37 = some 22 := by kernel_rfl
theorem tE_40 : tElem Tryz.prog 40 = some 27 := by kernel_rfl
theorem tS_43 : tSize Tryz.prog 43 = some 1 := by kernel_rfl
theorem tA_43 : tAgg Tryz.prog 43 = some false := by kernel_rfl
theorem tS_45 : tSize Tryz.prog 45 = some 2 := by kernel_rfl
theorem tZ_45 : tZero Tryz.prog 45 = some (.agg #[.int .i64 0, .map none]) := by kernel_rfl
theorem tP_45 : tPlaces Tryz.prog 45 = some [(0, 1), (1, 1)] := by kernel_rfl
theorem tF_45_0 : fldOff Tryz.prog 45 0 = some 0 := by kernel_rfl
theorem tF_45_1 : fldOff Tryz.prog 45 1 = some 1 := by kernel_rfl
theorem tS_49 : tSize Tryz.prog 49 = some 2 := by kernel_rfl
theorem tA_49 : tAgg Tryz.prog 49 = some true := by kernel_rfl
theorem tZ_49 : tZero Tryz.prog 49 = some (.agg #[.slice none 0 0, .slice none 0 0]) := by kernel_rfl
theorem tP_49 : tPlaces Tryz.prog 49 = some [(0, 1), (1, 1)] := by kernel_rfl
theorem tF_49_0 : fldOff Tryz.prog 49 0 = some 0 := by kernel_rfl
theorem tF_49_1 : fldOff Tryz.prog 49 1 = some 1 := by kernel_rfl
theorem tS_62 : tSize Tryz.prog 62 = some 1 := by kernel_rfl
theorem tA_62 : tAgg Tryz.prog 62 = some false := by kernel_rfl
theorem tS_63 : tSize Tryz.prog 63 = some 1 := by kernel_rfl
theorem tA_63 : tAgg Tryz.prog 63 = some false := by kernel_rfl
theorem tS_64 : tSize Tryz.prog 64 = some 1 := by kernel_rfl
theorem tA_64 : tAgg Tryz.prog 64 = some false := by kernel_rfl
theorem tS_65 : tSize Tryz.prog 65 = some 1 := by kernel_rfl
theorem tA_65 : tAgg Tryz.prog 65 = some false := by kernel_rfl
theorem tS_66 : tSize Tryz.prog 66 = some 1 := by kernel_rfl
theorem tA_66 : tAgg Tryz.prog 66 = some false := by kernel_rfl
theorem tS_67 : tSize Tryz.prog 67 = some 1 := by kernel_rfl
theorem tA_67 : tAgg Tryz.prog 67 = some false := by kernel_rfl
theorem tS_68 : tSize Tryz.prog 68 = some 1 := by kernel_rfl
theorem tA_68 : tAgg Tryz.prog 68 = some false := by kernel_rfl
theorem tS_69 : tSize Tryz.prog 69 = some 1 := by kernel_rfl
theorem tA_69 : tAgg Tryz.prog 69 = some false := by kernel_rfl
theorem tS_70 : tSize Tryz.prog 70 = some 1 := by kernel_rfl
theorem tA_70 : tAgg Tryz.prog 70 = some false := by kernel_rfl
theorem tS_71 : tSize Tryz.prog 71 = some 1 := by kernel_rfl
theorem tA_71 : tAgg Tryz.prog 71 = some false := by kernel_rfl
theorem tS_72 : tSize Tryz.prog 72 = some 1 := by kernel_rfl
theorem tA_72 : tAgg Tryz.prog 72 = some false := by kernel_rfl
theorem tS_73 : tSize Tryz.prog 73 = some 1 := by kernel_rfl
theorem tA_73 : tAgg Tryz.prog 73 = some false := by kernel_rfl
theorem tS_74 : tSize Tryz.prog 74 = some 1 := by kernel_rfl
theorem tA_74 : tAgg Tryz.prog 74 = some false := by kernel_rfl
theorem tS_75 : tSize Tryz.prog 75 = some 1 := by kernel_rfl
theorem tA_75 : tAgg Tryz.prog 75 = some false := by kernel_rfl
theorem tS_76 : tSize Tryz.prog 76 = some 1 := by kernel_rfl
theorem tA_76 : tAgg Tryz.prog 76 = some false := by kernel_rfl
theorem tS_77 : tSize Tryz.prog 77 = some 1 := by kernel_rfl
theorem tA_77 : tAgg Tryz.prog 77 = some false := by kernel_rfl
theorem tS_78 : tSize Tryz.prog 78 = some 1 := by kernel_rfl
theorem tA_78 : tAgg Tryz.prog 78 = some false := by kernel_rfl
theorem tS_79 : tSize Tryz.prog 79 = some 1 := by kernel_rfl
theorem tA_79 : tAgg Tryz.prog 79 = some false := by kernel_rfl
theorem tS_80 : tSize Tryz.prog 80 = some 1 := by kernel_rfl
theorem tA_80 : tAgg Tryz.prog 80 = some false := by kernel_rfl
theorem tS_81 : tSize Tryz.prog 81 = some 1 := by kernel_rfl
theorem tA_81 : tAgg Tryz.prog 81 = some false := by kernel_rfl
theorem tS_82 : tSize Tryz.prog 82 = some 1 := by kernel_rfl
theorem tA_82 : tAgg Tryz.prog 82 = some false := by kernel_rfl
theorem tS_83 : tSize Tryz.prog 83 = some 1 := by kernel_rfl
theorem tA_83 : tAgg Tryz.prog 83 = some false := by kernel_rfl
theorem tS_84 : tSize Tryz.prog 84 = some 1 := by kernel_rfl
theorem tA_84 : tAgg Tryz.prog 84 = some false := by kernel_rfl
theorem tS_85 : tSize Tryz.prog 85 = some 1 := by kernel_rfl
theorem tA_85 : tAgg Tryz.prog 85 = some false := by kernel_rfl
theorem tS_86 : tSize Tryz.prog 86 = some 1 := by kernel_rfl
theorem tA_86 : tAgg Tryz.prog 86 = some false := by kernel_rfl
theorem tS_87 : tSize Tryz.prog 87 = some 1 := by kernel_rfl
theorem tA_87 : tAgg Tryz.prog 87 = some false := by kernel_rfl
theorem tS_88 : tSize Tryz.prog 88 = some 1 := by kernel_rfl
theorem tA_88 : tAgg Tryz.prog 88 = some false := by kernel_rfl
theorem tZ_90 : tZero Tryz.prog 90 = some (.agg #[.slice none 0 0, .slice none 0 0, .slice none 0 0, .slice none 0 0, .slice none 0 0, .slice none 0 0, .slice none 0 0, .slice none 0 0, .slice none 0 0, .slice none 0 0, .slice none 0 0, .slice none 0 0, .slice none 0 0, .slice none 0 0, .slice none 0 0, .slice none 0 0, .slice none 0 0, .slice none 0 0, .slice none 0 0, .slice none 0 0, .slice none 0 0, .slice none 0 0, .slice none 0 0, .slice none 0 0, .slice none 0 0, .slice none 0 0, .slice none 0 0, .slice none 0 0, .slice none 0 0]) := by kernel_rfl
theorem tP_90 : tPlaces Tryz.prog 90 = some [(0, 1), (1, 1), (2, 1), (3, 1), (4, 1), (5, 1), (6, 1), (7, 1), (8, 1), (9, 1), (10, 1), (11, 1), (12, 1), (13, 1), (14, 1), (15, 1), (16, 1), (17, 1), (18, 1), (19, 1), (20, 1), (21, 1), (22, 1), (23, 1), (24, 1), (25, 1), (26, 1), (27, 1), (28, 1)] := by kernel_rfl
theorem tF_90_0 : fldOff Tryz.prog 90 0 = some 0 := by kernel_rfl
theorem tF_90_1 : fldOff Tryz.prog 90 1 = some 1 := by kernel_rfl
theorem tF_90_2 : fldOff Tryz.prog 90 2 = some 2 := by kernel_rfl
theorem tF_90_3 : fldOff Tryz.prog 90 3 = some 3 := by kernel_rfl
theorem tF_90_4 : fldOff Tryz.prog 90 4 = some 4 := by kernel_rfl
theorem tF_90_5 : fldOff Tryz.prog 90 5 = some 5 := by kernel_rfl
theorem tF_90_6 : fldOff Tryz.prog 90 6 = some 6 := by kernel_rfl
theorem tF_90_7 : fldOff Tryz.prog 90 7 = some 7 := by kernel_rfl
theorem tF_90_8 : fldOff Tryz.prog 90 8 = some 8 := by kernel_rfl
theorem tF_90_9 : fldOff Tryz.prog 90 9 = some 9 := by kernel_rfl
theorem tF_90_10 : fldOff Tryz.prog 90 10 = some 10 := by kernel_rfl
theorem tF_90_11 : fldOff Tryz.prog 90 11 = some 11 := by kernel_rfl
theorem tF_90_12 : fldOff Tryz.prog 90 12 = some 12 := by kernel_rfl
theorem tF_90_13 : fldOff Tryz.prog 90 13 = some 13 := by kernel_rfl
theorem tF_90_14 : fldOff Tryz.prog 90 14 = some 14 := by kernel_rfl
theorem tF_90_15 : fldOff Tryz.prog 90 15 = some 15 := by kernel_rfl
theorem tF_90_16 : fldOff Tryz.prog 90 16 = some 16 := by kernel_rfl
theorem tF_90_17 : fldOff Tryz.prog 90 17 = some 17 := by kernel_rfl
theorem tF_90_18 : fldOff Tryz.prog 90 18 = some 18 := by kernel_rfl
theorem tF_90_19 : fldOff Tryz.prog 90 19 = some 19 := by kernel_rfl
theorem tF_90_20 : fldOff Tryz.prog 90 20 = some 20 := by kernel_rfl
theorem tF_90_21 : fldOff Tryz.prog 90 21 = some 21 := by kernel_rfl
theorem tF_90_22 : fldOff Tryz.prog 90 22 = some 22 := by kernel_rfl
theorem tF_90_23 : fldOff Tryz.prog 90 23 = some 23 := by kernel_rfl
theorem tF_90_24 : fldOff Tryz.prog 90 24 = some 24 := by kernel_rfl
theorem tF_90_25 : fldOff Tryz.prog 90 25 = some 25 := by kernel_rfl
theorem tF_90_26 : fldOff Tryz.prog 90 26 = some 26 := by kernel_rfl
theorem tF_90_27 : fldOff Tryz.prog 90 27 = some 27 := by kernel_rfl
theorem tF_90_28 : fldOff Tryz.prog 90 28 = some 28 := by kernel_rfl
theorem fn_4 : isFn Tryz.prog 4 = true := by kernel_rfl
theorem fn_5 : isFn Tryz.prog 5 = true := by kernel_rfl
theorem fn_6 : isFn Tryz.prog 6 = true := by kernel_rfl
theorem fn_7 : isFn Tryz.prog 7 = true := by kernel_rfl
theorem fn_8 : isFn Tryz.prog 8 = true := by kernel_rfl
theorem fn_9 : isFn Tryz.prog 9 = true := by kernel_rfl
theorem fn_10 : isFn Tryz.prog 10 = true := by kernel_rfl
theorem fn_11 : isFn Tryz.prog 11 = true := by kernel_rfl
theorem fn_12 : isFn Tryz.prog 12 = true := by kernel_rfl
theorem fn_13 : isFn Tryz.prog 13 = true := by kernel_rfl
theorem fn_14 : isFn Tryz.prog 14 = true := by kernel_rfl
theorem fn_15 : isFn Tryz.prog 15 = true := by kernel_rfl
theorem fn_16 : isFn Tryz.prog 16 = true := by kernel_rfl
theorem fn_17 : isFn Tryz.prog 17 = true := by kernel_rfl
theorem fn_18 : isFn Tryz.prog 18 = true := by kernel_rfl
theorem fn_19 : isFn Tryz.prog 19 = true := by kernel_rfl
theorem fn_20 : isFn Tryz.prog 20 = true := by kernel_rfl
theorem fn_21 : isFn Tryz.prog 21 = true := by kernel_rfl
theorem fn_22 : isFn Tryz.prog 22 = true := by kernel_rfl
theorem fn_23 : isFn Tryz.prog 23 = true := by kernel_rfl
theorem fn_24 : isFn Tryz.prog 24 = true := by kernel_rfl
theorem fn_25 : isFn Tryz.prog 25 = true := by kernel_rfl
theorem fn_26 : isFn Tryz.prog 26 = true := by kernel_rfl
theorem fn_27 : isFn Tryz.prog 27 = true := by kernel_rfl
theorem fn_28 : isFn Tryz.prog 28 = true := by kernel_rfl
theorem fn_29 : isFn Tryz.prog 29 = true := by kernel_rfl
theorem fn_30 : isFn Tryz.prog 30 = true := by kernel_rfl
theorem fn_31 : isFn Tryz.prog 31 = true := by kernel_rfl
theorem fn_32 : isFn Tryz.prog 32 = true := by kernel_rfl
theorem fn_33 : isFn Tryz.prog 33 = true := by kernel_rfl
theorem fn_34 : isFn Tryz.prog 34 = true := by kernel_rfl
theorem fn_35 : isFn Tryz.prog 35 = true := by kernel_rfl
theorem fn_36 : isFn Tryz.prog 36 = true := by kernel_rfl
theorem fn_37 : isFn Tryz.prog 37 = true := by kernel_rfl
theorem fn_38 : isFn Tryz.prog 38 = true := by kernel_rfl
theorem fn_39 : isFn Tryz.prog 39 = true := by kernel_rfl
theorem fn_43 : isFn Tryz.prog 43 = true := by kernel_rfl
theorem fn_44 : isFn Tryz.prog 44 = true := by kernel_rfl
theorem fn_45 : isFn Tryz.prog 45 = true := by kernel_rfl
theorem fn_46 : isFn Tryz.prog 46 = true := by kernel_rfl
theorem fn_47 : isFn Tryz.prog 47 = true := by kernel_rfl
theorem fn_48 : isFn Tryz.prog 48 = true := by kernel_rfl
theorem fn_49 : isFn Tryz.prog 49 = true := by kernel_rfl
theorem fn_50 : isFn Tryz.prog 50 = true := by kernel_rfl
theorem fn_51 : isFn Tryz.prog 51 = true := by kernel_rfl
theorem fn_52 : isFn Tryz.prog 52 = true := by kernel_rfl
theorem fn_53 : isFn Tryz.prog 53 = true := by kernel_rfl
theorem fn_54 : isFn Tryz.prog 54 = true := by kernel_rfl
theorem fn_55 : isFn Tryz.prog 55 = true := by kernel_rfl
theorem fn_56 : isFn Tryz.prog 56 = true := by kernel_rfl
theorem fn_57 : isFn Tryz.prog 57 = true := by kernel_rfl
theorem fn_58 : isFn Tryz.prog 58 = true := by kernel_rfl
theorem fn_59 : isFn Tryz.prog 59 = true := by kernel_rfl
theorem fn_60 : isFn Tryz.prog 60 = true := by kernel_rfl
theorem fn_61 : isFn Tryz.prog 61 = true := by kernel_rfl
theorem fn_62 : isFn Tryz.prog 62 = true := by kernel_rfl
theorem fn_63 : isFn Tryz.prog 63 = true := by kernel_rfl
theorem fn_64 : isFn Tryz.prog 64 = true := by kernel_rfl
theorem fn_65 : isFn Tryz.prog 65 = true := by kernel_rfl
theorem fn_66 : isFn Tryz.prog 66 = true := by kernel_rfl
theorem fn_67 : isFn Tryz.prog 67 = true := by kernel_rfl
theorem fn_68 : isFn Tryz.prog 68 = true := by kernel_rfl
theorem fn_69 : isFn Tryz.prog 69 = true := by kernel_rfl
theorem fn_70 : isFn Tryz.prog 70 = true := by kernel_rfl
theorem fn_71 : isFn Tryz.prog 71 = true := by kernel_rfl
theorem fn_72 : isFn Tryz.prog 72 = true := by kernel_rfl
theorem fn_76 : isFn Tryz.prog 76 = true := by kernel_rfl
theorem fn_119 : isFn Tryz.prog 119 = true := by kernel_rfl
end Go.Proofs.YtkakbckmajdggaaGreat
