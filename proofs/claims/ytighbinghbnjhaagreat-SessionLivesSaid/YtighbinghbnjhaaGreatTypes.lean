import Derived.Test.YtighbinghbnjhaaGreatChecked
import Derived.Test.YtighbinghbnjhaaGreatIdx
namespace Go.Proofs.YtighbinghbnjhaaGreat
open Go.RowKit
theorem tS_3 : tSize Tryz.prog 3 = some 1 := by kernel_rfl
theorem tA_3 : tAgg Tryz.prog 3 = some false := by kernel_rfl
theorem tS_22 : tSize Tryz.prog 22 = some 1 := by kernel_rfl
theorem tA_22 : tAgg Tryz.prog 22 = some false := by kernel_rfl
theorem tZ_22 : tZero Tryz.prog 22 = some (.slice none 0 0) := by kernel_rfl
theorem tR_22 : tRow Tryz.prog 22 = some (.slice none 0 0, 1, 24) := by kernel_rfl
theorem tE_22 : tElem Tryz.prog 22 = some 31 := by kernel_rfl
theorem tE_23 : tElem Tryz.prog 23 = some 45 := by kernel_rfl
theorem tS_25 : tSize Tryz.prog 25 = some 1 := by kernel_rfl
theorem tA_25 : tAgg Tryz.prog 25 = some false := by kernel_rfl
theorem tS_26 : tSize Tryz.prog 26 = some 1 := by kernel_rfl
theorem tA_26 : tAgg Tryz.prog 26 = some false := by kernel_rfl
theorem tZ_26 : tZero Tryz.prog 26 = some (.slice none 0 0) := by kernel_rfl
theorem tR_26 : tRow Tryz.prog 26 = some (.slice none 0 0, 1, 24) := by kernel_rfl
theorem tE_26 : tElem Tryz.prog 26 = some 55 := by kernel_rfl
theorem tS_27 : tSize Tryz.prog 27 = some 1 := by kernel_rfl
theorem tA_27 : tAgg Tryz.prog 27 = some false := by kernel_rfl
theorem tZ_27 : tZero Tryz.prog 27 = some (.slice none 0 0) := by kernel_rfl
theorem tR_27 : tRow Tryz.prog 27 = some (.slice none 0 0, 1, 24) := by kernel_rfl
theorem tE_27 : tElem Tryz.prog 27 = some 149 := by kernel_rfl
theorem tS_29 : tSize Tryz.prog 29 = some 4 := by kernel_rfl
theorem tA_29 : tAgg Tryz.prog 29 = some true := by kernel_rfl
theorem tZ_29 : tZero Tryz.prog 29 = some (.agg #[.int .i64 0, .int .i64 0, .slice none 0 0, .slice none 0 0]) := by kernel_rfl
theorem tR_29 : tRow Tryz.prog 29 = some (.agg #[.int .i64 0, .int .i64 0, .slice none 0 0, .slice none 0 0], 4, 64) := by kernel_rfl
theorem tP_29 : tPlaces Tryz.prog 29 = some [(0, 1), (1, 1), (2, 1), (3, 1)] := by kernel_rfl
theorem tF_29_0 : fldOff Tryz.prog 29 0 = some 0 := by kernel_rfl
theorem tF_29_1 : fldOff Tryz.prog 29 1 = some 1 := by kernel_rfl
theorem tF_29_2 : fldOff Tryz.prog 29 2 = some 2 := by kernel_rfl
theorem tF_29_3 : fldOff Tryz.prog 29 3 = some 3 := by kernel_rfl
theorem tS_31 : tSize Tryz.prog 31 = some 6 := by kernel_rfl
theorem tA_31 : tAgg Tryz.prog 31 = some true := by kernel_rfl
theorem tZ_31 : tZero Tryz.prog 31 = some (.agg #[.int .i64 0, .int .i64 0, .int .i64 0, .int .i64 0, .slice none 0 0, .slice none 0 0]) := by kernel_rfl
theorem tR_31 : tRow Tryz.prog 31 = some (.agg #[.int .i64 0, .int .i64 0, .int .i64 0, .int .i64 0, .slice none 0 0, .slice none 0 0], 6, 80) := by kernel_rfl
theorem tP_31 : tPlaces Tryz.prog 31 = some [(0, 1), (1, 1), (2, 4)] := by kernel_rfl
theorem tF_31_0 : fldOff Tryz.prog 31 0 = some 0 := by kernel_rfl
theorem tF_31_1 : fldOff Tryz.prog 31 1 = some 1 := by kernel_rfl
theorem tF_31_2 : fldOff Tryz.prog 31 2 = some 2 := by kernel_rfl
theorem tS_45 : tSize Tryz.prog 45 = some 7 := by kernel_rfl
theorem tA_45 : tAgg Tryz.prog 45 = some true := by kernel_rfl
theorem tF_45_0 : fldOff Tryz.prog 45 0 = some 0 := by kernel_rfl
theorem tF_45_1 : fldOff Tryz.prog 45 1 = some 1 := by kernel_rfl
theorem tF_45_2 : fldOff Tryz.prog 45 2 = some 2 := by kernel_rfl
theorem tF_45_3 : fldOff Tryz.prog 45 3 = some 3 := by kernel_rfl
theorem tS_50 : tSize Tryz.prog 50 = some 1 := by kernel_rfl
theorem tA_50 : tAgg Tryz.prog 50 = some false := by kernel_rfl
theorem tE_50 : tElem Tryz.prog 50 = some 22 := by kernel_rfl
theorem tS_55 : tSize Tryz.prog 55 = some 3 := by kernel_rfl
theorem tA_55 : tAgg Tryz.prog 55 = some true := by kernel_rfl
theorem tZ_55 : tZero Tryz.prog 55 = some (.agg #[.int .i64 0, .int .i64 0, .slice none 0 0]) := by kernel_rfl
theorem tR_55 : tRow Tryz.prog 55 = some (.agg #[.int .i64 0, .int .i64 0, .slice none 0 0], 3, 40) := by kernel_rfl
theorem tP_55 : tPlaces Tryz.prog 55 = some [(0, 1), (1, 1), (2, 1)] := by kernel_rfl
theorem tF_55_0 : fldOff Tryz.prog 55 0 = some 0 := by kernel_rfl
theorem tF_55_1 : fldOff Tryz.prog 55 1 = some 1 := by kernel_rfl
theorem tF_55_2 : fldOff Tryz.prog 55 2 = some 2 := by kernel_rfl
theorem tZ_63 : tZero Tryz.prog 63 = some (.agg #[.slice none 0 0]) := by kernel_rfl
theorem tP_63 : tPlaces Tryz.prog 63 = some [(0, 1)] := by kernel_rfl
theorem tF_63_0 : fldOff Tryz.prog 63 0 = some 0 := by kernel_rfl
theorem tZ_65 : tZero Tryz.prog 65 = some (.agg #[.slice none 0 0, .int .i64 0]) := by kernel_rfl
theorem tP_65 : tPlaces Tryz.prog 65 = some [(0, 1), (1, 1)] := by kernel_rfl
theorem tF_65_0 : fldOff Tryz.prog 65 0 = some 0 := by kernel_rfl
theorem tF_65_1 : fldOff Tryz.prog 65 1 = some 1 := by kernel_rfl
theorem tZ_67 : tZero Tryz.prog 67 = some (.agg #[.slice none 0 0, .int .i64 0]) := by kernel_rfl
theorem tP_67 : tPlaces Tryz.prog 67 = some [(0, 1), (1, 1)] := by kernel_rfl
theorem tF_67_0 : fldOff Tryz.prog 67 0 = some 0 := by kernel_rfl
theorem tF_67_1 : fldOff Tryz.prog 67 1 = some 1 := by kernel_rfl
theorem tS_77 : tSize Tryz.prog 77 = some 1 := by kernel_rfl
theorem tA_77 : tAgg Tryz.prog 77 = some false := by kernel_rfl
theorem tZ_77 : tZero Tryz.prog 77 = some (.slice none 0 0) := by kernel_rfl
theorem tR_77 : tRow Tryz.prog 77 = some (.slice none 0 0, 1, 24) := by kernel_rfl
theorem tE_77 : tElem Tryz.prog 77 = some 29 := by kernel_rfl
theorem tS_78 : tSize Tryz.prog 78 = some 1 := by kernel_rfl
theorem tA_78 : tAgg Tryz.prog 78 = some false := by kernel_rfl
theorem tE_78 : tElem Tryz.prog 78 = some 77 := by kernel_rfl
theorem tS_81 : tSize Tryz.prog 81 = some 1 := by kernel_rfl
theorem tA_81 : tAgg Tryz.prog 81 = some false := by kernel_rfl
theorem tS_82 : tSize Tryz.prog 82 = some 1 := by kernel_rfl
theorem tA_82 : tAgg Tryz.prog 82 = some false := by kernel_rfl
theorem tS_83 : tSize Tryz.prog 83 = some 1 := by kernel_rfl
theorem tA_83 : tAgg Tryz.prog 83 = some false := by kernel_rfl
theorem tS_84 : tSize Tryz.prog 84 = some 1 := by kernel_rfl
theorem tA_84 : tAgg Tryz.prog 84 = some false := by kernel_rfl
theorem tS_85 : tSize Tryz.prog 85 = some 1 := by kernel_rfl
theorem tA_85 : tAgg Tryz.prog 85 = some false := by kernel_rfl
theorem tS_86 : tSize Tryz.prog 86 = some 1 := by kernel_rfl
theorem tA_86 : tAgg Tryz.prog 86 = some false := by kernel_rfl
theorem tS_87 : tSize Tryz.prog 87 = some 1 := by kernel_rfl
theorem tA_87 : tAgg Tryz.prog 87 = some false := by kernel_rfl
theorem tE_87 : tElem Tryz.prog 87 = some 27 := by kernel_rfl
theorem tS_88 : tSize Tryz.prog 88 = some 1 := by kernel_rfl
theorem tA_88 : tAgg Tryz.prog 88 = some false := by kernel_rfl
theorem tE_88 : tElem Tryz.prog 88 = some 26 := by kernel_rfl
theorem tS_89 : tSize Tryz.prog 89 = some 1 := by kernel_rfl
theorem tA_89 : tAgg Tryz.prog 89 = some false := by kernel_rfl
theorem tS_90 : tSize Tryz.prog 90 = some 1 := by kernel_rfl
theorem tA_90 : tAgg Tryz.prog 90 = some false := by kernel_rfl
theorem tS_91 : tSize Tryz.prog 91 = some 1 := by kernel_rfl
theorem tA_91 : tAgg Tryz.prog 91 = some false := by kernel_rfl
theorem tS_92 : tSize Tryz.prog 92 = some 1 := by kernel_rfl
theorem tA_92 : tAgg Tryz.prog 92 = some false := by kernel_rfl
theorem tS_93 : tSize Tryz.prog 93 = some 1 := by kernel_rfl
theorem tA_93 : tAgg Tryz.prog 93 = some false := by kernel_rfl
theorem tS_94 : tSize Tryz.prog 94 = some 1 := by kernel_rfl
theorem tA_94 : tAgg Tryz.prog 94 = some false := by kernel_rfl
theorem tS_95 : tSize Tryz.prog 95 = some 1 := by kernel_rfl
theorem tA_95 : tAgg Tryz.prog 95 = some false := by kernel_rfl
theorem tS_96 : tSize Tryz.prog 96 = some 1 := by kernel_rfl
theorem tA_96 : tAgg Tryz.prog 96 = some false := by kernel_rfl
theorem tS_97 : tSize Tryz.prog 97 = some 1 := by kernel_rfl
theorem tA_97 : tAgg Tryz.prog 97 = some false := by kernel_rfl
theorem tS_98 : tSize Tryz.prog 98 = some 1 := by kernel_rfl
theorem tA_98 : tAgg Tryz.prog 98 = some false := by kernel_rfl
theorem tS_99 : tSize Tryz.prog 99 = some 1 := by kernel_rfl
theorem tA_99 : tAgg Tryz.prog 99 = some false := by kernel_rfl
theorem tS_100 : tSize Tryz.prog 100 = some 1 := by kernel_rfl
theorem tA_100 : tAgg Tryz.prog 100 = some false := by kernel_rfl
theorem tS_101 : tSize Tryz.prog 101 = some 1 := by kernel_rfl
theorem tA_101 : tAgg Tryz.prog 101 = some false := by kernel_rfl
theorem tS_102 : tSize Tryz.prog 102 = some 1 := by kernel_rfl
theorem tA_102 : tAgg Tryz.prog 102 = some false := by kernel_rfl
theorem tS_103 : tSize Tryz.prog 103 = some 1 := by kernel_rfl
theorem tA_103 : tAgg Tryz.prog 103 = some false := by kernel_rfl
theorem tS_104 : tSize Tryz.prog 104 = some 1 := by kernel_rfl
theorem tA_104 : tAgg Tryz.prog 104 = some false := by kernel_rfl
theorem tS_105 : tSize Tryz.prog 105 = some 1 := by kernel_rfl
theorem tA_105 : tAgg Tryz.prog 105 = some false := by kernel_rfl
theorem tS_106 : tSize Tryz.prog 106 = some 1 := by kernel_rfl
theorem tA_106 : tAgg Tryz.prog 106 = some false := by kernel_rfl
theorem tS_107 : tSize Tryz.prog 107 = some 1 := by kernel_rfl
theorem tA_107 : tAgg Tryz.prog 107 = some false := by kernel_rfl
theorem tZ_109 : tZero Tryz.prog 109 = some (.agg #[.slice none 0 0, .slice none 0 0, .slice none 0 0, .slice none 0 0, .slice none 0 0, .slice none 0 0, .slice none 0 0, .slice none 0 0, .slice none 0 0, .slice none 0 0, .slice none 0 0, .slice none 0 0, .slice none 0 0, .slice none 0 0, .slice none 0 0, .slice none 0 0, .slice none 0 0, .slice none 0 0, .slice none 0 0, .slice none 0 0, .slice none 0 0, .slice none 0 0, .slice none 0 0, .slice none 0 0, .slice none 0 0, .slice none 0 0, .slice none 0 0, .slice none 0 0, .slice none 0 0]) := by kernel_rfl
theorem tP_109 : tPlaces Tryz.prog 109 = some [(0, 1), (1, 1), (2, 1), (3, 1), (4, 1), (5, 1), (6, 1), (7, 1), (8, 1), (9, 1), (10, 1), (11, 1), (12, 1), (13, 1), (14, 1), (15, 1), (16, 1), (17, 1), (18, 1), (19, 1), (20, 1), (21, 1), (22, 1), (23, 1), (24, 1), (25, 1), (26, 1), (27, 1), (28, 1)] := by kernel_rfl
theorem tF_109_0 : fldOff Tryz.prog 109 0 = some 0 := by kernel_rfl
theorem tF_109_1 : fldOff Tryz.prog 109 1 = some 1 := by kernel_rfl
theorem tF_109_2 : fldOff Tryz.prog 109 2 = some 2 := by kernel_rfl
theorem tF_109_3 : fldOff Tryz.prog 109 3 = some 3 := by kernel_rfl
theorem tF_109_4 : fldOff Tryz.prog 109 4 = some 4 := by kernel_rfl
theorem tF_109_5 : fldOff Tryz.prog 109 5 = some 5 := by kernel_rfl
theorem tF_109_6 : fldOff Tryz.prog 109 6 = some 6 := by kernel_rfl
theorem tF_109_7 : fldOff Tryz.prog 109 7 = some 7 := by kernel_rfl
theorem tF_109_8 : fldOff Tryz.prog 109 8 = some 8 := by kernel_rfl
theorem tF_109_9 : fldOff Tryz.prog 109 9 = some 9 := by kernel_rfl
theorem tF_109_10 : fldOff Tryz.prog 109 10 = some 10 := by kernel_rfl
theorem tF_109_11 : fldOff Tryz.prog 109 11 = some 11 := by kernel_rfl
theorem tF_109_12 : fldOff Tryz.prog 109 12 = some 12 := by kernel_rfl
theorem tF_109_13 : fldOff Tryz.prog 109 13 = some 13 := by kernel_rfl
theorem tF_109_14 : fldOff Tryz.prog 109 14 = some 14 := by kernel_rfl
theorem tF_109_15 : fldOff Tryz.prog 109 15 = some 15 := by kernel_rfl
theorem tF_109_16 : fldOff Tryz.prog 109 16 = some 16 := by kernel_rfl
theorem tF_109_17 : fldOff Tryz.prog 109 17 = some 17 := by kernel_rfl
theorem tF_109_18 : fldOff Tryz.prog 109 18 = some 18 := by kernel_rfl
theorem tF_109_19 : fldOff Tryz.prog 109 19 = some 19 := by kernel_rfl
theorem tF_109_20 : fldOff Tryz.prog 109 20 = some 20 := by kernel_rfl
theorem tF_109_21 : fldOff Tryz.prog 109 21 = some 21 := by kernel_rfl
theorem tF_109_22 : fldOff Tryz.prog 109 22 = some 22 := by kernel_rfl
theorem tF_109_23 : fldOff Tryz.prog 109 23 = some 23 := by kernel_rfl
theorem tF_109_24 : fldOff Tryz.prog 109 24 = some 24 := by kernel_rfl
theorem tF_109_25 : fldOff Tryz.prog 109 25 = some 25 := by kernel_rfl
theorem tF_109_26 : fldOff Tryz.prog 109 26 = some 26 := by kernel_rfl
theorem tF_109_27 : fldOff Tryz.prog 109 27 = some 27 := by kernel_rfl
theorem tF_109_28 : fldOff Tryz.prog 109 28 = some 28 := by kernel_rfl
theorem tS_149 : tSize Tryz.prog 149 = some 3 := by kernel_rfl
theorem tA_149 : tAgg Tryz.prog 149 = some true := by kernel_rfl
theorem tZ_149 : tZero Tryz.prog 149 = some (.agg #[.int .u8 0, .int .i64 0, .string ⟨#[]⟩]) := by kernel_rfl
theorem tR_149 : tRow Tryz.prog 149 = some (.agg #[.int .u8 0, .int .i64 0, .string ⟨#[]⟩], 3, 32) := by kernel_rfl
theorem tP_149 : tPlaces Tryz.prog 149 = some [(0, 1), (1, 1), (2, 1)] := by kernel_rfl
theorem fn_5 : isFn Tryz.prog 5 = true := by kernel_rfl
theorem fn_6 : isFn Tryz.prog 6 = true := by kernel_rfl
theorem fn_7 : isFn Tryz.prog 7 = true := by kernel_rfl
theorem fn_8 : isFn Tryz.prog 8 = true := by kernel_rfl
theorem fn_9 : isFn Tryz.prog 9 = true := by kernel_rfl
theorem fn_10 : isFn Tryz.prog 10 = true := by kernel_rfl
theorem fn_11 : isFn Tryz.prog 11 = true := by kernel_rfl
theorem fn_12 : isFn Tryz.prog 12 = true := by kernel_rfl
theorem fn_13 : isFn Tryz.prog 13 = true := by kernel_rfl
theorem fn_14 : isFn Tryz.prog 14 = true := by kernel_rfl
theorem fn_15 : isFn Tryz.prog 15 = true := by kernel_rfl
theorem fn_16 : isFn Tryz.prog 16 = true := by kernel_rfl
theorem fn_17 : isFn Tryz.prog 17 = true := by kernel_rfl
theorem fn_19 : isFn Tryz.prog 19 = true := by kernel_rfl
theorem fn_20 : isFn Tryz.prog 20 = true := by kernel_rfl
theorem fn_21 : isFn Tryz.prog 21 = true := by kernel_rfl
theorem fn_22 : isFn Tryz.prog 22 = true := by kernel_rfl
theorem fn_23 : isFn Tryz.prog 23 = true := by kernel_rfl
theorem fn_24 : isFn Tryz.prog 24 = true := by kernel_rfl
theorem fn_25 : isFn Tryz.prog 25 = true := by kernel_rfl
theorem fn_26 : isFn Tryz.prog 26 = true := by kernel_rfl
theorem fn_27 : isFn Tryz.prog 27 = true := by kernel_rfl
theorem fn_28 : isFn Tryz.prog 28 = true := by kernel_rfl
theorem fn_29 : isFn Tryz.prog 29 = true := by kernel_rfl
theorem fn_30 : isFn Tryz.prog 30 = true := by kernel_rfl
theorem fn_31 : isFn Tryz.prog 31 = true := by kernel_rfl
theorem fn_32 : isFn Tryz.prog 32 = true := by kernel_rfl
theorem fn_33 : isFn Tryz.prog 33 = true := by kernel_rfl
theorem fn_34 : isFn Tryz.prog 34 = true := by kernel_rfl
theorem fn_35 : isFn Tryz.prog 35 = true := by kernel_rfl
theorem fn_36 : isFn Tryz.prog 36 = true := by kernel_rfl
theorem fn_37 : isFn Tryz.prog 37 = true := by kernel_rfl
theorem fn_38 : isFn Tryz.prog 38 = true := by kernel_rfl
theorem fn_39 : isFn Tryz.prog 39 = true := by kernel_rfl
theorem fn_40 : isFn Tryz.prog 40 = true := by kernel_rfl
theorem fn_41 : isFn Tryz.prog 41 = true := by kernel_rfl
theorem fn_42 : isFn Tryz.prog 42 = true := by kernel_rfl
theorem fn_43 : isFn Tryz.prog 43 = true := by kernel_rfl
theorem fn_44 : isFn Tryz.prog 44 = true := by kernel_rfl
theorem fn_45 : isFn Tryz.prog 45 = true := by kernel_rfl
theorem fn_46 : isFn Tryz.prog 46 = true := by kernel_rfl
theorem fn_47 : isFn Tryz.prog 47 = true := by kernel_rfl
theorem fn_48 : isFn Tryz.prog 48 = true := by kernel_rfl
theorem fn_49 : isFn Tryz.prog 49 = true := by kernel_rfl
theorem fn_50 : isFn Tryz.prog 50 = true := by kernel_rfl
theorem fn_51 : isFn Tryz.prog 51 = true := by kernel_rfl
theorem fn_52 : isFn Tryz.prog 52 = true := by kernel_rfl
theorem fn_53 : isFn Tryz.prog 53 = true := by kernel_rfl
theorem fn_54 : isFn Tryz.prog 54 = true := by kernel_rfl
theorem fn_55 : isFn Tryz.prog 55 = true := by kernel_rfl
theorem fn_56 : isFn Tryz.prog 56 = true := by kernel_rfl
theorem fn_57 : isFn Tryz.prog 57 = true := by kernel_rfl
theorem fn_58 : isFn Tryz.prog 58 = true := by kernel_rfl
theorem fn_59 : isFn Tryz.prog 59 = true := by kernel_rfl
theorem fn_60 : isFn Tryz.prog 60 = true := by kernel_rfl
theorem fn_61 : isFn Tryz.prog 61 = true := by kernel_rfl
theorem fn_62 : isFn Tryz.prog 62 = true := by kernel_rfl
theorem fn_63 : isFn Tryz.prog 63 = true := by kernel_rfl
theorem fn_64 : isFn Tryz.prog 64 = true := by kernel_rfl
theorem fn_65 : isFn Tryz.prog 65 = true := by kernel_rfl
theorem fn_66 : isFn Tryz.prog 66 = true := by kernel_rfl
theorem fn_67 : isFn Tryz.prog 67 = true := by kernel_rfl
theorem fn_68 : isFn Tryz.prog 68 = true := by kernel_rfl
theorem fn_69 : isFn Tryz.prog 69 = true := by kernel_rfl
theorem fn_70 : isFn Tryz.prog 70 = true := by kernel_rfl
theorem fn_71 : isFn Tryz.prog 71 = true := by kernel_rfl
theorem fn_72 : isFn Tryz.prog 72 = true := by kernel_rfl
theorem fn_73 : isFn Tryz.prog 73 = true := by kernel_rfl
theorem fn_74 : isFn Tryz.prog 74 = true := by kernel_rfl
theorem fn_75 : isFn Tryz.prog 75 = true := by kernel_rfl
theorem fn_76 : isFn Tryz.prog 76 = true := by kernel_rfl
theorem fn_77 : isFn Tryz.prog 77 = true := by kernel_rfl
theorem fn_78 : isFn Tryz.prog 78 = true := by kernel_rfl
theorem fn_79 : isFn Tryz.prog 79 = true := by kernel_rfl
theorem fn_80 : isFn Tryz.prog 80 = true := by kernel_rfl
theorem fn_81 : isFn Tryz.prog 81 = true := by kernel_rfl
theorem fn_82 : isFn Tryz.prog 82 = true := by kernel_rfl
theorem fn_83 : isFn Tryz.prog 83 = true := by kernel_rfl
theorem fn_84 : isFn Tryz.prog 84 = true := by kernel_rfl
theorem fn_85 : isFn Tryz.prog 85 = true := by kernel_rfl
theorem fn_86 : isFn Tryz.prog 86 = true := by kernel_rfl
theorem fn_87 : isFn Tryz.prog 87 = true := by kernel_rfl
theorem fn_88 : isFn Tryz.prog 88 = true := by kernel_rfl
theorem fn_89 : isFn Tryz.prog 89 = true := by kernel_rfl
theorem fn_90 : isFn Tryz.prog 90 = true := by kernel_rfl
theorem fn_91 : isFn Tryz.prog 91 = true := by kernel_rfl
theorem fn_92 : isFn Tryz.prog 92 = true := by kernel_rfl
theorem fn_93 : isFn Tryz.prog 93 = true := by kernel_rfl
theorem fn_94 : isFn Tryz.prog 94 = true := by kernel_rfl
theorem fn_95 : isFn Tryz.prog 95 = true := by kernel_rfl
theorem fn_96 : isFn Tryz.prog 96 = true := by kernel_rfl
theorem fn_97 : isFn Tryz.prog 97 = true := by kernel_rfl
theorem fn_98 : isFn Tryz.prog 98 = true := by kernel_rfl
theorem fn_99 : isFn Tryz.prog 99 = true := by kernel_rfl
theorem fn_100 : isFn Tryz.prog 100 = true := by kernel_rfl
theorem fn_101 : isFn Tryz.prog 101 = true := by kernel_rfl
theorem fn_102 : isFn Tryz.prog 102 = true := by kernel_rfl
theorem fn_103 : isFn Tryz.prog 103 = true := by kernel_rfl
theorem fn_125 : isFn Tryz.prog 125 = true := by kernel_rfl
theorem fn_142 : isFn Tryz.prog 142 = true := by kernel_rfl
theorem fn_143 : isFn Tryz.prog 143 = true := by kernel_rfl
theorem fn_144 : isFn Tryz.prog 144 = true := by kernel_rfl
theorem fn_145 : isFn Tryz.prog 145 = true := by kernel_rfl
theorem fn_146 : isFn Tryz.prog 146 = true := by kernel_rfl
theorem fn_158 : isFn Tryz.prog 158 = true := by kernel_rfl
end Go.Proofs.YtighbinghbnjhaaGreat
