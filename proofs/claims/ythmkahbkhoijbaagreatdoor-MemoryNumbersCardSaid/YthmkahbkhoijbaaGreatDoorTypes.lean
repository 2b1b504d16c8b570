import Derived.Test.YthmkahbkhoijbaaGreatDoorChecked
import Derived.Test.YthmkahbkhoijbaaGreatDoorIdx
namespace Go.Proofs.YthmkahbkhoijbaaGreatDoor
open Go.RowKit
theorem tS_2 : tSize Tryz.prog 2 = some 1 := by kernel_rfl
theorem tA_2 : tAgg Tryz.prog 2 = some false := by kernel_rfl
theorem tS_3 : tSize Tryz.prog 3 = some 1 := by kernel_rfl
theorem tA_3 : tAgg Tryz.prog 3 = some false := by kernel_rfl
theorem tZ_3 : tZero Tryz.prog 3 = some (.int .i64 0) := by kernel_rfl
theorem tS_9 : tSize Tryz.prog 9 = some 1 := by kernel_rfl
theorem tA_9 : tAgg Tryz.prog 9 = some false := by kernel_rfl
theorem tS_22 : tSize Tryz.prog 22 = some 1 := by kernel_rfl
theorem tA_22 : tAgg Tryz.prog 22 = some false := by kernel_rfl
theorem tZ_22 : tZero Tryz.prog 22 = some (.slice none 0 0) := by kernel_rfl
theorem tR_22 : tRow Tryz.prog 22 = some (.slice none 0 0, 1, 24) := by kernel_rfl
theorem tE_22 : tElem Tryz.prog 22 = some 27 := by kernel_rfl
theorem tE_23 : tElem Tryz.prog 23 = some 41 := by kernel_rfl
theorem tS_25 : tSize Tryz.prog 25 = some 1 := by kernel_rfl
theorem tA_25 : tAgg Tryz.prog 25 = some false := by kernel_rfl
theorem tZ_25 : tZero Tryz.prog 25 = some (.slice none 0 0) := by kernel_rfl
theorem tR_25 : tRow Tryz.prog 25 = some (.slice none 0 0, 1, 24) := by kernel_rfl
theorem tE_25 : tElem Tryz.prog 25 = some 51 := by kernel_rfl
theorem tS_27 : tSize Tryz.prog 27 = some 3 := by kernel_rfl
theorem tA_27 : tAgg Tryz.prog 27 = some true := by kernel_rfl
theorem tZ_27 : tZero Tryz.prog 27 = some (.agg #[.int .i64 0, .int .i64 0, .slice none 0 0]) := by kernel_rfl
theorem tR_27 : tRow Tryz.prog 27 = some (.agg #[.int .i64 0, .int .i64 0, .slice none 0 0], 3, 40) := by kernel_rfl
theorem tP_27 : tPlaces Tryz.prog 27 = some [(0, 1), (1, 1), (2, 1)] := by kernel_rfl
theorem tF_27_0 : fldOff Tryz.prog 27 0 = some 0 := by kernel_rfl
theorem tF_27_1 : fldOff Tryz.prog 27 1 = some 1 := by kernel_rfl
theorem tF_27_2 : fldOff Tryz.prog 27 2 = some 2 := by kernel_rfl
theorem tS_41 : tSize Tryz.prog 41 = some 4 := by kernel_rfl
theorem tA_41 : tAgg Tryz.prog 41 = some true := by kernel_rfl
theorem tZ_41 : tZero Tryz.prog 41 = some (.agg #[.int .i64 0, .int .i64 0, .int .i64 0, .slice none 0 0]) := by kernel_rfl
theorem tR_41 : tRow Tryz.prog 41 = some (.agg #[.int .i64 0, .int .i64 0, .int .i64 0, .slice none 0 0], 4, 48) := by kernel_rfl
theorem tP_41 : tPlaces Tryz.prog 41 = some [(0, 1), (1, 1), (2, 1), (3, 1)] := by kernel_rfl
theorem tF_41_0 : fldOff Tryz.prog 41 0 = some 0 := by kernel_rfl
theorem tF_41_1 : fldOff Tryz.prog 41 1 = some 1 := by kernel_rfl
theorem tF_41_2 : fldOff Tryz.prog 41 2 = some 2 := by kernel_rfl
theorem tF_41_3 : fldOff Tryz.prog 41 3 = some 3 := by kernel_rfl
theorem tS_46 : tSize Tryz.prog 46 = some 1 := by kernel_rfl
theorem tA_46 : tAgg Tryz.prog 46 = some false := by kernel_rfl
theorem tE_46 : tElem Tryz.prog 46 = some 22 := by kernel_rfl
theorem tE_48 : tElem Tryz.prog 48 = some 3 := by kernel_rfl
theorem tS_49 : tSize Tryz.prog 49 = some 1 := by kernel_rfl
theorem tA_49 : tAgg Tryz.prog 49 = some false := by kernel_rfl
theorem tS_51 : tSize Tryz.prog 51 = some 3 := by kernel_rfl
theorem tA_51 : tAgg Tryz.prog 51 = some true := by kernel_rfl
theorem tZ_51 : tZero Tryz.prog 51 = some (.agg #[.int .u8 0, .int .i64 0, .string ⟨#[]⟩]) := by kernel_rfl
theorem tR_51 : tRow Tryz.prog 51 = some (.agg #[.int .u8 0, .int .i64 0, .string ⟨#[]⟩], 3, 32) := by kernel_rfl
theorem tP_51 : tPlaces Tryz.prog 51 = some [(0, 1), (1, 1), (2, 1)] := by kernel_rfl
theorem tF_51_0 : fldOff Tryz.prog 51 0 = some 0 := by kernel_rfl
theorem tF_51_1 : fldOff Tryz.prog 51 1 = some 1 := by kernel_rfl
theorem tF_51_2 : fldOff Tryz.prog 51 2 = some 2 := by kernel_rfl
theorem tF_59_0 : fldOff Tryz.prog 59 0 = some 0 := by kernel_rfl
theorem tZ_61 : tZero Tryz.prog 61 = some (.agg #[.slice none 0 0, .int .i64 0]) := by kernel_rfl
theorem tP_61 : tPlaces Tryz.prog 61 = some [(0, 1), (1, 1)] := by kernel_rfl
theorem tF_61_0 : fldOff Tryz.prog 61 0 = some 0 := by kernel_rfl
theorem tF_61_1 : fldOff Tryz.prog 61 1 = some 1 := by kernel_rfl
theorem tZ_63 : tZero Tryz.prog 63 = some (.agg #[.slice none 0 0, .int .i64 0]) := by kernel_rfl
theorem tP_63 : tPlaces Tryz.prog 63 = some [(0, 1), (1, 1)] := by kernel_rfl
theorem tF_63_0 : fldOff Tryz.prog 63 0 = some 0 := by kernel_rfl
theorem tF_63_1 : fldOff Tryz.prog 63 1 = some 1 := by kernel_rfl
theorem tS_83 : tSize Tryz.prog 83 = some 1 := by kernel_rfl
theorem tA_83 : tAgg Tryz.prog 83 = some false := by kernel_rfl
theorem tS_84 : tSize Tryz.prog 84 = some 1 := by kernel_rfl
theorem tA_84 : tAgg Tryz.prog 84 = some false := by kernel_rfl
theorem tS_85 : tSize Tryz.prog 85 = some 1 := by kernel_rfl
theorem tA_85 : tAgg Tryz.prog 85 = some false := by kernel_rfl
theorem tS_86 : tSize Tryz.prog 86 = some 1 := by kernel_rfl
theorem tA_86 : tAgg Tryz.prog 86 = some false := by kernel_rfl
theorem tS_87 : tSize Tryz.prog 87 = some 1 := by kernel_rfl
theorem tA_87 : tAgg Tryz.prog 87 = some false := by kernel_rfl
theorem tS_88 : tSize Tryz.prog 88 = some 1 := by kernel_rfl
theorem tA_88 : tAgg Tryz.prog 88 = some false := by kernel_rfl
theorem tS_89 : tSize Tryz.prog 89 = some 1 := by kernel_rfl
theorem tA_89 : tAgg Tryz.prog 89 = some false := by kernel_rfl
theorem tE_89 : tElem Tryz.prog 89 = some 25 := by kernel_rfl
theorem tS_90 : tSize Tryz.prog 90 = some 1 := by kernel_rfl
theorem tA_90 : tAgg Tryz.prog 90 = some false := by kernel_rfl
theorem tS_91 : tSize Tryz.prog 91 = some 1 := by kernel_rfl
theorem tA_91 : tAgg Tryz.prog 91 = some false := by kernel_rfl
theorem tS_92 : tSize Tryz.prog 92 = some 1 := by kernel_rfl
theorem tA_92 : tAgg Tryz.prog 92 = some false := by kernel_rfl
theorem tS_93 : tSize Tryz.prog 93 = some 1 := by kernel_rfl
theorem tA_93 : tAgg Tryz.prog 93 = some false := by kernel_rfl
theorem tS_94 : tSize Tryz.prog 94 = some 1 := by kernel_rfl
theorem tA_94 : tAgg Tryz.prog 94 = some false := by kernel_rfl
theorem tS_95 : tSize Tryz.prog 95 = some 1 := by kernel_rfl
theorem tA_95 : tAgg Tryz.prog 95 = some false := by kernel_rfl
theorem tS_96 : tSize Tryz.prog 96 = some 1 := by kernel_rfl
theorem tA_96 : tAgg Tryz.prog 96 = some false := by kernel_rfl
theorem tS_97 : tSize Tryz.prog 97 = some 1 := by kernel_rfl
theorem tA_97 : tAgg Tryz.prog 97 = some false := by kernel_rfl
theorem tS_98 : tSize Tryz.prog 98 = some 1 := by kernel_rfl
theorem tA_98 : tAgg Tryz.prog 98 = some false := by kernel_rfl
theorem tS_99 : tSize Tryz.prog 99 = some 1 := by kernel_rfl
theorem tA_99 : tAgg Tryz.prog 99 = some false := by kernel_rfl
theorem tS_100 : tSize Tryz.prog 100 = some 1 := by kernel_rfl
theorem tA_100 : tAgg Tryz.prog 100 = some false := by kernel_rfl
theorem tS_101 : tSize Tryz.prog 101 = some 1 := by kernel_rfl
theorem tA_101 : tAgg Tryz.prog 101 = some false := by kernel_rfl
theorem tS_102 : tSize Tryz.prog 102 = some 1 := by kernel_rfl
theorem tA_102 : tAgg Tryz.prog 102 = some false := by kernel_rfl
theorem tS_103 : tSize Tryz.prog 103 = some 1 := by kernel_rfl
theorem tA_103 : tAgg Tryz.prog 103 = some false := by kernel_rfl
theorem tS_104 : tSize Tryz.prog 104 = some 1 := by kernel_rfl
theorem tA_104 : tAgg Tryz.prog 104 = some false := by kernel_rfl
theorem tS_105 : tSize Tryz.prog 105 = some 1 := by kernel_rfl
theorem tA_105 : tAgg Tryz.prog 105 = some false := by kernel_rfl
theorem tS_106 : tSize Tryz.prog 106 = some 1 := by kernel_rfl
theorem tA_106 : tAgg Tryz.prog 106 = some false := by kernel_rfl
theorem tS_107 : tSize Tryz.prog 107 = some 1 := by kernel_rfl
theorem tA_107 : tAgg Tryz.prog 107 = some false := by kernel_rfl
theorem tS_108 : tSize Tryz.prog 108 = some 1 := by kernel_rfl
theorem tA_108 : tAgg Tryz.prog 108 = some false := by kernel_rfl
theorem tS_109 : tSize Tryz.prog 109 = some 1 := by kernel_rfl
theorem tA_109 : tAgg Tryz.prog 109 = some false := by kernel_rfl
theorem tS_110 : tSize Tryz.prog 110 = some 1 := by kernel_rfl
theorem tA_110 : tAgg Tryz.prog 110 = some false := by kernel_rfl
theorem tZ_112 : tZero Tryz.prog 112 = some (.agg #[.slice none 0 0, .slice none 0 0, .slice none 0 0, .slice none 0 0, .slice none 0 0, .slice none 0 0, .slice none 0 0, .slice none 0 0, .slice none 0 0, .slice none 0 0, .slice none 0 0, .slice none 0 0, .slice none 0 0, .slice none 0 0, .slice none 0 0, .slice none 0 0, .slice none 0 0, .slice none 0 0, .slice none 0 0, .slice none 0 0, .slice none 0 0, .slice none 0 0, .slice none 0 0, .slice none 0 0, .slice none 0 0, .slice none 0 0, .slice none 0 0, .slice none 0 0, .slice none 0 0]) := by kernel_rfl
theorem tP_112 : tPlaces Tryz.prog 112 = some [(0, 1), (1, 1), (2, 1), (3, 1), (4, 1), (5, 1), (6, 1), (7, 1), (8, 1), (9, 1), (10, 1), (11, 1), (12, 1), (13, 1), (14, 1), (15, 1), (16, 1), (17, 1), (18, 1), (19, 1), (20, 1), (21, 1), (22, 1), (23, 1), (24, 1), (25, 1), (26, 1), (27, 1), (28, 1)] := by kernel_rfl
theorem tF_112_0 : fldOff Tryz.prog 112 0 = some 0 := by kernel_rfl
theorem tF_112_1 : fldOff Tryz.prog 112 1 = some 1 := by kernel_rfl
theorem tF_112_2 : fldOff Tryz.prog 112 2 = some 2 := by kernel_rfl
theorem tF_112_3 : fldOff Tryz.prog 112 3 = some 3 := by kernel_rfl
theorem tF_112_4 : fldOff Tryz.prog 112 4 = some 4 := by kernel_rfl
theorem tF_112_5 : fldOff Tryz.prog 112 5 = some 5 := by kernel_rfl
theorem tF_112_6 : fldOff Tryz.prog 112 6 = some 6 := by kernel_rfl
theorem tF_112_7 : fldOff Tryz.prog 112 7 = some 7 := by kernel_rfl
theorem tF_112_8 : fldOff Tryz.prog 112 8 = some 8 := by kernel_rfl
theorem tF_112_9 : fldOff Tryz.prog 112 9 = some 9 := by kernel_rfl
theorem tF_112_10 : fldOff Tryz.prog 112 10 = some 10 := by kernel_rfl
theorem tF_112_11 : fldOff Tryz.prog 112 11 = some 11 := by kernel_rfl
theorem tF_112_12 : fldOff Tryz.prog 112 12 = some 12 := by kernel_rfl
theorem tF_112_13 : fldOff Tryz.prog 112 13 = some 13 := by kernel_rfl
theorem tF_112_14 : fldOff Tryz.prog 112 14 = some 14 := by kernel_rfl
theorem tF_112_15 : fldOff Tryz.prog 112 15 = some 15 := by kernel_rfl
theorem tF_112_16 : fldOff Tryz.prog 112 16 = some 16 := by kernel_rfl
theorem tF_112_17 : fldOff Tryz.prog 112 17 = some 17 := by kernel_rfl
theorem tF_112_18 : fldOff Tryz.prog 112 18 = some 18 := by kernel_rfl
theorem tF_112_19 : fldOff Tryz.prog 112 19 = some 19 := by kernel_rfl
theorem tF_112_20 : fldOff Tryz.prog 112 20 = some 20 := by kernel_rfl
theorem tF_112_21 : fldOff Tryz.prog 112 21 = some 21 := by kernel_rfl
theorem tF_112_22 : fldOff Tryz.prog 112 22 = some 22 := by kernel_rfl
theorem tF_112_23 : fldOff Tryz.prog 112 23 = some 23 := by kernel_rfl
theorem tF_112_24 : fldOff Tryz.prog 112 24 = some 24 := by kernel_rfl
theorem tF_112_25 : fldOff Tryz.prog 112 25 = some 25 := by kernel_rfl
theorem tF_112_26 : fldOff Tryz.prog 112 26 = some 26 := by kernel_rfl
theorem tF_112_27 : fldOff Tryz.prog 112 27 = some 27 := by kernel_rfl
theorem tF_112_28 : fldOff Tryz.prog 112 28 = some 28 := by kernel_rfl
theorem fn_3 : isFn Tryz.prog 3 = true := by kernel_rfl
theorem fn_5 : isFn Tryz.prog 5 = true := by kernel_rfl
theorem fn_6 : isFn Tryz.prog 6 = true := by kernel_rfl
theorem fn_7 : isFn Tryz.prog 7 = true := by kernel_rfl
theorem fn_8 : isFn Tryz.prog 8 = true := by kernel_rfl
theorem fn_9 : isFn Tryz.prog 9 = true := by kernel_rfl
theorem fn_10 : isFn Tryz.prog 10 = true := by kernel_rfl
theorem fn_11 : isFn Tryz.prog 11 = true := by kernel_rfl
theorem fn_12 : isFn Tryz.prog 12 = true := by kernel_rfl
theorem fn_13 : isFn Tryz.prog 13 = true := by kernel_rfl
theorem fn_14 : isFn Tryz.prog 14 = true := by kernel_rfl
theorem fn_15 : isFn Tryz.prog 15 = true := by kernel_rfl
theorem fn_16 : isFn Tryz.prog 16 = true := by kernel_rfl
theorem fn_17 : isFn Tryz.prog 17 = true := by kernel_rfl
theorem fn_18 : isFn Tryz.prog 18 = true := by kernel_rfl
theorem fn_19 : isFn Tryz.prog 19 = true := by kernel_rfl
theorem fn_20 : isFn Tryz.prog 20 = true := by kernel_rfl
theorem fn_21 : isFn Tryz.prog 21 = true := by kernel_rfl
theorem fn_22 : isFn Tryz.prog 22 = true := by kernel_rfl
theorem fn_23 : isFn Tryz.prog 23 = true := by kernel_rfl
theorem fn_24 : isFn Tryz.prog 24 = true := by kernel_rfl
theorem fn_25 : isFn Tryz.prog 25 = true := by kernel_rfl
theorem fn_26 : isFn Tryz.prog 26 = true := by kernel_rfl
theorem fn_27 : isFn Tryz.prog 27 = true := by kernel_rfl
theorem fn_28 : isFn Tryz.prog 28 = true := by kernel_rfl
theorem fn_29 : isFn Tryz.prog 29 = true := by kernel_rfl
theorem fn_30 : isFn Tryz.prog 30 = true := by kernel_rfl
theorem fn_31 : isFn Tryz.prog 31 = true := by kernel_rfl
theorem fn_32 : isFn Tryz.prog 32 = true := by kernel_rfl
theorem fn_33 : isFn Tryz.prog 33 = true := by kernel_rfl
theorem fn_34 : isFn Tryz.prog 34 = true := by kernel_rfl
theorem fn_35 : isFn Tryz.prog 35 = true := by kernel_rfl
theorem fn_36 : isFn Tryz.prog 36 = true := by kernel_rfl
theorem fn_37 : isFn Tryz.prog 37 = true := by kernel_rfl
theorem fn_38 : isFn Tryz.prog 38 = true := by kernel_rfl
theorem fn_39 : isFn Tryz.prog 39 = true := by kernel_rfl
theorem fn_40 : isFn Tryz.prog 40 = true := by kernel_rfl
theorem fn_41 : isFn Tryz.prog 41 = true := by kernel_rfl
theorem fn_42 : isFn Tryz.prog 42 = true := by kernel_rfl
theorem fn_43 : isFn Tryz.prog 43 = true := by kernel_rfl
theorem fn_44 : isFn Tryz.prog 44 = true := by kernel_rfl
theorem fn_45 : isFn Tryz.prog 45 = true := by kernel_rfl
theorem fn_46 : isFn Tryz.prog 46 = true := by kernel_rfl
theorem fn_47 : isFn Tryz.prog 47 = true := by kernel_rfl
theorem fn_48 : isFn Tryz.prog 48 = true := by kernel_rfl
theorem fn_49 : isFn Tryz.prog 49 = true := by kernel_rfl
theorem fn_50 : isFn Tryz.prog 50 = true := by kernel_rfl
theorem fn_51 : isFn Tryz.prog 51 = true := by kernel_rfl
theorem fn_52 : isFn Tryz.prog 52 = true := by kernel_rfl
theorem fn_53 : isFn Tryz.prog 53 = true := by kernel_rfl
theorem fn_54 : isFn Tryz.prog 54 = true := by kernel_rfl
theorem fn_55 : isFn Tryz.prog 55 = true := by kernel_rfl
theorem fn_56 : isFn Tryz.prog 56 = true := by kernel_rfl
theorem fn_57 : isFn Tryz.prog 57 = true := by kernel_rfl
theorem fn_58 : isFn Tryz.prog 58 = true := by kernel_rfl
theorem fn_59 : isFn Tryz.prog 59 = true := by kernel_rfl
theorem fn_60 : isFn Tryz.prog 60 = true := by kernel_rfl
theorem fn_61 : isFn Tryz.prog 61 = true := by kernel_rfl
theorem fn_62 : isFn Tryz.prog 62 = true := by kernel_rfl
theorem fn_63 : isFn Tryz.prog 63 = true := by kernel_rfl
theorem fn_64 : isFn Tryz.prog 64 = true := by kernel_rfl
theorem fn_65 : isFn Tryz.prog 65 = true := by kernel_rfl
theorem fn_66 : isFn Tryz.prog 66 = true := by kernel_rfl
theorem fn_67 : isFn Tryz.prog 67 = true := by kernel_rfl
theorem fn_68 : isFn Tryz.prog 68 = true := by kernel_rfl
theorem fn_69 : isFn Tryz.prog 69 = true := by kernel_rfl
theorem fn_70 : isFn Tryz.prog 70 = true := by kernel_rfl
theorem fn_71 : isFn Tryz.prog 71 = true := by kernel_rfl
theorem fn_72 : isFn Tryz.prog 72 = true := by kernel_rfl
theorem fn_73 : isFn Tryz.prog 73 = true := by kernel_rfl
theorem fn_74 : isFn Tryz.prog 74 = true := by kernel_rfl
theorem fn_75 : isFn Tryz.prog 75 = true := by kernel_rfl
theorem fn_76 : isFn Tryz.prog 76 = true := by kernel_rfl
theorem fn_77 : isFn Tryz.prog 77 = true := by kernel_rfl
theorem fn_78 : isFn Tryz.prog 78 = true := by kernel_rfl
theorem fn_79 : isFn Tryz.prog 79 = true := by kernel_rfl
theorem fn_80 : isFn Tryz.prog 80 = true := by kernel_rfl
theorem fn_81 : isFn Tryz.prog 81 = true := by kernel_rfl
theorem fn_82 : isFn Tryz.prog 82 = true := by kernel_rfl
theorem fn_83 : isFn Tryz.prog 83 = true := by kernel_rfl
theorem fn_84 : isFn Tryz.prog 84 = true := by kernel_rfl
theorem fn_85 : isFn Tryz.prog 85 = true := by kernel_rfl
theorem fn_86 : isFn Tryz.prog 86 = true := by kernel_rfl
theorem fn_87 : isFn Tryz.prog 87 = true := by kernel_rfl
theorem fn_88 : isFn Tryz.prog 88 = true := by kernel_rfl
theorem fn_89 : isFn Tryz.prog 89 = true := by kernel_rfl
theorem fn_90 : isFn Tryz.prog 90 = true := by kernel_rfl
theorem fn_91 : isFn Tryz.prog 91 = true := by kernel_rfl
theorem fn_92 : isFn Tryz.prog 92 = true := by kernel_rfl
theorem fn_93 : isFn Tryz.prog 93 = true := by kernel_rfl
theorem fn_94 : isFn Tryz.prog 94 = true := by kernel_rfl
theorem fn_95 : isFn Tryz.prog 95 = true := by kernel_rfl
theorem fn_96 : isFn Tryz.prog 96 = true := by kernel_rfl
theorem fn_97 : isFn Tryz.prog 97 = true := by kernel_rfl
theorem fn_98 : isFn Tryz.prog 98 = true := by kernel_rfl
theorem fn_99 : isFn Tryz.prog 99 = true := by kernel_rfl
theorem fn_100 : isFn Tryz.prog 100 = true := by kernel_rfl
theorem fn_101 : isFn Tryz.prog 101 = true := by kernel_rfl
theorem fn_143 : isFn Tryz.prog 143 = true := by kernel_rfl
theorem fn_144 : isFn Tryz.prog 144 = true := by kernel_rfl
theorem fn_145 : isFn Tryz.prog 145 = true := by kernel_rfl
end Go.Proofs.YthmkahbkhoijbaaGreatDoor
