import Derived.Test.YtalbennlmcpnmaaGreatChecked
import Derived.Test.YtalbennlmcpnmaaGreatIdx
namespace Go.Proofs.YtalbennlmcpnmaaGreat
open Go.RowKit
theorem tS_3 : tSize Tryz.prog 3 = some 1 := by kernel_rfl
theorem tA_3 : tAgg Tryz.prog 3 = some false := by kernel_rfl
theorem tZ_3 : tZero Tryz.prog 3 = some (.int .i64 0) := by kernel_rfl
theorem tS_4 : tSize Tryz.prog 4 = some 1 := by kernel_rfl
theorem tA_4 : tAgg Tryz.prog 4 = some false := by kernel_rfl
theorem tZ_4 : tZero Tryz.prog 4 = some (.bool false) := by kernel_rfl
theorem tR_4 : tRow Tryz.prog 4 = some (.bool false, 1, 1) := by kernel_rfl
theorem tS_22 : tSize Tryz.prog 22 = some 1 := by kernel_rfl
theorem tA_22 : tAgg Tryz.prog 22 = some false := by kernel_rfl
theorem tS_23 : tSize Tryz.prog 23 = some 1 := by kernel_rfl
theorem tA_23 : tAgg Tryz.prog 23 = some false := by kernel_rfl
theorem tE_23 : tElem Tryz.prog 23 = some 64 := by kernel_rfl
theorem tS_24 : tSize Tryz.prog 24 = some 1 := by kernel_rfl
theorem tA_24 : tAgg Tryz.prog 24 = some false := by kernel_rfl
theorem tS_27 : tSize Tryz.prog 27 = some 3 := by kernel_rfl
theorem tA_27 : tAgg Tryz.prog 27 = some true := by kernel_rfl
theorem tZ_27 : tZero Tryz.prog 27 = some (.agg #[.int .u8 0, .int .i64 0, .string ⟨#[]⟩]) := by kernel_rfl
theorem tR_27 : tRow Tryz.prog 27 = some (.agg #[.int .u8 0, .int .i64 0, .string ⟨#[]⟩], 3, 32) := by kernel_rfl
theorem tP_27 : tPlaces Tryz.prog 27 = some [(0, 1), (1, 1), (2, 1)] := by kernel_rfl
theorem tS_28 : tSize Tryz.prog 28 = some 1 := by kernel_rfl
theorem tA_28 : tAgg Tryz.prog 28 = some false := by kernel_rfl
theorem tS_29 : tSize Tryz.prog 29 = some 1 := by kernel_rfl
theorem tA_29 : tAgg Tryz.prog 29 = some false := by kernel_rfl
theorem tE_29 : tElem Tryz.prog 29 = some 31 := by kernel_rfl
theorem tS_31 : tSize Tryz.prog 31 = some 7 := by kernel_rfl
theorem tA_31 : tAgg Tryz.prog 31 = some true := by kernel_rfl
theorem tZ_31 : tZero Tryz.prog 31 = some (.agg #[.int .u8 0, .int .u8 0, .int .i64 0, .string ⟨#[]⟩, .int .i64 0, .int .u8 0, .slice none 0 0]) := by kernel_rfl
theorem tR_31 : tRow Tryz.prog 31 = some (.agg #[.int .u8 0, .int .u8 0, .int .i64 0, .string ⟨#[]⟩, .int .i64 0, .int .u8 0, .slice none 0 0], 7, 80) := by kernel_rfl
theorem tP_31 : tPlaces Tryz.prog 31 = some [(0, 1), (1, 3), (4, 1), (5, 1), (6, 1)] := by kernel_rfl
theorem tF_31_0 : fldOff Tryz.prog 31 0 = some 0 := by kernel_rfl
theorem tF_31_1 : fldOff Tryz.prog 31 1 = some 1 := by kernel_rfl
theorem tF_31_2 : fldOff Tryz.prog 31 2 = some 4 := by kernel_rfl
theorem tF_31_3 : fldOff Tryz.prog 31 3 = some 5 := by kernel_rfl
theorem tF_31_4 : fldOff Tryz.prog 31 4 = some 6 := by kernel_rfl
theorem tS_33 : tSize Tryz.prog 33 = some 10 := by kernel_rfl
theorem tA_33 : tAgg Tryz.prog 33 = some true := by kernel_rfl
theorem tZ_33 : tZero Tryz.prog 33 = some (.agg #[.int .u8 0, .int .i64 0, .slice none 0 0, .int .u8 0, .int .u8 0, .int .i64 0, .string ⟨#[]⟩, .int .i64 0, .int .u8 0, .slice none 0 0]) := by kernel_rfl
theorem tP_33 : tPlaces Tryz.prog 33 = some [(0, 1), (1, 1), (2, 1), (3, 7)] := by kernel_rfl
theorem tF_33_0 : fldOff Tryz.prog 33 0 = some 0 := by kernel_rfl
theorem tF_33_1 : fldOff Tryz.prog 33 1 = some 1 := by kernel_rfl
theorem tF_33_2 : fldOff Tryz.prog 33 2 = some 2 := by kernel_rfl
theorem tF_33_3 : fldOff Tryz.prog 33 3 = some 3 := by kernel_rfl
theorem tS_34 : tSize Tryz.prog 34 = some 1 := by kernel_rfl
theorem tA_34 : tAgg Tryz.prog 34 = some false := by kernel_rfl
theorem tZ_34 : tZero Tryz.prog 34 = some (.slice none 0 0) := by kernel_rfl
theorem tR_34 : tRow Tryz.prog 34 = some (.slice none 0 0, 1, 24) := by kernel_rfl
theorem tE_34 : tElem Tryz.prog 34 = some 27 := by kernel_rfl
theorem tS_36 : tSize Tryz.prog 36 = some 3 := by kernel_rfl
theorem tA_36 : tAgg Tryz.prog 36 = some true := by kernel_rfl
theorem tZ_36 : tZero Tryz.prog 36 = some (.agg #[.int .i64 0, .int .i64 0, .slice none 0 0]) := by kernel_rfl
theorem tR_36 : tRow Tryz.prog 36 = some (.agg #[.int .i64 0, .int .i64 0, .slice none 0 0], 3, 40) := by kernel_rfl
theorem tP_36 : tPlaces Tryz.prog 36 = some [(0, 1), (1, 1), (2, 1)] := by kernel_rfl
theorem tF_36_0 : fldOff Tryz.prog 36 0 = some 0 := by kernel_rfl
theorem tF_36_1 : fldOff Tryz.prog 36 1 = some 1 := by kernel_rfl
theorem tF_36_2 : fldOff Tryz.prog 36 2 = some 2 := by kernel_rfl
theorem tS_37 : tSize Tryz.prog 37 = some 1 := by kernel_rfl
theorem tA_37 : tAgg Tryz.prog 37 = some false := by kernel_rfl
theorem tE_37 : tElem Tryz.prog 37 = some 4 := by kernel_rfl
theorem tS_44 : tSize Tryz.prog 44 = some 2 := by kernel_rfl
theorem tA_44 : tAgg Tryz.prog 44 = some true := by kernel_rfl
theorem tZ_44 : tZero Tryz.prog 44 = some (.agg #[.slice none 0 0, .slice none 0 0]) := by kernel_rfl
theorem tP_44 : tPlaces Tryz.prog 44 = some [(0, 1), (1, 1)] := by kernel_rfl
theorem tF_44_0 : fldOff Tryz.prog 44 0 = some 0 := by kernel_rfl
theorem tF_44_1 : fldOff Tryz.prog 44 1 = some 1 := by kernel_rfl
theorem tS_47 : tSize Tryz.prog 47 = some 2 := by kernel_rfl
theorem tA_47 : tAgg Tryz.prog 47 = some true := by kernel_rfl
theorem tZ_47 : tZero Tryz.prog 47 = some (.agg #[.slice none 0 0, .slice none 0 0]) := by kernel_rfl
theorem tP_47 : tPlaces Tryz.prog 47 = some [(0, 1), (1, 1)] := by kernel_rfl
theorem tF_47_0 : fldOff Tryz.prog 47 0 = some 0 := by kernel_rfl
theorem tF_47_1 : fldOff Tryz.prog 47 1 = some 1 := by kernel_rfl
theorem tE_58 : tElem Tryz.prog 58 = some 3 := by kernel_rfl
theorem tS_62 : tSize Tryz.prog 62 = some 1 := by kernel_rfl
theorem tA_62 : tAgg Tryz.prog 62 = some false := by kernel_rfl
theorem tS_64 : tSize Tryz.prog 64 = some 5 := by kernel_rfl
theorem tA_64 : tAgg Tryz.prog 64 = some true := by kernel_rfl
theorem tZ_64 : tZero Tryz.prog 64 = some (.agg #[.int .u8 0, .int .i64 0, .int .u8 0, .int .i64 0, .string ⟨#[]⟩]) := by kernel_rfl
theorem tR_64 : tRow Tryz.prog 64 = some (.agg #[.int .u8 0, .int .i64 0, .int .u8 0, .int .i64 0, .string ⟨#[]⟩], 5, 48) := by kernel_rfl
theorem tP_64 : tPlaces Tryz.prog 64 = some [(0, 1), (1, 1), (2, 3)] := by kernel_rfl
theorem tF_64_0 : fldOff Tryz.prog 64 0 = some 0 := by kernel_rfl
theorem tF_64_1 : fldOff Tryz.prog 64 1 = some 1 := by kernel_rfl
theorem tF_64_2 : fldOff Tryz.prog 64 2 = some 2 := by kernel_rfl
theorem tS_70 : tSize Tryz.prog 70 = some 2 := by kernel_rfl
theorem tA_70 : tAgg Tryz.prog 70 = some true := by kernel_rfl
theorem tZ_70 : tZero Tryz.prog 70 = some (.agg #[.slice none 0 0, .slice none 0 0]) := by kernel_rfl
theorem tP_70 : tPlaces Tryz.prog 70 = some [(0, 2)] := by kernel_rfl
theorem tF_70_0 : fldOff Tryz.prog 70 0 = some 0 := by kernel_rfl
theorem tS_77 : tSize Tryz.prog 77 = some 1 := by kernel_rfl
theorem tA_77 : tAgg Tryz.prog 77 = some false := by kernel_rfl
theorem tE_77 : tElem Tryz.prog 77 = some 34 := by kernel_rfl
theorem tE_78 : tElem Tryz.prog 78 = some 36 := by kernel_rfl
theorem tS_89 : tSize Tryz.prog 89 = some 1 := by kernel_rfl
theorem tA_89 : tAgg Tryz.prog 89 = some false := by kernel_rfl
theorem tS_90 : tSize Tryz.prog 90 = some 1 := by kernel_rfl
theorem tA_90 : tAgg Tryz.prog 90 = some false := by kernel_rfl
theorem tS_91 : tSize Tryz.prog 91 = some 1 := by kernel_rfl
theorem tA_91 : tAgg Tryz.prog 91 = some false := by kernel_rfl
theorem tS_92 : tSize Tryz.prog 92 = some 1 := by kernel_rfl
theorem tA_92 : tAgg Tryz.prog 92 = some false := by kernel_rfl
theorem tS_93 : tSize Tryz.prog 93 = some 1 := by kernel_rfl
theorem tA_93 : tAgg Tryz.prog 93 = some false := by kernel_rfl
theorem tS_94 : tSize Tryz.prog 94 = some 1 := by kernel_rfl
theorem tA_94 : tAgg Tryz.prog 94 = some false := by kernel_rfl
theorem tS_95 : tSize Tryz.prog 95 = some 1 := by kernel_rfl
theorem tA_95 : tAgg Tryz.prog 95 = some false := by kernel_rfl
theorem tS_96 : tSize Tryz.prog 96 = some 1 := by kernel_rfl
theorem tA_96 : tAgg Tryz.prog 96 = some false := by kernel_rfl
theorem tS_97 : tSize Tryz.prog 97 = some 1 := by kernel_rfl
theorem tA_97 : tAgg Tryz.prog 97 = some false := by kernel_rfl
theorem tS_98 : tSize Tryz.prog 98 = some 1 := by kernel_rfl
theorem tA_98 : tAgg Tryz.prog 98 = some false := by kernel_rfl
theorem tS_99 : tSize Tryz.prog 99 = some 1 := by kernel_rfl
theorem tA_99 : tAgg Tryz.prog 99 = some false := by kernel_rfl
theorem tS_100 : tSize Tryz.prog 100 = some 1 := by kernel_rfl
theorem tA_100 : tAgg Tryz.prog 100 = some false := by kernel_rfl
theorem tS_101 : tSize Tryz.prog 101 = some 1 := by kernel_rfl
theorem tA_101 : tAgg Tryz.prog 101 = some false := by kernel_rfl
theorem tS_102 : tSize Tryz.prog 102 = some 1 := by kernel_rfl
theorem tA_102 : tAgg Tryz.prog 102 = some false := by kernel_rfl
theorem tS_103 : tSize Tryz.prog 103 = some 1 := by kernel_rfl
theorem tA_103 : tAgg Tryz.prog 103 = some false := by kernel_rfl
theorem tS_104 : tSize Tryz.prog 104 = some 1 := by kernel_rfl
theorem tA_104 : tAgg Tryz.prog 104 = some false := by kernel_rfl
theorem tS_105 : tSize Tryz.prog 105 = some 1 := by kernel_rfl
theorem tA_105 : tAgg Tryz.prog 105 = some false := by kernel_rfl
theorem tS_106 : tSize Tryz.prog 106 = some 1 := by kernel_rfl
theorem tA_106 : tAgg Tryz.prog 106 = some false := by kernel_rfl
theorem tS_107 : tSize Tryz.prog 107 = some 1 := by kernel_rfl
theorem tA_107 : tAgg Tryz.prog 107 = some false := by kernel_rfl
theorem tS_108 : tSize Tryz.prog 108 = some 1 := by kernel_rfl
theorem tA_108 : tAgg Tryz.prog 108 = some false := by kernel_rfl
theorem tS_109 : tSize Tryz.prog 109 = some 1 := by kernel_rfl
theorem tA_109 : tAgg Tryz.prog 109 = some false := by kernel_rfl
theorem tS_110 : tSize Tryz.prog 110 = some 1 := by kernel_rfl
theorem tA_110 : tAgg Tryz.prog 110 = some false := by kernel_rfl
theorem tS_111 : tSize Tryz.prog 111 = some 1 := by kernel_rfl
theorem tA_111 : tAgg Tryz.prog 111 = some false := by kernel_rfl
theorem tS_112 : tSize Tryz.prog 112 = some 1 := by kernel_rfl
theorem tA_112 : tAgg Tryz.prog 112 = some false := by kernel_rfl
theorem tS_113 : tSize Tryz.prog 113 = some 1 := by kernel_rfl
theorem tA_113 : tAgg Tryz.prog 113 = some false := by kernel_rfl
theorem tS_114 : tSize Tryz.prog 114 = some 1 := by kernel_rfl
theorem tA_114 : tAgg Tryz.prog 114 = some false := by kernel_rfl
theorem tS_115 : tSize Tryz.prog 115 = some 1 := by kernel_rfl
theorem tA_115 : tAgg Tryz.prog 115 = some false := by kernel_rfl
theorem tS_116 : tSize Tryz.prog 116 = some 1 := by kernel_rfl
theorem tA_116 : tAgg Tryz.prog 116 = some false := by kernel_rfl
theorem tZ_118 : tZero Tryz.prog 118 = some (.agg #[.slice none 0 0, .slice none 0 0, .slice none 0 0, .slice none 0 0, .slice none 0 0, .slice none 0 0, .slice none 0 0, .slice none 0 0, .slice none 0 0, .slice none 0 0, .slice none 0 0, .slice none 0 0, .slice none 0 0, .slice none 0 0, .slice none 0 0, .slice none 0 0, .slice none 0 0, .slice none 0 0, .slice none 0 0, .slice none 0 0, .slice none 0 0, .slice none 0 0, .slice none 0 0, .slice none 0 0, .slice none 0 0, .slice none 0 0, .slice none 0 0, .slice none 0 0, .slice none 0 0]) := by kernel_rfl
theorem tP_118 : tPlaces Tryz.prog 118 = some [(0, 1), (1, 1), (2, 1), (3, 1), (4, 1), (5, 1), (6, 1), (7, 1), (8, 1), (9, 1), (10, 1), (11, 1), (12, 1), (13, 1), (14, 1), (15, 1), (16, 1), (17, 1), (18, 1), (19, 1), (20, 1), (21, 1), (22, 1), (23, 1), (24, 1), (25, 1), (26, 1), (27, 1), (28, 1)] := by kernel_rfl
theorem tF_118_0 : fldOff Tryz.prog 118 0 = some 0 := by kernel_rfl
theorem tF_118_1 : fldOff Tryz.prog 118 1 = some 1 := by kernel_rfl
theorem tF_118_2 : fldOff Tryz.prog 118 2 = some 2 := by kernel_rfl
theorem tF_118_3 : fldOff Tryz.prog 118 3 = some 3 := by kernel_rfl
theorem tF_118_4 : fldOff Tryz.prog 118 4 = some 4 := by kernel_rfl
theorem tF_118_5 : fldOff Tryz.prog 118 5 = some 5 := by kernel_rfl
theorem tF_118_6 : fldOff Tryz.prog 118 6 = some 6 := by kernel_rfl
theorem tF_118_7 : fldOff Tryz.prog 118 7 = some 7 := by kernel_rfl
theorem tF_118_8 : fldOff Tryz.prog 118 8 = some 8 := by kernel_rfl
theorem tF_118_9 : fldOff Tryz.prog 118 9 = some 9 := by kernel_rfl
theorem tF_118_10 : fldOff Tryz.prog 118 10 = some 10 := by kernel_rfl
theorem tF_118_11 : fldOff Tryz.prog 118 11 = some 11 := by kernel_rfl
theorem tF_118_12 : fldOff Tryz.prog 118 12 = some 12 := by kernel_rfl
theorem tF_118_13 : fldOff Tryz.prog 118 13 = some 13 := by kernel_rfl
theorem tF_118_14 : fldOff Tryz.prog 118 14 = some 14 := by kernel_rfl
theorem tF_118_15 : fldOff Tryz.prog 118 15 = some 15 := by kernel_rfl
theorem tF_118_16 : fldOff Tryz.prog 118 16 = some 16 := by kernel_rfl
theorem tF_118_17 : fldOff Tryz.prog 118 17 = some 17 := by kernel_rfl
theorem tF_118_18 : fldOff Tryz.prog 118 18 = some 18 := by kernel_rfl
theorem tF_118_19 : fldOff Tryz.prog 118 19 = some 19 := by kernel_rfl
theorem tF_118_20 : fldOff Tryz.prog 118 20 = some 20 := by kernel_rfl
theorem tF_118_21 : fldOff Tryz.prog 118 21 = some 21 := by kernel_rfl
theorem tF_118_22 : fldOff Tryz.prog 118 22 = some 22 := by kernel_rfl
theorem tF_118_23 : fldOff Tryz.prog 118 23 = some 23 := by kernel_rfl
theorem tF_118_24 : fldOff Tryz.prog 118 24 = some 24 := by kernel_rfl
theorem tF_118_25 : fldOff Tryz.prog 118 25 = some 25 := by kernel_rfl
theorem tF_118_26 : fldOff Tryz.prog 118 26 = some 26 := by kernel_rfl
theorem tF_118_27 : fldOff Tryz.prog 118 27 = some 27 := by kernel_rfl
theorem tF_118_28 : fldOff Tryz.prog 118 28 = some 28 := by kernel_rfl
theorem fn_3 : isFn Tryz.prog 3 = true := by kernel_rfl
theorem fn_5 : isFn Tryz.prog 5 = true := by kernel_rfl
theorem fn_6 : isFn Tryz.prog 6 = true := by kernel_rfl
theorem fn_7 : isFn Tryz.prog 7 = true := by kernel_rfl
theorem fn_8 : isFn Tryz.prog 8 = true := by kernel_rfl
theorem fn_9 : isFn Tryz.prog 9 = true := by kernel_rfl
theorem fn_10 : isFn Tryz.prog 10 = true := by kernel_rfl
theorem fn_11 : isFn Tryz.prog 11 = true := by kernel_rfl
theorem fn_12 : isFn Tryz.prog 12 = true := by kernel_rfl
theorem fn_13 : isFn Tryz.prog 13 = true := by kernel_rfl
theorem fn_14 : isFn Tryz.prog 14 = true := by kernel_rfl
theorem fn_15 : isFn Tryz.prog 15 = true := by kernel_rfl
theorem fn_16 : isFn Tryz.prog 16 = true := by kernel_rfl
theorem fn_17 : isFn Tryz.prog 17 = true := by kernel_rfl
theorem fn_18 : isFn Tryz.prog 18 = true := by kernel_rfl
theorem fn_19 : isFn Tryz.prog 19 = true := by kernel_rfl
theorem fn_20 : isFn Tryz.prog 20 = true := by kernel_rfl
theorem fn_21 : isFn Tryz.prog 21 = true := by kernel_rfl
theorem fn_22 : isFn Tryz.prog 22 = true := by kernel_rfl
theorem fn_23 : isFn Tryz.prog 23 = true := by kernel_rfl
theorem fn_24 : isFn Tryz.prog 24 = true := by kernel_rfl
theorem fn_25 : isFn Tryz.prog 25 = true := by kernel_rfl
theorem fn_26 : isFn Tryz.prog 26 = true := by kernel_rfl
theorem fn_27 : isFn Tryz.prog 27 = true := by kernel_rfl
theorem fn_28 : isFn Tryz.prog 28 = true := by kernel_rfl
theorem fn_29 : isFn Tryz.prog 29 = true := by kernel_rfl
theorem fn_30 : isFn Tryz.prog 30 = true := by kernel_rfl
theorem fn_31 : isFn Tryz.prog 31 = true := by kernel_rfl
theorem fn_32 : isFn Tryz.prog 32 = true := by kernel_rfl
theorem fn_33 : isFn Tryz.prog 33 = true := by kernel_rfl
theorem fn_34 : isFn Tryz.prog 34 = true := by kernel_rfl
theorem fn_35 : isFn Tryz.prog 35 = true := by kernel_rfl
theorem fn_36 : isFn Tryz.prog 36 = true := by kernel_rfl
theorem fn_37 : isFn Tryz.prog 37 = true := by kernel_rfl
theorem fn_38 : isFn Tryz.prog 38 = true := by kernel_rfl
theorem fn_39 : isFn Tryz.prog 39 = true := by kernel_rfl
theorem fn_40 : isFn Tryz.prog 40 = true := by kernel_rfl
theorem fn_41 : isFn Tryz.prog 41 = true := by kernel_rfl
theorem fn_42 : isFn Tryz.prog 42 = true := by kernel_rfl
theorem fn_43 : isFn Tryz.prog 43 = true := by kernel_rfl
theorem fn_44 : isFn Tryz.prog 44 = true := by kernel_rfl
theorem fn_45 : isFn Tryz.prog 45 = true := by kernel_rfl
theorem fn_46 : isFn Tryz.prog 46 = true := by kernel_rfl
theorem fn_47 : isFn Tryz.prog 47 = true := by kernel_rfl
theorem fn_48 : isFn Tryz.prog 48 = true := by kernel_rfl
theorem fn_49 : isFn Tryz.prog 49 = true := by kernel_rfl
theorem fn_50 : isFn Tryz.prog 50 = true := by kernel_rfl
theorem fn_51 : isFn Tryz.prog 51 = true := by kernel_rfl
theorem fn_52 : isFn Tryz.prog 52 = true := by kernel_rfl
theorem fn_53 : isFn Tryz.prog 53 = true := by kernel_rfl
theorem fn_54 : isFn Tryz.prog 54 = true := by kernel_rfl
theorem fn_55 : isFn Tryz.prog 55 = true := by kernel_rfl
theorem fn_56 : isFn Tryz.prog 56 = true := by kernel_rfl
theorem fn_57 : isFn Tryz.prog 57 = true := by kernel_rfl
theorem fn_58 : isFn Tryz.prog 58 = true := by kernel_rfl
theorem fn_59 : isFn Tryz.prog 59 = true := by kernel_rfl
theorem fn_60 : isFn Tryz.prog 60 = true := by kernel_rfl
theorem fn_61 : isFn Tryz.prog 61 = true := by kernel_rfl
theorem fn_62 : isFn Tryz.prog 62 = true := by kernel_rfl
theorem fn_63 : isFn Tryz.prog 63 = true := by kernel_rfl
theorem fn_64 : isFn Tryz.prog 64 = true := by kernel_rfl
theorem fn_65 : isFn Tryz.prog 65 = true := by kernel_rfl
theorem fn_66 : isFn Tryz.prog 66 = true := by kernel_rfl
theorem fn_67 : isFn Tryz.prog 67 = true := by kernel_rfl
theorem fn_68 : isFn Tryz.prog 68 = true := by kernel_rfl
theorem fn_69 : isFn Tryz.prog 69 = true := by kernel_rfl
theorem fn_70 : isFn Tryz.prog 70 = true := by kernel_rfl
theorem fn_71 : isFn Tryz.prog 71 = true := by kernel_rfl
theorem fn_72 : isFn Tryz.prog 72 = true := by kernel_rfl
theorem fn_73 : isFn Tryz.prog 73 = true := by kernel_rfl
theorem fn_74 : isFn Tryz.prog 74 = true := by kernel_rfl
theorem fn_75 : isFn Tryz.prog 75 = true := by kernel_rfl
theorem fn_76 : isFn Tryz.prog 76 = true := by kernel_rfl
theorem fn_77 : isFn Tryz.prog 77 = true := by kernel_rfl
theorem fn_78 : isFn Tryz.prog 78 = true := by kernel_rfl
theorem fn_79 : isFn Tryz.prog 79 = true := by kernel_rfl
theorem fn_80 : isFn Tryz.prog 80 = true := by kernel_rfl
theorem fn_81 : isFn Tryz.prog 81 = true := by kernel_rfl
theorem fn_82 : isFn Tryz.prog 82 = true := by kernel_rfl
theorem fn_83 : isFn Tryz.prog 83 = true := by kernel_rfl
theorem fn_84 : isFn Tryz.prog 84 = true := by kernel_rfl
end Go.Proofs.YtalbennlmcpnmaaGreat
