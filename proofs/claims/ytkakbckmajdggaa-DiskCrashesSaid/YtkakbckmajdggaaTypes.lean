/- What the program says of its types: closed facts, by program. -/
import Derived.Test.YtkakbckmajdggaaChecked
import Derived.Test.YtkakbckmajdggaaIdx
namespace Go.Proofs.Ytkakbckmajdggaa
open Go.RowKit
theorem tS_3 : tSize Try.prog 3 = some 1 := by kernel_rfl
theorem tA_3 : tAgg Try.prog 3 = some false := by kernel_rfl
theorem tZ_3 : tZero Try.prog 3 = some (.int .i64 0) := by kernel_rfl
theorem tR_3 : tRow Try.prog 3 = some (.int .i64 0, 1, 8) := by kernel_rfl
theorem tU_3 : Try.prog.underlying 3 = some (.int .i64) := by kernel_rfl
theorem tS_4 : tSize Try.prog 4 = some 1 := by kernel_rfl
theorem tA_4 : tAgg Try.prog 4 = some false := by kernel_rfl
theorem tZ_4 : tZero Try.prog 4 = some (.bool false) := by kernel_rfl
theorem tR_4 : tRow Try.prog 4 = some (.bool false, 1, 1) := by kernel_rfl
theorem tU_4 : Try.prog.underlying 4 = some .bool := by kernel_rfl
theorem tS_5 : tSize Try.prog 5 = some 1 := by kernel_rfl
theorem tA_5 : tAgg Try.prog 5 = some false := by kernel_rfl
theorem tZ_5 : tZero Try.prog 5 = some (.int .u8 0) := by kernel_rfl
theorem tR_5 : tRow Try.prog 5 = some (.int .u8 0, 1, 1) := by kernel_rfl
theorem tS_9 : tSize Try.prog 9 = some 1 := by kernel_rfl
theorem tA_9 : tAgg Try.prog 9 = some false := by kernel_rfl
theorem tZ_9 : tZero Try.prog 9 = some (.string ⟨#[]⟩) := by kernel_rfl
theorem tR_9 : tRow Try.prog 9 = some (.string ⟨#[]⟩, 1, 16) := by kernel_rfl
theorem tS_21 : tSize Try.prog 21 = some 1 := by kernel_rfl
theorem tA_21 : tAgg Try.prog 21 = some false := by kernel_rfl
theorem tZ_21 : tZero Try.prog 21 = some (.int .i32 0) := by kernel_rfl
theorem tR_21 : tRow Try.prog 21 = some (.int .i32 0, 1, 4) := by kernel_rfl
theorem tS_22 : tSize Try.prog 22 = some 1 := by kernel_rfl
theorem tA_22 : tAgg Try.prog 22 = some false := by kernel_rfl
theorem tZ_22 : tZero Try.prog 22 = some (.slice none 0 0) := by kernel_rfl
theorem tR_22 : tRow Try.prog 22 = some (.slice none 0 0, 1, 24) := by kernel_rfl
theorem tE_22 : tElem Try.prog 22 = some 27 := by kernel_rfl
theorem tS_24 : tSize Try.prog 24 = some 1 := by kernel_rfl
theorem tA_24 : tAgg Try.prog 24 = some false := by kernel_rfl
theorem tZ_24 : tZero Try.prog 24 = some (.pointer none) := by kernel_rfl
theorem tR_24 : tRow Try.prog 24 = some (.pointer none, 1, 8) := by kernel_rfl
theorem tS_26 : tSize Try.prog 26 = some 1 := by kernel_rfl
theorem tA_26 : tAgg Try.prog 26 = some false := by kernel_rfl
theorem tZ_26 : tZero Try.prog 26 = some (.slice none 0 0) := by kernel_rfl
theorem tR_26 : tRow Try.prog 26 = some (.slice none 0 0, 1, 24) := by kernel_rfl
theorem tE_26 : tElem Try.prog 26 = some 9 := by kernel_rfl
theorem tS_27 : tSize Try.prog 27 = some 1 := by kernel_rfl
theorem tA_27 : tAgg Try.prog 27 = some false := by kernel_rfl
theorem tZ_27 : tZero Try.prog 27 = some (.slice none 0 0) := by kernel_rfl
theorem tR_27 : tRow Try.prog 27 = some (.slice none 0 0, 1, 24) := by kernel_rfl
theorem tE_27 : tElem Try.prog 27 = some 5 := by kernel_rfl
theorem tS_28 : tSize Try.prog 28 = some 1 := by kernel_rfl
theorem tA_28 : tAgg Try.prog 28 = some false := by kernel_rfl
theorem tZ_28 : tZero Try.prog 28 = some (.int .i64 0) := by kernel_rfl
theorem tR_28 : tRow Try.prog 28 = some (.int .i64 0, 1, 8) := by kernel_rfl
theorem tU_28 : Try.prog.underlying 28 = some (.int .i64) := by kernel_rfl
theorem tS_40 : tSize Try.prog 40 = some 1 := by kernel_rfl
theorem tA_40 : tAgg Try.prog 40 = some false := by kernel_rfl
theorem tZ_40 : tZero Try.prog 40 = some (.slice none 0 0) := by kernel_rfl
theorem tR_40 : tRow Try.prog 40 = some (.slice none 0 0, 1, 24) := by kernel_rfl
theorem tE_40 : tElem Try.prog 40 = some 54 := by kernel_rfl
theorem tS_42 : tSize Try.prog 42 = some 1 := by kernel_rfl
theorem tA_42 : tAgg Try.prog 42 = some false := by kernel_rfl
theorem tZ_42 : tZero Try.prog 42 = some (.pointer none) := by kernel_rfl
theorem tR_42 : tRow Try.prog 42 = some (.pointer none, 1, 8) := by kernel_rfl
theorem tS_44 : tSize Try.prog 44 = some 2 := by kernel_rfl
theorem tA_44 : tAgg Try.prog 44 = some true := by kernel_rfl
theorem tZ_44 : tZero Try.prog 44 = some (.agg #[.pointer none, .pointer none]) := by kernel_rfl
theorem tR_44 : tRow Try.prog 44 = some (.agg #[.pointer none, .pointer none], 2, 16) := by kernel_rfl
theorem tP_44 : tPlaces Try.prog 44 = some [(0, 1), (1, 1)] := by kernel_rfl
theorem tF_44_0 : fldOff Try.prog 44 0 = some 0 := by kernel_rfl
theorem tF_44_1 : fldOff Try.prog 44 1 = some 1 := by kernel_rfl
theorem tS_54 : tSize Try.prog 54 = some 5 := by kernel_rfl
theorem tA_54 : tAgg Try.prog 54 = some true := by kernel_rfl
theorem tZ_54 : tZero Try.prog 54 = some (.agg #[.int .i64 0, .string ⟨#[]⟩, .string ⟨#[]⟩, .slice none 0 0, .int .i64 0]) := by kernel_rfl
theorem tR_54 : tRow Try.prog 54 = some (.agg #[.int .i64 0, .string ⟨#[]⟩, .string ⟨#[]⟩, .slice none 0 0, .int .i64 0], 5, 72) := by kernel_rfl
theorem tP_54 : tPlaces Try.prog 54 = some [(0, 1), (1, 1), (2, 1), (3, 1), (4, 1)] := by kernel_rfl
theorem tF_54_0 : fldOff Try.prog 54 0 = some 0 := by kernel_rfl
theorem tF_54_1 : fldOff Try.prog 54 1 = some 1 := by kernel_rfl
theorem tF_54_2 : fldOff Try.prog 54 2 = some 2 := by kernel_rfl
theorem tF_54_3 : fldOff Try.prog 54 3 = some 3 := by kernel_rfl
theorem tF_54_4 : fldOff Try.prog 54 4 = some 4 := by kernel_rfl
theorem tS_57 : tSize Try.prog 57 = some 1 := by kernel_rfl
theorem tA_57 : tAgg Try.prog 57 = some false := by kernel_rfl
theorem tZ_57 : tZero Try.prog 57 = some (.map none) := by kernel_rfl
theorem tR_57 : tRow Try.prog 57 = some (.map none, 1, 8) := by kernel_rfl
theorem tS_59 : tSize Try.prog 59 = some 2 := by kernel_rfl
theorem tA_59 : tAgg Try.prog 59 = some true := by kernel_rfl
theorem tZ_59 : tZero Try.prog 59 = some (.agg #[.int .i64 0, .map none]) := by kernel_rfl
theorem tR_59 : tRow Try.prog 59 = some (.agg #[.int .i64 0, .map none], 2, 16) := by kernel_rfl
theorem tP_59 : tPlaces Try.prog 59 = some [(0, 1), (1, 1)] := by kernel_rfl
theorem tF_59_0 : fldOff Try.prog 59 0 = some 0 := by kernel_rfl
theorem tF_59_1 : fldOff Try.prog 59 1 = some 1 := by kernel_rfl
theorem tS_66 : tSize Try.prog 66 = some 1 := by kernel_rfl
theorem tA_66 : tAgg Try.prog 66 = some false := by kernel_rfl
theorem tZ_66 : tZero Try.prog 66 = some (.slice none 0 0) := by kernel_rfl
theorem tR_66 : tRow Try.prog 66 = some (.slice none 0 0, 1, 24) := by kernel_rfl
theorem tE_66 : tElem Try.prog 66 = some 28 := by kernel_rfl
theorem tS_69 : tSize Try.prog 69 = some 2 := by kernel_rfl
theorem tA_69 : tAgg Try.prog 69 = some true := by kernel_rfl
theorem tZ_69 : tZero Try.prog 69 = some (.agg #[.slice none 0 0, .slice none 0 0]) := by kernel_rfl
theorem tR_69 : tRow Try.prog 69 = some (.agg #[.slice none 0 0, .slice none 0 0], 2, 48) := by kernel_rfl
theorem tP_69 : tPlaces Try.prog 69 = some [(0, 1), (1, 1)] := by kernel_rfl
theorem tF_69_0 : fldOff Try.prog 69 0 = some 0 := by kernel_rfl
theorem tF_69_1 : fldOff Try.prog 69 1 = some 1 := by kernel_rfl
theorem tS_76 : tSize Try.prog 76 = some 1 := by kernel_rfl
theorem tA_76 : tAgg Try.prog 76 = some false := by kernel_rfl
theorem tZ_76 : tZero Try.prog 76 = some (.nilFunc) := by kernel_rfl
theorem tR_76 : tRow Try.prog 76 = some (.nilFunc, 1, 8) := by kernel_rfl
theorem tS_79 : tSize Try.prog 79 = some 1 := by kernel_rfl
theorem tA_79 : tAgg Try.prog 79 = some false := by kernel_rfl
theorem tZ_79 : tZero Try.prog 79 = some (.nilFunc) := by kernel_rfl
theorem tR_79 : tRow Try.prog 79 = some (.nilFunc, 1, 8) := by kernel_rfl
theorem tS_83 : tSize Try.prog 83 = some 1 := by kernel_rfl
theorem tA_83 : tAgg Try.prog 83 = some false := by kernel_rfl
theorem tZ_83 : tZero Try.prog 83 = some (.slice none 0 0) := by kernel_rfl
theorem tR_83 : tRow Try.prog 83 = some (.slice none 0 0, 1, 24) := by kernel_rfl
theorem tE_83 : tElem Try.prog 83 = some 87 := by kernel_rfl
theorem tS_85 : tSize Try.prog 85 = some 2 := by kernel_rfl
theorem tA_85 : tAgg Try.prog 85 = some true := by kernel_rfl
theorem tZ_85 : tZero Try.prog 85 = some (.agg #[.int .i64 0, .slice none 0 0]) := by kernel_rfl
theorem tR_85 : tRow Try.prog 85 = some (.agg #[.int .i64 0, .slice none 0 0], 2, 32) := by kernel_rfl
theorem tP_85 : tPlaces Try.prog 85 = some [(0, 1), (1, 1)] := by kernel_rfl
theorem tF_85_0 : fldOff Try.prog 85 0 = some 0 := by kernel_rfl
theorem tF_85_1 : fldOff Try.prog 85 1 = some 1 := by kernel_rfl
theorem tS_87 : tSize Try.prog 87 = some 3 := by kernel_rfl
theorem tA_87 : tAgg Try.prog 87 = some true := by kernel_rfl
theorem tZ_87 : tZero Try.prog 87 = some (.agg #[.string ⟨#[]⟩, .string ⟨#[]⟩, .string ⟨#[]⟩]) := by kernel_rfl
theorem tR_87 : tRow Try.prog 87 = some (.agg #[.string ⟨#[]⟩, .string ⟨#[]⟩, .string ⟨#[]⟩], 3, 48) := by kernel_rfl
theorem tP_87 : tPlaces Try.prog 87 = some [(0, 1), (1, 1), (2, 1)] := by kernel_rfl
theorem tF_87_0 : fldOff Try.prog 87 0 = some 0 := by kernel_rfl
theorem tF_87_1 : fldOff Try.prog 87 1 = some 1 := by kernel_rfl
theorem tF_87_2 : fldOff Try.prog 87 2 = some 2 := by kernel_rfl
theorem tS_88 : tSize Try.prog 88 = some 1 := by kernel_rfl
theorem tA_88 : tAgg Try.prog 88 = some false := by kernel_rfl
theorem tZ_88 : tZero Try.prog 88 = some (.int .u64 0) := by kernel_rfl
theorem tR_88 : tRow Try.prog 88 = some (.int .u64 0, 1, 8) := by kernel_rfl
theorem tS_92 : tSize Try.prog 92 = some 1 := by kernel_rfl
theorem tA_92 : tAgg Try.prog 92 = some false := by kernel_rfl
theorem tZ_92 : tZero Try.prog 92 = some (.pointer none) := by kernel_rfl
theorem tR_92 : tRow Try.prog 92 = some (.pointer none, 1, 8) := by kernel_rfl
theorem tS_94 : tSize Try.prog 94 = some 2 := by kernel_rfl
theorem tA_94 : tAgg Try.prog 94 = some true := by kernel_rfl
theorem tZ_94 : tZero Try.prog 94 = some (.agg #[.pointer none, .slice none 0 0]) := by kernel_rfl
theorem tR_94 : tRow Try.prog 94 = some (.agg #[.pointer none, .slice none 0 0], 2, 32) := by kernel_rfl
theorem tP_94 : tPlaces Try.prog 94 = some [(0, 1), (1, 1)] := by kernel_rfl
theorem tF_94_0 : fldOff Try.prog 94 0 = some 0 := by kernel_rfl
theorem tF_94_1 : fldOff Try.prog 94 1 = some 1 := by kernel_rfl
theorem tS_100 : tSize Try.prog 100 = some 1 := by kernel_rfl
theorem tA_100 : tAgg Try.prog 100 = some false := by kernel_rfl
theorem tZ_100 : tZero Try.prog 100 = some (.slice none 0 0) := by kernel_rfl
theorem tR_100 : tRow Try.prog 100 = some (.slice none 0 0, 1, 24) := by kernel_rfl
theorem tE_100 : tElem Try.prog 100 = some 3 := by kernel_rfl
theorem tS_102 : tSize Try.prog 102 = some 1 := by kernel_rfl
theorem tA_102 : tAgg Try.prog 102 = some false := by kernel_rfl
theorem tZ_102 : tZero Try.prog 102 = some (.nilFunc) := by kernel_rfl
theorem tR_102 : tRow Try.prog 102 = some (.nilFunc, 1, 8) := by kernel_rfl
theorem tS_109 : tSize Try.prog 109 = some 1 := by kernel_rfl
theorem tA_109 : tAgg Try.prog 109 = some false := by kernel_rfl
theorem tZ_109 : tZero Try.prog 109 = some (.int .u32 0) := by kernel_rfl
theorem tR_109 : tRow Try.prog 109 = some (.int .u32 0, 1, 4) := by kernel_rfl
theorem tS_112 : tSize Try.prog 112 = some 1 := by kernel_rfl
theorem tA_112 : tAgg Try.prog 112 = some false := by kernel_rfl
theorem tZ_112 : tZero Try.prog 112 = some (.int .u64 0) := by kernel_rfl
theorem tR_112 : tRow Try.prog 112 = some (.int .u64 0, 1, 8) := by kernel_rfl
theorem tS_115 : tSize Try.prog 115 = some 1 := by kernel_rfl
theorem tA_115 : tAgg Try.prog 115 = some false := by kernel_rfl
theorem tZ_115 : tZero Try.prog 115 = some (.pointer none) := by kernel_rfl
theorem tR_115 : tRow Try.prog 115 = some (.pointer none, 1, 8) := by kernel_rfl
theorem tS_120 : tSize Try.prog 120 = some 1 := by kernel_rfl
theorem tA_120 : tAgg Try.prog 120 = some false := by kernel_rfl
theorem tZ_120 : tZero Try.prog 120 = some (.pointer none) := by kernel_rfl
theorem tR_120 : tRow Try.prog 120 = some (.pointer none, 1, 8) := by kernel_rfl
theorem tS_125 : tSize Try.prog 125 = some 1 := by kernel_rfl
theorem tA_125 : tAgg Try.prog 125 = some false := by kernel_rfl
theorem tZ_125 : tZero Try.prog 125 = some (.int .i64 0) := by kernel_rfl
theorem tR_125 : tRow Try.prog 125 = some (.int .i64 0, 1, 8) := by kernel_rfl
theorem tU_125 : Try.prog.underlying 125 = some (.int .i64) := by kernel_rfl
theorem tS_134 : tSize Try.prog 134 = some 1 := by kernel_rfl
theorem tA_134 : tAgg Try.prog 134 = some false := by kernel_rfl
theorem tZ_134 : tZero Try.prog 134 = some (.int .u64 0) := by kernel_rfl
theorem tR_134 : tRow Try.prog 134 = some (.int .u64 0, 1, 8) := by kernel_rfl
theorem tS_138 : tSize Try.prog 138 = some 1 := by kernel_rfl
theorem tA_138 : tAgg Try.prog 138 = some false := by kernel_rfl
theorem tZ_138 : tZero Try.prog 138 = some (.pointer none) := by kernel_rfl
theorem tR_138 : tRow Try.prog 138 = some (.pointer none, 1, 8) := by kernel_rfl
theorem fn_2 : isFn Try.prog 2 = true := by kernel_rfl
theorem fn_3 : isFn Try.prog 3 = true := by kernel_rfl
theorem fn_4 : isFn Try.prog 4 = true := by kernel_rfl
theorem fn_5 : isFn Try.prog 5 = true := by kernel_rfl
theorem fn_6 : isFn Try.prog 6 = true := by kernel_rfl
theorem fn_7 : isFn Try.prog 7 = true := by kernel_rfl
theorem fn_8 : isFn Try.prog 8 = true := by kernel_rfl
theorem fn_9 : isFn Try.prog 9 = true := by kernel_rfl
theorem fn_10 : isFn Try.prog 10 = true := by kernel_rfl
theorem fn_11 : isFn Try.prog 11 = true := by kernel_rfl
theorem fn_12 : isFn Try.prog 12 = true := by kernel_rfl
theorem fn_13 : isFn Try.prog 13 = true := by kernel_rfl
theorem fn_14 : isFn Try.prog 14 = true := by kernel_rfl
theorem fn_15 : isFn Try.prog 15 = true := by kernel_rfl
theorem fn_16 : isFn Try.prog 16 = true := by kernel_rfl
theorem fn_17 : isFn Try.prog 17 = true := by kernel_rfl
theorem fn_18 : isFn Try.prog 18 = true := by kernel_rfl
theorem fn_19 : isFn Try.prog 19 = true := by kernel_rfl
theorem fn_20 : isFn Try.prog 20 = true := by kernel_rfl
theorem fn_21 : isFn Try.prog 21 = true := by kernel_rfl
theorem fn_22 : isFn Try.prog 22 = true := by kernel_rfl
theorem fn_23 : isFn Try.prog 23 = true := by kernel_rfl
theorem fn_24 : isFn Try.prog 24 = true := by kernel_rfl
theorem fn_25 : isFn Try.prog 25 = true := by kernel_rfl
theorem fn_26 : isFn Try.prog 26 = true := by kernel_rfl
theorem fn_27 : isFn Try.prog 27 = true := by kernel_rfl
theorem fn_28 : isFn Try.prog 28 = true := by kernel_rfl
theorem fn_29 : isFn Try.prog 29 = true := by kernel_rfl
theorem fn_30 : isFn Try.prog 30 = true := by kernel_rfl
theorem fn_31 : isFn Try.prog 31 = true := by kernel_rfl
theorem fn_32 : isFn Try.prog 32 = true := by kernel_rfl
theorem fn_33 : isFn Try.prog 33 = true := by kernel_rfl
theorem fn_34 : isFn Try.prog 34 = true := by kernel_rfl
theorem fn_35 : isFn Try.prog 35 = true := by kernel_rfl
theorem fn_36 : isFn Try.prog 36 = true := by kernel_rfl
theorem fn_37 : isFn Try.prog 37 = true := by kernel_rfl
theorem fn_38 : isFn Try.prog 38 = true := by kernel_rfl
theorem fn_39 : isFn Try.prog 39 = true := by kernel_rfl
theorem fn_40 : isFn Try.prog 40 = true := by kernel_rfl
theorem fn_41 : isFn Try.prog 41 = true := by kernel_rfl
theorem fn_42 : isFn Try.prog 42 = true := by kernel_rfl
theorem fn_43 : isFn Try.prog 43 = true := by kernel_rfl
theorem fn_44 : isFn Try.prog 44 = true := by kernel_rfl
theorem fn_45 : isFn Try.prog 45 = true := by kernel_rfl
theorem fn_46 : isFn Try.prog 46 = true := by kernel_rfl
theorem fn_47 : isFn Try.prog 47 = true := by kernel_rfl
theorem fn_48 : isFn Try.prog 48 = true := by kernel_rfl
theorem fn_49 : isFn Try.prog 49 = true := by kernel_rfl
theorem fn_50 : isFn Try.prog 50 = true := by kernel_rfl
theorem fn_51 : isFn Try.prog 51 = true := by kernel_rfl
theorem fn_52 : isFn Try.prog 52 = true := by kernel_rfl
theorem fn_53 : isFn Try.prog 53 = true := by kernel_rfl
theorem fn_54 : isFn Try.prog 54 = true := by kernel_rfl
theorem fn_55 : isFn Try.prog 55 = true := by kernel_rfl
theorem fn_56 : isFn Try.prog 56 = true := by kernel_rfl
theorem fn_57 : isFn Try.prog 57 = true := by kernel_rfl
theorem fn_58 : isFn Try.prog 58 = true := by kernel_rfl
theorem fn_59 : isFn Try.prog 59 = true := by kernel_rfl
theorem fn_60 : isFn Try.prog 60 = true := by kernel_rfl
theorem fn_61 : isFn Try.prog 61 = true := by kernel_rfl
theorem fn_62 : isFn Try.prog 62 = true := by kernel_rfl
theorem fn_63 : isFn Try.prog 63 = true := by kernel_rfl
theorem fn_64 : isFn Try.prog 64 = true := by kernel_rfl
theorem fn_65 : isFn Try.prog 65 = true := by kernel_rfl
theorem fn_66 : isFn Try.prog 66 = true := by kernel_rfl
theorem fn_67 : isFn Try.prog 67 = true := by kernel_rfl
theorem fn_68 : isFn Try.prog 68 = true := by kernel_rfl
theorem fn_69 : isFn Try.prog 69 = true := by kernel_rfl
theorem fn_70 : isFn Try.prog 70 = true := by kernel_rfl
theorem fn_71 : isFn Try.prog 71 = true := by kernel_rfl
theorem fn_72 : isFn Try.prog 72 = true := by kernel_rfl
theorem fn_73 : isFn Try.prog 73 = true := by kernel_rfl
theorem fn_74 : isFn Try.prog 74 = true := by kernel_rfl
theorem fn_75 : isFn Try.prog 75 = true := by kernel_rfl
theorem fn_76 : isFn Try.prog 76 = true := by kernel_rfl
theorem fn_77 : isFn Try.prog 77 = true := by kernel_rfl
theorem fn_78 : isFn Try.prog 78 = true := by kernel_rfl
theorem fn_79 : isFn Try.prog 79 = true := by kernel_rfl
theorem fn_80 : isFn Try.prog 80 = true := by kernel_rfl
theorem fn_81 : isFn Try.prog 81 = true := by kernel_rfl
theorem fn_82 : isFn Try.prog 82 = true := by kernel_rfl
theorem fn_83 : isFn Try.prog 83 = true := by kernel_rfl
theorem fn_84 : isFn Try.prog 84 = true := by kernel_rfl
theorem fn_85 : isFn Try.prog 85 = true := by kernel_rfl
theorem fn_88 : isFn Try.prog 88 = true := by kernel_rfl
theorem fn_89 : isFn Try.prog 89 = true := by kernel_rfl
theorem fn_90 : isFn Try.prog 90 = true := by kernel_rfl
theorem fn_91 : isFn Try.prog 91 = true := by kernel_rfl
theorem fn_92 : isFn Try.prog 92 = true := by kernel_rfl
theorem fn_93 : isFn Try.prog 93 = true := by kernel_rfl
theorem fn_94 : isFn Try.prog 94 = true := by kernel_rfl
theorem fn_95 : isFn Try.prog 95 = true := by kernel_rfl
theorem fn_96 : isFn Try.prog 96 = true := by kernel_rfl
theorem fn_97 : isFn Try.prog 97 = true := by kernel_rfl
theorem fn_98 : isFn Try.prog 98 = true := by kernel_rfl
theorem fn_99 : isFn Try.prog 99 = true := by kernel_rfl
theorem fn_100 : isFn Try.prog 100 = true := by kernel_rfl
theorem fn_101 : isFn Try.prog 101 = true := by kernel_rfl
theorem fn_102 : isFn Try.prog 102 = true := by kernel_rfl
theorem fn_103 : isFn Try.prog 103 = true := by kernel_rfl
theorem fn_104 : isFn Try.prog 104 = true := by kernel_rfl
theorem fn_105 : isFn Try.prog 105 = true := by kernel_rfl
theorem fn_106 : isFn Try.prog 106 = true := by kernel_rfl
end Go.Proofs.Ytkakbckmajdggaa
