import Derived.Test.YtkakbckmajdggaaChecked
import Derived.Test.YtkakbckmajdggaaIdx
namespace Go.Proofs.Ytkakbckmajdggaa
open Go.RowKit
theorem tS_3 : tSize Try.prog 3 = some 1 := by kernel_rfl
theorem tA_3 : tAgg Try.prog 3 = some false := by kernel_rfl
theorem tZ_3 : tZero Try.prog 3 = some (.int .i64 0) := by kernel_rfl
theorem tS_5 : tSize Try.prog 5 = some 1 := by kernel_rfl
theorem tA_5 : tAgg Try.prog 5 = some false := by kernel_rfl
theorem tZ_5 : tZero Try.prog 5 = some (.int .u8 0) := by kernel_rfl
theorem tR_5 : tRow Try.prog 5 = some (.int .u8 0, 1, 1) := by kernel_rfl
theorem tS_9 : tSize Try.prog 9 = some 1 := by kernel_rfl
theorem tA_9 : tAgg Try.prog 9 = some false := by kernel_rfl
theorem tZ_9 : tZero Try.prog 9 = some (.string ⟨#[]⟩) := by kernel_rfl
theorem tR_9 : tRow Try.prog 9 = some (.string ⟨#[]⟩, 1, 16) := by kernel_rfl
theorem tE_22 : tElem Try.prog 22 = some 27 := by kernel_rfl
theorem tS_24 : tSize Try.prog 24 = some 1 := by kernel_rfl
theorem tA_24 : tAgg Try.prog 24 = some false := by kernel_rfl
theorem tE_26 : tElem Try.prog 26 = some 9 := by kernel_rfl
theorem tS_27 : tSize Try.prog 27 = some 1 := by kernel_rfl
theorem tA_27 : tAgg Try.prog 27 = some false := by kernel_rfl
theorem tZ_27 : tZero Try.prog 27 = some (.slice none 0 0) := by kernel_rfl
theorem tE_27 : tElem Try.prog 27 = some 5 := by kernel_rfl
theorem tS_28 : tSize Try.prog 28 = some 1 := by kernel_rfl
theorem tA_28 : tAgg Try.prog 28 = some false := by kernel_rfl
theorem tZ_28 : tZero Try.prog 28 = some (.int .i64 0) := by kernel_rfl
theorem tR_28 : tRow Try.prog 28 = some (.int .i64 0, 1, 8) := by kernel_rfl
theorem tE_40 : tElem Try.prog 40 = some 54 := by kernel_rfl
theorem tS_42 : tSize Try.prog 42 = some 1 := by kernel_rfl
theorem tA_42 : tAgg Try.prog 42 = some false := by kernel_rfl
theorem tS_44 : tSize Try.prog 44 = some 2 := by kernel_rfl
theorem tA_44 : tAgg Try.prog 44 = some true := by kernel_rfl
theorem tZ_44 : tZero Try.prog 44 = some (.agg #[.pointer none, .pointer none]) := by kernel_rfl
theorem tP_44 : tPlaces Try.prog 44 = some [(0, 1), (1, 1)] := by kernel_rfl
theorem tF_44_0 : fldOff Try.prog 44 0 = some 0 := by kernel_rfl
theorem tF_44_1 : fldOff Try.prog 44 1 = some 1 := by kernel_rfl
theorem tS_54 : tSize Try.prog 54 = some 5 := by kernel_rfl
theorem tA_54 : tAgg Try.prog 54 = some true := by kernel_rfl
theorem tZ_54 : tZero Try.prog 54 = some (.agg #[.int .i64 0, .string ⟨#[]⟩, .string ⟨#[]⟩, .slice none 0 0, .int .i64 0]) := by kernel_rfl
theorem tP_54 : tPlaces Try.prog 54 = some [(0, 1), (1, 1), (2, 1), (3, 1), (4, 1)] := by kernel_rfl
theorem tF_54_0 : fldOff Try.prog 54 0 = some 0 := by kernel_rfl
theorem tF_54_1 : fldOff Try.prog 54 1 = some 1 := by kernel_rfl
theorem tF_54_2 : fldOff Try.prog 54 2 = some 2 := by kernel_rfl
theorem tF_54_3 : fldOff Try.prog 54 3 = some 3 := by kernel_rfl
theorem tF_54_4 : fldOff Try.prog 54 4 = some 4 := by kernel_rfl
theorem tS_57 : tSize Try.prog 57 = some 1 := by kernel_rfl
theorem tA_57 : tAgg Try.prog 57 = some false := by kernel_rfl
theorem tS_59 : tSize Try.prog 59 = some 2 := by kernel_rfl
theorem tZ_59 : tZero Try.prog 59 = some (.agg #[.int .i64 0, .map none]) := by kernel_rfl
theorem tP_59 : tPlaces Try.prog 59 = some [(0, 1), (1, 1)] := by kernel_rfl
theorem tF_59_0 : fldOff Try.prog 59 0 = some 0 := by kernel_rfl
theorem tF_59_1 : fldOff Try.prog 59 1 = some 1 := by kernel_rfl
theorem tE_66 : tElem Try.prog 66 = some 28 := by kernel_rfl
theorem tS_69 : tSize Try.prog 69 = some 2 := by kernel_rfl
theorem tA_69 : tAgg Try.prog 69 = some true := by kernel_rfl
theorem tZ_69 : tZero Try.prog 69 = some (.agg #[.slice none 0 0, .slice none 0 0]) := by kernel_rfl
theorem tP_69 : tPlaces Try.prog 69 = some [(0, 1), (1, 1)] := by kernel_rfl
theorem tF_69_0 : fldOff Try.prog 69 0 = some 0 := by kernel_rfl
theorem tF_69_1 : fldOff Try.prog 69 1 = some 1 := by kernel_rfl
theorem tS_83 : tSize Try.prog 83 = some 1 := by kernel_rfl
theorem tA_83 : tAgg Try.prog 83 = some false := by kernel_rfl
theorem tE_83 : tElem Try.prog 83 = some 87 := by kernel_rfl
theorem tS_85 : tSize Try.prog 85 = some 2 := by kernel_rfl
theorem tZ_85 : tZero Try.prog 85 = some (.agg #[.int .i64 0, .slice none 0 0]) := by kernel_rfl
theorem tP_85 : tPlaces Try.prog 85 = some [(0, 1), (1, 1)] := by kernel_rfl
theorem tF_85_0 : fldOff Try.prog 85 0 = some 0 := by kernel_rfl
theorem tF_85_1 : fldOff Try.prog 85 1 = some 1 := by kernel_rfl
theorem tS_87 : tSize Try.prog 87 = some 3 := by kernel_rfl
theorem tA_87 : tAgg Try.prog 87 = some true := by kernel_rfl
theorem tZ_87 : tZero Try.prog 87 = some (.agg #[.string ⟨#[]⟩, .string ⟨#[]⟩, .string ⟨#[]⟩]) := by kernel_rfl
theorem tR_87 : tRow Try.prog 87 = some (.agg #[.string ⟨#[]⟩, .string ⟨#[]⟩, .string ⟨#[]⟩], 3, 48) := by kernel_rfl
theorem tP_87 : tPlaces Try.prog 87 = some [(0, 1), (1, 1), (2, 1)] := by kernel_rfl
theorem tF_87_0 : fldOff Try.prog 87 0 = some 0 := by kernel_rfl
theorem tF_87_1 : fldOff Try.prog 87 1 = some 1 := by kernel_rfl
theorem tF_87_2 : fldOff Try.prog 87 2 = some 2 := by kernel_rfl
theorem tE_100 : tElem Try.prog 100 = some 3 := by kernel_rfl
theorem fn_9 : isFn Try.prog 9 = true := by kernel_rfl
theorem fn_10 : isFn Try.prog 10 = true := by kernel_rfl
theorem fn_11 : isFn Try.prog 11 = true := by kernel_rfl
theorem fn_12 : isFn Try.prog 12 = true := by kernel_rfl
theorem fn_13 : isFn Try.prog 13 = true := by kernel_rfl
theorem fn_14 : isFn Try.prog 14 = true := by kernel_rfl
theorem fn_15 : isFn Try.prog 15 = true := by kernel_rfl
theorem fn_17 : isFn Try.prog 17 = true := by kernel_rfl
theorem fn_18 : isFn Try.prog 18 = true := by kernel_rfl
theorem fn_19 : isFn Try.prog 19 = true := by kernel_rfl
theorem fn_21 : isFn Try.prog 21 = true := by kernel_rfl
theorem fn_22 : isFn Try.prog 22 = true := by kernel_rfl
theorem fn_23 : isFn Try.prog 23 = true := by kernel_rfl
theorem fn_26 : isFn Try.prog 26 = true := by kernel_rfl
theorem fn_27 : isFn Try.prog 27 = true := by kernel_rfl
theorem fn_29 : isFn Try.prog 29 = true := by kernel_rfl
theorem fn_30 : isFn Try.prog 30 = true := by kernel_rfl
theorem fn_31 : isFn Try.prog 31 = true := by kernel_rfl
theorem fn_32 : isFn Try.prog 32 = true := by kernel_rfl
theorem fn_33 : isFn Try.prog 33 = true := by kernel_rfl
theorem fn_34 : isFn Try.prog 34 = true := by kernel_rfl
theorem fn_35 : isFn Try.prog 35 = true := by kernel_rfl
theorem fn_36 : isFn Try.prog 36 = true := by kernel_rfl
theorem fn_37 : isFn Try.prog 37 = true := by kernel_rfl
theorem fn_38 : isFn Try.prog 38 = true := by kernel_rfl
theorem fn_39 : isFn Try.prog 39 = true := by kernel_rfl
theorem fn_40 : isFn Try.prog 40 = true := by kernel_rfl
theorem fn_41 : isFn Try.prog 41 = true := by kernel_rfl
theorem fn_42 : isFn Try.prog 42 = true := by kernel_rfl
theorem fn_43 : isFn Try.prog 43 = true := by kernel_rfl
theorem fn_44 : isFn Try.prog 44 = true := by kernel_rfl
theorem fn_45 : isFn Try.prog 45 = true := by kernel_rfl
theorem fn_46 : isFn Try.prog 46 = true := by kernel_rfl
theorem fn_47 : isFn Try.prog 47 = true := by kernel_rfl
theorem fn_48 : isFn Try.prog 48 = true := by kernel_rfl
theorem fn_50 : isFn Try.prog 50 = true := by kernel_rfl
theorem fn_51 : isFn Try.prog 51 = true := by kernel_rfl
theorem fn_52 : isFn Try.prog 52 = true := by kernel_rfl
theorem fn_53 : isFn Try.prog 53 = true := by kernel_rfl
theorem fn_54 : isFn Try.prog 54 = true := by kernel_rfl
theorem fn_55 : isFn Try.prog 55 = true := by kernel_rfl
theorem fn_56 : isFn Try.prog 56 = true := by kernel_rfl
theorem fn_57 : isFn Try.prog 57 = true := by kernel_rfl
theorem fn_58 : isFn Try.prog 58 = true := by kernel_rfl
theorem fn_59 : isFn Try.prog 59 = true := by kernel_rfl
theorem fn_60 : isFn Try.prog 60 = true := by kernel_rfl
theorem fn_67 : isFn Try.prog 67 = true := by kernel_rfl
theorem fn_68 : isFn Try.prog 68 = true := by kernel_rfl
theorem fn_69 : isFn Try.prog 69 = true := by kernel_rfl
theorem fn_73 : isFn Try.prog 73 = true := by kernel_rfl
theorem fn_74 : isFn Try.prog 74 = true := by kernel_rfl
theorem fn_75 : isFn Try.prog 75 = true := by kernel_rfl
theorem fn_76 : isFn Try.prog 76 = true := by kernel_rfl
theorem fn_82 : isFn Try.prog 82 = true := by kernel_rfl
theorem fn_88 : isFn Try.prog 88 = true := by kernel_rfl
end Go.Proofs.Ytkakbckmajdggaa
