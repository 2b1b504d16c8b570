/- What the program says of its types: closed facts, by program. -/
import Derived.Test.YtffcijddfhhbdaaChecked
import Derived.Test.YtffcijddfhhbdaaIdx
namespace Go.Proofs.Ytffcijddfhhbdaa
open Go.RowKit
theorem tS_2 : tSize Try.prog 2 = some 1 := by kernel_rfl
theorem tA_2 : tAgg Try.prog 2 = some false := by kernel_rfl
theorem tZ_2 : tZero Try.prog 2 = some (.int .i64 0) := by kernel_rfl
theorem tR_2 : tRow Try.prog 2 = some (.int .i64 0, 1, 8) := by kernel_rfl
theorem tU_2 : Try.prog.underlying 2 = some (.int .i64) := by kernel_rfl
theorem tS_3 : tSize Try.prog 3 = some 1 := by kernel_rfl
theorem tA_3 : tAgg Try.prog 3 = some false := by kernel_rfl
theorem tZ_3 : tZero Try.prog 3 = some (.int .i64 0) := by kernel_rfl
theorem tR_3 : tRow Try.prog 3 = some (.int .i64 0, 1, 8) := by kernel_rfl
theorem tU_3 : Try.prog.underlying 3 = some (.int .i64) := by kernel_rfl
theorem tS_4 : tSize Try.prog 4 = some 1 := by kernel_rfl
theorem tA_4 : tAgg Try.prog 4 = some false := by kernel_rfl
theorem tZ_4 : tZero Try.prog 4 = some (.bool false) := by kernel_rfl
theorem tR_4 : tRow Try.prog 4 = some (.bool false, 1, 1) := by kernel_rfl
theorem tU_4 : Try.prog.underlying 4 = some .bool := by kernel_rfl
theorem tS_9 : tSize Try.prog 9 = some 1 := by kernel_rfl
theorem tA_9 : tAgg Try.prog 9 = some false := by kernel_rfl
theorem tZ_9 : tZero Try.prog 9 = some (.string ⟨#[]⟩) := by kernel_rfl
theorem tR_9 : tRow Try.prog 9 = some (.string ⟨#[]⟩, 1, 16) := by kernel_rfl
theorem tS_22 : tSize Try.prog 22 = some 1 := by kernel_rfl
theorem tA_22 : tAgg Try.prog 22 = some false := by kernel_rfl
theorem tZ_22 : tZero Try.prog 22 = some (.int .u8 0) := by kernel_rfl
theorem tR_22 : tRow Try.prog 22 = some (.int .u8 0, 1, 1) := by kernel_rfl
theorem tS_23 : tSize Try.prog 23 = some 1 := by kernel_rfl
theorem tA_23 : tAgg Try.prog 23 = some false := by kernel_rfl
theorem tZ_23 : tZero Try.prog 23 = some (.slice none 0 0) := by kernel_rfl
theorem tR_23 : tRow Try.prog 23 = some (.slice none 0 0, 1, 24) := by kernel_rfl
theorem tE_23 : tElem Try.prog 23 = some 48 := by kernel_rfl
theorem tS_24 : tSize Try.prog 24 = some 1 := by kernel_rfl
theorem tA_24 : tAgg Try.prog 24 = some false := by kernel_rfl
theorem tZ_24 : tZero Try.prog 24 = some (.int .u8 0) := by kernel_rfl
theorem tR_24 : tRow Try.prog 24 = some (.int .u8 0, 1, 1) := by kernel_rfl
theorem tS_25 : tSize Try.prog 25 = some 1 := by kernel_rfl
theorem tA_25 : tAgg Try.prog 25 = some false := by kernel_rfl
theorem tZ_25 : tZero Try.prog 25 = some (.int .u8 0) := by kernel_rfl
theorem tR_25 : tRow Try.prog 25 = some (.int .u8 0, 1, 1) := by kernel_rfl
theorem tS_27 : tSize Try.prog 27 = some 3 := by kernel_rfl
theorem tA_27 : tAgg Try.prog 27 = some true := by kernel_rfl
theorem tZ_27 : tZero Try.prog 27 = some (.agg #[.int .u8 0, .int .i64 0, .string ⟨#[]⟩]) := by kernel_rfl
theorem tR_27 : tRow Try.prog 27 = some (.agg #[.int .u8 0, .int .i64 0, .string ⟨#[]⟩], 3, 32) := by kernel_rfl
theorem tP_27 : tPlaces Try.prog 27 = some [(0, 1), (1, 1), (2, 1)] := by kernel_rfl
theorem tF_27_0 : fldOff Try.prog 27 0 = some 0 := by kernel_rfl
theorem tF_27_1 : fldOff Try.prog 27 1 = some 1 := by kernel_rfl
theorem tF_27_2 : fldOff Try.prog 27 2 = some 2 := by kernel_rfl
theorem tS_28 : tSize Try.prog 28 = some 1 := by kernel_rfl
theorem tA_28 : tAgg Try.prog 28 = some false := by kernel_rfl
theorem tZ_28 : tZero Try.prog 28 = some (.int .u8 0) := by kernel_rfl
theorem tR_28 : tRow Try.prog 28 = some (.int .u8 0, 1, 1) := by kernel_rfl
theorem tS_29 : tSize Try.prog 29 = some 1 := by kernel_rfl
theorem tA_29 : tAgg Try.prog 29 = some false := by kernel_rfl
theorem tZ_29 : tZero Try.prog 29 = some (.slice none 0 0) := by kernel_rfl
theorem tR_29 : tRow Try.prog 29 = some (.slice none 0 0, 1, 24) := by kernel_rfl
theorem tE_29 : tElem Try.prog 29 = some 31 := by kernel_rfl
theorem tS_31 : tSize Try.prog 31 = some 7 := by kernel_rfl
theorem tA_31 : tAgg Try.prog 31 = some true := by kernel_rfl
theorem tZ_31 : tZero Try.prog 31 = some (.agg #[.int .u8 0, .int .u8 0, .int .i64 0, .string ⟨#[]⟩, .int .i64 0, .int .u8 0, .slice none 0 0]) := by kernel_rfl
theorem tR_31 : tRow Try.prog 31 = some (.agg #[.int .u8 0, .int .u8 0, .int .i64 0, .string ⟨#[]⟩, .int .i64 0, .int .u8 0, .slice none 0 0], 7, 80) := by kernel_rfl
theorem tP_31 : tPlaces Try.prog 31 = some [(0, 1), (1, 3), (4, 1), (5, 1), (6, 1)] := by kernel_rfl
theorem tF_31_0 : fldOff Try.prog 31 0 = some 0 := by kernel_rfl
theorem tF_31_1 : fldOff Try.prog 31 1 = some 1 := by kernel_rfl
theorem tF_31_2 : fldOff Try.prog 31 2 = some 4 := by kernel_rfl
theorem tF_31_3 : fldOff Try.prog 31 3 = some 5 := by kernel_rfl
theorem tF_31_4 : fldOff Try.prog 31 4 = some 6 := by kernel_rfl
theorem tS_33 : tSize Try.prog 33 = some 10 := by kernel_rfl
theorem tA_33 : tAgg Try.prog 33 = some true := by kernel_rfl
theorem tZ_33 : tZero Try.prog 33 = some (.agg #[.int .u8 0, .int .i64 0, .slice none 0 0, .int .u8 0, .int .u8 0, .int .i64 0, .string ⟨#[]⟩, .int .i64 0, .int .u8 0, .slice none 0 0]) := by kernel_rfl
theorem tR_33 : tRow Try.prog 33 = some (.agg #[.int .u8 0, .int .i64 0, .slice none 0 0, .int .u8 0, .int .u8 0, .int .i64 0, .string ⟨#[]⟩, .int .i64 0, .int .u8 0, .slice none 0 0], 10, 120) := by kernel_rfl
theorem tP_33 : tPlaces Try.prog 33 = some [(0, 1), (1, 1), (2, 1), (3, 7)] := by kernel_rfl
theorem tF_33_0 : fldOff Try.prog 33 0 = some 0 := by kernel_rfl
theorem tF_33_1 : fldOff Try.prog 33 1 = some 1 := by kernel_rfl
theorem tF_33_2 : fldOff Try.prog 33 2 = some 2 := by kernel_rfl
theorem tF_33_3 : fldOff Try.prog 33 3 = some 3 := by kernel_rfl
theorem tS_34 : tSize Try.prog 34 = some 1 := by kernel_rfl
theorem tA_34 : tAgg Try.prog 34 = some false := by kernel_rfl
theorem tZ_34 : tZero Try.prog 34 = some (.slice none 0 0) := by kernel_rfl
theorem tR_34 : tRow Try.prog 34 = some (.slice none 0 0, 1, 24) := by kernel_rfl
theorem tE_34 : tElem Try.prog 34 = some 27 := by kernel_rfl
theorem tS_36 : tSize Try.prog 36 = some 3 := by kernel_rfl
theorem tA_36 : tAgg Try.prog 36 = some true := by kernel_rfl
theorem tZ_36 : tZero Try.prog 36 = some (.agg #[.int .i64 0, .int .i64 0, .slice none 0 0]) := by kernel_rfl
theorem tR_36 : tRow Try.prog 36 = some (.agg #[.int .i64 0, .int .i64 0, .slice none 0 0], 3, 40) := by kernel_rfl
theorem tP_36 : tPlaces Try.prog 36 = some [(0, 1), (1, 1), (2, 1)] := by kernel_rfl
theorem tF_36_0 : fldOff Try.prog 36 0 = some 0 := by kernel_rfl
theorem tF_36_1 : fldOff Try.prog 36 1 = some 1 := by kernel_rfl
theorem tF_36_2 : fldOff Try.prog 36 2 = some 2 := by kernel_rfl
theorem tS_37 : tSize Try.prog 37 = some 1 := by kernel_rfl
theorem tA_37 : tAgg Try.prog 37 = some false := by kernel_rfl
theorem tZ_37 : tZero Try.prog 37 = some (.slice none 0 0) := by kernel_rfl
theorem tR_37 : tRow Try.prog 37 = some (.slice none 0 0, 1, 24) := by kernel_rfl
theorem tE_37 : tElem Try.prog 37 = some 4 := by kernel_rfl
theorem tS_41 : tSize Try.prog 41 = some 2 := by kernel_rfl
theorem tA_41 : tAgg Try.prog 41 = some true := by kernel_rfl
theorem tZ_41 : tZero Try.prog 41 = some (.agg #[.slice none 0 0, .slice none 0 0]) := by kernel_rfl
theorem tR_41 : tRow Try.prog 41 = some (.agg #[.slice none 0 0, .slice none 0 0], 2, 48) := by kernel_rfl
theorem tP_41 : tPlaces Try.prog 41 = some [(0, 1), (1, 1)] := by kernel_rfl
theorem tF_41_0 : fldOff Try.prog 41 0 = some 0 := by kernel_rfl
theorem tF_41_1 : fldOff Try.prog 41 1 = some 1 := by kernel_rfl
theorem tS_44 : tSize Try.prog 44 = some 1 := by kernel_rfl
theorem tA_44 : tAgg Try.prog 44 = some false := by kernel_rfl
theorem tZ_44 : tZero Try.prog 44 = some (.map none) := by kernel_rfl
theorem tR_44 : tRow Try.prog 44 = some (.map none, 1, 8) := by kernel_rfl
theorem tM_44 : Try.prog.underlying 44 = some (.map 3 3) := by kernel_rfl
theorem tS_45 : tSize Try.prog 45 = some 1 := by kernel_rfl
theorem tA_45 : tAgg Try.prog 45 = some false := by kernel_rfl
theorem tZ_45 : tZero Try.prog 45 = some (.map none) := by kernel_rfl
theorem tR_45 : tRow Try.prog 45 = some (.map none, 1, 8) := by kernel_rfl
theorem tM_45 : Try.prog.underlying 45 = some (.map 3 4) := by kernel_rfl
theorem tS_46 : tSize Try.prog 46 = some 1 := by kernel_rfl
theorem tA_46 : tAgg Try.prog 46 = some false := by kernel_rfl
theorem tZ_46 : tZero Try.prog 46 = some (.int .u8 0) := by kernel_rfl
theorem tR_46 : tRow Try.prog 46 = some (.int .u8 0, 1, 1) := by kernel_rfl
theorem tS_48 : tSize Try.prog 48 = some 5 := by kernel_rfl
theorem tA_48 : tAgg Try.prog 48 = some true := by kernel_rfl
theorem tZ_48 : tZero Try.prog 48 = some (.agg #[.int .u8 0, .int .i64 0, .int .u8 0, .int .i64 0, .string ⟨#[]⟩]) := by kernel_rfl
theorem tR_48 : tRow Try.prog 48 = some (.agg #[.int .u8 0, .int .i64 0, .int .u8 0, .int .i64 0, .string ⟨#[]⟩], 5, 48) := by kernel_rfl
theorem tP_48 : tPlaces Try.prog 48 = some [(0, 1), (1, 1), (2, 3)] := by kernel_rfl
theorem tF_48_0 : fldOff Try.prog 48 0 = some 0 := by kernel_rfl
theorem tF_48_1 : fldOff Try.prog 48 1 = some 1 := by kernel_rfl
theorem tF_48_2 : fldOff Try.prog 48 2 = some 2 := by kernel_rfl
theorem tS_52 : tSize Try.prog 52 = some 1 := by kernel_rfl
theorem tA_52 : tAgg Try.prog 52 = some false := by kernel_rfl
theorem tZ_52 : tZero Try.prog 52 = some (.slice none 0 0) := by kernel_rfl
theorem tR_52 : tRow Try.prog 52 = some (.slice none 0 0, 1, 24) := by kernel_rfl
theorem tE_52 : tElem Try.prog 52 = some 36 := by kernel_rfl
theorem tS_56 : tSize Try.prog 56 = some 2 := by kernel_rfl
theorem tA_56 : tAgg Try.prog 56 = some true := by kernel_rfl
theorem tZ_56 : tZero Try.prog 56 = some (.agg #[.slice none 0 0, .slice none 0 0]) := by kernel_rfl
theorem tR_56 : tRow Try.prog 56 = some (.agg #[.slice none 0 0, .slice none 0 0], 2, 48) := by kernel_rfl
theorem tP_56 : tPlaces Try.prog 56 = some [(0, 1), (1, 1)] := by kernel_rfl
theorem tF_56_0 : fldOff Try.prog 56 0 = some 0 := by kernel_rfl
theorem tF_56_1 : fldOff Try.prog 56 1 = some 1 := by kernel_rfl
theorem tS_62 : tSize Try.prog 62 = some 2 := by kernel_rfl
theorem tA_62 : tAgg Try.prog 62 = some true := by kernel_rfl
theorem tZ_62 : tZero Try.prog 62 = some (.agg #[.slice none 0 0, .slice none 0 0]) := by kernel_rfl
theorem tR_62 : tRow Try.prog 62 = some (.agg #[.slice none 0 0, .slice none 0 0], 2, 48) := by kernel_rfl
theorem tP_62 : tPlaces Try.prog 62 = some [(0, 2)] := by kernel_rfl
theorem tF_62_0 : fldOff Try.prog 62 0 = some 0 := by kernel_rfl
theorem tS_68 : tSize Try.prog 68 = some 1 := by kernel_rfl
theorem tA_68 : tAgg Try.prog 68 = some false := by kernel_rfl
theorem tZ_68 : tZero Try.prog 68 = some (.nilFunc) := by kernel_rfl
theorem tR_68 : tRow Try.prog 68 = some (.nilFunc, 1, 8) := by kernel_rfl
theorem fn_2 : isFn Try.prog 2 = true := by kernel_rfl
theorem fn_3 : isFn Try.prog 3 = true := by kernel_rfl
theorem fn_4 : isFn Try.prog 4 = true := by kernel_rfl
theorem fn_5 : isFn Try.prog 5 = true := by kernel_rfl
theorem fn_6 : isFn Try.prog 6 = true := by kernel_rfl
theorem fn_7 : isFn Try.prog 7 = true := by kernel_rfl
theorem fn_8 : isFn Try.prog 8 = true := by kernel_rfl
theorem fn_9 : isFn Try.prog 9 = true := by kernel_rfl
theorem fn_10 : isFn Try.prog 10 = true := by kernel_rfl
theorem fn_11 : isFn Try.prog 11 = true := by kernel_rfl
theorem fn_12 : isFn Try.prog 12 = true := by kernel_rfl
theorem fn_13 : isFn Try.prog 13 = true := by kernel_rfl
theorem fn_14 : isFn Try.prog 14 = true := by kernel_rfl
theorem fn_15 : isFn Try.prog 15 = true := by kernel_rfl
theorem fn_16 : isFn Try.prog 16 = true := by kernel_rfl
theorem fn_17 : isFn Try.prog 17 = true := by kernel_rfl
theorem fn_18 : isFn Try.prog 18 = true := by kernel_rfl
theorem fn_19 : isFn Try.prog 19 = true := by kernel_rfl
theorem fn_20 : isFn Try.prog 20 = true := by kernel_rfl
theorem fn_21 : isFn Try.prog 21 = true := by kernel_rfl
theorem fn_22 : isFn Try.prog 22 = true := by kernel_rfl
theorem fn_23 : isFn Try.prog 23 = true := by kernel_rfl
theorem fn_24 : isFn Try.prog 24 = true := by kernel_rfl
theorem fn_25 : isFn Try.prog 25 = true := by kernel_rfl
theorem fn_26 : isFn Try.prog 26 = true := by kernel_rfl
theorem fn_27 : isFn Try.prog 27 = true := by kernel_rfl
theorem fn_28 : isFn Try.prog 28 = true := by kernel_rfl
theorem fn_29 : isFn Try.prog 29 = true := by kernel_rfl
theorem fn_30 : isFn Try.prog 30 = true := by kernel_rfl
theorem fn_31 : isFn Try.prog 31 = true := by kernel_rfl
theorem fn_32 : isFn Try.prog 32 = true := by kernel_rfl
end Go.Proofs.Ytffcijddfhhbdaa
