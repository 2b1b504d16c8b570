/- What the program says of its types: closed facts, by program. -/
import Derived.Test.YtighbinghbnjhaaChecked
import Derived.Test.YtighbinghbnjhaaIdx
namespace Go.Proofs.Ytighbinghbnjhaa
open Go.RowKit
theorem tS_2 : tSize Try.prog 2 = some 1 := by kernel_rfl
theorem tA_2 : tAgg Try.prog 2 = some false := by kernel_rfl
theorem tZ_2 : tZero Try.prog 2 = some (.int .i64 0) := by kernel_rfl
theorem tR_2 : tRow Try.prog 2 = some (.int .i64 0, 1, 8) := by kernel_rfl
theorem tU_2 : Try.prog.underlying 2 = some (.int .i64) := by kernel_rfl
theorem tS_3 : tSize Try.prog 3 = some 1 := by kernel_rfl
theorem tA_3 : tAgg Try.prog 3 = some false := by kernel_rfl
theorem tZ_3 : tZero Try.prog 3 = some (.int .i64 0) := by kernel_rfl
theorem tR_3 : tRow Try.prog 3 = some (.int .i64 0, 1, 8) := by kernel_rfl
theorem tU_3 : Try.prog.underlying 3 = some (.int .i64) := by kernel_rfl
theorem tS_9 : tSize Try.prog 9 = some 1 := by kernel_rfl
theorem tA_9 : tAgg Try.prog 9 = some false := by kernel_rfl
theorem tZ_9 : tZero Try.prog 9 = some (.string ⟨#[]⟩) := by kernel_rfl
theorem tR_9 : tRow Try.prog 9 = some (.string ⟨#[]⟩, 1, 16) := by kernel_rfl
theorem tS_22 : tSize Try.prog 22 = some 1 := by kernel_rfl
theorem tA_22 : tAgg Try.prog 22 = some false := by kernel_rfl
theorem tZ_22 : tZero Try.prog 22 = some (.slice none 0 0) := by kernel_rfl
theorem tR_22 : tRow Try.prog 22 = some (.slice none 0 0, 1, 24) := by kernel_rfl
theorem tE_22 : tElem Try.prog 22 = some 34 := by kernel_rfl
theorem tS_24 : tSize Try.prog 24 = some 1 := by kernel_rfl
theorem tA_24 : tAgg Try.prog 24 = some false := by kernel_rfl
theorem tZ_24 : tZero Try.prog 24 = some (.pointer none) := by kernel_rfl
theorem tR_24 : tRow Try.prog 24 = some (.pointer none, 1, 8) := by kernel_rfl
theorem tS_26 : tSize Try.prog 26 = some 1 := by kernel_rfl
theorem tA_26 : tAgg Try.prog 26 = some false := by kernel_rfl
theorem tZ_26 : tZero Try.prog 26 = some (.map none) := by kernel_rfl
theorem tR_26 : tRow Try.prog 26 = some (.map none, 1, 8) := by kernel_rfl
theorem tS_27 : tSize Try.prog 27 = some 1 := by kernel_rfl
theorem tA_27 : tAgg Try.prog 27 = some false := by kernel_rfl
theorem tZ_27 : tZero Try.prog 27 = some (.slice none 0 0) := by kernel_rfl
theorem tR_27 : tRow Try.prog 27 = some (.slice none 0 0, 1, 24) := by kernel_rfl
theorem tE_27 : tElem Try.prog 27 = some 3 := by kernel_rfl
theorem tS_28 : tSize Try.prog 28 = some 1 := by kernel_rfl
theorem tA_28 : tAgg Try.prog 28 = some false := by kernel_rfl
theorem tZ_28 : tZero Try.prog 28 = some (.int .i64 0) := by kernel_rfl
theorem tR_28 : tRow Try.prog 28 = some (.int .i64 0, 1, 8) := by kernel_rfl
theorem tU_28 : Try.prog.underlying 28 = some (.int .i64) := by kernel_rfl
theorem tS_29 : tSize Try.prog 29 = some 1 := by kernel_rfl
theorem tA_29 : tAgg Try.prog 29 = some false := by kernel_rfl
theorem tZ_29 : tZero Try.prog 29 = some (.slice none 0 0) := by kernel_rfl
theorem tR_29 : tRow Try.prog 29 = some (.slice none 0 0, 1, 24) := by kernel_rfl
theorem tE_29 : tElem Try.prog 29 = some 70 := by kernel_rfl
theorem tS_30 : tSize Try.prog 30 = some 1 := by kernel_rfl
theorem tA_30 : tAgg Try.prog 30 = some false := by kernel_rfl
theorem tZ_30 : tZero Try.prog 30 = some (.slice none 0 0) := by kernel_rfl
theorem tR_30 : tRow Try.prog 30 = some (.slice none 0 0, 1, 24) := by kernel_rfl
theorem tE_30 : tElem Try.prog 30 = some 76 := by kernel_rfl
theorem tS_32 : tSize Try.prog 32 = some 4 := by kernel_rfl
theorem tA_32 : tAgg Try.prog 32 = some true := by kernel_rfl
theorem tZ_32 : tZero Try.prog 32 = some (.agg #[.int .i64 0, .int .i64 0, .slice none 0 0, .slice none 0 0]) := by kernel_rfl
theorem tR_32 : tRow Try.prog 32 = some (.agg #[.int .i64 0, .int .i64 0, .slice none 0 0, .slice none 0 0], 4, 64) := by kernel_rfl
theorem tP_32 : tPlaces Try.prog 32 = some [(0, 1), (1, 1), (2, 1), (3, 1)] := by kernel_rfl
theorem tF_32_0 : fldOff Try.prog 32 0 = some 0 := by kernel_rfl
theorem tF_32_1 : fldOff Try.prog 32 1 = some 1 := by kernel_rfl
theorem tF_32_2 : fldOff Try.prog 32 2 = some 2 := by kernel_rfl
theorem tF_32_3 : fldOff Try.prog 32 3 = some 3 := by kernel_rfl
theorem tS_34 : tSize Try.prog 34 = some 7 := by kernel_rfl
theorem tA_34 : tAgg Try.prog 34 = some true := by kernel_rfl
theorem tZ_34 : tZero Try.prog 34 = some (.agg #[.int .i64 0, .int .i64 0, .int .i64 0, .int .i64 0, .int .i64 0, .slice none 0 0, .slice none 0 0]) := by kernel_rfl
theorem tR_34 : tRow Try.prog 34 = some (.agg #[.int .i64 0, .int .i64 0, .int .i64 0, .int .i64 0, .int .i64 0, .slice none 0 0, .slice none 0 0], 7, 88) := by kernel_rfl
theorem tP_34 : tPlaces Try.prog 34 = some [(0, 1), (1, 1), (2, 1), (3, 4)] := by kernel_rfl
theorem tF_34_0 : fldOff Try.prog 34 0 = some 0 := by kernel_rfl
theorem tF_34_1 : fldOff Try.prog 34 1 = some 1 := by kernel_rfl
theorem tF_34_2 : fldOff Try.prog 34 2 = some 2 := by kernel_rfl
theorem tF_34_3 : fldOff Try.prog 34 3 = some 3 := by kernel_rfl
theorem tS_38 : tSize Try.prog 38 = some 1 := by kernel_rfl
theorem tA_38 : tAgg Try.prog 38 = some false := by kernel_rfl
theorem tZ_38 : tZero Try.prog 38 = some (.slice none 0 0) := by kernel_rfl
theorem tR_38 : tRow Try.prog 38 = some (.slice none 0 0, 1, 24) := by kernel_rfl
theorem tE_38 : tElem Try.prog 38 = some 62 := by kernel_rfl
theorem tS_44 : tSize Try.prog 44 = some 2 := by kernel_rfl
theorem tA_44 : tAgg Try.prog 44 = some true := by kernel_rfl
theorem tZ_44 : tZero Try.prog 44 = some (.agg #[.int .i64 0, .int .i64 0]) := by kernel_rfl
theorem tR_44 : tRow Try.prog 44 = some (.agg #[.int .i64 0, .int .i64 0], 2, 16) := by kernel_rfl
theorem tS_48 : tSize Try.prog 48 = some 1 := by kernel_rfl
theorem tA_48 : tAgg Try.prog 48 = some true := by kernel_rfl
theorem tZ_48 : tZero Try.prog 48 = some (.agg #[.slice none 0 0]) := by kernel_rfl
theorem tR_48 : tRow Try.prog 48 = some (.agg #[.slice none 0 0], 1, 24) := by kernel_rfl
theorem tP_48 : tPlaces Try.prog 48 = some [(0, 1)] := by kernel_rfl
theorem tF_48_0 : fldOff Try.prog 48 0 = some 0 := by kernel_rfl
theorem tS_50 : tSize Try.prog 50 = some 2 := by kernel_rfl
theorem tA_50 : tAgg Try.prog 50 = some true := by kernel_rfl
theorem tZ_50 : tZero Try.prog 50 = some (.agg #[.slice none 0 0, .int .i64 0]) := by kernel_rfl
theorem tR_50 : tRow Try.prog 50 = some (.agg #[.slice none 0 0, .int .i64 0], 2, 32) := by kernel_rfl
theorem tP_50 : tPlaces Try.prog 50 = some [(0, 1), (1, 1)] := by kernel_rfl
theorem tF_50_0 : fldOff Try.prog 50 0 = some 0 := by kernel_rfl
theorem tF_50_1 : fldOff Try.prog 50 1 = some 1 := by kernel_rfl
theorem tS_51 : tSize Try.prog 51 = some 1 := by kernel_rfl
theorem tA_51 : tAgg Try.prog 51 = some false := by kernel_rfl
theorem tZ_51 : tZero Try.prog 51 = some (.slice none 0 0) := by kernel_rfl
theorem tR_51 : tRow Try.prog 51 = some (.slice none 0 0, 1, 24) := by kernel_rfl
theorem tE_51 : tElem Try.prog 51 = some 24 := by kernel_rfl
theorem tS_62 : tSize Try.prog 62 = some 6 := by kernel_rfl
theorem tA_62 : tAgg Try.prog 62 = some true := by kernel_rfl
theorem tZ_62 : tZero Try.prog 62 = some (.agg #[.int .i64 0, .int .i64 0, .int .i64 0, .int .i64 0, .slice none 0 0, .slice none 0 0]) := by kernel_rfl
theorem tR_62 : tRow Try.prog 62 = some (.agg #[.int .i64 0, .int .i64 0, .int .i64 0, .int .i64 0, .slice none 0 0, .slice none 0 0], 6, 80) := by kernel_rfl
theorem tP_62 : tPlaces Try.prog 62 = some [(0, 1), (1, 1), (2, 4)] := by kernel_rfl
theorem tF_62_0 : fldOff Try.prog 62 0 = some 0 := by kernel_rfl
theorem tF_62_1 : fldOff Try.prog 62 1 = some 1 := by kernel_rfl
theorem tF_62_2 : fldOff Try.prog 62 2 = some 2 := by kernel_rfl
theorem tS_70 : tSize Try.prog 70 = some 3 := by kernel_rfl
theorem tA_70 : tAgg Try.prog 70 = some true := by kernel_rfl
theorem tZ_70 : tZero Try.prog 70 = some (.agg #[.int .i64 0, .int .i64 0, .slice none 0 0]) := by kernel_rfl
theorem tR_70 : tRow Try.prog 70 = some (.agg #[.int .i64 0, .int .i64 0, .slice none 0 0], 3, 40) := by kernel_rfl
theorem tP_70 : tPlaces Try.prog 70 = some [(0, 1), (1, 1), (2, 1)] := by kernel_rfl
theorem tF_70_0 : fldOff Try.prog 70 0 = some 0 := by kernel_rfl
theorem tF_70_1 : fldOff Try.prog 70 1 = some 1 := by kernel_rfl
theorem tF_70_2 : fldOff Try.prog 70 2 = some 2 := by kernel_rfl
theorem tS_74 : tSize Try.prog 74 = some 1 := by kernel_rfl
theorem tA_74 : tAgg Try.prog 74 = some false := by kernel_rfl
theorem tZ_74 : tZero Try.prog 74 = some (.int .u8 0) := by kernel_rfl
theorem tR_74 : tRow Try.prog 74 = some (.int .u8 0, 1, 1) := by kernel_rfl
theorem tS_76 : tSize Try.prog 76 = some 3 := by kernel_rfl
theorem tA_76 : tAgg Try.prog 76 = some true := by kernel_rfl
theorem tZ_76 : tZero Try.prog 76 = some (.agg #[.int .u8 0, .int .i64 0, .string ⟨#[]⟩]) := by kernel_rfl
theorem tR_76 : tRow Try.prog 76 = some (.agg #[.int .u8 0, .int .i64 0, .string ⟨#[]⟩], 3, 32) := by kernel_rfl
theorem tP_76 : tPlaces Try.prog 76 = some [(0, 1), (1, 1), (2, 1)] := by kernel_rfl
theorem tF_76_0 : fldOff Try.prog 76 0 = some 0 := by kernel_rfl
theorem tF_76_1 : fldOff Try.prog 76 1 = some 1 := by kernel_rfl
theorem tF_76_2 : fldOff Try.prog 76 2 = some 2 := by kernel_rfl
theorem tS_81 : tSize Try.prog 81 = some 1 := by kernel_rfl
theorem tA_81 : tAgg Try.prog 81 = some false := by kernel_rfl
theorem tZ_81 : tZero Try.prog 81 = some (.nilFunc) := by kernel_rfl
theorem tR_81 : tRow Try.prog 81 = some (.nilFunc, 1, 8) := by kernel_rfl
theorem fn_2 : isFn Try.prog 2 = true := by kernel_rfl
theorem fn_3 : isFn Try.prog 3 = true := by kernel_rfl
theorem fn_4 : isFn Try.prog 4 = true := by kernel_rfl
theorem fn_5 : isFn Try.prog 5 = true := by kernel_rfl
theorem fn_6 : isFn Try.prog 6 = true := by kernel_rfl
theorem fn_7 : isFn Try.prog 7 = true := by kernel_rfl
theorem fn_8 : isFn Try.prog 8 = true := by kernel_rfl
theorem fn_9 : isFn Try.prog 9 = true := by kernel_rfl
theorem fn_10 : isFn Try.prog 10 = true := by kernel_rfl
theorem fn_11 : isFn Try.prog 11 = true := by kernel_rfl
theorem fn_12 : isFn Try.prog 12 = true := by kernel_rfl
theorem fn_13 : isFn Try.prog 13 = true := by kernel_rfl
theorem fn_14 : isFn Try.prog 14 = true := by kernel_rfl
theorem fn_15 : isFn Try.prog 15 = true := by kernel_rfl
theorem fn_16 : isFn Try.prog 16 = true := by kernel_rfl
theorem fn_17 : isFn Try.prog 17 = true := by kernel_rfl
theorem fn_18 : isFn Try.prog 18 = true := by kernel_rfl
theorem fn_19 : isFn Try.prog 19 = true := by kernel_rfl
theorem fn_20 : isFn Try.prog 20 = true := by kernel_rfl
theorem fn_21 : isFn Try.prog 21 = true := by kernel_rfl
theorem fn_22 : isFn Try.prog 22 = true := by kernel_rfl
theorem fn_23 : isFn Try.prog 23 = true := by kernel_rfl
theorem fn_24 : isFn Try.prog 24 = true := by kernel_rfl
theorem fn_25 : isFn Try.prog 25 = true := by kernel_rfl
theorem fn_26 : isFn Try.prog 26 = true := by kernel_rfl
theorem fn_27 : isFn Try.prog 27 = true := by kernel_rfl
theorem fn_28 : isFn Try.prog 28 = true := by kernel_rfl
theorem fn_29 : isFn Try.prog 29 = true := by kernel_rfl
theorem fn_30 : isFn Try.prog 30 = true := by kernel_rfl
theorem fn_31 : isFn Try.prog 31 = true := by kernel_rfl
theorem fn_32 : isFn Try.prog 32 = true := by kernel_rfl
theorem fn_33 : isFn Try.prog 33 = true := by kernel_rfl
theorem fn_34 : isFn Try.prog 34 = true := by kernel_rfl
end Go.Proofs.Ytighbinghbnjhaa
