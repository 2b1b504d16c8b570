import Derived.Test.YtegkmbkbaenkcaaChecked
import Derived.Test.YtegkmbkbaenkcaaIdx
namespace Go.Proofs.Ytegkmbkbaenkcaa
open Go.RowKit
theorem tS_3 : tSize Try.prog 3 = some 1 := by kernel_rfl
theorem tA_3 : tAgg Try.prog 3 = some false := by kernel_rfl
theorem tZ_3 : tZero Try.prog 3 = some (.int .i64 0) := by kernel_rfl
theorem tS_5 : tSize Try.prog 5 = some 1 := by kernel_rfl
theorem tA_5 : tAgg Try.prog 5 = some false := by kernel_rfl
theorem tZ_5 : tZero Try.prog 5 = some (.int .u8 0) := by kernel_rfl
theorem tR_5 : tRow Try.prog 5 = some (.int .u8 0, 1, 1) := by kernel_rfl
theorem tE_22 : tElem Try.prog 22 = some 30 := by kernel_rfl
theorem tS_26 : tSize Try.prog 26 = some 1 := by kernel_rfl
theorem tA_26 : tAgg Try.prog 26 = some false := by kernel_rfl
theorem tE_26 : tElem Try.prog 26 = some 28 := by kernel_rfl
theorem tZ_27 : tZero Try.prog 27 = some (.agg #[.slice none 0 0, .slice none 0 0, .slice none 0 0, .slice none 0 0, .slice none 0 0, .slice none 0 0, .slice none 0 0, .slice none 0 0, .slice none 0 0, .slice none 0 0, .slice none 0 0, .slice none 0 0, .slice none 0 0, .slice none 0 0, .slice none 0 0, .slice none 0 0]) := by kernel_rfl
theorem tS_28 : tSize Try.prog 28 = some 1 := by kernel_rfl
theorem tA_28 : tAgg Try.prog 28 = some false := by kernel_rfl
theorem tZ_28 : tZero Try.prog 28 = some (.slice none 0 0) := by kernel_rfl
theorem tR_28 : tRow Try.prog 28 = some (.slice none 0 0, 1, 24) := by kernel_rfl
theorem tE_28 : tElem Try.prog 28 = some 5 := by kernel_rfl
theorem tS_30 : tSize Try.prog 30 = some 5 := by kernel_rfl
theorem tA_30 : tAgg Try.prog 30 = some true := by kernel_rfl
theorem tZ_30 : tZero Try.prog 30 = some (.agg #[.int .i64 0, .int .i64 0, .int .i64 0, .int .i64 0, .slice none 0 0]) := by kernel_rfl
theorem tF_30_0 : fldOff Try.prog 30 0 = some 0 := by kernel_rfl
theorem tF_30_1 : fldOff Try.prog 30 1 = some 1 := by kernel_rfl
theorem tF_30_2 : fldOff Try.prog 30 2 = some 2 := by kernel_rfl
theorem tF_30_3 : fldOff Try.prog 30 3 = some 3 := by kernel_rfl
theorem tF_30_4 : fldOff Try.prog 30 4 = some 4 := by kernel_rfl
theorem tE_45 : tElem Try.prog 45 = some 48 := by kernel_rfl
theorem tS_48 : tSize Try.prog 48 = some 2 := by kernel_rfl
theorem tA_48 : tAgg Try.prog 48 = some true := by kernel_rfl
theorem tZ_48 : tZero Try.prog 48 = some (.agg #[.int .i64 0, .int .i64 0]) := by kernel_rfl
theorem tR_48 : tRow Try.prog 48 = some (.agg #[.int .i64 0, .int .i64 0], 2, 16) := by kernel_rfl
theorem tS_50 : tSize Try.prog 50 = some 1 := by kernel_rfl
theorem tA_50 : tAgg Try.prog 50 = some false := by kernel_rfl
theorem tZ_52 : tZero Try.prog 52 = some (.agg #[.map none]) := by kernel_rfl
theorem tP_52 : tPlaces Try.prog 52 = some [(0, 1)] := by kernel_rfl
theorem tF_52_0 : fldOff Try.prog 52 0 = some 0 := by kernel_rfl
theorem tZ_54 : tZero Try.prog 54 = some (.agg #[.map none]) := by kernel_rfl
theorem tP_54 : tPlaces Try.prog 54 = some [(0, 1)] := by kernel_rfl
theorem tF_54_0 : fldOff Try.prog 54 0 = some 0 := by kernel_rfl
theorem tS_57 : tSize Try.prog 57 = some 2 := by kernel_rfl
theorem tA_57 : tAgg Try.prog 57 = some true := by kernel_rfl
theorem tZ_57 : tZero Try.prog 57 = some (.agg #[.int .i64 0, .int .i64 0]) := by kernel_rfl
theorem tE_73 : tElem Try.prog 73 = some 3 := by kernel_rfl
theorem fn_6 : isFn Try.prog 6 = true := by kernel_rfl
theorem fn_7 : isFn Try.prog 7 = true := by kernel_rfl
theorem fn_8 : isFn Try.prog 8 = true := by kernel_rfl
theorem fn_9 : isFn Try.prog 9 = true := by kernel_rfl
theorem fn_10 : isFn Try.prog 10 = true := by kernel_rfl
theorem fn_11 : isFn Try.prog 11 = true := by kernel_rfl
theorem fn_12 : isFn Try.prog 12 = true := by kernel_rfl
theorem fn_13 : isFn Try.prog 13 = true := by kernel_rfl
theorem fn_14 : isFn Try.prog 14 = true := by kernel_rfl
theorem fn_15 : isFn Try.prog 15 = true := by kernel_rfl
theorem fn_19 : isFn Try.prog 19 = true := by kernel_rfl
theorem fn_20 : isFn Try.prog 20 = true := by kernel_rfl
theorem fn_23 : isFn Try.prog 23 = true := by kernel_rfl
theorem fn_24 : isFn Try.prog 24 = true := by kernel_rfl
theorem fn_25 : isFn Try.prog 25 = true := by kernel_rfl
theorem fn_26 : isFn Try.prog 26 = true := by kernel_rfl
theorem fn_27 : isFn Try.prog 27 = true := by kernel_rfl
theorem fn_28 : isFn Try.prog 28 = true := by kernel_rfl
theorem fn_33 : isFn Try.prog 33 = true := by kernel_rfl
theorem fn_34 : isFn Try.prog 34 = true := by kernel_rfl
theorem fn_35 : isFn Try.prog 35 = true := by kernel_rfl
theorem fn_37 : isFn Try.prog 37 = true := by kernel_rfl
theorem fn_39 : isFn Try.prog 39 = true := by kernel_rfl
theorem fn_40 : isFn Try.prog 40 = true := by kernel_rfl
theorem fn_43 : isFn Try.prog 43 = true := by kernel_rfl
end Go.Proofs.Ytegkmbkbaenkcaa
