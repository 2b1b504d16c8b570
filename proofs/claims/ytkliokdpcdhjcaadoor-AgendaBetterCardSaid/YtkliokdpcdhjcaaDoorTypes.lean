import Derived.Test.YtkliokdpcdhjcaaDoorChecked
import Derived.Test.YtkliokdpcdhjcaaDoorIdx
namespace Go.Proofs.YtkliokdpcdhjcaaDoor
open Go.RowKit
theorem tS_3 : tSize Tryd.prog 3 = some 1 := by kernel_rfl
theorem tA_3 : tAgg Tryd.prog 3 = some false := by kernel_rfl
theorem tZ_3 : tZero Tryd.prog 3 = some (.int .i64 0) := by kernel_rfl
theorem tR_3 : tRow Tryd.prog 3 = some (.int .i64 0, 1, 8) := by kernel_rfl
theorem tS_9 : tSize Tryd.prog 9 = some 1 := by kernel_rfl
theorem tA_9 : tAgg Tryd.prog 9 = some false := by kernel_rfl
theorem tS_22 : tSize Tryd.prog 22 = some 1 := by kernel_rfl
theorem tA_22 : tAgg Tryd.prog 22 = some false := by kernel_rfl
theorem tE_22 : tElem Tryd.prog 22 = some 3 := by kernel_rfl
theorem tS_24 : tSize Tryd.prog 24 = some 2 := by kernel_rfl
theorem tA_24 : tAgg Tryd.prog 24 = some true := by kernel_rfl
theorem tZ_24 : tZero Tryd.prog 24 = some (.agg #[.int .i64 0, .slice none 0 0]) := by kernel_rfl
theorem tF_24_0 : fldOff Tryd.prog 24 0 = some 0 := by kernel_rfl
theorem tF_24_1 : fldOff Tryd.prog 24 1 = some 1 := by kernel_rfl
theorem tE_26 : tElem Tryd.prog 26 = some 24 := by kernel_rfl
theorem tS_28 : tSize Tryd.prog 28 = some 1 := by kernel_rfl
theorem tA_28 : tAgg Tryd.prog 28 = some false := by kernel_rfl
theorem tE_28 : tElem Tryd.prog 28 = some 73 := by kernel_rfl
theorem tS_29 : tSize Tryd.prog 29 = some 1 := by kernel_rfl
theorem tA_29 : tAgg Tryd.prog 29 = some false := by kernel_rfl
theorem tE_29 : tElem Tryd.prog 29 = some 49 := by kernel_rfl
theorem tS_31 : tSize Tryd.prog 31 = some 2 := by kernel_rfl
theorem tA_31 : tAgg Tryd.prog 31 = some true := by kernel_rfl
theorem tZ_31 : tZero Tryd.prog 31 = some (.agg #[.slice none 0 0, .slice none 0 0]) := by kernel_rfl
theorem tF_31_0 : fldOff Tryd.prog 31 0 = some 0 := by kernel_rfl
theorem tF_31_1 : fldOff Tryd.prog 31 1 = some 1 := by kernel_rfl
theorem tS_46 : tSize Tryd.prog 46 = some 1 := by kernel_rfl
theorem tA_46 : tAgg Tryd.prog 46 = some false := by kernel_rfl
theorem tE_46 : tElem Tryd.prog 46 = some 108 := by kernel_rfl
theorem tS_47 : tSize Tryd.prog 47 = some 1 := by kernel_rfl
theorem tA_47 : tAgg Tryd.prog 47 = some false := by kernel_rfl
theorem tE_47 : tElem Tryd.prog 47 = some 112 := by kernel_rfl
theorem tS_49 : tSize Tryd.prog 49 = some 5 := by kernel_rfl
theorem tA_49 : tAgg Tryd.prog 49 = some true := by kernel_rfl
theorem tZ_49 : tZero Tryd.prog 49 = some (.agg #[.string ⟨#[]⟩, .int .i64 0, .int .i64 0, .slice none 0 0, .slice none 0 0]) := by kernel_rfl
theorem tR_49 : tRow Tryd.prog 49 = some (.agg #[.string ⟨#[]⟩, .int .i64 0, .int .i64 0, .slice none 0 0, .slice none 0 0], 5, 80) := by kernel_rfl
theorem tP_49 : tPlaces Tryd.prog 49 = some [(0, 1), (1, 1), (2, 1), (3, 1), (4, 1)] := by kernel_rfl
theorem tF_49_0 : fldOff Tryd.prog 49 0 = some 0 := by kernel_rfl
theorem tF_49_1 : fldOff Tryd.prog 49 1 = some 1 := by kernel_rfl
theorem tF_49_2 : fldOff Tryd.prog 49 2 = some 2 := by kernel_rfl
theorem tF_49_3 : fldOff Tryd.prog 49 3 = some 3 := by kernel_rfl
theorem tF_49_4 : fldOff Tryd.prog 49 4 = some 4 := by kernel_rfl
theorem tE_51 : tElem Tryd.prog 51 = some 3 := by kernel_rfl
theorem tS_73 : tSize Tryd.prog 73 = some 2 := by kernel_rfl
theorem tA_73 : tAgg Tryd.prog 73 = some true := by kernel_rfl
theorem tS_97 : tSize Tryd.prog 97 = some 1 := by kernel_rfl
theorem tA_97 : tAgg Tryd.prog 97 = some false := by kernel_rfl
theorem tS_98 : tSize Tryd.prog 98 = some 1 := by kernel_rfl
theorem tA_98 : tAgg Tryd.prog 98 = some false := by kernel_rfl
theorem tE_98 : tElem Tryd.prog 98 = some 140 := by kernel_rfl
theorem tS_99 : tSize Tryd.prog 99 = some 1 := by kernel_rfl
theorem tA_99 : tAgg Tryd.prog 99 = some false := by kernel_rfl
theorem tS_102 : tSize Tryd.prog 102 = some 3 := by kernel_rfl
theorem tA_102 : tAgg Tryd.prog 102 = some true := by kernel_rfl
theorem tS_103 : tSize Tryd.prog 103 = some 1 := by kernel_rfl
theorem tA_103 : tAgg Tryd.prog 103 = some false := by kernel_rfl
theorem tS_104 : tSize Tryd.prog 104 = some 1 := by kernel_rfl
theorem tA_104 : tAgg Tryd.prog 104 = some false := by kernel_rfl
theorem tE_104 : tElem Tryd.prog 104 = some 106 := by kernel_rfl
theorem tS_106 : tSize Tryd.prog 106 = some 7 := by kernel_rfl
theorem tA_106 : tAgg Tryd.prog 106 = some true := by kernel_rfl
theorem tF_106_0 : fldOff Tryd.prog 106 0 = some 0 := by kernel_rfl
theorem tF_106_1 : fldOff Tryd.prog 106 1 = some 1 := by kernel_rfl
theorem tF_106_2 : fldOff Tryd.prog 106 2 = some 4 := by kernel_rfl
theorem tF_106_3 : fldOff Tryd.prog 106 3 = some 5 := by kernel_rfl
theorem tF_106_4 : fldOff Tryd.prog 106 4 = some 6 := by kernel_rfl
theorem tS_108 : tSize Tryd.prog 108 = some 10 := by kernel_rfl
theorem tA_108 : tAgg Tryd.prog 108 = some true := by kernel_rfl
theorem tF_108_0 : fldOff Tryd.prog 108 0 = some 0 := by kernel_rfl
theorem tF_108_1 : fldOff Tryd.prog 108 1 = some 1 := by kernel_rfl
theorem tF_108_2 : fldOff Tryd.prog 108 2 = some 2 := by kernel_rfl
theorem tF_108_3 : fldOff Tryd.prog 108 3 = some 3 := by kernel_rfl
theorem tS_110 : tSize Tryd.prog 110 = some 1 := by kernel_rfl
theorem tA_110 : tAgg Tryd.prog 110 = some false := by kernel_rfl
theorem tS_112 : tSize Tryd.prog 112 = some 4 := by kernel_rfl
theorem tA_112 : tAgg Tryd.prog 112 = some true := by kernel_rfl
theorem tF_112_0 : fldOff Tryd.prog 112 0 = some 0 := by kernel_rfl
theorem tF_112_1 : fldOff Tryd.prog 112 1 = some 1 := by kernel_rfl
theorem tF_112_2 : fldOff Tryd.prog 112 2 = some 2 := by kernel_rfl
theorem tF_112_3 : fldOff Tryd.prog 112 3 = some 3 := by kernel_rfl
theorem tS_140 : tSize Tryd.prog 140 = some 5 := by kernel_rfl
theorem tA_140 : tAgg Tryd.prog 140 = some true := by kernel_rfl
theorem fn_4 : isFn Tryd.prog 4 = true := by kernel_rfl
theorem fn_5 : isFn Tryd.prog 5 = true := by kernel_rfl
theorem fn_6 : isFn Tryd.prog 6 = true := by kernel_rfl
theorem fn_7 : isFn Tryd.prog 7 = true := by kernel_rfl
theorem fn_8 : isFn Tryd.prog 8 = true := by kernel_rfl
theorem fn_9 : isFn Tryd.prog 9 = true := by kernel_rfl
theorem fn_10 : isFn Tryd.prog 10 = true := by kernel_rfl
theorem fn_11 : isFn Tryd.prog 11 = true := by kernel_rfl
theorem fn_18 : isFn Tryd.prog 18 = true := by kernel_rfl
theorem fn_19 : isFn Tryd.prog 19 = true := by kernel_rfl
theorem fn_20 : isFn Tryd.prog 20 = true := by kernel_rfl
theorem fn_21 : isFn Tryd.prog 21 = true := by kernel_rfl
theorem fn_22 : isFn Tryd.prog 22 = true := by kernel_rfl
theorem fn_23 : isFn Tryd.prog 23 = true := by kernel_rfl
theorem fn_24 : isFn Tryd.prog 24 = true := by kernel_rfl
theorem fn_25 : isFn Tryd.prog 25 = true := by kernel_rfl
theorem fn_26 : isFn Tryd.prog 26 = true := by kernel_rfl
theorem fn_35 : isFn Tryd.prog 35 = true := by kernel_rfl
theorem fn_36 : isFn Tryd.prog 36 = true := by kernel_rfl
theorem fn_37 : isFn Tryd.prog 37 = true := by kernel_rfl
theorem fn_38 : isFn Tryd.prog 38 = true := by kernel_rfl
theorem fn_39 : isFn Tryd.prog 39 = true := by kernel_rfl
theorem fn_40 : isFn Tryd.prog 40 = true := by kernel_rfl
theorem fn_41 : isFn Tryd.prog 41 = true := by kernel_rfl
theorem fn_42 : isFn Tryd.prog 42 = true := by kernel_rfl
theorem fn_44 : isFn Tryd.prog 44 = true := by kernel_rfl
theorem fn_47 : isFn Tryd.prog 47 = true := by kernel_rfl
theorem fn_48 : isFn Tryd.prog 48 = true := by kernel_rfl
theorem fn_50 : isFn Tryd.prog 50 = true := by kernel_rfl
theorem fn_51 : isFn Tryd.prog 51 = true := by kernel_rfl
theorem fn_64 : isFn Tryd.prog 64 = true := by kernel_rfl
theorem fn_65 : isFn Tryd.prog 65 = true := by kernel_rfl
theorem fn_80 : isFn Tryd.prog 80 = true := by kernel_rfl
theorem fn_81 : isFn Tryd.prog 81 = true := by kernel_rfl
theorem fn_82 : isFn Tryd.prog 82 = true := by kernel_rfl
end Go.Proofs.YtkliokdpcdhjcaaDoor
