import Derived.Test.YtgangmegcejllaaDoorChecked
import Derived.Test.YtgangmegcejllaaDoorIdx
import Derived.Test.YtgangmegcejllaaDoorLight
namespace Go.Proofs.YtgangmegcejllaaDoor
open Go.RowKit
theorem tS_3 : tSize Tryd.prog 3 = some 1 := by kernel_rfl
theorem tA_3 : tAgg Tryd.prog 3 = some false := by kernel_rfl
theorem tZ_3 : tZero Tryd.prog 3 = some (.int .i64 0) := by kernel_rfl
theorem tR_3 : tRow Tryd.prog 3 = some (.int .i64 0, 1, 8) := by kernel_rfl
theorem tZ_4 : tZero Tryd.prog 4 = some (.bool false) := by kernel_rfl
theorem tS_22 : tSize Tryd.prog 22 = some 1 := by kernel_rfl
theorem tA_22 : tAgg Tryd.prog 22 = some false := by kernel_rfl
theorem tE_22 : tElem Tryd.prog 22 = some 3 := by kernel_rfl
theorem tS_23 : tSize Tryd.prog 23 = some 1 := by kernel_rfl
theorem tA_23 : tAgg Tryd.prog 23 = some false := by kernel_rfl
theorem tE_23 : tElem Tryd.prog 23 = some 33 := by kernel_rfl
theorem tS_27 : tSize Tryd.prog 27 = some 1 := by kernel_rfl
theorem tA_27 : tAgg Tryd.prog 27 = some false := by kernel_rfl
theorem tE_27 : tElem Tryd.prog 27 = some 50 := by kernel_rfl
theorem tS_29 : tSize Tryd.prog 29 = some 2 := by kernel_rfl
theorem tA_29 : tAgg Tryd.prog 29 = some true := by kernel_rfl
theorem tZ_29 : tZero Tryd.prog 29 = some (.agg #[.slice none 0 0, .slice none 0 0]) := by kernel_rfl
theorem tF_29_1 : fldOff Tryd.prog 29 1 = some 1 := by kernel_rfl
theorem tS_33 : tSize Tryd.prog 33 = some 2 := by kernel_rfl
theorem tA_33 : tAgg Tryd.prog 33 = some true := by kernel_rfl
theorem tZ_33 : tZero Tryd.prog 33 = some (.agg #[.int .i64 0, .slice none 0 0]) := by kernel_rfl
theorem tR_33 : tRow Tryd.prog 33 = some (.agg #[.int .i64 0, .slice none 0 0], 2, 32) := by kernel_rfl
theorem tP_33 : tPlaces Tryd.prog 33 = some [(0, 1), (1, 1)] := by kernel_rfl
theorem tF_33_0 : fldOff Tryd.prog 33 0 = some 0 := by kernel_rfl
theorem tF_33_1 : fldOff Tryd.prog 33 1 = some 1 := by kernel_rfl
theorem tS_35 : tSize Tryd.prog 35 = some 1 := by kernel_rfl
theorem tA_35 : tAgg Tryd.prog 35 = some false := by kernel_rfl
theorem tS_50 : tSize Tryd.prog 50 = some 5 := by kernel_rfl
theorem tA_50 : tAgg Tryd.prog 50 = some true := by kernel_rfl
theorem tZ_50 : tZero Tryd.prog 50 = some (.agg #[.string ⟨#[]⟩, .int .i64 0, .int .i64 0, .slice none 0 0, .slice none 0 0]) := by kernel_rfl
theorem tR_50 : tRow Tryd.prog 50 = some (.agg #[.string ⟨#[]⟩, .int .i64 0, .int .i64 0, .slice none 0 0, .slice none 0 0], 5, 80) := by kernel_rfl
theorem tP_50 : tPlaces Tryd.prog 50 = some [(0, 1), (1, 1), (2, 1), (3, 1), (4, 1)] := by kernel_rfl
theorem tF_50_1 : fldOff Tryd.prog 50 1 = some 1 := by kernel_rfl
theorem tS_52 : tSize Tryd.prog 52 = some 1 := by kernel_rfl
theorem tA_52 : tAgg Tryd.prog 52 = some false := by kernel_rfl
theorem tE_52 : tElem Tryd.prog 52 = some 3 := by kernel_rfl
theorem tS_55 : tSize Tryd.prog 55 = some 1 := by kernel_rfl
theorem tA_55 : tAgg Tryd.prog 55 = some false := by kernel_rfl
theorem tZ_57 : tZero Tryd.prog 57 = some (.agg #[.slice none 0 0, .slice none 0 0, .slice none 0 0, .map none]) := by kernel_rfl
theorem tP_57 : tPlaces Tryd.prog 57 = some [(0, 1), (1, 1), (2, 1), (3, 1)] := by kernel_rfl
theorem tF_57_0 : fldOff Tryd.prog 57 0 = some 0 := by kernel_rfl
theorem tF_57_1 : fldOff Tryd.prog 57 1 = some 1 := by kernel_rfl
theorem tF_57_2 : fldOff Tryd.prog 57 2 = some 2 := by kernel_rfl
theorem tF_57_3 : fldOff Tryd.prog 57 3 = some 3 := by kernel_rfl
theorem tS_89 : tSize Tryd.prog 89 = some 1 := by kernel_rfl
theorem tA_89 : tAgg Tryd.prog 89 = some false := by kernel_rfl
theorem tZ_89 : tZero Tryd.prog 89 = some (.int .u64 0) := by kernel_rfl
theorem fn_4 : isFn Tryd.prog 4 = true := by kernel_rfl
theorem fn_5 : isFn Tryd.prog 5 = true := by kernel_rfl
theorem fn_6 : isFn Tryd.prog 6 = true := by kernel_rfl
theorem fn_7 : isFn Tryd.prog 7 = true := by kernel_rfl
theorem fn_8 : isFn Tryd.prog 8 = true := by kernel_rfl
theorem fn_9 : isFn Tryd.prog 9 = true := by kernel_rfl
theorem fn_10 : isFn Tryd.prog 10 = true := by kernel_rfl
theorem fn_11 : isFn Tryd.prog 11 = true := by kernel_rfl
theorem fn_12 : isFn Tryd.prog 12 = true := by kernel_rfl
theorem fn_13 : isFn Tryd.prog 13 = true := by kernel_rfl
theorem fn_14 : isFn Tryd.prog 14 = true := by kernel_rfl
theorem fn_17 : isFn Tryd.prog 17 = true := by kernel_rfl
theorem fn_18 : isFn Tryd.prog 18 = true := by kernel_rfl
theorem fn_19 : isFn Tryd.prog 19 = true := by kernel_rfl
theorem fn_20 : isFn Tryd.prog 20 = true := by kernel_rfl
theorem fn_21 : isFn Tryd.prog 21 = true := by kernel_rfl
theorem fn_22 : isFn Tryd.prog 22 = true := by kernel_rfl
theorem fn_23 : isFn Tryd.prog 23 = true := by kernel_rfl
theorem fn_24 : isFn Tryd.prog 24 = true := by kernel_rfl
theorem fn_25 : isFn Tryd.prog 25 = true := by kernel_rfl
theorem fn_26 : isFn Tryd.prog 26 = true := by kernel_rfl
theorem fn_27 : isFn Tryd.prog 27 = true := by kernel_rfl
theorem fn_28 : isFn Tryd.prog 28 = true := by kernel_rfl
theorem fn_29 : isFn Tryd.prog 29 = true := by kernel_rfl
theorem fn_30 : isFn Tryd.prog 30 = true := by kernel_rfl
theorem fn_31 : isFn Tryd.prog 31 = true := by kernel_rfl
theorem fn_32 : isFn Tryd.prog 32 = true := by kernel_rfl
theorem fn_33 : isFn Tryd.prog 33 = true := by kernel_rfl
theorem fn_34 : isFn Tryd.prog 34 = true := by kernel_rfl
theorem fn_35 : isFn Tryd.prog 35 = true := by kernel_rfl
theorem fn_36 : isFn Tryd.prog 36 = true := by kernel_rfl
theorem fn_37 : isFn Tryd.prog 37 = true := by kernel_rfl
theorem fn_40 : isFn Tryd.prog 40 = true := by kernel_rfl
theorem fn_41 : isFn Tryd.prog 41 = true := by kernel_rfl
theorem fn_42 : isFn Tryd.prog 42 = true := by kernel_rfl
theorem fn_43 : isFn Tryd.prog 43 = true := by kernel_rfl
theorem fn_44 : isFn Tryd.prog 44 = true := by kernel_rfl
theorem fn_45 : isFn Tryd.prog 45 = true := by kernel_rfl
theorem fn_46 : isFn Tryd.prog 46 = true := by kernel_rfl
theorem fn_47 : isFn Tryd.prog 47 = true := by kernel_rfl
theorem fn_49 : isFn Tryd.prog 49 = true := by kernel_rfl
theorem fn_52 : isFn Tryd.prog 52 = true := by kernel_rfl
theorem fn_53 : isFn Tryd.prog 53 = true := by kernel_rfl
theorem fn_54 : isFn Tryd.prog 54 = true := by kernel_rfl
theorem fn_55 : isFn Tryd.prog 55 = true := by kernel_rfl
theorem fn_56 : isFn Tryd.prog 56 = true := by kernel_rfl
theorem fn_69 : isFn Tryd.prog 69 = true := by kernel_rfl
end Go.Proofs.YtgangmegcejllaaDoor
namespace Go.Proofs.YtgangmegcejllaaDoor
open Go.RowKit
theorem guardB (op : BinOp) (x y : Operand) (a b : Bool) (w : World) : (eqGuard op 4 x y (.bool a) (.bool b)).run Tryd.prog w = .ok () w := by
  have h : Tryd.prog.eqGuardType Tryd.prog.depth 4 = false := by kernel_rfl
  cases op <;> simp [eqGuard, program, Sem.run, h]
theorem eqlB (x y : Operand) (a b : Bool) (w : World) : (do eqGuard .eql 4 x y (.bool a) (.bool b); binOp .eql 4 (.bool a) (.bool b) : Sem Value).run Tryd.prog w = .ok (.bool (a == b)) w := by
  rw [Sem.run_bind, guardB, Result.andThen_ok]
  cases a <;> cases b <;> kernel_rfl
end Go.Proofs.YtgangmegcejllaaDoor
namespace Go.Proofs.YtgangmegcejllaaDoor
open Go.RowKit
theorem ArgD.ext_iff' {a b : ArgD} : a = b ↔ a.k = b.k ∧ a.var = b.var ∧ a.v = b.v := by
  cases a; cases b; simp
instance : DecidableEq ArgD := fun _ _ => decidable_of_iff _ ArgD.ext_iff'.symm
end Go.Proofs.YtgangmegcejllaaDoor
