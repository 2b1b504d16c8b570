import Derived.Test.YtohkfpobgjkpdaaDoorTypes
import Derived.Test.YtohkfpobgjkpdaaDoorStr
import Derived.Test.YtohkfpobgjkpdaaDoorLight
namespace Go.Proofs.YtohkfpobgjkpdaaDoor
theorem tI_2 : tInt Tryd.prog 2 = some .i64 := by kernel_rfl
theorem tT_9 : tStr Tryd.prog 9 = true := by kernel_rfl
theorem tI_22 : tInt Tryd.prog 22 = some .u8 := by kernel_rfl
theorem tI_26 : tInt Tryd.prog 26 = some .u8 := by kernel_rfl
theorem tI_69 : tInt Tryd.prog 69 = some .u64 := by kernel_rfl
end Go.Proofs.YtohkfpobgjkpdaaDoor
namespace Go.Proofs.YtohkfpobgjkpdaaDoor
open Go.RowKit
theorem guardV (op : BinOp) (x y : Operand) (a b : Array Value) (w : World) : (eqGuard op 25 x y (.agg a) (.agg b)).run Tryd.prog w = .ok () w := by
  have h : Tryd.prog.eqGuardType Tryd.prog.depth 25 = false := by kernel_rfl
  cases op <;> simp [eqGuard, program, Sem.run, h]
theorem neqV (x y : Operand) (a b : V) (w : World) : (do eqGuard .neq 25 x y (.agg (vCells a ()).toArray) (.agg (vCells b ()).toArray); binOp .neq 25 (.agg (vCells a ()).toArray) (.agg (vCells b ()).toArray) : Sem Value).run Tryd.prog w = .ok (.bool (!decide (a = b))) w := by
  rw [Sem.run_bind, guardV, Result.andThen_ok]
  simp only [V.ext_iff', vCells]
  simp [go_sem]
  by_cases h1 : a.k = b.k <;> by_cases h2 : a.n = b.n <;> by_cases h3 : a.s.toList = b.s.toList <;> simp [h1, h2, h3]
theorem eqlV (x y : Operand) (a b : V) (w : World) : (do eqGuard .eql 25 x y (.agg (vCells a ()).toArray) (.agg (vCells b ()).toArray); binOp .eql 25 (.agg (vCells a ()).toArray) (.agg (vCells b ()).toArray) : Sem Value).run Tryd.prog w = .ok (.bool (decide (a = b))) w := by
  rw [Sem.run_bind, guardV, Result.andThen_ok]
  simp only [V.ext_iff', vCells]
  simp [go_sem]
  by_cases h1 : a.k = b.k <;> by_cases h2 : a.n = b.n <;> by_cases h3 : a.s.toList = b.s.toList <;> simp [h1, h2, h3]
end Go.Proofs.YtohkfpobgjkpdaaDoor
