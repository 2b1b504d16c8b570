/- Equality of the program's values. -/
import Derived.Test.YtighbinghbnjhaaTypes
import Derived.Test.YtighbinghbnjhaaLight
namespace Go.Proofs.Ytighbinghbnjhaa
open Go.RowKit
theorem guardV (op : BinOp) (x y : Operand) (a b : Array Value) (w : World) : (eqGuard op 76 x y (.agg a) (.agg b)).run Try.prog w = .ok () w := by
  have h : Try.prog.eqGuardType Try.prog.depth 76 = false := by kernel_rfl
  cases op <;> simp [eqGuard, program, Sem.run, h]
theorem neqV (x y : Operand) (a b : V) (w : World) : (do eqGuard .neq 76 x y (.agg (vCells a ()).toArray) (.agg (vCells b ()).toArray); binOp .neq 76 (.agg (vCells a ()).toArray) (.agg (vCells b ()).toArray) : Sem Value).run Try.prog w = .ok (.bool (!decide (a = b))) w := by
  rw [Sem.run_bind, guardV, Result.andThen_ok]
  simp only [V.ext_iff', vCells]
  simp [go_sem]
  by_cases h1 : a.k = b.k <;> by_cases h2 : a.n = b.n <;> by_cases h3 : a.s.toList = b.s.toList <;> simp [h1, h2, h3]
theorem eqlV (x y : Operand) (a b : V) (w : World) : (do eqGuard .eql 76 x y (.agg (vCells a ()).toArray) (.agg (vCells b ()).toArray); binOp .eql 76 (.agg (vCells a ()).toArray) (.agg (vCells b ()).toArray) : Sem Value).run Try.prog w = .ok (.bool (decide (a = b))) w := by
  rw [Sem.run_bind, guardV, Result.andThen_ok]
  simp only [V.ext_iff', vCells]
  simp [go_sem]
  by_cases h1 : a.k = b.k <;> by_cases h2 : a.n = b.n <;> by_cases h3 : a.s.toList = b.s.toList <;> simp [h1, h2, h3]
end Go.Proofs.Ytighbinghbnjhaa
