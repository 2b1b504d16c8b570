import Derived.Test.YtalbennlmcpnmaaGreatEq
namespace Go.Proofs.YtalbennlmcpnmaaGreat
open Go.RowKit
theorem ArgD.ext_iff' {a b : ArgD} : a = b ↔ a.k = b.k ∧ a.var = b.var ∧ a.v = b.v := by
  cases a; cases b; simp
instance : DecidableEq ArgD := fun _ _ => decidable_of_iff _ ArgD.ext_iff'.symm
theorem guardA (op : BinOp) (x y : Operand) (a b : Array Value) (w : World) : (eqGuard op 64 x y (.agg a) (.agg b)).run Tryz.prog w = .ok () w := by
  have h : Tryz.prog.eqGuardType Tryz.prog.depth 64 = false := by kernel_rfl
  cases op <;> simp [eqGuard, program, Sem.run, h]
theorem neqA (x y : Operand) (a b : ArgD) (w : World) : (do eqGuard .neq 64 x y (.agg (aCells a ()).toArray) (.agg (aCells b ()).toArray); binOp .neq 64 (.agg (aCells a ()).toArray) (.agg (aCells b ()).toArray) : Sem Value).run Tryz.prog w = .ok (.bool (!decide (a = b))) w := by
  rw [Sem.run_bind, guardA, Result.andThen_ok]
  simp only [ArgD.ext_iff', V.ext_iff', aCells]
  simp [go_sem]
  by_cases h1 : a.k = b.k <;> by_cases h2 : a.var = b.var <;> by_cases h3 : a.v.k = b.v.k <;> by_cases h4 : a.v.n = b.v.n <;> by_cases h5 : a.v.s.toList = b.v.s.toList <;> simp [h1, h2, h3, h4, h5]
theorem eqlA (x y : Operand) (a b : ArgD) (w : World) : (do eqGuard .eql 64 x y (.agg (aCells a ()).toArray) (.agg (aCells b ()).toArray); binOp .eql 64 (.agg (aCells a ()).toArray) (.agg (aCells b ()).toArray) : Sem Value).run Tryz.prog w = .ok (.bool (decide (a = b))) w := by
  rw [Sem.run_bind, guardA, Result.andThen_ok]
  simp only [ArgD.ext_iff', V.ext_iff', aCells]
  simp [go_sem]
  by_cases h1 : a.k = b.k <;> by_cases h2 : a.var = b.var <;> by_cases h3 : a.v.k = b.v.k <;> by_cases h4 : a.v.n = b.v.n <;> by_cases h5 : a.v.s.toList = b.v.s.toList <;> simp [h1, h2, h3, h4, h5]
end Go.Proofs.YtalbennlmcpnmaaGreat
