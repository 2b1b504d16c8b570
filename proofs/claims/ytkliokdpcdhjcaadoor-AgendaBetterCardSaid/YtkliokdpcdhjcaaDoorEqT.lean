import Derived.Test.YtkliokdpcdhjcaaDoorTypes
import Derived.Test.YtkliokdpcdhjcaaDoorLight
import Derived.Test.YtkliokdpcdhjcaaDoorProg
namespace Go.Proofs.YtkliokdpcdhjcaaDoor
open Go.RowKit
theorem guardB (op : BinOp) (x y : Operand) (a b : Bool) (w : World) : (eqGuard op 4 x y (.bool a) (.bool b)).run Tryd.prog w = .ok () w := by
  have h : Tryd.prog.eqGuardType Tryd.prog.depth 4 = false := by kernel_rfl
  cases op <;> simp [eqGuard, program, Sem.run, h]
theorem eqlB (x y : Operand) (a b : Bool) (w : World) : (do eqGuard .eql 4 x y (.bool a) (.bool b); binOp .eql 4 (.bool a) (.bool b) : Sem Value).run Tryd.prog w = .ok (.bool (a == b)) w := by
  rw [Sem.run_bind, guardB, Result.andThen_ok]
  cases a <;> cases b <;> kernel_rfl
end Go.Proofs.YtkliokdpcdhjcaaDoor
namespace Go.Proofs.YtkliokdpcdhjcaaDoor
open Go.RowKit
theorem guardV (op : BinOp) (x y : Operand) (a b : Array Value) (w : World) : (eqGuard op 102 x y (.agg a) (.agg b)).run Tryd.prog w = .ok () w := by
  have h : Tryd.prog.eqGuardType Tryd.prog.depth 102 = false := by kernel_rfl
  cases op <;> simp [eqGuard, program, Sem.run, h]
theorem eqlV (x y : Operand) (a b : V) (w : World) : (do eqGuard .eql 102 x y (.agg (vCells a ()).toArray) (.agg (vCells b ()).toArray); binOp .eql 102 (.agg (vCells a ()).toArray) (.agg (vCells b ()).toArray) : Sem Value).run Tryd.prog w = .ok (.bool (decide (a = b))) w := by
  rw [Sem.run_bind, guardV, Result.andThen_ok]
  simp only [V.ext_iff', vCells]
  simp [go_sem]
  by_cases h1 : a.k = b.k <;> by_cases h2 : a.n = b.n <;> by_cases h3 : a.s.toList = b.s.toList <;> simp [h1, h2, h3]
end Go.Proofs.YtkliokdpcdhjcaaDoor
namespace Go.Proofs.YtkliokdpcdhjcaaDoor
open Go.RowKit
theorem ArgD.ext_iff' {a b : ArgD} : a = b ↔ a.k = b.k ∧ a.var = b.var ∧ a.v = b.v := by
  cases a; cases b; simp
instance : DecidableEq ArgD := fun _ _ => decidable_of_iff _ ArgD.ext_iff'.symm
theorem guardA (op : BinOp) (x y : Operand) (a b : Array Value) (w : World) : (eqGuard op 140 x y (.agg a) (.agg b)).run Tryd.prog w = .ok () w := by
  have h : Tryd.prog.eqGuardType Tryd.prog.depth 140 = false := by kernel_rfl
  cases op <;> simp [eqGuard, program, Sem.run, h]
theorem neqA (x y : Operand) (a b : ArgD) (w : World) : (do eqGuard .neq 140 x y (.agg (aCells a ()).toArray) (.agg (aCells b ()).toArray); binOp .neq 140 (.agg (aCells a ()).toArray) (.agg (aCells b ()).toArray) : Sem Value).run Tryd.prog w = .ok (.bool (!decide (a = b))) w := by
  rw [Sem.run_bind, guardA, Result.andThen_ok]
  simp only [ArgD.ext_iff', V.ext_iff', aCells]
  simp [go_sem]
  by_cases h1 : a.k = b.k <;> by_cases h2 : a.var = b.var <;> by_cases h3 : a.v.k = b.v.k <;> by_cases h4 : a.v.n = b.v.n <;> by_cases h5 : a.v.s.toList = b.v.s.toList <;> simp [h1, h2, h3, h4, h5]
end Go.Proofs.YtkliokdpcdhjcaaDoor
namespace Go.Proofs.YtkliokdpcdhjcaaDoor
open Go.RowKit
theorem guardT (op : BinOp) (x y : Operand) (a b : Array Value) (w : World) : (eqGuard op 73 x y (.agg a) (.agg b)).run Tryd.prog w = .ok () w := by
  have h : Tryd.prog.eqGuardType Tryd.prog.depth 73 = false := by kernel_rfl
  cases op <;> simp [eqGuard, program, Sem.run, h]
theorem neqT (x y : Operand) (s1 s2 : ByteArray) (n1 n2 : Int) (w : World) : (do eqGuard .neq 73 x y (.agg #[.string s1, .int .i64 n1]) (.agg #[.string s2, .int .i64 n2]); binOp .neq 73 (.agg #[.string s1, .int .i64 n1]) (.agg #[.string s2, .int .i64 n2]) : Sem Value).run Tryd.prog w = .ok (.bool (!((s1.toList == s2.toList) && (n1 == n2)))) w := by
  rw [Sem.run_bind, guardT, Result.andThen_ok]
  simp [go_sem]
  by_cases h1 : s1.toList = s2.toList <;> by_cases h2 : n1 = n2 <;> simp [h1, h2]
end Go.Proofs.YtkliokdpcdhjcaaDoor
