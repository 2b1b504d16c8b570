import Derived.Test.YtbgodclhmgmcgaaGreatDoorTypes
import Derived.Test.YtbgodclhmgmcgaaGreatDoorLight
namespace Go.Proofs.YtbgodclhmgmcgaaGreatDoor
open Go.RowKit
theorem guardB (op:BinOp) (x y:Operand) (a b:Bool) (w:World):(eqGuard op 4 x y (.bool a) (.bool b)).run Tryz.prog w = .ok () w:=by
 have h:Tryz.prog.eqGuardType Tryz.prog.depth 4 = false:=by kernel_rfl
 cases op <;> simp [eqGuard,program,Sem.run,h]
theorem neqB (x y:Operand) (a b:Bool) (w:World):(do eqGuard .neq 4 x y (.bool a) (.bool b); binOp .neq 4 (.bool a) (.bool b):Sem Value).run Tryz.prog w = .ok (.bool (a != b)) w:=by
 rw [Sem.run_bind,guardB,Result.andThen_ok]
 cases a <;> cases b <;> kernel_rfl
theorem eqlB (x y:Operand) (a b:Bool) (w:World):(do eqGuard .eql 4 x y (.bool a) (.bool b); binOp .eql 4 (.bool a) (.bool b):Sem Value).run Tryz.prog w = .ok (.bool (a == b)) w:=by
 rw [Sem.run_bind,guardB,Result.andThen_ok]
 cases a <;> cases b <;> kernel_rfl
end Go.Proofs.YtbgodclhmgmcgaaGreatDoor
namespace Go.Proofs.YtbgodclhmgmcgaaGreatDoor
open Go.RowKit
theorem guardV (op:BinOp) (x y:Operand) (a b:Array Value) (w:World):(eqGuard op 57 x y (.agg a) (.agg b)).run Tryz.prog w = .ok () w:=by
 have h:Tryz.prog.eqGuardType Tryz.prog.depth 57 = false:=by kernel_rfl
 cases op <;> simp [eqGuard,program,Sem.run,h]
theorem neqV (x y:Operand) (a b:V) (w:World):(do eqGuard .neq 57 x y (.agg (Q9e a ()).toArray) (.agg (Q9e b ()).toArray); binOp .neq 57 (.agg (Q9e a ()).toArray) (.agg (Q9e b ()).toArray):Sem Value).run Tryz.prog w = .ok (.bool (!decide (a = b))) w:=by
 rw [Sem.run_bind,guardV,Result.andThen_ok]
 simp only [V.ext_iff',Q9e]
 simp [go_sem]
 by_cases h1:a.k = b.k <;> by_cases h2:a.n = b.n <;> by_cases h3:a.s.toList = b.s.toList <;> simp [h1,h2,h3]
theorem eqlV (x y:Operand) (a b:V) (w:World):(do eqGuard .eql 57 x y (.agg (Q9e a ()).toArray) (.agg (Q9e b ()).toArray); binOp .eql 57 (.agg (Q9e a ()).toArray) (.agg (Q9e b ()).toArray):Sem Value).run Tryz.prog w = .ok (.bool (decide (a = b))) w:=by
 rw [Sem.run_bind,guardV,Result.andThen_ok]
 simp only [V.ext_iff',Q9e]
 simp [go_sem]
 by_cases h1:a.k = b.k <;> by_cases h2:a.n = b.n <;> by_cases h3:a.s.toList = b.s.toList <;> simp [h1,h2,h3]
end Go.Proofs.YtbgodclhmgmcgaaGreatDoor
