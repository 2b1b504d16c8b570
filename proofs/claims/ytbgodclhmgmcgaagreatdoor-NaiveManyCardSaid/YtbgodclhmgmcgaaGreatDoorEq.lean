import Derived.Test.YtbgodclhmgmcgaaGreatDoorTypes
import Derived.Test.YtbgodclhmgmcgaaGreatDoorLight
namespace Go.Proofs.YtbgodclhmgmcgaaGreatDoor
open Go.RowKit
theorem guardV (op:BinOp) (x y:Operand) (a b:Array Value) (w:World):(eqGuard op 57 x y (.agg a) (.agg b)).run Tryz.prog w = .ok () w:=by
 have h:Tryz.prog.eqGuardType Tryz.prog.depth 57 = false:=by kernel_rfl
 cases op <;> simp [eqGuard,program,Sem.run,h]
theorem neqV (x y:Operand) (a b:V) (w:World):(do eqGuard .neq 57 x y (.agg (Qa4 a ()).toArray) (.agg (Qa4 b ()).toArray); binOp .neq 57 (.agg (Qa4 a ()).toArray) (.agg (Qa4 b ()).toArray):Sem Value).run Tryz.prog w = .ok (.bool (!decide (a = b))) w:=by
 rw [Sem.run_bind,guardV,Result.andThen_ok]
 simp only [V.ext_iff',Qa4]
 simp [go_sem]
 by_cases h1:a.k = b.k <;> by_cases h2:a.n = b.n <;> by_cases h3:a.s.toList = b.s.toList <;> simp [h1,h2,h3]
theorem eqlV (x y:Operand) (a b:V) (w:World):(do eqGuard .eql 57 x y (.agg (Qa4 a ()).toArray) (.agg (Qa4 b ()).toArray); binOp .eql 57 (.agg (Qa4 a ()).toArray) (.agg (Qa4 b ()).toArray):Sem Value).run Tryz.prog w = .ok (.bool (decide (a = b))) w:=by
 rw [Sem.run_bind,guardV,Result.andThen_ok]
 simp only [V.ext_iff',Qa4]
 simp [go_sem]
 by_cases h1:a.k = b.k <;> by_cases h2:a.n = b.n <;> by_cases h3:a.s.toList = b.s.toList <;> simp [h1,h2,h3]
end Go.Proofs.YtbgodclhmgmcgaaGreatDoor
