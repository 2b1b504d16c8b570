import Derived.Test.YtbgodclhmgmcgaaGreatDoorTypes
import Derived.Test.YtbgodclhmgmcgaaGreatDoorLight
namespace Go.Proofs.YtbgodclhmgmcgaaGreatDoor
open Go.RowKit
theorem guardB (op:BinOp) (x y:Operand) (a b:Bool) (w:World):(eqGuard op 4 x y (.bool a) (.bool b)).run Tryz.prog w = .ok () w:=by
 have h:Tryz.prog.eqGuardType Tryz.prog.depth 4 = false:=by kernel_rfl
 cases op <;> simp [eqGuard,program,Sem.run,h]
theorem neqB (x y:Operand) (a b:Bool) (w:World):(do eqGuard .neq 4 x y (.bool a) (.bool b); binOp .neq 4 (.bool a) (.bool b):Sem Value).run Tryz.prog w = .ok (.bool (a != b)) w:=by
 rw [Sem.run_bind,guardB,Result.andThen_ok]
 cases a <;> cases b <;> kernel_rfl
theorem eqlB (x y:Operand) (a b:Bool) (w:World):(do eqGuard .eql 4 x y (.bool a) (.bool b); binOp .eql 4 (.bool a) (.bool b):Sem Value).run Tryz.prog w = .ok (.bool (a == b)) w:=by
 rw [Sem.run_bind,guardB,Result.andThen_ok]
 cases a <;> cases b <;> kernel_rfl
end Go.Proofs.YtbgodclhmgmcgaaGreatDoor
