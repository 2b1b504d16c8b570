import Derived.Test.YtgangmegcejllaaGreatDoorTypes
import Derived.Test.YtgangmegcejllaaGreatDoorLight
import Derived.Test.YtgangmegcejllaaGreatDoorProg
namespace Go.Proofs.YtgangmegcejllaaGreatDoor
open Go.RowKit
theorem guardB (op:BinOp) (x y:Operand) (a b:Bool) (w:World):(eqGuard op 4 x y (.bool a) (.bool b)).run Tryz.prog w = .ok () w:=by
 have h:Tryz.prog.eqGuardType Tryz.prog.depth 4 = false:=by kernel_rfl
 cases op <;> simp [eqGuard,program,Sem.run,h]
theorem neqB (x y:Operand) (a b:Bool) (w:World):(do eqGuard .neq 4 x y (.bool a) (.bool b); binOp .neq 4 (.bool a) (.bool b):Sem Value).run Tryz.prog w = .ok (.bool (a != b)) w:=by
 rw [Sem.run_bind,guardB,Result.andThen_ok]
 cases a <;> cases b <;> kernel_rfl
theorem eqlB (x y:Operand) (a b:Bool) (w:World):(do eqGuard .eql 4 x y (.bool a) (.bool b); binOp .eql 4 (.bool a) (.bool b):Sem Value).run Tryz.prog w = .ok (.bool (a == b)) w:=by
 rw [Sem.run_bind,guardB,Result.andThen_ok]
 cases a <;> cases b <;> kernel_rfl
end Go.Proofs.YtgangmegcejllaaGreatDoor
namespace Go.Proofs.YtgangmegcejllaaGreatDoor
open Go.RowKit
theorem guardV (op:BinOp) (x y:Operand) (a b:Array Value) (w:World):(eqGuard op 172 x y (.agg a) (.agg b)).run Tryz.prog w = .ok () w:=by
 have h:Tryz.prog.eqGuardType Tryz.prog.depth 172 = false:=by kernel_rfl
 cases op <;> simp [eqGuard,program,Sem.run,h]
theorem eqlV (x y:Operand) (a b:V) (w:World):(do eqGuard .eql 172 x y (.agg (vCells a ()).toArray) (.agg (vCells b ()).toArray); binOp .eql 172 (.agg (vCells a ()).toArray) (.agg (vCells b ()).toArray):Sem Value).run Tryz.prog w = .ok (.bool (decide (a = b))) w:=by
 rw [Sem.run_bind,guardV,Result.andThen_ok]
 simp only [V.ext_iff',vCells]
 simp [go_sem]
 by_cases h1:a.k = b.k <;> by_cases h2:a.n = b.n <;> by_cases h3:a.s.toList = b.s.toList <;> simp [h1,h2,h3]
end Go.Proofs.YtgangmegcejllaaGreatDoor
namespace Go.Proofs.YtgangmegcejllaaGreatDoor
open Go.RowKit
theorem ArgD.ext_iff' {a b:ArgD}:a = b ↔ a.k = b.k ∧ a.var = b.var ∧ a.v = b.v:=by
 cases a; cases b; simp
instance:DecidableEq ArgD:=fun _ _=>decidable_of_iff _ ArgD.ext_iff'.symm
theorem guardA (op:BinOp) (x y:Operand) (a b:Array Value) (w:World):(eqGuard op 200 x y (.agg a) (.agg b)).run Tryz.prog w = .ok () w:=by
 have h:Tryz.prog.eqGuardType Tryz.prog.depth 200 = false:=by kernel_rfl
 cases op <;> simp [eqGuard,program,Sem.run,h]
theorem neqA (x y:Operand) (a b:ArgD) (w:World):(do eqGuard .neq 200 x y (.agg (aCells a ()).toArray) (.agg (aCells b ()).toArray); binOp .neq 200 (.agg (aCells a ()).toArray) (.agg (aCells b ()).toArray):Sem Value).run Tryz.prog w = .ok (.bool (!decide (a = b))) w:=by
 rw [Sem.run_bind,guardA,Result.andThen_ok]
 simp only [ArgD.ext_iff',V.ext_iff',aCells]
 simp [go_sem]
 by_cases h1:a.k = b.k <;> by_cases h2:a.var = b.var <;> by_cases h3:a.v.k = b.v.k <;> by_cases h4:a.v.n = b.v.n <;> by_cases h5:a.v.s.toList = b.v.s.toList <;> simp [h1,h2,h3,h4,h5]
end Go.Proofs.YtgangmegcejllaaGreatDoor
namespace Go.Proofs.YtgangmegcejllaaGreatDoor
open Go.RowKit
theorem guardT (op:BinOp) (x y:Operand) (a b:Array Value) (w:World):(eqGuard op 213 x y (.agg a) (.agg b)).run Tryz.prog w = .ok () w:=by
 have h:Tryz.prog.eqGuardType Tryz.prog.depth 213 = false:=by kernel_rfl
 cases op <;> simp [eqGuard,program,Sem.run,h]
theorem neqT (x y:Operand) (s1 s2:ByteArray) (n1 n2:Int) (w:World):(do eqGuard .neq 213 x y (.agg #[.string s1,.int .i64 n1]) (.agg #[.string s2,.int .i64 n2]); binOp .neq 213 (.agg #[.string s1,.int .i64 n1]) (.agg #[.string s2,.int .i64 n2]):Sem Value).run Tryz.prog w = .ok (.bool (!((s1.toList == s2.toList) && (n1 == n2)))) w:=by
 rw [Sem.run_bind,guardT,Result.andThen_ok]
 simp [go_sem]
 by_cases h1:s1.toList = s2.toList <;> by_cases h2:n1 = n2 <;> simp [h1,h2]
end Go.Proofs.YtgangmegcejllaaGreatDoor
