import Derived.Test.YtgangmegcejllaaGreatDoorDyn
namespace Go.Proofs.YtgangmegcejllaaGreatDoor
open Go.RowKit
def tPtr (P:Program) (t:Nat):Option Nat:=match P.underlying t with
 | some (.pointer e)=>some e
 | _=>none
theorem tPtr_run {P:Program} {t e:Nat} (h:tPtr P t = some e):P.underlying t = some (.pointer e):=by
 unfold tPtr at h
 split at h
 · rename_i hu; cases h; exact hu
 · cases h
theorem eqPtr {P:Program} {t e:Nat} (ht:tPtr P t = some e) (n:Nat) (a:Option Addr) (w:World):(Op.equalIn (n + 1) t (.pointer a) (.pointer none)).run P w = .ok a.isNone w:=by
 cases a <;> simp [Op.equalIn,run_underlying (tPtr_run ht)]
theorem neqP {P:Program} {t e:Nat} (ht:tPtr P t = some e) (x y:Operand) (a:Option Addr) (w:World):(do eqGuard .neq t x y (.pointer a) (.pointer none); binOp .neq t (.pointer a) (.pointer none):Sem Value).run P w = .ok (.bool (!a.isNone)) w:=by
 rw [Sem.run_bind,show (eqGuard .neq t x y (.pointer a) (.pointer none)).run P w = .ok () w from rfl,Result.andThen_ok]
 have h:=eqPtr ht 9999 a w
 simp only [binOp]
 simp [Op.equal,Op.maxDepth,h]
end Go.Proofs.YtgangmegcejllaaGreatDoor
