/- Data, printed by a program out of the loaded code. -/
import Derived.Test.YtdnolbmbmncefaaDoorAuto
import Derived.Test.YtdnolbmbmncefaaDoorPatD
import Derived.Test.YtdnolbmbmncefaaDoorEqB
import Derived.Test.YtdnolbmbmncefaaDoorSh
namespace Go.Proofs.YtdnolbmbmncefaaDoor
open Go.RowKit
structure Ropewalklaw11_DoD where
  op : Int
  id : Int
  type : Int
  args : List V
def C_V (x : V) (_ : Unit) : List Value := [.int .u8 x.k, .int .i64 x.n, .string x.s]
def F_V (_ : V) (_ : Unit) : List Fact := []
def R_V : Rep V := mkRep C_V F_V (by intro x r u hu; simp [C_V] at hu; rcases hu with rfl | rfl | rfl <;> rfl)
theorem R_V_opens : Opens R_V C_V (fun _ _ => True) F_V := mkRep_opens
def C_Ropewalklaw11_DoD (x : Ropewalklaw11_DoD) (r : Option Addr × Nat) : List Value := [.int .i64 x.op, .int .i64 x.id, .int .i64 x.type, .slice r.1 x.args.length r.2]
def F_Ropewalklaw11_DoD (x : Ropewalklaw11_DoD) (r : Option Addr × Nat) : List Fact := [.sli 3 R_V r.1 r.2 x.args]
def R_Ropewalklaw11_DoD : Rep Ropewalklaw11_DoD := mkRep C_Ropewalklaw11_DoD F_Ropewalklaw11_DoD (by intro x r u hu; simp [C_Ropewalklaw11_DoD] at hu; rcases hu with rfl | rfl | rfl | rfl <;> rfl)
theorem R_Ropewalklaw11_DoD_opens : Opens R_Ropewalklaw11_DoD C_Ropewalklaw11_DoD (fun _ _ => True) F_Ropewalklaw11_DoD := mkRep_opens
def C_FactD (x : FactD) (r : Option Addr × Nat) : List Value := [.int .i64 x.id, .int .i64 x.ty, .slice r.1 x.args.length r.2]
def F_FactD (x : FactD) (r : Option Addr × Nat) : List Fact := [.sli 3 R_V r.1 r.2 x.args]
def R_FactD : Rep FactD := mkRep C_FactD F_FactD (by intro x r u hu; simp [C_FactD] at hu; rcases hu with rfl | rfl | rfl <;> rfl)
theorem R_FactD_opens : Opens R_FactD C_FactD (fun _ _ => True) F_FactD := mkRep_opens
def C_u8 (x : Int) (_ : Unit) : List Value := [.int .u8 x]
def F_u8 (_ : Int) (_ : Unit) : List Fact := []
def R_u8 : Rep Int := mkRep C_u8 F_u8 (by intro x r u hu; simp [C_u8] at hu; subst hu; rfl)
theorem R_u8_opens : Opens R_u8 C_u8 (fun _ _ => True) F_u8 := mkRep_opens
def C_i64 (x : Int) (_ : Unit) : List Value := [.int .i64 x]
def F_i64 (_ : Int) (_ : Unit) : List Fact := []
def R_i64 : Rep Int := mkRep C_i64 F_i64 (by intro x r u hu; simp [C_i64] at hu; subst hu; rfl)
theorem R_i64_opens : Opens R_i64 C_i64 (fun _ _ => True) F_i64 := mkRep_opens
def C_str (x : ByteArray) (_ : Unit) : List Value := [.string x]
def F_str (_ : ByteArray) (_ : Unit) : List Fact := []
def R_str : Rep ByteArray := mkRep C_str F_str (by intro x r u hu; simp [C_str] at hu; subst hu; rfl)
theorem R_str_opens : Opens R_str C_str (fun _ _ => True) F_str := mkRep_opens
def ok_V (x : V) : Prop := inK .u8 x.k ∧ inK .i64 x.n ∧ x.s.size ≤ 140737488351232
def ok_Ropewalklaw11_DoD (x : Ropewalklaw11_DoD) : Prop := inK .i64 x.op ∧ inK .i64 x.id ∧ inK .i64 x.type ∧ (x.args.length ≤ 4398046510976 ∧ ∀ y ∈ x.args, ok_V y)
end Go.Proofs.YtdnolbmbmncefaaDoor
