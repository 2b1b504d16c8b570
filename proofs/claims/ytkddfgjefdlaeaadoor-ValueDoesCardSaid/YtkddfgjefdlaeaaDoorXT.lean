/- Data, printed by a program out of the loaded code. -/
import Derived.Test.YtkddfgjefdlaeaaDoorAuto
import Derived.Test.YtkddfgjefdlaeaaDoorPatD
import Derived.Test.YtkddfgjefdlaeaaDoorEqB
import Derived.Test.YtkddfgjefdlaeaaDoorSh
import Derived.Test.YtkddfgjefdlaeaaDoorMapE
import Derived.Test.YtkddfgjefdlaeaaDoorText
namespace Go.Proofs.YtkddfgjefdlaeaaDoor
open Go.RowKit
def C_V (x : V) (_ : Unit) : List Value := [.int .u8 x.k, .int .i64 x.n, .string x.s]
def F_V (_ : V) (_ : Unit) : List Fact := []
def R_V : Rep V := mkRep C_V F_V (by intro x r u hu; simp [C_V] at hu; rcases hu with rfl | rfl | rfl <;> rfl)
theorem R_V_opens : Opens R_V C_V (fun _ _ => True) F_V := mkRep_opens
def C_i64 (x : Int) (_ : Unit) : List Value := [.int .i64 x]
def F_i64 (_ : Int) (_ : Unit) : List Fact := []
def R_i64 : Rep Int := mkRep C_i64 F_i64 (by intro x r u hu; simp [C_i64] at hu; subst hu; rfl)
theorem R_i64_opens : Opens R_i64 C_i64 (fun _ _ => True) F_i64 := mkRep_opens
def C_u8 (x : Int) (_ : Unit) : List Value := [.int .u8 x]
def F_u8 (_ : Int) (_ : Unit) : List Fact := []
def R_u8 : Rep Int := mkRep C_u8 F_u8 (by intro x r u hu; simp [C_u8] at hu; subst hu; rfl)
theorem R_u8_opens : Opens R_u8 C_u8 (fun _ _ => True) F_u8 := mkRep_opens
def C_str (x : ByteArray) (_ : Unit) : List Value := [.string x]
def F_str (_ : ByteArray) (_ : Unit) : List Fact := []
def R_str : Rep ByteArray := mkRep C_str F_str (by intro x r u hu; simp [C_str] at hu; subst hu; rfl)
theorem R_str_opens : Opens R_str C_str (fun _ _ => True) F_str := mkRep_opens
def ok_V (x : V) : Prop := inK .u8 x.k ∧ inK .i64 x.n ∧ x.s.size ≤ 140737488351232
end Go.Proofs.YtkddfgjefdlaeaaDoor
