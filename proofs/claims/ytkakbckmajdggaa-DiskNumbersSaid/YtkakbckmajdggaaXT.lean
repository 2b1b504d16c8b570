import Derived.Test.YtkakbckmajdggaaAuto
import Derived.Test.YtkakbckmajdggaaPatD
import Derived.Test.YtkakbckmajdggaaEqB
import Derived.Test.YtkakbckmajdggaaSh
import Derived.Test.YtkakbckmajdggaaMapE
import Derived.Test.YtkakbckmajdggaaText
import Derived.Test.YtkakbckmajdggaaTree
import Derived.Test.YtkakbckmajdggaaShell
import Derived.Test.YtkakbckmajdggaaMapP
import Derived.Test.YtkakbckmajdggaaGrow
import Derived.Test.YtkakbckmajdggaaKeys
import Derived.Test.YtkakbckmajdggaaIter
import Derived.Test.YtkakbckmajdggaaFlat
import Derived.Test.YtkakbckmajdggaaAppN
namespace Go.Proofs.Ytkakbckmajdggaa
open Go.RowKit
structure Disk_rowsD where
  firm : List Int
  loose : List Int
def C_u8 (x : Int) (_ : Unit) : List Value := [.int .u8 x]
def F_u8 (_ : Int) (_ : Unit) : List Fact := []
def R_u8 : Rep Int := mkRep C_u8 F_u8 (by intro x r u hu; simp [C_u8] at hu; subst hu; rfl)
theorem R_u8_opens : Opens R_u8 C_u8 (fun _ _ => True) F_u8 := mkRep_opens
def C_Disk_rowsD (x : Disk_rowsD) (r : (Option Addr × Nat) × (Option Addr × Nat)) : List Value := [.slice r.1.1 x.firm.length r.1.2, .slice r.2.1 x.loose.length r.2.2]
def F_Disk_rowsD (x : Disk_rowsD) (r : (Option Addr × Nat) × (Option Addr × Nat)) : List Fact := [.sli 1 R_u8 r.1.1 r.1.2 x.firm, .sli 1 R_u8 r.2.1 r.2.2 x.loose]
def R_Disk_rowsD : Rep Disk_rowsD := mkRep C_Disk_rowsD F_Disk_rowsD (by intro x r u hu; simp [C_Disk_rowsD] at hu; rcases hu with rfl | rfl <;> rfl)
theorem R_Disk_rowsD_opens : Opens R_Disk_rowsD C_Disk_rowsD (fun _ _ => True) F_Disk_rowsD := mkRep_opens
def C_l_u8 (x : List Int) (r : Option Addr × Nat) : List Value := [.slice r.1 x.length r.2]
def F_l_u8 (x : List Int) (r : Option Addr × Nat) : List Fact := [.sli 1 R_u8 r.1 r.2 x]
def R_l_u8 : Rep (List Int) := mkRep C_l_u8 F_l_u8 (by intro x r u hu; simp [C_l_u8] at hu; subst hu; rfl)
theorem R_l_u8_opens : Opens R_l_u8 C_l_u8 (fun _ _ => True) F_l_u8 := mkRep_opens
def C_str (x : ByteArray) (_ : Unit) : List Value := [.string x]
def F_str (_ : ByteArray) (_ : Unit) : List Fact := []
def R_str : Rep ByteArray := mkRep C_str F_str (by intro x r u hu; simp [C_str] at hu; subst hu; rfl)
theorem R_str_opens : Opens R_str C_str (fun _ _ => True) F_str := mkRep_opens
def C_i64 (x : Int) (_ : Unit) : List Value := [.int .i64 x]
def F_i64 (_ : Int) (_ : Unit) : List Fact := []
def R_i64 : Rep Int := mkRep C_i64 F_i64 (by intro x r u hu; simp [C_i64] at hu; subst hu; rfl)
theorem R_i64_opens : Opens R_i64 C_i64 (fun _ _ => True) F_i64 := mkRep_opens
structure Ropewalklaw17_DoD where
  op : Int
  name : ByteArray
  to_ : ByteArray
  b : List Int
  n : Int
def C_Ropewalklaw17_DoD (x : Ropewalklaw17_DoD) (r : Option Addr × Nat) : List Value := [.int .i64 x.op, .string x.name, .string x.to_, .slice r.1 x.b.length r.2, .int .i64 x.n]
def F_Ropewalklaw17_DoD (x : Ropewalklaw17_DoD) (r : Option Addr × Nat) : List Fact := [.sli 1 R_u8 r.1 r.2 x.b]
def R_Ropewalklaw17_DoD : Rep Ropewalklaw17_DoD := mkRep C_Ropewalklaw17_DoD F_Ropewalklaw17_DoD (by intro x r u hu; simp [C_Ropewalklaw17_DoD] at hu; rcases hu with rfl | rfl | rfl | rfl | rfl <;> rfl)
theorem R_Ropewalklaw17_DoD_opens : Opens R_Ropewalklaw17_DoD C_Ropewalklaw17_DoD (fun _ _ => True) F_Ropewalklaw17_DoD := mkRep_opens
structure Ropewalkref17_entryD where
  name : ByteArray
  firm : ByteArray
  loose : ByteArray
def C_Ropewalkref17_entryD (x : Ropewalkref17_entryD) (_ : Unit) : List Value := [.string x.name, .string x.firm, .string x.loose]
def F_Ropewalkref17_entryD (_ : Ropewalkref17_entryD) (_ : Unit) : List Fact := []
def R_Ropewalkref17_entryD : Rep Ropewalkref17_entryD := mkRep C_Ropewalkref17_entryD F_Ropewalkref17_entryD (by intro x r u hu; simp [C_Ropewalkref17_entryD] at hu; rcases hu with rfl | rfl | rfl <;> rfl)
theorem R_Ropewalkref17_entryD_opens : Opens R_Ropewalkref17_entryD C_Ropewalkref17_entryD (fun _ _ => True) F_Ropewalkref17_entryD := mkRep_opens
def ok_Ropewalklaw17_DoD (x : Ropewalklaw17_DoD) : Prop := inK .i64 x.op ∧ x.name.size ≤ 140737488351232 ∧ x.to_.size ≤ 140737488351232 ∧ (x.b.length ≤ 140737488351232 ∧ ∀ y ∈ x.b, inK .u8 y) ∧ inK .i64 x.n
end Go.Proofs.Ytkakbckmajdggaa
