import Derived.Test.YtkakbckmajdggaaGreatAuto
import Derived.Test.YtkakbckmajdggaaGreatPatD
import Derived.Test.YtkakbckmajdggaaGreatEqB
import Derived.Test.YtkakbckmajdggaaGreatShelf
import Derived.Test.YtkakbckmajdggaaGreatMapE
import Derived.Test.YtkakbckmajdggaaGreatText
import Derived.Test.YtkakbckmajdggaaGreatTree
import Derived.Test.YtkakbckmajdggaaGreatShell
import Derived.Test.YtkakbckmajdggaaGreatShort
import Derived.Test.YtkakbckmajdggaaGreatMapP
import Derived.Test.YtkakbckmajdggaaGreatGrow
import Derived.Test.YtkakbckmajdggaaGreatKeys
import Derived.Test.YtkakbckmajdggaaGreatIter
import Derived.Test.YtkakbckmajdggaaGreatFlat
import Derived.Test.YtkakbckmajdggaaGreatApart
import Derived.Test.YtkakbckmajdggaaGreatRun
namespace Go.Proofs.YtkakbckmajdggaaGreat
open Go.RowKit
def C_u8 (x : Int) (_ : Unit) : List Value := [.int .u8 x]
def F_u8 (_ : Int) (_ : Unit) : List Fact := []
def R_u8 : Rep Int := mkRep C_u8 F_u8 (by intro x r u hu; simp [C_u8] at hu; subst hu; rfl)
theorem R_u8_opens : Opens R_u8 C_u8 (fun _ _ => True) F_u8 := mkRep_opens
structure Disk_rowsD where
  firm : List Int
  loose : List Int
def C_Disk_rowsD (x : Disk_rowsD) (r : (Option Addr × Nat) × (Option Addr × Nat)) : List Value := [.slice r.1.1 x.firm.length r.1.2, .slice r.2.1 x.loose.length r.2.2]
def F_Disk_rowsD (x : Disk_rowsD) (r : (Option Addr × Nat) × (Option Addr × Nat)) : List Fact := [.sli 1 R_u8 r.1.1 r.1.2 x.firm, .sli 1 R_u8 r.2.1 r.2.2 x.loose]
def R_Disk_rowsD : Rep Disk_rowsD := mkRep C_Disk_rowsD F_Disk_rowsD (by intro x r u hu; simp [C_Disk_rowsD] at hu; rcases hu with rfl | rfl <;> rfl)
theorem R_Disk_rowsD_opens : Opens R_Disk_rowsD C_Disk_rowsD (fun _ _ => True) F_Disk_rowsD := mkRep_opens
def C_l_u8 (x : List Int) (r : Option Addr × Nat) : List Value := [.slice r.1 x.length r.2]
def F_l_u8 (x : List Int) (r : Option Addr × Nat) : List Fact := [.sli 1 R_u8 r.1 r.2 x]
def R_l_u8 : Rep (List Int) := mkRep C_l_u8 F_l_u8 (by intro x r u hu; simp [C_l_u8] at hu; subst hu; rfl)
theorem R_l_u8_opens : Opens R_l_u8 C_l_u8 (fun _ _ => True) F_l_u8 := mkRep_opens
def G_l_u8 (x : List Int) (r : Option Addr × Nat) : List Fact := [.own 5 1 R_u8 (.slice r.1 x.length r.2) x]
def T_l_u8 : Tre (List Int) (Option Addr × Nat) := ⟨C_l_u8, G_l_u8, by intro x r u hu; simp [C_l_u8] at hu; subst hu; rfl⟩
def C_str (x : ByteArray) (_ : Unit) : List Value := [.string x]
def F_str (_ : ByteArray) (_ : Unit) : List Fact := []
def R_str : Rep ByteArray := mkRep C_str F_str (by intro x r u hu; simp [C_str] at hu; subst hu; rfl)
theorem R_str_opens : Opens R_str C_str (fun _ _ => True) F_str := mkRep_opens
def C_i64 (x : Int) (_ : Unit) : List Value := [.int .i64 x]
def F_i64 (_ : Int) (_ : Unit) : List Fact := []
def R_i64 : Rep Int := mkRep C_i64 F_i64 (by intro x r u hu; simp [C_i64] at hu; subst hu; rfl)
theorem R_i64_opens : Opens R_i64 C_i64 (fun _ _ => True) F_i64 := mkRep_opens
def z_markByte (k i : Int) : Int := IntKind.wrap .u8 (Int.fdiv (IntKind.wrap .u64 ((IntKind.wrap .u64 (IntKind.wrap .i64 ((IntKind.wrap .i64 (1000003 * (IntKind.wrap .i64 (k + 7)))) + i))) * 11400714819323198485)) (2 ^ (56)))
def C_l_str (x : List ByteArray) (r : Option Addr × Nat) : List Value := [.slice r.1 x.length r.2]
def G_l_str (x : List ByteArray) (r : Option Addr × Nat) : List Fact := [.own 9 1 R_str (.slice r.1 x.length r.2) x]
def T_l_str : Tre (List ByteArray) (Option Addr × Nat) := ⟨C_l_str, G_l_str, by intro x r u hu; simp [C_l_str] at hu; subst hu; rfl⟩
end Go.Proofs.YtkakbckmajdggaaGreat
