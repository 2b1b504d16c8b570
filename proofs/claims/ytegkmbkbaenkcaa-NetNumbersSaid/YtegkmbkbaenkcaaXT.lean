import Derived.Test.YtegkmbkbaenkcaaAuto
import Derived.Test.YtegkmbkbaenkcaaPatD
import Derived.Test.YtegkmbkbaenkcaaTypes
import Derived.Test.YtegkmbkbaenkcaaLight
import Derived.Test.YtegkmbkbaenkcaaSortM
import Derived.Test.YtegkmbkbaenkcaaSrtA
import Derived.Shelf.Small.Bits
import Derived.Shelf.Strconv.Itoa0
import Derived.Test.YtegkmbkbaenkcaaProg
import Derived.Test.YtegkmbkbaenkcaaMapE
import Derived.Test.YtegkmbkbaenkcaaText
import Derived.Test.YtegkmbkbaenkcaaTree
import Derived.Test.YtegkmbkbaenkcaaShell
import Derived.Test.YtegkmbkbaenkcaaMapP
import Derived.Test.YtegkmbkbaenkcaaLent
import Derived.Test.YtegkmbkbaenkcaaStr
import Derived.Lib.AppendZeros
import Derived.Test.YtegkmbkbaenkcaaFlat
namespace Go.Proofs.Ytegkmbkbaenkcaa
open Go.RowKit
def C_u8 (x : Int) (_ : Unit) : List Value := [.int .u8 x]
def F_u8 (_ : Int) (_ : Unit) : List Fact := []
def R_u8 : Rep Int := mkRep C_u8 F_u8 (by intro x r u hu; simp [C_u8] at hu; subst hu; rfl)
theorem R_u8_opens : Opens R_u8 C_u8 (fun _ _ => True) F_u8 := mkRep_opens
def C_l_u8 (x : List Int) (r : Option Addr × Nat) : List Value := [.slice r.1 x.length r.2]
def F_l_u8 (x : List Int) (r : Option Addr × Nat) : List Fact := [.sli 1 R_u8 r.1 r.2 x]
def R_l_u8 : Rep (List Int) := mkRep C_l_u8 F_l_u8 (by intro x r u hu; simp [C_l_u8] at hu; subst hu; rfl)
theorem R_l_u8_opens : Opens R_l_u8 C_l_u8 (fun _ _ => True) F_l_u8 := mkRep_opens
structure Ropewalkref20_packetD where
  from_ : Int
  to_ : Int
  b : List Int
def C_i64 (x : Int) (_ : Unit) : List Value := [.int .i64 x]
def F_i64 (_ : Int) (_ : Unit) : List Fact := []
def R_i64 : Rep Int := mkRep C_i64 F_i64 (by intro x r u hu; simp [C_i64] at hu; subst hu; rfl)
theorem R_i64_opens : Opens R_i64 C_i64 (fun _ _ => True) F_i64 := mkRep_opens
def C_a2_i64 (x : Int × Int) (_ : Unit) : List Value := [.int .i64 x.1, .int .i64 x.2]
def F_a2_i64 (_ : Int × Int) (_ : Unit) : List Fact := []
def R_a2_i64 : Rep (Int × Int) := mkRep C_a2_i64 F_a2_i64 (by intro x r u hu; simp [C_a2_i64] at hu; rcases hu with rfl | rfl <;> rfl)
theorem R_a2_i64_opens : Opens R_a2_i64 C_a2_i64 (fun _ _ => True) F_a2_i64 := mkRep_opens
end Go.Proofs.Ytegkmbkbaenkcaa
