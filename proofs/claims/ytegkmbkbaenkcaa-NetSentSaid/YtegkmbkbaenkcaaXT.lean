import Derived.Test.YtegkmbkbaenkcaaAuto
import Derived.Test.YtegkmbkbaenkcaaPatD
import Derived.Test.YtegkmbkbaenkcaaEqB
import Derived.Test.YtegkmbkbaenkcaaSortM
import Derived.Test.YtegkmbkbaenkcaaSrtA
import Derived.Shelf.Small.Bits
import Derived.Shelf.Strconv.Itoa0
import Derived.Test.YtegkmbkbaenkcaaProg
import Derived.Test.YtegkmbkbaenkcaaMapE
import Derived.Test.YtegkmbkbaenkcaaText
import Derived.Test.YtegkmbkbaenkcaaTree
import Derived.Test.YtegkmbkbaenkcaaShell
import Derived.Test.YtegkmbkbaenkcaaMapP
import Derived.Test.YtegkmbkbaenkcaaLent
import Derived.Test.YtegkmbkbaenkcaaStr
import Derived.Lib.AppendZeros
import Derived.Test.YtegkmbkbaenkcaaFlat
namespace Go.Proofs.Ytegkmbkbaenkcaa
open Go.RowKit
structure Ropewalklaw20_DoD where
  op : Int
  from_ : Int
  to_ : Int
  at_ : Int
  b : List Int
def C_u8 (x : Int) (_ : Unit) : List Value := [.int .u8 x]
def F_u8 (_ : Int) (_ : Unit) : List Fact := []
def R_u8 : Rep Int := mkRep C_u8 F_u8 (by intro x r u hu; simp [C_u8] at hu; subst hu; rfl)
theorem R_u8_opens : Opens R_u8 C_u8 (fun _ _ => True) F_u8 := mkRep_opens
def C_Ropewalklaw20_DoD (x : Ropewalklaw20_DoD) (r : Option Addr × Nat) : List Value := [.int .i64 x.op, .int .i64 x.from_, .int .i64 x.to_, .int .i64 x.at_, .slice r.1 x.b.length r.2]
def F_Ropewalklaw20_DoD (x : Ropewalklaw20_DoD) (r : Option Addr × Nat) : List Fact := [.sli 1 R_u8 r.1 r.2 x.b]
def R_Ropewalklaw20_DoD : Rep Ropewalklaw20_DoD := mkRep C_Ropewalklaw20_DoD F_Ropewalklaw20_DoD (by intro x r u hu; simp [C_Ropewalklaw20_DoD] at hu; rcases hu with rfl | rfl | rfl | rfl | rfl <;> rfl)
theorem R_Ropewalklaw20_DoD_opens : Opens R_Ropewalklaw20_DoD C_Ropewalklaw20_DoD (fun _ _ => True) F_Ropewalklaw20_DoD := mkRep_opens
def C_l_u8 (x : List Int) (r : Option Addr × Nat) : List Value := [.slice r.1 x.length r.2]
def F_l_u8 (x : List Int) (r : Option Addr × Nat) : List Fact := [.sli 1 R_u8 r.1 r.2 x]
def R_l_u8 : Rep (List Int) := mkRep C_l_u8 F_l_u8 (by intro x r u hu; simp [C_l_u8] at hu; subst hu; rfl)
theorem R_l_u8_opens : Opens R_l_u8 C_l_u8 (fun _ _ => True) F_l_u8 := mkRep_opens
structure Ropewalkref20_packetD where
  from_ : Int
  to_ : Int
  b : List Int
def G_l_u8 (x : List Int) (r : Option Addr × Nat) : List Fact := [.own 5 1 R_u8 (.slice r.1 x.length r.2) x]
def T_l_u8 : Tre (List Int) (Option Addr × Nat) := ⟨C_l_u8, G_l_u8, by intro x r u hu; simp [C_l_u8] at hu; subst hu; rfl⟩
theorem T_l_u8_lend : ∀ x r N F w, Star (T_l_u8.G x r) N F w → R_l_u8.p (fun q => N q ∨ F q) w (T_l_u8.C x r) x := by
  rintro x r N F w ⟨A0, B0, a0, b0, h0, _⟩
  exact ⟨r, rfl, ask_cons (op_sli h0 (fun q hq => .inl (a0 q hq)) (fun _ hq => .inr hq)) (ask_nil)⟩
def C_i64 (x : Int) (_ : Unit) : List Value := [.int .i64 x]
def F_i64 (_ : Int) (_ : Unit) : List Fact := []
def R_i64 : Rep Int := mkRep C_i64 F_i64 (by intro x r u hu; simp [C_i64] at hu; subst hu; rfl)
theorem R_i64_opens : Opens R_i64 C_i64 (fun _ _ => True) F_i64 := mkRep_opens
def C_a2_i64 (x : Int × Int) (_ : Unit) : List Value := [.int .i64 x.1, .int .i64 x.2]
def F_a2_i64 (_ : Int × Int) (_ : Unit) : List Fact := []
def R_a2_i64 : Rep (Int × Int) := mkRep C_a2_i64 F_a2_i64 (by intro x r u hu; simp [C_a2_i64] at hu; rcases hu with rfl | rfl <;> rfl)
theorem R_a2_i64_opens : Opens R_a2_i64 C_a2_i64 (fun _ _ => True) F_a2_i64 := mkRep_opens
def C_l_l_u8 (x : List (List Int)) (r : Option Addr × Nat) : List Value := [.slice r.1 x.length r.2]
def G_l_l_u8 (x : List (List Int)) (r : Option Addr × Nat) : List Fact := [.own 28 1 R_l_u8 (.slice r.1 x.length r.2) x]
def T_l_l_u8 : Tre (List (List Int)) (Option Addr × Nat) := ⟨C_l_l_u8, G_l_l_u8, by intro x r u hu; simp [C_l_l_u8] at hu; subst hu; rfl⟩
def ok_Ropewalklaw20_DoD (x : Ropewalklaw20_DoD) : Prop := inK .i64 x.op ∧ inK .i64 x.from_ ∧ inK .i64 x.to_ ∧ inK .i64 x.at_ ∧ (x.b.length ≤ 140737488351232 ∧ ∀ y ∈ x.b, inK .u8 y)
end Go.Proofs.Ytegkmbkbaenkcaa
