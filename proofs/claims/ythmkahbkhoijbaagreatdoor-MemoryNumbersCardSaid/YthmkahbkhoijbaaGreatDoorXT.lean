import Derived.Test.YthmkahbkhoijbaaGreatDoorAuto
import Derived.Test.YthmkahbkhoijbaaGreatDoorPatD
import Derived.Test.YthmkahbkhoijbaaGreatDoorEqB
import Derived.Test.YthmkahbkhoijbaaGreatDoorSh
import Derived.Test.YthmkahbkhoijbaaGreatDoorMapE
import Derived.Test.YthmkahbkhoijbaaGreatDoorTree
import Derived.Test.YthmkahbkhoijbaaGreatDoorShell
import Derived.Test.YthmkahbkhoijbaaGreatDoorShort
import Derived.Test.YthmkahbkhoijbaaGreatDoorFlat
import Derived.Test.YthmkahbkhoijbaaGreatDoorApart
import Derived.Test.YthmkahbkhoijbaaGreatDoorRun
namespace Go.Proofs.YthmkahbkhoijbaaGreatDoor
open Go.RowKit
def C_V (x : V) (_ : Unit) : List Value := [.int .u8 x.k, .int .i64 x.n, .string x.s]
def F_V (_ : V) (_ : Unit) : List Fact := []
def R_V : Rep V := mkRep C_V F_V (by intro x r u hu; simp [C_V] at hu; rcases hu with rfl | rfl | rfl <;> rfl)
theorem R_V_opens : Opens R_V C_V (fun _ _ => True) F_V := mkRep_opens
def C_FactD (x : FactD) (r : Option Addr × Nat) : List Value := [.int .i64 x.id, .int .i64 x.ty, .slice r.1 x.args.length r.2]
def F_FactD (x : FactD) (r : Option Addr × Nat) : List Fact := [.sli 3 R_V r.1 r.2 x.args]
def R_FactD : Rep FactD := mkRep C_FactD F_FactD (by intro x r u hu; simp [C_FactD] at hu; rcases hu with rfl | rfl | rfl <;> rfl)
theorem R_FactD_opens : Opens R_FactD C_FactD (fun _ _ => True) F_FactD := mkRep_opens
structure Ropewalklaw11_DoD where
  op : Int
  id : Int
  type : Int
  args : List V
def C_Ropewalklaw11_DoD (x : Ropewalklaw11_DoD) (r : Option Addr × Nat) : List Value := [.int .i64 x.op, .int .i64 x.id, .int .i64 x.type, .slice r.1 x.args.length r.2]
def F_Ropewalklaw11_DoD (x : Ropewalklaw11_DoD) (r : Option Addr × Nat) : List Fact := [.sli 3 R_V r.1 r.2 x.args]
def R_Ropewalklaw11_DoD : Rep Ropewalklaw11_DoD := mkRep C_Ropewalklaw11_DoD F_Ropewalklaw11_DoD (by intro x r u hu; simp [C_Ropewalklaw11_DoD] at hu; rcases hu with rfl | rfl | rfl | rfl <;> rfl)
theorem R_Ropewalklaw11_DoD_opens : Opens R_Ropewalklaw11_DoD C_Ropewalklaw11_DoD (fun _ _ => True) F_Ropewalklaw11_DoD := mkRep_opens
def G_FactD (x : FactD) (r : Option Addr × Nat) : List Fact := [.own 51 3 R_V (.slice r.1 x.args.length r.2) x.args]
def T_FactD : Tre FactD (Option Addr × Nat) := ⟨C_FactD, G_FactD, by intro x r u hu; simp [C_FactD] at hu; rcases hu with rfl | rfl | rfl <;> rfl⟩
theorem T_FactD_free : T_FactD.free := by
  intro x r φ hφ
  have hφ : φ ∈ G_FactD x r := hφ
  simp only [G_FactD, List.mem_cons, List.not_mem_nil, or_false] at hφ
  subst hφ; exact own_free mkRep_free
theorem T_FactD_lend : ∀ x r N F w, Star (T_FactD.G x r) N F w → R_FactD.p (fun q => N q ∨ F q) w (T_FactD.C x r) x := by
  rintro x r N F w ⟨A0, B0, a0, b0, h0, _⟩
  exact ⟨r, rfl, ask_cons (op_sli h0 (fun q hq => .inl (a0 q hq)) (fun _ hq => .inr hq)) (ask_nil)⟩
def C_i64 (x : Int) (_ : Unit) : List Value := [.int .i64 x]
def F_i64 (_ : Int) (_ : Unit) : List Fact := []
def R_i64 : Rep Int := mkRep C_i64 F_i64 (by intro x r u hu; simp [C_i64] at hu; subst hu; rfl)
theorem R_i64_opens : Opens R_i64 C_i64 (fun _ _ => True) F_i64 := mkRep_opens
structure FactDS where
  id : Int
  ty : Int
  args : List V
  argsT : List V
def CS_FactD (x : FactDS) (r : Option Addr × Nat) : List Value := [.int .i64 x.id, .int .i64 x.ty, .slice r.1 x.args.length r.2]
def GS_FactD (x : FactDS) (r : Option Addr × Nat) : List Fact := [.own 51 3 R_V (.slice r.1 (x.args ++ x.argsT).length r.2) (x.args ++ x.argsT)]
def TS_FactD : Tre FactDS (Option Addr × Nat) := ⟨CS_FactD, GS_FactD, by intro x r u hu; simp [CS_FactD] at hu; rcases hu with rfl | rfl | rfl <;> rfl⟩
def FS_FactD (x : FactDS) (r : Option Addr × Nat) : List Fact := [.sli 3 R_V r.1 r.2 (x.args ++ x.argsT)]
def RS_FactD : Rep FactDS := mkRep CS_FactD FS_FactD (by intro x r u hu; simp [CS_FactD] at hu; rcases hu with rfl | rfl | rfl <;> rfl)
theorem RS_FactD_opens : Opens RS_FactD CS_FactD (fun _ _ => True) FS_FactD := mkRep_opens
theorem TS_FactD_lendS : ∀ x r N F w, Star (TS_FactD.G x r) N F w → RS_FactD.p (fun q => N q ∨ F q) w (TS_FactD.C x r) x := by
  rintro x r N F w ⟨A0, B0, a0, b0, h0, _⟩
  exact ⟨r, rfl, ask_cons (op_sli h0 (fun q hq => .inl (a0 q hq)) (fun _ hq => .inr hq)) (ask_nil)⟩
def sz_FactD (x : FactD) : Prop := x.args.length ≤ 10000
instance (x : FactD) : Decidable (sz_FactD x) := by unfold sz_FactD; infer_instance
def C_l_FactD (x : List FactD) (r : Option Addr × Nat) : List Value := [.slice r.1 x.length r.2]
def G_l_FactD (x : List FactD) (r : Option Addr × Nat) : List Fact := [treeF T_FactD 27 3 (.slice r.1 x.length r.2) x]
def T_l_FactD : Tre (List FactD) (Option Addr × Nat) := ⟨C_l_FactD, G_l_FactD, by intro x r u hu; simp [C_l_FactD] at hu; subst hu; rfl⟩
def G_Ropewalklaw11_DoD (x : Ropewalklaw11_DoD) (r : Option Addr × Nat) : List Fact := [.own 51 3 R_V (.slice r.1 x.args.length r.2) x.args]
def T_Ropewalklaw11_DoD : Tre Ropewalklaw11_DoD (Option Addr × Nat) := ⟨C_Ropewalklaw11_DoD, G_Ropewalklaw11_DoD, by intro x r u hu; simp [C_Ropewalklaw11_DoD] at hu; rcases hu with rfl | rfl | rfl | rfl <;> rfl⟩
theorem T_Ropewalklaw11_DoD_lend : ∀ x r N F w, Star (T_Ropewalklaw11_DoD.G x r) N F w → R_Ropewalklaw11_DoD.p (fun q => N q ∨ F q) w (T_Ropewalklaw11_DoD.C x r) x := by
  rintro x r N F w ⟨A0, B0, a0, b0, h0, _⟩
  exact ⟨r, rfl, ask_cons (op_sli h0 (fun q hq => .inl (a0 q hq)) (fun _ hq => .inr hq)) (ask_nil)⟩
end Go.Proofs.YthmkahbkhoijbaaGreatDoor
