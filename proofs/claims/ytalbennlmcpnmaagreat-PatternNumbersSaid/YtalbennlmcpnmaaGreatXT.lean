import Derived.Test.YtalbennlmcpnmaaGreatAuto
import Derived.Test.YtalbennlmcpnmaaGreatPatD
import Derived.Test.YtalbennlmcpnmaaGreatEqB
import Derived.Test.YtalbennlmcpnmaaGreatEqA
import Derived.Ground.SlgnProg
import Derived.Shelf.SlicesE.Clone
import Derived.Test.YtalbennlmcpnmaaGreatProg
import Derived.Test.YtalbennlmcpnmaaGreatMapE
import Derived.Test.YtalbennlmcpnmaaGreatTree
import Derived.Test.YtalbennlmcpnmaaGreatShell
import Derived.Test.YtalbennlmcpnmaaGreatLend
import Derived.Test.YtalbennlmcpnmaaGreatShort
import Derived.Test.YtalbennlmcpnmaaGreatRec
import Derived.Test.YtalbennlmcpnmaaGreatRecS
import Derived.Test.YtalbennlmcpnmaaGreatFlat
import Derived.Test.YtalbennlmcpnmaaGreatApart
import Derived.Test.YtalbennlmcpnmaaGreatRun
namespace Go.Proofs.YtalbennlmcpnmaaGreat
open Go.RowKit
def C_ArgD (x : ArgD) (_ : Unit) : List Value := [.int .u8 x.k, .int .i64 x.var, .int .u8 x.v.k, .int .i64 x.v.n, .string x.v.s]
def F_ArgD (_ : ArgD) (_ : Unit) : List Fact := []
def R_ArgD : Rep ArgD := mkRep C_ArgD F_ArgD (by intro x r u hu; simp [C_ArgD] at hu; rcases hu with rfl | rfl | rfl | rfl | rfl <;> rfl)
theorem R_ArgD_opens : Opens R_ArgD C_ArgD (fun _ _ => True) F_ArgD := mkRep_opens
structure Api_ExprD where
  kind : Int
  value : V
  var : Int
  op : Int
  kids : List Api_ExprD
def C_Api_ExprD (x : Api_ExprD) (r : Option Addr × Nat) : List Value := [.int .u8 x.kind, .int .u8 x.value.k, .int .i64 x.value.n, .string x.value.s, .int .i64 x.var, .int .u8 x.op, .slice r.1 x.kids.length r.2]
def R_Api_ExprD : Rep Api_ExprD := recR C_Api_ExprD (fun x => x.kids) 7 (by intro x r u hu; simp [C_Api_ExprD] at hu; rcases hu with rfl | rfl | rfl | rfl | rfl | rfl | rfl <;> rfl)
def F_Api_ExprD (x : Api_ExprD) (r : Option Addr × Nat) : List Fact := [.sli 7 R_Api_ExprD r.1 r.2 x.kids]
theorem R_Api_ExprD_opens : Opens R_Api_ExprD C_Api_ExprD (fun _ _ => True) F_Api_ExprD := rec_opens
def C_V (x : V) (_ : Unit) : List Value := [.int .u8 x.k, .int .i64 x.n, .string x.s]
def F_V (_ : V) (_ : Unit) : List Fact := []
def R_V : Rep V := mkRep C_V F_V (by intro x r u hu; simp [C_V] at hu; rcases hu with rfl | rfl | rfl <;> rfl)
theorem R_V_opens : Opens R_V C_V (fun _ _ => True) F_V := mkRep_opens
def C_bool (x : Bool) (_ : Unit) : List Value := [.bool x]
def F_bool (_ : Bool) (_ : Unit) : List Fact := []
def R_bool : Rep Bool := mkRep C_bool F_bool (by intro x r u hu; simp [C_bool] at hu; subst hu; rfl)
theorem R_bool_opens : Opens R_bool C_bool (fun _ _ => True) F_bool := mkRep_opens
def C_i64 (x : Int) (_ : Unit) : List Value := [.int .i64 x]
def F_i64 (_ : Int) (_ : Unit) : List Fact := []
def R_i64 : Rep Int := mkRep C_i64 F_i64 (by intro x r u hu; simp [C_i64] at hu; subst hu; rfl)
theorem R_i64_opens : Opens R_i64 C_i64 (fun _ _ => True) F_i64 := mkRep_opens
structure Api_ExprDS where
  kind : Int
  value : V
  var : Int
  op : Int
  kids : List Api_ExprDS
  kidsT : List Api_ExprDS
def to_Api_ExprD : Api_ExprDS → Api_ExprD
  | ⟨x0, x1, x2, x3, x4, x5⟩ => ⟨x0, x1, x2, x3, (x4.map to_Api_ExprD)⟩
theorem to_Api_ExprD_eq (x : Api_ExprDS) : to_Api_ExprD x = ⟨x.kind, x.value, x.var, x.op, (x.kids.map to_Api_ExprD)⟩ := by
  obtain ⟨x0, x1, x2, x3, x4, x5⟩ := x
  rw [to_Api_ExprD]
def CS_Api_ExprD (x : Api_ExprDS) (r : Option Addr × Nat) : List Value := [.int .u8 x.kind, .int .u8 x.value.k, .int .i64 x.value.n, .string x.value.s, .int .i64 x.var, .int .u8 x.op, .slice r.1 x.kids.length r.2]
def RS_Api_ExprD : Rep Api_ExprDS := recR CS_Api_ExprD (fun x => (x.kids ++ x.kidsT)) 7 (by intro x r u hu; simp [CS_Api_ExprD] at hu; rcases hu with rfl | rfl | rfl | rfl | rfl | rfl | rfl <;> rfl)
def FS_Api_ExprD (x : Api_ExprDS) (r : Option Addr × Nat) : List Fact := [.sli 7 RS_Api_ExprD r.1 r.2 (x.kids ++ x.kidsT)]
theorem RS_Api_ExprD_opens : Opens RS_Api_ExprD CS_Api_ExprD (fun _ _ => True) FS_Api_ExprD := rec_opens
theorem RS_Api_ExprD_lend : ∀ {F : Foot} {w : World} {cs : List Value} {x : Api_ExprDS}, RS_Api_ExprD.p F w cs x → R_Api_ExprD.p F w cs (to_Api_ExprD x) := rec_lendS (f := to_Api_ExprD) (main := fun x => x.kids) (by intro x r; simp [CS_Api_ExprD, C_Api_ExprD, to_Api_ExprD_eq]) (by intro x; simp [to_Api_ExprD_eq]) (fun x => ⟨x.kidsT, rfl⟩)
def C_l_V (x : List V) (r : Option Addr × Nat) : List Value := [.slice r.1 x.length r.2]
def G_l_V (x : List V) (r : Option Addr × Nat) : List Fact := [.own 27 3 R_V (.slice r.1 x.length r.2) x]
def T_l_V : Tre (List V) (Option Addr × Nat) := ⟨C_l_V, G_l_V, by intro x r u hu; simp [C_l_V] at hu; subst hu; rfl⟩
def C_FactD (x : FactD) (r : Option Addr × Nat) : List Value := [.int .i64 x.id, .int .i64 x.ty, .slice r.1 x.args.length r.2]
def F_FactD (x : FactD) (r : Option Addr × Nat) : List Fact := [.sli 3 R_V r.1 r.2 x.args]
def R_FactD : Rep FactD := mkRep C_FactD F_FactD (by intro x r u hu; simp [C_FactD] at hu; rcases hu with rfl | rfl | rfl <;> rfl)
theorem R_FactD_opens : Opens R_FactD C_FactD (fun _ _ => True) F_FactD := mkRep_opens
def G_FactD (x : FactD) (r : Option Addr × Nat) : List Fact := [.own 27 3 R_V (.slice r.1 x.args.length r.2) x.args]
def T_FactD : Tre FactD (Option Addr × Nat) := ⟨C_FactD, G_FactD, by intro x r u hu; simp [C_FactD] at hu; rcases hu with rfl | rfl | rfl <;> rfl⟩
structure FactDS where
  id : Int
  ty : Int
  args : List V
  argsT : List V
def to_FactD (x : FactDS) : FactD := ⟨x.id, x.ty, x.args⟩
def CS_FactD (x : FactDS) (r : Option Addr × Nat) : List Value := [.int .i64 x.id, .int .i64 x.ty, .slice r.1 x.args.length r.2]
def GS_FactD (x : FactDS) (r : Option Addr × Nat) : List Fact := [.own 27 3 R_V (.slice r.1 (x.args ++ x.argsT).length r.2) (x.args ++ x.argsT)]
def TS_FactD : Tre FactDS (Option Addr × Nat) := ⟨CS_FactD, GS_FactD, by intro x r u hu; simp [CS_FactD] at hu; rcases hu with rfl | rfl | rfl <;> rfl⟩
theorem TS_FactD_lend : ∀ x r N F w, Star (TS_FactD.G x r) N F w → R_FactD.p (fun q => N q ∨ F q) w (TS_FactD.C x r) (to_FactD x) := by
  rintro x r N F w ⟨A0, B0, a0, b0, h0, _⟩
  exact ⟨r, by simp [TS_FactD, CS_FactD, C_FactD, to_FactD], ask_cons (op_sliL h0 (fun q hq => .inl (a0 q hq)) (fun _ hq => .inr hq)) (ask_nil)⟩
def FS_FactD (x : FactDS) (r : Option Addr × Nat) : List Fact := [.sli 3 R_V r.1 r.2 (x.args ++ x.argsT)]
def RS_FactD : Rep FactDS := mkRep CS_FactD FS_FactD (by intro x r u hu; simp [CS_FactD] at hu; rcases hu with rfl | rfl | rfl <;> rfl)
theorem RS_FactD_opens : Opens RS_FactD CS_FactD (fun _ _ => True) FS_FactD := mkRep_opens
theorem TS_FactD_lendS : ∀ x r N F w, Star (TS_FactD.G x r) N F w → RS_FactD.p (fun q => N q ∨ F q) w (TS_FactD.C x r) x := by
  rintro x r N F w ⟨A0, B0, a0, b0, h0, _⟩
  exact ⟨r, rfl, ask_cons (op_sli h0 (fun q hq => .inl (a0 q hq)) (fun _ hq => .inr hq)) (ask_nil)⟩
def ok_V (x : V) : Prop := inK .u8 x.k ∧ inK .i64 x.n ∧ x.s.size ≤ 140737488351232
inductive ok_Api_ExprD : Api_ExprD → Prop
  | mk (x : Api_ExprD) (h0 : inK .u8 x.kind) (h1 : ok_V x.value) (h2 : inK .i64 x.var) (h3 : inK .u8 x.op) (h4 : x.kids.length ≤ 1759218604390) (g4 : ∀ y ∈ x.kids, ok_Api_ExprD y) : ok_Api_ExprD x
end Go.Proofs.YtalbennlmcpnmaaGreat
