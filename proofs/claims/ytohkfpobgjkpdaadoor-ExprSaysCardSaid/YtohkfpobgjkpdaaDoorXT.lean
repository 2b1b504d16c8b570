import Derived.Test.YtohkfpobgjkpdaaDoorAuto
import Derived.Test.YtohkfpobgjkpdaaDoorPatD
import Derived.Test.YtohkfpobgjkpdaaDoorEqB
import Derived.Test.YtohkfpobgjkpdaaDoorSh
import Derived.Test.YtohkfpobgjkpdaaDoorMapE
import Derived.Test.YtohkfpobgjkpdaaDoorView
import Derived.Test.YtohkfpobgjkpdaaDoorShA
import Derived.Laws.BytesArg
import Derived.Laws.BytesString
import Derived.Laws.IdiomStrings
import Derived.Lib.LaidTab
import Derived.Lib.ItoaNum
import Derived.LaidSub
import Derived.Test.YtohkfpobgjkpdaaDoorTree
import Derived.Test.YtohkfpobgjkpdaaDoorShell
import Derived.Test.YtohkfpobgjkpdaaDoorShort
import Derived.Test.YtohkfpobgjkpdaaDoorRec
import Derived.Test.YtohkfpobgjkpdaaDoorRecS
import Derived.Test.YtohkfpobgjkpdaaDoorFlat
namespace Go.Proofs.YtohkfpobgjkpdaaDoor
open Go.RowKit
structure Api_ExprD where
  kind : Int
  value : V
  var : Int
  op : Int
  kids : List Api_ExprD
def C_Api_ExprD (x : Api_ExprD) (r : Option Addr × Nat) : List Value := [.int .u8 x.kind, .int .u8 x.value.k, .int .i64 x.value.n, .string x.value.s, .int .i64 x.var, .int .u8 x.op, .slice r.1 x.kids.length r.2]
def R_Api_ExprD : Rep Api_ExprD := recR C_Api_ExprD (fun x => x.kids) 7 (by intro x r u hu; simp [C_Api_ExprD] at hu; rcases hu with rfl | rfl | rfl | rfl | rfl | rfl | rfl <;> rfl)
def F_Api_ExprD (x : Api_ExprD) (r : Option Addr × Nat) : List Fact := [.sli 7 R_Api_ExprD r.1 r.2 x.kids]
theorem R_Api_ExprD_opens : Opens R_Api_ExprD C_Api_ExprD (fun _ _ => True) F_Api_ExprD := rec_opens
def C_V (x : V) (_ : Unit) : List Value := [.int .u8 x.k, .int .i64 x.n, .string x.s]
def F_V (_ : V) (_ : Unit) : List Fact := []
def R_V : Rep V := mkRep C_V F_V (by intro x r u hu; simp [C_V] at hu; rcases hu with rfl | rfl | rfl <;> rfl)
theorem R_V_opens : Opens R_V C_V (fun _ _ => True) F_V := mkRep_opens
def C_u8 (x : Int) (_ : Unit) : List Value := [.int .u8 x]
def F_u8 (_ : Int) (_ : Unit) : List Fact := []
def R_u8 : Rep Int := mkRep C_u8 F_u8 (by intro x r u hu; simp [C_u8] at hu; subst hu; rfl)
def C_i64 (x : Int) (_ : Unit) : List Value := [.int .i64 x]
def F_i64 (_ : Int) (_ : Unit) : List Fact := []
def R_i64 : Rep Int := mkRep C_i64 F_i64 (by intro x r u hu; simp [C_i64] at hu; subst hu; rfl)
structure Api_ExprDS where
  kind : Int
  value : V
  var : Int
  op : Int
  kids : List Api_ExprDS
  kidsT : List Api_ExprDS
def to_Api_ExprD : Api_ExprDS → Api_ExprD
  | ⟨x0, x1, x2, x3, x4, x5⟩ => ⟨x0, x1, x2, x3, (x4.map to_Api_ExprD)⟩
theorem to_Api_ExprD_eq (x : Api_ExprDS) : to_Api_ExprD x = ⟨x.kind, x.value, x.var, x.op, (x.kids.map to_Api_ExprD)⟩ := by
  obtain ⟨x0, x1, x2, x3, x4, x5⟩ := x
  rw [to_Api_ExprD]
def CS_Api_ExprD (x : Api_ExprDS) (r : Option Addr × Nat) : List Value := [.int .u8 x.kind, .int .u8 x.value.k, .int .i64 x.value.n, .string x.value.s, .int .i64 x.var, .int .u8 x.op, .slice r.1 x.kids.length r.2]
def RS_Api_ExprD : Rep Api_ExprDS := recR CS_Api_ExprD (fun x => (x.kids ++ x.kidsT)) 7 (by intro x r u hu; simp [CS_Api_ExprD] at hu; rcases hu with rfl | rfl | rfl | rfl | rfl | rfl | rfl <;> rfl)
def FS_Api_ExprD (x : Api_ExprDS) (r : Option Addr × Nat) : List Fact := [.sli 7 RS_Api_ExprD r.1 r.2 (x.kids ++ x.kidsT)]
theorem RS_Api_ExprD_opens : Opens RS_Api_ExprD CS_Api_ExprD (fun _ _ => True) FS_Api_ExprD := rec_opens
theorem RS_Api_ExprD_lend : ∀ {F : Foot} {w : World} {cs : List Value} {x : Api_ExprDS}, RS_Api_ExprD.p F w cs x → R_Api_ExprD.p F w cs (to_Api_ExprD x) := rec_lendS (f := to_Api_ExprD) (main := fun x => x.kids) (by intro x r; simp [CS_Api_ExprD, C_Api_ExprD, to_Api_ExprD_eq]) (by intro x; simp [to_Api_ExprD_eq]) (fun x => ⟨x.kidsT, rfl⟩)
def C_str (x : ByteArray) (_ : Unit) : List Value := [.string x]
def F_str (_ : ByteArray) (_ : Unit) : List Fact := []
def R_str : Rep ByteArray := mkRep C_str F_str (by intro x r u hu; simp [C_str] at hu; subst hu; rfl)
def ok_V (x : V) : Prop := inK .u8 x.k ∧ inK .i64 x.n ∧ x.s.size ≤ 140737488351232
inductive ok_Api_ExprD : Api_ExprD → Prop
  | mk (x : Api_ExprD) (h0 : inK .u8 x.kind) (h1 : ok_V x.value) (h2 : inK .i64 x.var) (h3 : inK .u8 x.op) (h4 : x.kids.length ≤ 1759218604390) (g4 : ∀ y ∈ x.kids, ok_Api_ExprD y) : ok_Api_ExprD x
end Go.Proofs.YtohkfpobgjkpdaaDoor
