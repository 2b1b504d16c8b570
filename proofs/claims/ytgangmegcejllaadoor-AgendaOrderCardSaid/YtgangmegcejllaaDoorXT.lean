import Derived.Test.YtgangmegcejllaaDoorAuto
import Derived.Test.YtgangmegcejllaaDoorSess
import Derived.Test.YtgangmegcejllaaDoorEqA
import Derived.Test.YtgangmegcejllaaDoorLight
import Derived.Test.YtgangmegcejllaaDoorProg
import Derived.Test.YtgangmegcejllaaDoorSrtA
import Derived.Test.YtgangmegcejllaaDoorShelf
import Derived.Test.YtgangmegcejllaaDoorStr
import Derived.Test.YtgangmegcejllaaDoorMapE
import Derived.Test.YtgangmegcejllaaDoorTree
import Derived.Test.YtgangmegcejllaaDoorRec
import Derived.Test.YtgangmegcejllaaDoorMapP
import Derived.Test.YtgangmegcejllaaDoorFlat
namespace Go.Proofs.YtgangmegcejllaaDoor
open Go.RowKit
def C_i64 (x : Int) (_ : Unit) : List Value := [.int .i64 x]
def F_i64 (_ : Int) (_ : Unit) : List Fact := []
def R_i64 : Rep Int := mkRep C_i64 F_i64 (by intro x r u hu; simp [C_i64] at hu; subst hu; rfl)
theorem R_i64_opens : Opens R_i64 C_i64 (fun _ _ => True) F_i64 := mkRep_opens
structure Api_TokenD where
  rule : Int
  ids : List Int
def C_Api_TokenD (x : Api_TokenD) (r : Option Addr × Nat) : List Value := [.int .i64 x.rule, .slice r.1 x.ids.length r.2]
def F_Api_TokenD (x : Api_TokenD) (r : Option Addr × Nat) : List Fact := [.sli 1 R_i64 r.1 r.2 x.ids]
def R_Api_TokenD : Rep Api_TokenD := mkRep C_Api_TokenD F_Api_TokenD (by intro x r u hu; simp [C_Api_TokenD] at hu; rcases hu with rfl | rfl <;> rfl)
theorem R_Api_TokenD_opens : Opens R_Api_TokenD C_Api_TokenD (fun _ _ => True) F_Api_TokenD := mkRep_opens
structure Api_ExprD where
  kind : Int
  value : V
  var : Int
  op : Int
  kids : List Api_ExprD
structure Api_CondD where
  kind : Int
  type : Int
  args : List ArgD
  test : Api_ExprD
structure Api_ActD where
  kind : Int
  type : Int
  which : Int
  exprs : List Api_ExprD
structure Api_RuleD where
  name : ByteArray
  salience : Int
  vars : Int
  conds : List Api_CondD
  acts : List Api_ActD
def C_ArgD (x : ArgD) (_ : Unit) : List Value := [.int .u8 x.k, .int .i64 x.var, .int .u8 x.v.k, .int .i64 x.v.n, .string x.v.s]
def F_ArgD (_ : ArgD) (_ : Unit) : List Fact := []
def R_ArgD : Rep ArgD := mkRep C_ArgD F_ArgD (by intro x r u hu; simp [C_ArgD] at hu; rcases hu with rfl | rfl | rfl | rfl | rfl <;> rfl)
def C_Api_ExprD (x : Api_ExprD) (r : Option Addr × Nat) : List Value := [.int .u8 x.kind, .int .u8 x.value.k, .int .i64 x.value.n, .string x.value.s, .int .i64 x.var, .int .u8 x.op, .slice r.1 x.kids.length r.2]
def R_Api_ExprD : Rep Api_ExprD := recR C_Api_ExprD (fun x => x.kids) 7 (by intro x r u hu; simp [C_Api_ExprD] at hu; rcases hu with rfl | rfl | rfl | rfl | rfl | rfl | rfl <;> rfl)
def C_Api_CondD (x : Api_CondD) (r : (Option Addr × Nat) × (Option Addr × Nat)) : List Value := [.int .u8 x.kind, .int .i64 x.type, .slice r.1.1 x.args.length r.1.2, .int .u8 x.test.kind, .int .u8 x.test.value.k, .int .i64 x.test.value.n, .string x.test.value.s, .int .i64 x.test.var, .int .u8 x.test.op, .slice r.2.1 x.test.kids.length r.2.2]
def F_Api_CondD (x : Api_CondD) (r : (Option Addr × Nat) × (Option Addr × Nat)) : List Fact := [.sli 5 R_ArgD r.1.1 r.1.2 x.args, .sli 7 R_Api_ExprD r.2.1 r.2.2 x.test.kids]
def R_Api_CondD : Rep Api_CondD := mkRep C_Api_CondD F_Api_CondD (by intro x r u hu; simp [C_Api_CondD] at hu; rcases hu with rfl | rfl | rfl | rfl | rfl | rfl | rfl | rfl | rfl | rfl <;> rfl)
def C_Api_ActD (x : Api_ActD) (r : Option Addr × Nat) : List Value := [.int .u8 x.kind, .int .i64 x.type, .int .i64 x.which, .slice r.1 x.exprs.length r.2]
def F_Api_ActD (x : Api_ActD) (r : Option Addr × Nat) : List Fact := [.sli 7 R_Api_ExprD r.1 r.2 x.exprs]
def R_Api_ActD : Rep Api_ActD := mkRep C_Api_ActD F_Api_ActD (by intro x r u hu; simp [C_Api_ActD] at hu; rcases hu with rfl | rfl | rfl | rfl <;> rfl)
def C_Api_RuleD (x : Api_RuleD) (r : (Option Addr × Nat) × (Option Addr × Nat)) : List Value := [.string x.name, .int .i64 x.salience, .int .i64 x.vars, .slice r.1.1 x.conds.length r.1.2, .slice r.2.1 x.acts.length r.2.2]
def F_Api_RuleD (x : Api_RuleD) (r : (Option Addr × Nat) × (Option Addr × Nat)) : List Fact := [.sli 10 R_Api_CondD r.1.1 r.1.2 x.conds, .sli 4 R_Api_ActD r.2.1 r.2.2 x.acts]
def R_Api_RuleD : Rep Api_RuleD := mkRep C_Api_RuleD F_Api_RuleD (by intro x r u hu; simp [C_Api_RuleD] at hu; rcases hu with rfl | rfl | rfl | rfl | rfl <;> rfl)
theorem R_Api_RuleD_opens : Opens R_Api_RuleD C_Api_RuleD (fun _ _ => True) F_Api_RuleD := mkRep_opens
structure Api_TypeD where
  name : ByteArray
  fields : Int
def C_Api_TypeD (x : Api_TypeD) (_ : Unit) : List Value := [.string x.name, .int .i64 x.fields]
def F_Api_TypeD (_ : Api_TypeD) (_ : Unit) : List Fact := []
def R_Api_TypeD : Rep Api_TypeD := mkRep C_Api_TypeD F_Api_TypeD (by intro x r u hu; simp [C_Api_TypeD] at hu; rcases hu with rfl | rfl <;> rfl)
def C_bool (x : Bool) (_ : Unit) : List Value := [.bool x]
def F_bool (_ : Bool) (_ : Unit) : List Fact := []
def R_bool : Rep Bool := mkRep C_bool F_bool (by intro x r u hu; simp [C_bool] at hu; subst hu; rfl)
theorem R_bool_opens : Opens R_bool C_bool (fun _ _ => True) F_bool := mkRep_opens
def G_Api_TokenD (x : Api_TokenD) (r : Option Addr × Nat) : List Fact := [.own 3 1 R_i64 (.slice r.1 x.ids.length r.2) x.ids]
def T_Api_TokenD : Tre Api_TokenD (Option Addr × Nat) := ⟨C_Api_TokenD, G_Api_TokenD, by intro x r u hu; simp [C_Api_TokenD] at hu; rcases hu with rfl | rfl <;> rfl⟩
theorem T_Api_TokenD_lend : ∀ x r N F w, Star (T_Api_TokenD.G x r) N F w → R_Api_TokenD.p (fun q => N q ∨ F q) w (T_Api_TokenD.C x r) x := by
  rintro x r N F w ⟨A0, B0, a0, b0, h0, _⟩
  exact ⟨r, rfl, ask_cons (op_sli h0 (fun q hq => .inl (a0 q hq)) (fun _ hq => .inr hq)) (ask_nil)⟩
def ok_Api_TokenD (x : Api_TokenD) : Prop := inK .i64 x.rule ∧ (x.ids.length ≤ 17592186043904 ∧ ∀ y ∈ x.ids, inK .i64 y)
end Go.Proofs.YtgangmegcejllaaDoor
