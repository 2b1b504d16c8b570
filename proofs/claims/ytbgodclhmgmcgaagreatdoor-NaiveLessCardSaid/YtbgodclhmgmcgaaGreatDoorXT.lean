import Derived.Test.YtbgodclhmgmcgaaGreatDoorProg
import Derived.Laws.BytesArg
import Derived.Laws.BytesString
import Derived.Laws.IdiomStrings
import Derived.Lib.LaidTab
import Derived.Lib.ItoaNum
import Derived.LaidSub
import Derived.Test.YtbgodclhmgmcgaaGreatDoorRec
import Derived.Test.YtbgodclhmgmcgaaGreatDoorGrow
namespace Go.Proofs.YtbgodclhmgmcgaaGreatDoor
open Go.RowKit
structure Ql where
 name:ByteArray
 fields:Int
def Qc8 (x:Ql) (_:Unit):List Value:=[.string x.name,.int .i64 x.fields]
def F_Api_TypeD (_:Ql) (_:Unit):List Fact:=[]
def Qb:Rep Ql:=Q9c Qc8 F_Api_TypeD (by intro x r u hu; simp [Qc8] at hu; rcases hu with rfl | rfl <;> rfl)
theorem Q3E:Q7k Qb Qc8 (fun _ _=>True) F_Api_TypeD:=Q3p
structure Qm where
 kind:Int
 value:V
 var:Int
 op:Int
 kids:List Qm
structure QL where
 kind:Int
 type:Int
 args:List Q4O
 test:Qm
structure Q19 where
 kind:Int
 type:Int
 which:Int
 exprs:List Qm
structure Qi where
 name:ByteArray
 salience:Int
 vars:Int
 conds:List QL
 acts:List Q19
def C_ArgD (x:Q4O) (_:Unit):List Value:=[.int .u8 x.k,.int .i64 x.var,.int .u8 x.v.k,.int .i64 x.v.n,.string x.v.s]
def F_ArgD (_:Q4O) (_:Unit):List Fact:=[]
def Q2O:Rep Q4O:=Q9c C_ArgD F_ArgD (by intro x r u hu; simp [C_ArgD] at hu; rcases hu with rfl | rfl | rfl | rfl | rfl <;> rfl)
theorem R_ArgD_opens:Q7k Q2O C_ArgD (fun _ _=>True) F_ArgD:=Q3p
def Qay (x:Qm) (r:Option Addr × Nat):List Value:=[.int .u8 x.kind,.int .u8 x.value.k,.int .i64 x.value.n,.string x.value.s,.int .i64 x.var,.int .u8 x.op,.slice r.1 x.kids.length r.2]
def QA:Rep Qm:=recR Qay (fun x=>x.kids) 7 (by intro x r u hu; simp [Qay] at hu; rcases hu with rfl | rfl | rfl | rfl | rfl | rfl | rfl <;> rfl)
def F_Api_ExprD (x:Qm) (r:Option Addr × Nat):List Fact:=[.sli 7 QA r.1 r.2 x.kids]
theorem Q5F:Q7k QA Qay (fun _ _=>True) F_Api_ExprD:=rec_opens
def Qc5 (x:QL) (r:(Option Addr × Nat) × (Option Addr × Nat)):List Value:=[.int .u8 x.kind,.int .i64 x.type,.slice r.1.1 x.args.length r.1.2,.int .u8 x.test.kind,.int .u8 x.test.value.k,.int .i64 x.test.value.n,.string x.test.value.s,.int .i64 x.test.var,.int .u8 x.test.op,.slice r.2.1 x.test.kids.length r.2.2]
def F_Api_CondD (x:QL) (r:(Option Addr × Nat) × (Option Addr × Nat)):List Fact:=[.sli 5 Q2O r.1.1 r.1.2 x.args,.sli 7 QA r.2.1 r.2.2 x.test.kids]
def QR:Rep QL:=Q9c Qc5 F_Api_CondD (by intro x r u hu; simp [Qc5] at hu; rcases hu with rfl | rfl | rfl | rfl | rfl | rfl | rfl | rfl | rfl | rfl <;> rfl)
theorem Q3C:Q7k QR Qc5 (fun _ _=>True) F_Api_CondD:=Q3p
def C_Api_ActD (x:Q19) (r:Option Addr × Nat):List Value:=[.int .u8 x.kind,.int .i64 x.type,.int .i64 x.which,.slice r.1 x.exprs.length r.2]
def F_Api_ActD (x:Q19) (r:Option Addr × Nat):List Fact:=[.sli 7 QA r.1 r.2 x.exprs]
def QZ:Rep Q19:=Q9c C_Api_ActD F_Api_ActD (by intro x r u hu; simp [C_Api_ActD] at hu; rcases hu with rfl | rfl | rfl | rfl <;> rfl)
theorem Qb2:Q7k QZ C_Api_ActD (fun _ _=>True) F_Api_ActD:=Q3p
def Qc7 (x:Qi) (r:(Option Addr × Nat) × (Option Addr × Nat)):List Value:=[.string x.name,.int .i64 x.salience,.int .i64 x.vars,.slice r.1.1 x.conds.length r.1.2,.slice r.2.1 x.acts.length r.2.2]
def F_Api_RuleD (x:Qi) (r:(Option Addr × Nat) × (Option Addr × Nat)):List Fact:=[.sli 10 QR r.1.1 r.1.2 x.conds,.sli 4 QZ r.2.1 r.2.2 x.acts]
def Qa:Rep Qi:=Q9c Qc7 F_Api_RuleD (by intro x r u hu; simp [Qc7] at hu; rcases hu with rfl | rfl | rfl | rfl | rfl <;> rfl)
theorem Q3D:Q7k Qa Qc7 (fun _ _=>True) F_Api_RuleD:=Q3p
def C_V (x:V) (_:Unit):List Value:=[.int .u8 x.k,.int .i64 x.n,.string x.s]
def F_V (_:V) (_:Unit):List Fact:=[]
def R_V:Rep V:=Q9c C_V F_V (by intro x r u hu; simp [C_V] at hu; rcases hu with rfl | rfl | rfl <;> rfl)
theorem Q6f:Q7k R_V C_V (fun _ _=>True) F_V:=Q3p
def C_FactD (x:Qz) (r:Option Addr × Nat):List Value:=[.int .i64 x.id,.int .i64 x.ty,.slice r.1 x.args.length r.2]
def F_FactD (x:Qz) (r:Option Addr × Nat):List Fact:=[.sli 3 R_V r.1 r.2 x.args]
def QP:Rep Qz:=Q9c C_FactD F_FactD (by intro x r u hu; simp [C_FactD] at hu; rcases hu with rfl | rfl | rfl <;> rfl)
theorem Q3c:Q7k QP C_FactD (fun _ _=>True) F_FactD:=Q3p
def C_str (x:ByteArray) (_:Unit):List Value:=[.string x]
def F_str (_:ByteArray) (_:Unit):List Fact:=[]
def Q1u:Rep ByteArray:=Q9c C_str F_str (by intro x r u hu; simp [C_str] at hu; subst hu; rfl)
theorem Q6A:Q7k Q1u C_str (fun _ _=>True) F_str:=Q3p
structure Q1b where
 kind:Int
 text:ByteArray
 at_:Int
def C_Api_LexD (x:Q1b) (_:Unit):List Value:=[.int .u8 x.kind,.string x.text,.int .i64 x.at_]
def F_Api_LexD (_:Q1b) (_:Unit):List Fact:=[]
def Q10:Rep Q1b:=Q9c C_Api_LexD F_Api_LexD (by intro x r u hu; simp [C_Api_LexD] at hu; rcases hu with rfl | rfl | rfl <;> rfl)
theorem R_Api_LexD_opens:Q7k Q10 C_Api_LexD (fun _ _=>True) F_Api_LexD:=Q3p
structure Qe where
 kind:Int
 text:ByteArray
 num:Int
 at_:Int
 kids:List Qe
def Qc6 (x:Qe) (r:Option Addr × Nat):List Value:=[.int .u8 x.kind,.string x.text,.int .i64 x.num,.int .i64 x.at_,.slice r.1 x.kids.length r.2]
def Qq:Rep Qe:=recR Qc6 (fun x=>x.kids) 5 (by intro x r u hu; simp [Qc6] at hu; rcases hu with rfl | rfl | rfl | rfl | rfl <;> rfl)
def F_Api_NodeD (x:Qe) (r:Option Addr × Nat):List Fact:=[.sli 5 Qq r.1 r.2 x.kids]
theorem Q1q:Q7k Qq Qc6 (fun _ _=>True) F_Api_NodeD:=rec_opens
def C_l_str (x:List ByteArray) (r:Option Addr × Nat):List Value:=[.slice r.1 x.length r.2]
def G_l_str (x:List ByteArray) (r:Option Addr × Nat):List Fact:=[.own 9 1 Q1u (.slice r.1 x.length r.2) x]
def Q67:Tre (List ByteArray) (Option Addr × Nat):=⟨C_l_str,G_l_str,by intro x r u hu; simp [C_l_str] at hu; subst hu; rfl⟩
def C_u8 (x:Int) (_:Unit):List Value:=[.int .u8 x]
def F_u8 (_:Int) (_:Unit):List Fact:=[]
def R_u8:Rep Int:=Q9c C_u8 F_u8 (by intro x r u hu; simp [C_u8] at hu; subst hu; rfl)
theorem R_u8_opens:Q7k R_u8 C_u8 (fun _ _=>True) F_u8:=Q3p
def G_FactD (x:Qz) (r:Option Addr × Nat):List Fact:=[.own 57 3 R_V (.slice r.1 x.args.length r.2) x.args]
def Q11:Tre Qz (Option Addr × Nat):=⟨C_FactD,G_FactD,by intro x r u hu; simp [C_FactD] at hu; rcases hu with rfl | rfl | rfl <;> rfl⟩
theorem Q2X : ∀ x r N F w,Star (Q11.G x r) N F w → QP.p (fun q=>N q ∨ F q) w (Q11.C x r) x:=by
 rintro x r N F w ⟨A0,B0,a0,b0,h0,_⟩
 exact ⟨r,rfl,Q14 (op_sli h0 (fun q hq=>.inl (a0 q hq)) (fun _ hq=>.inr hq)) (Qu)⟩
structure Qv where
 rule:Int
 ids:List Int
def Q9Z (x:Int) (_:Unit):List Value:=[.int .i64 x]
def F_i64 (_:Int) (_:Unit):List Fact:=[]
def Q20:Rep Int:=Q9c Q9Z F_i64 (by intro x r u hu; simp [Q9Z] at hu; subst hu; rfl)
theorem Q9a:Q7k Q20 Q9Z (fun _ _=>True) F_i64:=Q3p
def Q8l (x:Qv) (r:Option Addr × Nat):List Value:=[.int .i64 x.rule,.slice r.1 x.ids.length r.2]
def F_Api_TokenD (x:Qv) (r:Option Addr × Nat):List Fact:=[.sli 1 Q20 r.1 r.2 x.ids]
def Q1x:Rep Qv:=Q9c Q8l F_Api_TokenD (by intro x r u hu; simp [Q8l] at hu; rcases hu with rfl | rfl <;> rfl)
theorem Q1T:Q7k Q1x Q8l (fun _ _=>True) F_Api_TokenD:=Q3p
def G_Api_TokenD (x:Qv) (r:Option Addr × Nat):List Fact:=[.own 3 1 Q20 (.slice r.1 x.ids.length r.2) x.ids]
def QN:Tre Qv (Option Addr × Nat):=⟨Q8l,G_Api_TokenD,by intro x r u hu; simp [Q8l] at hu; rcases hu with rfl | rfl <;> rfl⟩
theorem Q8m : ∀ x r N F w,Star (QN.G x r) N F w → Q1x.p (fun q=>N q ∨ F q) w (QN.C x r) x:=by
 rintro x r N F w ⟨A0,B0,a0,b0,h0,_⟩
 exact ⟨r,rfl,Q14 (op_sli h0 (fun q hq=>.inl (a0 q hq)) (fun _ hq=>.inr hq)) (Qu)⟩
def C_bool (x:Bool) (_:Unit):List Value:=[.bool x]
def F_bool (_:Bool) (_:Unit):List Fact:=[]
def Q1n:Rep Bool:=Q9c C_bool F_bool (by intro x r u hu; simp [C_bool] at hu; subst hu; rfl)
theorem Qbo:Q7k Q1n C_bool (fun _ _=>True) F_bool:=Q3p
structure Q84 where
 types:List Ql
 rules:List Qi
def Qbn (x:Q84) (r:(Option Addr × Nat) × (Option Addr × Nat)):List Value:=[.slice r.1.1 x.types.length r.1.2,.slice r.2.1 x.rules.length r.2.2]
def F_Api_RulesD (x:Q84) (r:(Option Addr × Nat) × (Option Addr × Nat)):List Fact:=[.sli 2 Qb r.1.1 r.1.2 x.types,.sli 5 Qa r.2.1 r.2.2 x.rules]
def R_Api_RulesD:Rep Q84:=Q9c Qbn F_Api_RulesD (by intro x r u hu; simp [Qbn] at hu; rcases hu with rfl | rfl <;> rfl)
def Qbx (x:Ql):Prop:=x.name.size ≤ 140737488351232 ∧ inK .i64 x.fields
def ok_V (x:V):Prop:=inK .u8 x.k ∧ inK .i64 x.n ∧ x.s.size ≤ 140737488351232
def ok_ArgD (x:Q4O):Prop:=inK .u8 x.k ∧ inK .i64 x.var ∧ ok_V x.v
inductive ok_Api_ExprD:Qm → Prop
 | mk (x:Qm) (h0:inK .u8 x.kind) (h1:ok_V x.value) (h2:inK .i64 x.var) (h3:inK .u8 x.op) (h4:x.kids.length ≤ 1759218604390) (g4 : ∀ y ∈ x.kids,ok_Api_ExprD y):ok_Api_ExprD x
def Qbw (x:QL):Prop:=inK .u8 x.kind ∧ inK .i64 x.type ∧ (x.args.length ≤ 2932031007317 ∧ ∀ y ∈ x.args,ok_ArgD y) ∧ ok_Api_ExprD x.test
def Qcb (x:Q19):Prop:=inK .u8 x.kind ∧ inK .i64 x.type ∧ inK .i64 x.which ∧ (x.exprs.length ≤ 1759218604390 ∧ ∀ y ∈ x.exprs,ok_Api_ExprD y)
def Q6X (x:Qi):Prop:=x.name.size ≤ 140737488351232 ∧ inK .i64 x.salience ∧ inK .i64 x.vars ∧ (x.conds.length ≤ 1172812402926 ∧ ∀ y ∈ x.conds,Qbw y) ∧ (x.acts.length ≤ 2932031007317 ∧ ∀ y ∈ x.acts,Qcb y)
def QaN (x:Q84):Prop:=(x.types.length ≤ 5864062014634 ∧ ∀ y ∈ x.types,Qbx y) ∧ (x.rules.length ≤ 1759218604390 ∧ ∀ y ∈ x.rules,Q6X y)
def ok_FactD (x:Qz):Prop:=inK .i64 x.id ∧ inK .i64 x.ty ∧ (x.args.length ≤ 4398046510976 ∧ ∀ y ∈ x.args,ok_V y)
end Go.Proofs.YtbgodclhmgmcgaaGreatDoor
