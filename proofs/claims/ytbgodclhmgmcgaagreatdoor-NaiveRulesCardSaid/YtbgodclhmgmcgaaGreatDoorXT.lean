import Derived.Test.YtbgodclhmgmcgaaGreatDoorProg
import Derived.Laws.BytesArg
import Derived.Laws.BytesString
import Derived.Laws.IdiomStrings
import Derived.Lib.LaidTab
import Derived.Lib.ItoaNum
import Derived.LaidSub
import Derived.Test.YtbgodclhmgmcgaaGreatDoorRec
import Derived.Test.YtbgodclhmgmcgaaGreatDoorGrow
namespace Go.Proofs.YtbgodclhmgmcgaaGreatDoor
open Go.RowKit
structure Qk where
 name:ByteArray
 fields:Int
def QbX (x:Qk) (_:Unit):List Value:=[.string x.name,.int .i64 x.fields]
def F_Api_TypeD (_:Qk) (_:Unit):List Fact:=[]
def Qc:Rep Qk:=Q92 QbX F_Api_TypeD (by intro x r u hu; simp [QbX] at hu; rcases hu with rfl | rfl <;> rfl)
theorem Q3v:Q78 Qc QbX (fun _ _=>True) F_Api_TypeD:=Q3g
structure Qm where
 kind:Int
 value:V
 var:Int
 op:Int
 kids:List Qm
structure QK where
 kind:Int
 type:Int
 args:List Q4D
 test:Qm
structure Q17 where
 kind:Int
 type:Int
 which:Int
 exprs:List Qm
structure Qh where
 name:ByteArray
 salience:Int
 vars:Int
 conds:List QK
 acts:List Q17
def C_ArgD (x:Q4D) (_:Unit):List Value:=[.int .u8 x.k,.int .i64 x.var,.int .u8 x.v.k,.int .i64 x.v.n,.string x.v.s]
def F_ArgD (_:Q4D) (_:Unit):List Fact:=[]
def Q2I:Rep Q4D:=Q92 C_ArgD F_ArgD (by intro x r u hu; simp [C_ArgD] at hu; rcases hu with rfl | rfl | rfl | rfl | rfl <;> rfl)
theorem R_ArgD_opens:Q78 Q2I C_ArgD (fun _ _=>True) F_ArgD:=Q3g
def Qam (x:Qm) (r:Option Addr × Nat):List Value:=[.int .u8 x.kind,.int .u8 x.value.k,.int .i64 x.value.n,.string x.value.s,.int .i64 x.var,.int .u8 x.op,.slice r.1 x.kids.length r.2]
def Qz:Rep Qm:=recR Qam (fun x=>x.kids) 7 (by intro x r u hu; simp [Qam] at hu; rcases hu with rfl | rfl | rfl | rfl | rfl | rfl | rfl <;> rfl)
def F_Api_ExprD (x:Qm) (r:Option Addr × Nat):List Fact:=[.sli 7 Qz r.1 r.2 x.kids]
theorem Q5w:Q78 Qz Qam (fun _ _=>True) F_Api_ExprD:=rec_opens
def QbU (x:QK) (r:(Option Addr × Nat) × (Option Addr × Nat)):List Value:=[.int .u8 x.kind,.int .i64 x.type,.slice r.1.1 x.args.length r.1.2,.int .u8 x.test.kind,.int .u8 x.test.value.k,.int .i64 x.test.value.n,.string x.test.value.s,.int .i64 x.test.var,.int .u8 x.test.op,.slice r.2.1 x.test.kids.length r.2.2]
def F_Api_CondD (x:QK) (r:(Option Addr × Nat) × (Option Addr × Nat)):List Fact:=[.sli 5 Q2I r.1.1 r.1.2 x.args,.sli 7 Qz r.2.1 r.2.2 x.test.kids]
def QQ:Rep QK:=Q92 QbU F_Api_CondD (by intro x r u hu; simp [QbU] at hu; rcases hu with rfl | rfl | rfl | rfl | rfl | rfl | rfl | rfl | rfl | rfl <;> rfl)
theorem Q4q:Q78 QQ QbU (fun _ _=>True) F_Api_CondD:=Q3g
def C_Api_ActD (x:Q17) (r:Option Addr × Nat):List Value:=[.int .u8 x.kind,.int .i64 x.type,.int .i64 x.which,.slice r.1 x.exprs.length r.2]
def F_Api_ActD (x:Q17) (r:Option Addr × Nat):List Fact:=[.sli 7 Qz r.1 r.2 x.exprs]
def QW:Rep Q17:=Q92 C_Api_ActD F_Api_ActD (by intro x r u hu; simp [C_Api_ActD] at hu; rcases hu with rfl | rfl | rfl | rfl <;> rfl)
theorem QaS:Q78 QW C_Api_ActD (fun _ _=>True) F_Api_ActD:=Q3g
def QbW (x:Qh) (r:(Option Addr × Nat) × (Option Addr × Nat)):List Value:=[.string x.name,.int .i64 x.salience,.int .i64 x.vars,.slice r.1.1 x.conds.length r.1.2,.slice r.2.1 x.acts.length r.2.2]
def F_Api_RuleD (x:Qh) (r:(Option Addr × Nat) × (Option Addr × Nat)):List Fact:=[.sli 10 QQ r.1.1 r.1.2 x.conds,.sli 4 QW r.2.1 r.2.2 x.acts]
def Qb:Rep Qh:=Q92 QbW F_Api_RuleD (by intro x r u hu; simp [QbW] at hu; rcases hu with rfl | rfl | rfl | rfl | rfl <;> rfl)
theorem Q3u:Q78 Qb QbW (fun _ _=>True) F_Api_RuleD:=Q3g
def C_V (x:V) (_:Unit):List Value:=[.int .u8 x.k,.int .i64 x.n,.string x.s]
def F_V (_:V) (_:Unit):List Fact:=[]
def R_V:Rep V:=Q92 C_V F_V (by intro x r u hu; simp [C_V] at hu; rcases hu with rfl | rfl | rfl <;> rfl)
theorem Q63:Q78 R_V C_V (fun _ _=>True) F_V:=Q3g
def C_FactD (x:QE) (r:Option Addr × Nat):List Value:=[.int .i64 x.id,.int .i64 x.ty,.slice r.1 x.args.length r.2]
def F_FactD (x:QE) (r:Option Addr × Nat):List Fact:=[.sli 3 R_V r.1 r.2 x.args]
def Q19:Rep QE:=Q92 C_FactD F_FactD (by intro x r u hu; simp [C_FactD] at hu; rcases hu with rfl | rfl | rfl <;> rfl)
theorem Q3t:Q78 Q19 C_FactD (fun _ _=>True) F_FactD:=Q3g
def C_str (x:ByteArray) (_:Unit):List Value:=[.string x]
def F_str (_:ByteArray) (_:Unit):List Fact:=[]
def Q1r:Rep ByteArray:=Q92 C_str F_str (by intro x r u hu; simp [C_str] at hu; subst hu; rfl)
theorem Q6p:Q78 Q1r C_str (fun _ _=>True) F_str:=Q3g
structure Q18 where
 kind:Int
 text:ByteArray
 at_:Int
def C_Api_LexD (x:Q18) (_:Unit):List Value:=[.int .u8 x.kind,.string x.text,.int .i64 x.at_]
def F_Api_LexD (_:Q18) (_:Unit):List Fact:=[]
def QY:Rep Q18:=Q92 C_Api_LexD F_Api_LexD (by intro x r u hu; simp [C_Api_LexD] at hu; rcases hu with rfl | rfl | rfl <;> rfl)
theorem R_Api_LexD_opens:Q78 QY C_Api_LexD (fun _ _=>True) F_Api_LexD:=Q3g
structure Qd where
 kind:Int
 text:ByteArray
 num:Int
 at_:Int
 kids:List Qd
def QbV (x:Qd) (r:Option Addr × Nat):List Value:=[.int .u8 x.kind,.string x.text,.int .i64 x.num,.int .i64 x.at_,.slice r.1 x.kids.length r.2]
def Qq:Rep Qd:=recR QbV (fun x=>x.kids) 5 (by intro x r u hu; simp [QbV] at hu; rcases hu with rfl | rfl | rfl | rfl | rfl <;> rfl)
def F_Api_NodeD (x:Qd) (r:Option Addr × Nat):List Fact:=[.sli 5 Qq r.1 r.2 x.kids]
theorem Q1n:Q78 Qq QbV (fun _ _=>True) F_Api_NodeD:=rec_opens
def C_l_str (x:List ByteArray) (r:Option Addr × Nat):List Value:=[.slice r.1 x.length r.2]
def G_l_str (x:List ByteArray) (r:Option Addr × Nat):List Fact:=[.own 9 1 Q1r (.slice r.1 x.length r.2) x]
def Q5W:Tre (List ByteArray) (Option Addr × Nat):=⟨C_l_str,G_l_str,by intro x r u hu; simp [C_l_str] at hu; subst hu; rfl⟩
def C_u8 (x:Int) (_:Unit):List Value:=[.int .u8 x]
def F_u8 (_:Int) (_:Unit):List Fact:=[]
def R_u8:Rep Int:=Q92 C_u8 F_u8 (by intro x r u hu; simp [C_u8] at hu; subst hu; rfl)
theorem R_u8_opens:Q78 R_u8 C_u8 (fun _ _=>True) F_u8:=Q3g
def G_FactD (x:QE) (r:Option Addr × Nat):List Fact:=[.own 57 3 R_V (.slice r.1 x.args.length r.2) x.args]
def Q1C:Tre QE (Option Addr × Nat):=⟨C_FactD,G_FactD,by intro x r u hu; simp [C_FactD] at hu; rcases hu with rfl | rfl | rfl <;> rfl⟩
theorem Q7y : ∀ x r N F w,Star (Q1C.G x r) N F w → Q19.p (fun q=>N q ∨ F q) w (Q1C.C x r) x:=by
 rintro x r N F w ⟨A0,B0,a0,b0,h0,_⟩
 exact ⟨r,rfl,QZ (op_sli h0 (fun q hq=>.inl (a0 q hq)) (fun _ hq=>.inr hq)) (Qv)⟩
structure Qu where
 rule:Int
 ids:List Int
def Q9N (x:Int) (_:Unit):List Value:=[.int .i64 x]
def F_i64 (_:Int) (_:Unit):List Fact:=[]
def Q25:Rep Int:=Q92 Q9N F_i64 (by intro x r u hu; simp [Q9N] at hu; subst hu; rfl)
theorem Qan:Q78 Q25 Q9N (fun _ _=>True) F_i64:=Q3g
def Q8c (x:Qu) (r:Option Addr × Nat):List Value:=[.int .i64 x.rule,.slice r.1 x.ids.length r.2]
def F_Api_TokenD (x:Qu) (r:Option Addr × Nat):List Fact:=[.sli 1 Q25 r.1 r.2 x.ids]
def Q1Y:Rep Qu:=Q92 Q8c F_Api_TokenD (by intro x r u hu; simp [Q8c] at hu; rcases hu with rfl | rfl <;> rfl)
theorem Q26:Q78 Q1Y Q8c (fun _ _=>True) F_Api_TokenD:=Q3g
def G_Api_TokenD (x:Qu) (r:Option Addr × Nat):List Fact:=[.own 3 1 Q25 (.slice r.1 x.ids.length r.2) x.ids]
def QM:Tre Qu (Option Addr × Nat):=⟨Q8c,G_Api_TokenD,by intro x r u hu; simp [Q8c] at hu; rcases hu with rfl | rfl <;> rfl⟩
theorem Q8e : ∀ x r N F w,Star (QM.G x r) N F w → Q1Y.p (fun q=>N q ∨ F q) w (QM.C x r) x:=by
 rintro x r N F w ⟨A0,B0,a0,b0,h0,_⟩
 exact ⟨r,rfl,QZ (op_sli h0 (fun q hq=>.inl (a0 q hq)) (fun _ hq=>.inr hq)) (Qv)⟩
def C_bool (x:Bool) (_:Unit):List Value:=[.bool x]
def F_bool (_:Bool) (_:Unit):List Fact:=[]
def Q1k:Rep Bool:=Q92 C_bool F_bool (by intro x r u hu; simp [C_bool] at hu; subst hu; rfl)
theorem Qbe:Q78 Q1k C_bool (fun _ _=>True) F_bool:=Q3g
structure Q7V where
 types:List Qk
 rules:List Qh
def Qbd (x:Q7V) (r:(Option Addr × Nat) × (Option Addr × Nat)):List Value:=[.slice r.1.1 x.types.length r.1.2,.slice r.2.1 x.rules.length r.2.2]
def F_Api_RulesD (x:Q7V) (r:(Option Addr × Nat) × (Option Addr × Nat)):List Fact:=[.sli 2 Qc r.1.1 r.1.2 x.types,.sli 5 Qb r.2.1 r.2.2 x.rules]
def R_Api_RulesD:Rep Q7V:=Q92 Qbd F_Api_RulesD (by intro x r u hu; simp [Qbd] at hu; rcases hu with rfl | rfl <;> rfl)
def Qbm (x:Qk):Prop:=x.name.size ≤ 140737488351232 ∧ inK .i64 x.fields
def ok_V (x:V):Prop:=inK .u8 x.k ∧ inK .i64 x.n ∧ x.s.size ≤ 140737488351232
def ok_ArgD (x:Q4D):Prop:=inK .u8 x.k ∧ inK .i64 x.var ∧ ok_V x.v
inductive ok_Api_ExprD:Qm → Prop
 | mk (x:Qm) (h0:inK .u8 x.kind) (h1:ok_V x.value) (h2:inK .i64 x.var) (h3:inK .u8 x.op) (h4:x.kids.length ≤ 1759218604390) (g4 : ∀ y ∈ x.kids,ok_Api_ExprD y):ok_Api_ExprD x
def Qbl (x:QK):Prop:=inK .u8 x.kind ∧ inK .i64 x.type ∧ (x.args.length ≤ 2932031007317 ∧ ∀ y ∈ x.args,ok_ArgD y) ∧ ok_Api_ExprD x.test
def Qc0 (x:Q17):Prop:=inK .u8 x.kind ∧ inK .i64 x.type ∧ inK .i64 x.which ∧ (x.exprs.length ≤ 1759218604390 ∧ ∀ y ∈ x.exprs,ok_Api_ExprD y)
def Q6L (x:Qh):Prop:=x.name.size ≤ 140737488351232 ∧ inK .i64 x.salience ∧ inK .i64 x.vars ∧ (x.conds.length ≤ 1172812402926 ∧ ∀ y ∈ x.conds,Qbl y) ∧ (x.acts.length ≤ 2932031007317 ∧ ∀ y ∈ x.acts,Qc0 y)
def QaD (x:Q7V):Prop:=(x.types.length ≤ 5864062014634 ∧ ∀ y ∈ x.types,Qbm y) ∧ (x.rules.length ≤ 1759218604390 ∧ ∀ y ∈ x.rules,Q6L y)
def ok_FactD (x:QE):Prop:=inK .i64 x.id ∧ inK .i64 x.ty ∧ (x.args.length ≤ 4398046510976 ∧ ∀ y ∈ x.args,ok_V y)
end Go.Proofs.YtbgodclhmgmcgaaGreatDoor
