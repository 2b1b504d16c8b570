import Derived.Test.YtbgodclhmgmcgaaGreatDoorProg
import Derived.Shelf.SlSortCmp.InsertionK
import Derived.Laws.BytesArg
import Derived.Laws.BytesString
import Derived.Laws.IdiomStrings
import Derived.Lib.LaidTab
import Derived.Lib.ItoaNum
import Derived.LaidSub
import Derived.Test.YtbgodclhmgmcgaaGreatDoorEqB
import Derived.Test.YtbgodclhmgmcgaaGreatDoorEq
import Derived.Test.YtbgodclhmgmcgaaGreatDoorSh
import Derived.Test.YtbgodclhmgmcgaaGreatDoorRec
import Derived.Test.YtbgodclhmgmcgaaGreatDoorGrow
namespace Go.Proofs.YtbgodclhmgmcgaaGreatDoor
open Go.RowKit
def C_str (x:ByteArray) (_:Unit):List Value:=[.string x]
def F_str (_:ByteArray) (_:Unit):List Fact:=[]
def Q1y:Rep ByteArray:=Q90 C_str F_str (by intro x r u hu; simp [C_str] at hu; subst hu; rfl)
theorem Q5E:Q6s Q1y C_str (fun _ _=>True) F_str:=Q2W
structure Q1f where
 kind:Int
 text:ByteArray
 at_:Int
def C_Api_LexD (x:Q1f) (_:Unit):List Value:=[.int .u8 x.kind,.string x.text,.int .i64 x.at_]
def F_Api_LexD (_:Q1f) (_:Unit):List Fact:=[]
def QP:Rep Q1f:=Q90 C_Api_LexD F_Api_LexD (by intro x r u hu; simp [C_Api_LexD] at hu; rcases hu with rfl | rfl | rfl <;> rfl)
theorem R_Api_LexD_opens:Q6s QP C_Api_LexD (fun _ _=>True) F_Api_LexD:=Q2W
structure Qa where
 kind:Int
 text:ByteArray
 num:Int
 at_:Int
 kids:List Qa
def Qbf (x:Qa) (r:Option Addr × Nat):List Value:=[.int .u8 x.kind,.string x.text,.int .i64 x.num,.int .i64 x.at_,.slice r.1 x.kids.length r.2]
def Qi:Rep Qa:=recR Qbf (fun x=>x.kids) 5 (by intro x r u hu; simp [Qbf] at hu; rcases hu with rfl | rfl | rfl | rfl | rfl <;> rfl)
def F_Api_NodeD (x:Qa) (r:Option Addr × Nat):List Fact:=[.sli 5 Qi r.1 r.2 x.kids]
theorem Q1t:Q6s Qi Qbf (fun _ _=>True) F_Api_NodeD:=rec_opens
def C_l_str (x:List ByteArray) (r:Option Addr × Nat):List Value:=[.slice r.1 x.length r.2]
def G_l_str (x:List ByteArray) (r:Option Addr × Nat):List Fact:=[.own 9 1 Q1y (.slice r.1 x.length r.2) x]
def Q5b:Tre (List ByteArray) (Option Addr × Nat):=⟨C_l_str,G_l_str,by intro x r u hu; simp [C_l_str] at hu; subst hu; rfl⟩
def C_u8 (x:Int) (_:Unit):List Value:=[.int .u8 x]
def F_u8 (_:Int) (_:Unit):List Fact:=[]
def R_u8:Rep Int:=Q90 C_u8 F_u8 (by intro x r u hu; simp [C_u8] at hu; subst hu; rfl)
theorem R_u8_opens:Q6s R_u8 C_u8 (fun _ _=>True) F_u8:=Q2W
structure Qn where
 name:ByteArray
 fields:Int
def Qbh (x:Qn) (_:Unit):List Value:=[.string x.name,.int .i64 x.fields]
def F_Api_TypeD (_:Qn) (_:Unit):List Fact:=[]
def Qf:Rep Qn:=Q90 Qbh F_Api_TypeD (by intro x r u hu; simp [Qbh] at hu; rcases hu with rfl | rfl <;> rfl)
theorem Q37:Q6s Qf Qbh (fun _ _=>True) F_Api_TypeD:=Q2W
structure Qo where
 kind:Int
 value:V
 var:Int
 op:Int
 kids:List Qo
structure QN where
 kind:Int
 type:Int
 args:List Q3B
 test:Qo
structure Q1c where
 kind:Int
 type:Int
 which:Int
 exprs:List Qo
structure Qp where
 name:ByteArray
 salience:Int
 vars:Int
 conds:List QN
 acts:List Q1c
def C_ArgD (x:Q3B) (_:Unit):List Value:=[.int .u8 x.k,.int .i64 x.var,.int .u8 x.v.k,.int .i64 x.v.n,.string x.v.s]
def F_ArgD (_:Q3B) (_:Unit):List Fact:=[]
def Q2x:Rep Q3B:=Q90 C_ArgD F_ArgD (by intro x r u hu; simp [C_ArgD] at hu; rcases hu with rfl | rfl | rfl | rfl | rfl <;> rfl)
theorem R_ArgD_opens:Q6s Q2x C_ArgD (fun _ _=>True) F_ArgD:=Q2W
def Qbe (x:Qo) (r:Option Addr × Nat):List Value:=[.int .u8 x.kind,.int .u8 x.value.k,.int .i64 x.value.n,.string x.value.s,.int .i64 x.var,.int .u8 x.op,.slice r.1 x.kids.length r.2]
def QB:Rep Qo:=recR Qbe (fun x=>x.kids) 7 (by intro x r u hu; simp [Qbe] at hu; rcases hu with rfl | rfl | rfl | rfl | rfl | rfl | rfl <;> rfl)
def F_Api_ExprD (x:Qo) (r:Option Addr × Nat):List Fact:=[.sli 7 QB r.1 r.2 x.kids]
theorem Q36:Q6s QB Qbe (fun _ _=>True) F_Api_ExprD:=rec_opens
def Qbd (x:QN) (r:(Option Addr × Nat) × (Option Addr × Nat)):List Value:=[.int .u8 x.kind,.int .i64 x.type,.slice r.1.1 x.args.length r.1.2,.int .u8 x.test.kind,.int .u8 x.test.value.k,.int .i64 x.test.value.n,.string x.test.value.s,.int .i64 x.test.var,.int .u8 x.test.op,.slice r.2.1 x.test.kids.length r.2.2]
def F_Api_CondD (x:QN) (r:(Option Addr × Nat) × (Option Addr × Nat)):List Fact:=[.sli 5 Q2x r.1.1 r.1.2 x.args,.sli 7 QB r.2.1 r.2.2 x.test.kids]
def QZ:Rep QN:=Q90 Qbd F_Api_CondD (by intro x r u hu; simp [Qbd] at hu; rcases hu with rfl | rfl | rfl | rfl | rfl | rfl | rfl | rfl | rfl | rfl <;> rfl)
theorem Q6t:Q6s QZ Qbd (fun _ _=>True) F_Api_CondD:=Q2W
def C_Api_ActD (x:Q1c) (r:Option Addr × Nat):List Value:=[.int .u8 x.kind,.int .i64 x.type,.int .i64 x.which,.slice r.1 x.exprs.length r.2]
def F_Api_ActD (x:Q1c) (r:Option Addr × Nat):List Fact:=[.sli 7 QB r.1 r.2 x.exprs]
def Q1n:Rep Q1c:=Q90 C_Api_ActD F_Api_ActD (by intro x r u hu; simp [C_Api_ActD] at hu; rcases hu with rfl | rfl | rfl | rfl <;> rfl)
theorem R_Api_ActD_opens:Q6s Q1n C_Api_ActD (fun _ _=>True) F_Api_ActD:=Q2W
def Qbg (x:Qp) (r:(Option Addr × Nat) × (Option Addr × Nat)):List Value:=[.string x.name,.int .i64 x.salience,.int .i64 x.vars,.slice r.1.1 x.conds.length r.1.2,.slice r.2.1 x.acts.length r.2.2]
def F_Api_RuleD (x:Qp) (r:(Option Addr × Nat) × (Option Addr × Nat)):List Fact:=[.sli 10 QZ r.1.1 r.1.2 x.conds,.sli 4 Q1n r.2.1 r.2.2 x.acts]
def Qe:Rep Qp:=Q90 Qbg F_Api_RuleD (by intro x r u hu; simp [Qbg] at hu; rcases hu with rfl | rfl | rfl | rfl | rfl <;> rfl)
theorem Q3T:Q6s Qe Qbg (fun _ _=>True) F_Api_RuleD:=Q2W
def C_V (x:V) (_:Unit):List Value:=[.int .u8 x.k,.int .i64 x.n,.string x.s]
def F_V (_:V) (_:Unit):List Fact:=[]
def R_V:Rep V:=Q90 C_V F_V (by intro x r u hu; simp [C_V] at hu; rcases hu with rfl | rfl | rfl <;> rfl)
theorem Q6d:Q6s R_V C_V (fun _ _=>True) F_V:=Q2W
def C_FactD (x:QU) (r:Option Addr × Nat):List Value:=[.int .i64 x.id,.int .i64 x.ty,.slice r.1 x.args.length r.2]
def F_FactD (x:QU) (r:Option Addr × Nat):List Fact:=[.sli 3 R_V r.1 r.2 x.args]
def Q4N:Rep QU:=Q90 C_FactD F_FactD (by intro x r u hu; simp [C_FactD] at hu; rcases hu with rfl | rfl | rfl <;> rfl)
theorem Q74:Q6s Q4N C_FactD (fun _ _=>True) F_FactD:=Q2W
def G_FactD (x:QU) (r:Option Addr × Nat):List Fact:=[.own 57 3 R_V (.slice r.1 x.args.length r.2) x.args]
def QM:Tre QU (Option Addr × Nat):=⟨C_FactD,G_FactD,by intro x r u hu; simp [C_FactD] at hu; rcases hu with rfl | rfl | rfl <;> rfl⟩
theorem Q95 : ∀ x r N F w,Star (QM.G x r) N F w → Q4N.p (fun q=>N q ∨ F q) w (QM.C x r) x:=by
 rintro x r N F w ⟨A0,B0,a0,b0,h0,_⟩
 exact ⟨r,rfl,QS (op_sli h0 (fun q hq=>.inl (a0 q hq)) (fun _ hq=>.inr hq)) (Qr)⟩
structure QL where
 rule:Int
 ids:List Int
def C_i64 (x:Int) (_:Unit):List Value:=[.int .i64 x]
def F_i64 (_:Int) (_:Unit):List Fact:=[]
def Q2i:Rep Int:=Q90 C_i64 F_i64 (by intro x r u hu; simp [C_i64] at hu; subst hu; rfl)
theorem R_i64_opens:Q6s Q2i C_i64 (fun _ _=>True) F_i64:=Q2W
def QaA (x:QL) (r:Option Addr × Nat):List Value:=[.int .i64 x.rule,.slice r.1 x.ids.length r.2]
def F_Api_TokenD (x:QL) (r:Option Addr × Nat):List Fact:=[.sli 1 Q2i r.1 r.2 x.ids]
def Q12:Rep QL:=Q90 QaA F_Api_TokenD (by intro x r u hu; simp [QaA] at hu; rcases hu with rfl | rfl <;> rfl)
theorem Q2U:Q6s Q12 QaA (fun _ _=>True) F_Api_TokenD:=Q2W
def C_bool (x:Bool) (_:Unit):List Value:=[.bool x]
def F_bool (_:Bool) (_:Unit):List Fact:=[]
def Q1v:Rep Bool:=Q90 C_bool F_bool (by intro x r u hu; simp [C_bool] at hu; subst hu; rfl)
theorem QaB:Q6s Q1v C_bool (fun _ _=>True) F_bool:=Q2W
end Go.Proofs.YtbgodclhmgmcgaaGreatDoor
