import Derived.Test.YtgangmegcejllaaGreatDoorProg
import Derived.Test.YtgangmegcejllaaGreatDoorEqB
import Derived.Test.YtgangmegcejllaaGreatDoorSrtA
import Derived.Test.YtgangmegcejllaaGreatDoorRec
import Derived.Test.YtgangmegcejllaaGreatDoorMapP
import Derived.Test.YtgangmegcejllaaGreatDoorRun
namespace Go.Proofs.YtgangmegcejllaaGreatDoor
open Go.RowKit
def C_i64 (x:Int) (_:Unit):List Value:=[.int .i64 x]
def F_i64 (_:Int) (_:Unit):List Fact:=[]
def Qi:Rep Int:=Q8G C_i64 F_i64 (by intro x r u hu; simp [C_i64] at hu; subst hu; rfl)
theorem Q1K:Q7T Qi C_i64 (fun _ _=>True) F_i64:=Q6E
structure Q1 where
 rule:Int
 ids:List Int
structure Q3c where
 op:Int
 which:Int
 l:List Q1
def Q7K (x:Q1) (r:Option Addr × Nat):List Value:=[.int .i64 x.rule,.slice r.1 x.ids.length r.2]
def F_Api_TokenD (x:Q1) (r:Option Addr × Nat):List Fact:=[.sli 1 Qi r.1 r.2 x.ids]
def Q9:Rep Q1:=Q8G Q7K F_Api_TokenD (by intro x r u hu; simp [Q7K] at hu; rcases hu with rfl | rfl <;> rfl)
theorem Qa:Q7T Q9 Q7K (fun _ _=>True) F_Api_TokenD:=Q6E
def Q7m (x:Q3c) (r:Option Addr × Nat):List Value:=[.int .i64 x.op,.int .i64 x.which,.slice r.1 x.l.length r.2]
def Q8r (x:Q3c) (r:Option Addr × Nat):List Fact:=[.sli 2 Q9 r.1 r.2 x.l]
def Q2p:Rep Q3c:=Q8G Q7m Q8r (by intro x r u hu; simp [Q7m] at hu; rcases hu with rfl | rfl | rfl <;> rfl)
theorem Q7h:Q7T Q2p Q7m (fun _ _=>True) Q8r:=Q6E
structure Q12 where
 kind:Int
 value:V
 var:Int
 op:Int
 kids:List Q12
structure Q2X where
 kind:Int
 type:Int
 args:List ArgD
 test:Q12
structure Q3G where
 kind:Int
 type:Int
 which:Int
 exprs:List Q12
structure QG where
 name:ByteArray
 salience:Int
 vars:Int
 conds:List Q2X
 acts:List Q3G
def C_ArgD (x:ArgD) (_:Unit):List Value:=[.int .u8 x.k,.int .i64 x.var,.int .u8 x.v.k,.int .i64 x.v.n,.string x.v.s]
def F_ArgD (_:ArgD) (_:Unit):List Fact:=[]
def Q9v:Rep ArgD:=Q8G C_ArgD F_ArgD (by intro x r u hu; simp [C_ArgD] at hu; rcases hu with rfl | rfl | rfl | rfl | rfl <;> rfl)
def Q9R (x:Q12) (r:Option Addr × Nat):List Value:=[.int .u8 x.kind,.int .u8 x.value.k,.int .i64 x.value.n,.string x.value.s,.int .i64 x.var,.int .u8 x.op,.slice r.1 x.kids.length r.2]
def Q1C:Rep Q12:=recR Q9R (fun x=>x.kids) 7 (by intro x r u hu; simp [Q9R] at hu; rcases hu with rfl | rfl | rfl | rfl | rfl | rfl | rfl <;> rfl)
def F_Api_ExprD (x:Q12) (r:Option Addr × Nat):List Fact:=[.sli 7 Q1C r.1 r.2 x.kids]
theorem Q91:Q7T Q1C Q9R (fun _ _=>True) F_Api_ExprD:=rec_opens
def Q9Q (x:Q2X) (r:(Option Addr × Nat) × (Option Addr × Nat)):List Value:=[.int .u8 x.kind,.int .i64 x.type,.slice r.1.1 x.args.length r.1.2,.int .u8 x.test.kind,.int .u8 x.test.value.k,.int .i64 x.test.value.n,.string x.test.value.s,.int .i64 x.test.var,.int .u8 x.test.op,.slice r.2.1 x.test.kids.length r.2.2]
def F_Api_CondD (x:Q2X) (r:(Option Addr × Nat) × (Option Addr × Nat)):List Fact:=[.sli 5 Q9v r.1.1 r.1.2 x.args,.sli 7 Q1C r.2.1 r.2.2 x.test.kids]
def Q5g:Rep Q2X:=Q8G Q9Q F_Api_CondD (by intro x r u hu; simp [Q9Q] at hu; rcases hu with rfl | rfl | rfl | rfl | rfl | rfl | rfl | rfl | rfl | rfl <;> rfl)
theorem R_Api_CondD_opens:Q7T Q5g Q9Q (fun _ _=>True) F_Api_CondD:=Q6E
def C_Api_ActD (x:Q3G) (r:Option Addr × Nat):List Value:=[.int .u8 x.kind,.int .i64 x.type,.int .i64 x.which,.slice r.1 x.exprs.length r.2]
def F_Api_ActD (x:Q3G) (r:Option Addr × Nat):List Fact:=[.sli 7 Q1C r.1 r.2 x.exprs]
def Q5L:Rep Q3G:=Q8G C_Api_ActD F_Api_ActD (by intro x r u hu; simp [C_Api_ActD] at hu; rcases hu with rfl | rfl | rfl | rfl <;> rfl)
theorem R_Api_ActD_opens:Q7T Q5L C_Api_ActD (fun _ _=>True) F_Api_ActD:=Q6E
def Q9S (x:QG) (r:(Option Addr × Nat) × (Option Addr × Nat)):List Value:=[.string x.name,.int .i64 x.salience,.int .i64 x.vars,.slice r.1.1 x.conds.length r.1.2,.slice r.2.1 x.acts.length r.2.2]
def F_Api_RuleD (x:QG) (r:(Option Addr × Nat) × (Option Addr × Nat)):List Fact:=[.sli 10 Q5g r.1.1 r.1.2 x.conds,.sli 4 Q5L r.2.1 r.2.2 x.acts]
def QM:Rep QG:=Q8G Q9S F_Api_RuleD (by intro x r u hu; simp [Q9S] at hu; rcases hu with rfl | rfl | rfl | rfl | rfl <;> rfl)
theorem Q6g:Q7T QM Q9S (fun _ _=>True) F_Api_RuleD:=Q6E
structure Qr where
 name:ByteArray
 fields:Int
def C_Api_TypeD (x:Qr) (_:Unit):List Value:=[.string x.name,.int .i64 x.fields]
def F_Api_TypeD (_:Qr) (_:Unit):List Fact:=[]
def QR:Rep Qr:=Q8G C_Api_TypeD F_Api_TypeD (by intro x r u hu; simp [C_Api_TypeD] at hu; rcases hu with rfl | rfl <;> rfl)
def C_bool (x:Bool) (_:Unit):List Value:=[.bool x]
def F_bool (_:Bool) (_:Unit):List Fact:=[]
def QW:Rep Bool:=Q8G C_bool F_bool (by intro x r u hu; simp [C_bool] at hu; subst hu; rfl)
theorem Q56:Q7T QW C_bool (fun _ _=>True) F_bool:=Q6E
def G_Api_TokenD (x:Q1) (r:Option Addr × Nat):List Fact:=[.own 3 1 Qi (.slice r.1 x.ids.length r.2) x.ids]
def Qb:Tre Q1 (Option Addr × Nat):=⟨Q7K,G_Api_TokenD,by intro x r u hu; simp [Q7K] at hu; rcases hu with rfl | rfl <;> rfl⟩
theorem Q4B : ∀ x r N F w,Star (Qb.G x r) N F w → Q9.p (fun q=>N q ∨ F q) w (Qb.C x r) x:=by
 rintro x r N F w ⟨A0,B0,a0,b0,h0,_⟩
 exact ⟨r,rfl,Qh (op_sli h0 (fun q hq=>.inl (a0 q hq)) (fun _ hq=>.inr hq)) (Qv)⟩
structure Qo where
 rule:Int
 ids:List Int
 idsT:List Int
def Q60 (x:Qo) (r:Option Addr × Nat):List Value:=[.int .i64 x.rule,.slice r.1 x.ids.length r.2]
def GS_Api_TokenD (x:Qo) (r:Option Addr × Nat):List Fact:=[.own 3 1 Qi (.slice r.1 (x.ids ++ x.idsT).length r.2) (x.ids ++ x.idsT)]
def Qx:Tre Qo (Option Addr × Nat):=⟨Q60,GS_Api_TokenD,by intro x r u hu; simp [Q60] at hu; rcases hu with rfl | rfl <;> rfl⟩
def Qaf (x:Qo) (r:Option Addr × Nat):List Fact:=[.sli 1 Qi r.1 r.2 (x.ids ++ x.idsT)]
def Q7p:Rep Qo:=Q8G Q60 Qaf (by intro x r u hu; simp [Q60] at hu; rcases hu with rfl | rfl <;> rfl)
theorem Q5N:Q7T Q7p Q60 (fun _ _=>True) Qaf:=Q6E
theorem Qae : ∀ x r N F w,Star (Qx.G x r) N F w → Q7p.p (fun q=>N q ∨ F q) w (Qx.C x r) x:=by
 rintro x r N F w ⟨A0,B0,a0,b0,h0,_⟩
 exact ⟨r,rfl,Qh (op_sli h0 (fun q hq=>.inl (a0 q hq)) (fun _ hq=>.inr hq)) (Qv)⟩
def Q6V (x:Q1):Prop:=x.ids.length ≤ 10000
instance (x:Q1):Decidable (Q6V x):=by unfold Q6V; infer_instance
def Q9T (x:List Q1) (r:Option Addr × Nat):List Value:=[.slice r.1 x.length r.2]
def G_l_Api_TokenD (x:List Q1) (r:Option Addr × Nat):List Fact:=[Q1l Qb 45 2 (.slice r.1 x.length r.2) x]
def Q1H:Tre (List Q1) (Option Addr × Nat):=⟨Q9T,G_l_Api_TokenD,by intro x r u hu; simp [Q9T] at hu; subst hu; rfl⟩
def Q9a (x:Q1):Prop:=inK .i64 x.rule ∧ (x.ids.length ≤ 17592186043904 ∧ ∀ y ∈ x.ids,inK .i64 y)
def Q5C (x:Q3c):Prop:=inK .i64 x.op ∧ inK .i64 x.which ∧ (x.l.length ≤ 4398046510976 ∧ ∀ y ∈ x.l,Q9a y)
end Go.Proofs.YtgangmegcejllaaGreatDoor
