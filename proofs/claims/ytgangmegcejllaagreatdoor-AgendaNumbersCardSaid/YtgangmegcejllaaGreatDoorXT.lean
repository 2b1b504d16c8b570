import Derived.Test.YtgangmegcejllaaGreatDoorEqT
import Derived.Test.YtgangmegcejllaaGreatDoorSrtA
import Derived.Test.YtgangmegcejllaaGreatDoorSh
import Derived.Test.YtgangmegcejllaaGreatDoorShort
import Derived.Test.YtgangmegcejllaaGreatDoorRec
import Derived.Test.YtgangmegcejllaaGreatDoorMapP
import Derived.Test.YtgangmegcejllaaGreatDoorApart
import Derived.Test.YtgangmegcejllaaGreatDoorRun
namespace Go.Proofs.YtgangmegcejllaaGreatDoor
open Go.RowKit
def C_i64 (x:Int) (_:Unit):List Value:=[.int .i64 x]
def F_i64 (_:Int) (_:Unit):List Fact:=[]
def Qh:Rep Int:=Q90 C_i64 F_i64 (by intro x r u hu; simp [C_i64] at hu; subst hu; rfl)
theorem Q1D:Q7L Qh C_i64 (fun _ _=>True) F_i64:=Q4O
def C_l_i64 (x:List Int) (r:Option Addr × Nat):List Value:=[.slice r.1 x.length r.2]
def F_l_i64 (x:List Int) (r:Option Addr × Nat):List Fact:=[.sli 1 Qh r.1 r.2 x]
def Q91:Rep (List Int):=Q90 C_l_i64 F_l_i64 (by intro x r u hu; simp [C_l_i64] at hu; subst hu; rfl)
theorem Q78:Q7L Q91 C_l_i64 (fun _ _=>True) F_l_i64:=Q4O
def G_l_i64 (x:List Int) (r:Option Addr × Nat):List Fact:=[.own 3 1 Qh (.slice r.1 x.length r.2) x]
def Q2g:Tre (List Int) (Option Addr × Nat):=⟨C_l_i64,G_l_i64,by intro x r u hu; simp [C_l_i64] at hu; subst hu; rfl⟩
theorem T_l_i64_lend : ∀ x r N F w,Star (Q2g.G x r) N F w → Q91.p (fun q=>N q ∨ F q) w (Q2g.C x r) x:=by
 rintro x r N F w ⟨A0,B0,a0,b0,h0,_⟩
 exact ⟨r,rfl,Qe (op_sli h0 (fun q hq=>.inl (a0 q hq)) (fun _ hq=>.inr hq)) (Ql)⟩
structure Q1 where
 rule:Int
 ids:List Int
def Q8a (x:Q1) (r:Option Addr × Nat):List Value:=[.int .i64 x.rule,.slice r.1 x.ids.length r.2]
def F_Api_TokenD (x:Q1) (r:Option Addr × Nat):List Fact:=[.sli 1 Qh r.1 r.2 x.ids]
def Q8:Rep Q1:=Q90 Q8a F_Api_TokenD (by intro x r u hu; simp [Q8a] at hu; rcases hu with rfl | rfl <;> rfl)
theorem Qb:Q7L Q8 Q8a (fun _ _=>True) F_Api_TokenD:=Q4O
def G_Api_TokenD (x:Q1) (r:Option Addr × Nat):List Fact:=[.own 3 1 Qh (.slice r.1 x.ids.length r.2) x.ids]
def Qa:Tre Q1 (Option Addr × Nat):=⟨Q8a,G_Api_TokenD,by intro x r u hu; simp [Q8a] at hu; rcases hu with rfl | rfl <;> rfl⟩
theorem Q3a : ∀ x r N F w,Star (Qa.G x r) N F w → Q8.p (fun q=>N q ∨ F q) w (Qa.C x r) x:=by
 rintro x r N F w ⟨A0,B0,a0,b0,h0,_⟩
 exact ⟨r,rfl,Qe (op_sli h0 (fun q hq=>.inl (a0 q hq)) (fun _ hq=>.inr hq)) (Ql)⟩
structure QD where
 kind:Int
 value:V
 var:Int
 op:Int
 kids:List QD
structure Q1P where
 kind:Int
 type:Int
 args:List ArgD
 test:QD
structure Q1W where
 kind:Int
 type:Int
 which:Int
 exprs:List QD
structure QP where
 name:ByteArray
 salience:Int
 vars:Int
 conds:List Q1P
 acts:List Q1W
def C_ArgD (x:ArgD) (_:Unit):List Value:=[.int .u8 x.k,.int .i64 x.var,.int .u8 x.v.k,.int .i64 x.v.n,.string x.v.s]
def F_ArgD (_:ArgD) (_:Unit):List Fact:=[]
def Q7I:Rep ArgD:=Q90 C_ArgD F_ArgD (by intro x r u hu; simp [C_ArgD] at hu; rcases hu with rfl | rfl | rfl | rfl | rfl <;> rfl)
theorem R_ArgD_opens:Q7L Q7I C_ArgD (fun _ _=>True) F_ArgD:=Q4O
def Qas (x:QD) (r:Option Addr × Nat):List Value:=[.int .u8 x.kind,.int .u8 x.value.k,.int .i64 x.value.n,.string x.value.s,.int .i64 x.var,.int .u8 x.op,.slice r.1 x.kids.length r.2]
def Q1c:Rep QD:=recR Qas (fun x=>x.kids) 7 (by intro x r u hu; simp [Qas] at hu; rcases hu with rfl | rfl | rfl | rfl | rfl | rfl | rfl <;> rfl)
def F_Api_ExprD (x:QD) (r:Option Addr × Nat):List Fact:=[.sli 7 Q1c r.1 r.2 x.kids]
theorem Q4T:Q7L Q1c Qas (fun _ _=>True) F_Api_ExprD:=rec_opens
def Qar (x:Q1P) (r:(Option Addr × Nat) × (Option Addr × Nat)):List Value:=[.int .u8 x.kind,.int .i64 x.type,.slice r.1.1 x.args.length r.1.2,.int .u8 x.test.kind,.int .u8 x.test.value.k,.int .i64 x.test.value.n,.string x.test.value.s,.int .i64 x.test.var,.int .u8 x.test.op,.slice r.2.1 x.test.kids.length r.2.2]
def F_Api_CondD (x:Q1P) (r:(Option Addr × Nat) × (Option Addr × Nat)):List Fact:=[.sli 5 Q7I r.1.1 r.1.2 x.args,.sli 7 Q1c r.2.1 r.2.2 x.test.kids]
def Q2A:Rep Q1P:=Q90 Qar F_Api_CondD (by intro x r u hu; simp [Qar] at hu; rcases hu with rfl | rfl | rfl | rfl | rfl | rfl | rfl | rfl | rfl | rfl <;> rfl)
theorem Q8b:Q7L Q2A Qar (fun _ _=>True) F_Api_CondD:=Q4O
def C_Api_ActD (x:Q1W) (r:Option Addr × Nat):List Value:=[.int .u8 x.kind,.int .i64 x.type,.int .i64 x.which,.slice r.1 x.exprs.length r.2]
def F_Api_ActD (x:Q1W) (r:Option Addr × Nat):List Fact:=[.sli 7 Q1c r.1 r.2 x.exprs]
def Q35:Rep Q1W:=Q90 C_Api_ActD F_Api_ActD (by intro x r u hu; simp [C_Api_ActD] at hu; rcases hu with rfl | rfl | rfl | rfl <;> rfl)
theorem Q8o:Q7L Q35 C_Api_ActD (fun _ _=>True) F_Api_ActD:=Q4O
def Qat (x:QP) (r:(Option Addr × Nat) × (Option Addr × Nat)):List Value:=[.string x.name,.int .i64 x.salience,.int .i64 x.vars,.slice r.1.1 x.conds.length r.1.2,.slice r.2.1 x.acts.length r.2.2]
def F_Api_RuleD (x:QP) (r:(Option Addr × Nat) × (Option Addr × Nat)):List Fact:=[.sli 10 Q2A r.1.1 r.1.2 x.conds,.sli 4 Q35 r.2.1 r.2.2 x.acts]
def QO:Rep QP:=Q90 Qat F_Api_RuleD (by intro x r u hu; simp [Qat] at hu; rcases hu with rfl | rfl | rfl | rfl | rfl <;> rfl)
theorem Q3Z:Q7L QO Qat (fun _ _=>True) F_Api_RuleD:=Q4O
structure Qw where
 name:ByteArray
 fields:Int
def Qau (x:Qw) (_:Unit):List Value:=[.string x.name,.int .i64 x.fields]
def F_Api_TypeD (_:Qw) (_:Unit):List Fact:=[]
def QL:Rep Qw:=Q90 Qau F_Api_TypeD (by intro x r u hu; simp [Qau] at hu; rcases hu with rfl | rfl <;> rfl)
theorem Q9H:Q7L QL Qau (fun _ _=>True) F_Api_TypeD:=Q4O
def C_bool (x:Bool) (_:Unit):List Value:=[.bool x]
def F_bool (_:Bool) (_:Unit):List Fact:=[]
def Q13:Rep Bool:=Q90 C_bool F_bool (by intro x r u hu; simp [C_bool] at hu; subst hu; rfl)
theorem Q40:Q7L Q13 C_bool (fun _ _=>True) F_bool:=Q4O
structure Q9 where
 op:Int
 which:Int
 l:List Q1
def Q54 (x:Q9) (r:Option Addr × Nat):List Value:=[.int .i64 x.op,.int .i64 x.which,.slice r.1 x.l.length r.2]
def Q8Z (x:Q9) (r:Option Addr × Nat):List Fact:=[.sli 2 Q8 r.1 r.2 x.l]
def Q26:Rep Q9:=Q90 Q54 Q8Z (by intro x r u hu; simp [Q54] at hu; rcases hu with rfl | rfl | rfl <;> rfl)
theorem Q7z:Q7L Q26 Q54 (fun _ _=>True) Q8Z:=Q4O
def QaJ (x:Q9) (r:Option Addr × Nat):List Fact:=[Q1e Qa 45 2 (.slice r.1 x.l.length r.2) x.l]
def QH:Tre Q9 (Option Addr × Nat):=⟨Q54,QaJ,by intro x r u hu; simp [Q54] at hu; rcases hu with rfl | rfl | rfl <;> rfl⟩
theorem Q63 : ∀ x r N F w,Star (QH.G x r) N F w → Q26.p (fun q=>N q ∨ F q) w (QH.C x r) x:=by
 rintro x r N F w ⟨A0,B0,a0,b0,h0,_⟩
 exact ⟨r,rfl,Qe (Q8I Q3a h0 (fun q hq=>.inl (a0 q hq)) (fun _ hq=>.inr hq)) (Ql)⟩
structure Qz where
 rule:Int
 ids:List Int
 idsT:List Int
def Q5n (x:Qz) (r:Option Addr × Nat):List Value:=[.int .i64 x.rule,.slice r.1 x.ids.length r.2]
def GS_Api_TokenD (x:Qz) (r:Option Addr × Nat):List Fact:=[.own 3 1 Qh (.slice r.1 (x.ids ++ x.idsT).length r.2) (x.ids ++ x.idsT)]
def QC:Tre Qz (Option Addr × Nat):=⟨Q5n,GS_Api_TokenD,by intro x r u hu; simp [Q5n] at hu; rcases hu with rfl | rfl <;> rfl⟩
def QaL (x:Qz) (r:Option Addr × Nat):List Fact:=[.sli 1 Qh r.1 r.2 (x.ids ++ x.idsT)]
def Q7M:Rep Qz:=Q90 Q5n QaL (by intro x r u hu; simp [Q5n] at hu; rcases hu with rfl | rfl <;> rfl)
theorem Q55:Q7L Q7M Q5n (fun _ _=>True) QaL:=Q4O
theorem QaK : ∀ x r N F w,Star (QC.G x r) N F w → Q7M.p (fun q=>N q ∨ F q) w (QC.C x r) x:=by
 rintro x r N F w ⟨A0,B0,a0,b0,h0,_⟩
 exact ⟨r,rfl,Qe (op_sli h0 (fun q hq=>.inl (a0 q hq)) (fun _ hq=>.inr hq)) (Ql)⟩
def Q79 (x:Q1):Prop:=x.ids.length ≤ 10000
instance (x:Q1):Decidable (Q79 x):=by unfold Q79; infer_instance
def Qav (x:List Q1) (r:Option Addr × Nat):List Value:=[.slice r.1 x.length r.2]
def G_l_Api_TokenD (x:List Q1) (r:Option Addr × Nat):List Fact:=[Q1e Qa 45 2 (.slice r.1 x.length r.2) x]
def Q1H:Tre (List Q1) (Option Addr × Nat):=⟨Qav,G_l_Api_TokenD,by intro x r u hu; simp [Qav] at hu; subst hu; rfl⟩
end Go.Proofs.YtgangmegcejllaaGreatDoor
