import Derived.Shelf.SlSortCmp.InsertionK
import Derived.Laws.BytesArg
import Derived.Laws.BytesString
import Derived.Laws.IdiomStrings
import Derived.Lib.LaidTab
import Derived.Lib.ItoaNum
import Derived.LaidSub
import Derived.Test.YtbgodclhmgmcgaaGreatDoorGrow
namespace Go.Proofs.YtbgodclhmgmcgaaGreatDoor
open Go.RowKit
abbrev MK (k z:Int):Int:=IntKind.wrap .i64 ((IntKind.wrap .i64 (1000003 * (IntKind.wrap .i64 (k+7))))+z)
abbrev WI (x:Int):Prop:=-9223372036854775808≤x∧x≤9223372036854775807
abbrev WN (x:Nat):Prop:=x≤9223372036854775807
structure Q8 where
 name:ByteArray
 fields:Int
def QdO (x:Q8)(_:Unit):List Value:=[.string x.name,.int .i64 x.fields]
def F_Api_TypeD (_:Q8)(_:Unit):List Fact:=[]
def Qd:Rep Q8:=Q9n QdO F_Api_TypeD (by intro x r u hu;simp [QdO] at hu;rcases hu with rfl | rfl <;> rfl)
theorem Q1z:Q8B Qd QdO (fun _ _=>True) F_Api_TypeD:=Q3y
structure Q4 where
 kind:Int
 value:V
 var:Int
 op:Int
 kids:List Q4
structure Qn where
 kind:Int
 type:Int
 args:List Q1n
 test:Q4
structure QO where
 kind:Int
 type:Int
 which:Int
 exprs:List Q4
structure Qf where
 name:ByteArray
 salience:Int
 vars:Int
 conds:List Qn
 acts:List QO
def C_ArgD (x:Q1n)(_:Unit):List Value:=[.int .u8 x.k,.int .i64 x.var,.int .u8 x.v.k,.int .i64 x.v.n,.string x.v.s]
def F_ArgD (_:Q1n)(_:Unit):List Fact:=[]
def Q1p:Rep Q1n:=Q9n C_ArgD F_ArgD (by intro x r u hu;simp [C_ArgD] at hu;rcases hu with rfl | rfl | rfl | rfl | rfl <;> rfl)
theorem Q5P:Q8B Q1p C_ArgD (fun _ _=>True) F_ArgD:=Q3y
def Qax (x:Q4)(r:Option Addr×Nat):List Value:=[.int .u8 x.kind,.int .u8 x.value.k,.int .i64 x.value.n,.string x.value.s,.int .i64 x.var,.int .u8 x.op,.slice r.1 x.kids.length r.2]
def Qj:Rep Q4:=recR Qax (fun x=>x.kids) 7 (by intro x r u hu;simp [Qax] at hu;rcases hu with rfl | rfl | rfl | rfl | rfl | rfl | rfl <;> rfl)
def F_Api_ExprD (x:Q4)(r:Option Addr×Nat):List Fact:=[.sli 7 Qj r.1 r.2 x.kids]
theorem Q1G:Q8B Qj Qax (fun _ _=>True) F_Api_ExprD:=rec_opens
def Qcm (x:Qn)(r:(Option Addr×Nat)×(Option Addr×Nat)):List Value:=[.int .u8 x.kind,.int .i64 x.type,.slice r.1.1 x.args.length r.1.2,.int .u8 x.test.kind,.int .u8 x.test.value.k,.int .i64 x.test.value.n,.string x.test.value.s,.int .i64 x.test.var,.int .u8 x.test.op,.slice r.2.1 x.test.kids.length r.2.2]
def F_Api_CondD (x:Qn)(r:(Option Addr×Nat)×(Option Addr×Nat)):List Fact:=[.sli 5 Q1p r.1.1 r.1.2 x.args,.sli 7 Qj r.2.1 r.2.2 x.test.kids]
def QB:Rep Qn:=Q9n Qcm F_Api_CondD (by intro x r u hu;simp [Qcm] at hu;rcases hu with rfl | rfl | rfl | rfl | rfl | rfl | rfl | rfl | rfl | rfl <;> rfl)
theorem Q33:Q8B QB Qcm (fun _ _=>True) F_Api_CondD:=Q3y
def Qdf (x:QO)(r:Option Addr×Nat):List Value:=[.int .u8 x.kind,.int .i64 x.type,.int .i64 x.which,.slice r.1 x.exprs.length r.2]
def F_Api_ActD (x:QO)(r:Option Addr×Nat):List Fact:=[.sli 7 Qj r.1 r.2 x.exprs]
def QF:Rep QO:=Q9n Qdf F_Api_ActD (by intro x r u hu;simp [Qdf] at hu;rcases hu with rfl | rfl | rfl | rfl <;> rfl)
theorem Q6Y:Q8B QF Qdf (fun _ _=>True) F_Api_ActD:=Q3y
def Qcn (x:Qf)(r:(Option Addr×Nat)×(Option Addr×Nat)):List Value:=[.string x.name,.int .i64 x.salience,.int .i64 x.vars,.slice r.1.1 x.conds.length r.1.2,.slice r.2.1 x.acts.length r.2.2]
def F_Api_RuleD (x:Qf)(r:(Option Addr×Nat)×(Option Addr×Nat)):List Fact:=[.sli 10 QB r.1.1 r.1.2 x.conds,.sli 4 QF r.2.1 r.2.2 x.acts]
def Qh:Rep Qf:=Q9n Qcn F_Api_RuleD (by intro x r u hu;simp [Qcn] at hu;rcases hu with rfl | rfl | rfl | rfl | rfl <;> rfl)
theorem Q1T:Q8B Qh Qcn (fun _ _=>True) F_Api_RuleD:=Q3y
def C_V (x:V)(_:Unit):List Value:=[.int .u8 x.k,.int .i64 x.n,.string x.s]
def F_V (_:V)(_:Unit):List Fact:=[]
def R_V:Rep V:=Q9n C_V F_V (by intro x r u hu;simp [C_V] at hu;rcases hu with rfl | rfl | rfl <;> rfl)
theorem Q24:Q8B R_V C_V (fun _ _=>True) F_V:=Q3y
def C_FactD (x:QP)(r:Option Addr×Nat):List Value:=[.int .i64 x.id,.int .i64 x.ty,.slice r.1 x.args.length r.2]
def F_FactD (x:QP)(r:Option Addr×Nat):List Fact:=[.sli 3 R_V r.1 r.2 x.args]
def Q14:Rep QP:=Q9n C_FactD F_FactD (by intro x r u hu;simp [C_FactD] at hu;rcases hu with rfl | rfl | rfl <;> rfl)
theorem Q40:Q8B Q14 C_FactD (fun _ _=>True) F_FactD:=Q3y
def C_u8 (x:Int)(_:Unit):List Value:=[.int .u8 x]
def F_u8 (_:Int)(_:Unit):List Fact:=[]
def R_u8:Rep Int:=Q9n C_u8 F_u8 (by intro x r u hu;simp [C_u8] at hu;subst hu;rfl)
def Qco (x:Int)(_:Unit):List Value:=[.int .i64 x]
def F_i64 (_:Int)(_:Unit):List Fact:=[]
def Q3B:Rep Int:=Q9n Qco F_i64 (by intro x r u hu;simp [Qco] at hu;subst hu;rfl)
theorem R_i64_opens:Q8B Q3B Qco (fun _ _=>True) F_i64:=Q3y
structure Qc where
 kind:Int
 value:V
 var:Int
 op:Int
 kids:List Qc
 kidsT:List Qc
def Q63:Qc→Q4
 | ⟨x0,x1,x2,x3,x4,x5⟩=>⟨x0,x1,x2,x3,(x4.map Q63)⟩
theorem Q9t (x:Qc):Q63 x=⟨x.kind,x.value,x.var,x.op,(x.kids.map Q63)⟩:=by
 obtain ⟨x0,x1,x2,x3,x4,x5⟩:=x
 rw [Q63]
def Qb5 (x:Qc)(r:Option Addr×Nat):List Value:=[.int .u8 x.kind,.int .u8 x.value.k,.int .i64 x.value.n,.string x.value.s,.int .i64 x.var,.int .u8 x.op,.slice r.1 x.kids.length r.2]
def QI:Rep Qc:=recR Qb5 (fun x=>(x.kids++x.kidsT)) 7 (by intro x r u hu;simp [Qb5] at hu;rcases hu with rfl | rfl | rfl | rfl | rfl | rfl | rfl <;> rfl)
def FS_Api_ExprD (x:Qc)(r:Option Addr×Nat):List Fact:=[.sli 7 QI r.1 r.2 (x.kids++x.kidsT)]
theorem Q3h:Q8B QI Qb5 (fun _ _=>True) FS_Api_ExprD:=rec_opens
theorem Qcp : ∀ {F:Q1O} {w:World} {cs:List Value} {x:Qc},QI.p F w cs x→Qj.p F w cs (Q63 x):=rec_lendS (f:=Q63) (main:=fun x=>x.kids) (by intro x r;simp [Qb5,Qax,Q9t]) (by intro x;simp [Q9t]) (fun x=>⟨x.kidsT,rfl⟩)
structure QM where
 kind:Int
 type:Int
 args:List Q1n
 argsT:List Q1n
 test:Qc
def Q96 (x:QM):Qn:=⟨x.kind,x.type,x.args,(⟨x.test.kind,x.test.value,x.test.var,x.test.op,(x.test.kids.map Q63)⟩ : Q4)⟩
def Qb4 (x:QM)(r:(Option Addr×Nat)×(Option Addr×Nat)):List Value:=[.int .u8 x.kind,.int .i64 x.type,.slice r.1.1 x.args.length r.1.2,.int .u8 x.test.kind,.int .u8 x.test.value.k,.int .i64 x.test.value.n,.string x.test.value.s,.int .i64 x.test.var,.int .u8 x.test.op,.slice r.2.1 x.test.kids.length r.2.2]
def FS_Api_CondD (x:QM)(r:(Option Addr×Nat)×(Option Addr×Nat)):List Fact:=[.sli 5 Q1p r.1.1 r.1.2 (x.args++x.argsT),.sli 7 QI r.2.1 r.2.2 (x.test.kids++x.test.kidsT)]
def Q1J:Rep QM:=Q9n Qb4 FS_Api_CondD (by intro x r u hu;simp [Qb4] at hu;rcases hu with rfl | rfl | rfl | rfl | rfl | rfl | rfl | rfl | rfl | rfl <;> rfl)
theorem Q8d:Q8B Q1J Qb4 (fun _ _=>True) FS_Api_CondD:=Q3y
theorem RS_Api_CondD_lend : ∀ {F:Q1O} {w:World} {cs:List Value} {x:QM},Q1J.p F w cs x→QB.p F w cs (Q96 x):=by
 rintro F w cs x ⟨r,e,h⟩
 exact ⟨r,e.trans (by simp [Qb4,Qcm,Q96]),(Q10 (QbK (h _ (Q1f (k:=0) rfl))) (Q10 (Qbu _ (QbK (h _ (Q1f (k:=1) rfl))) (fun _ _=>Qcp)) Q16))⟩
structure QS where
 kind:Int
 type:Int
 which:Int
 exprs:List Qc
 exprsT:List Qc
def Q9G (x:QS):QO:=⟨x.kind,x.type,x.which,(x.exprs.map Q63)⟩
def Qcl (x:QS)(r:Option Addr×Nat):List Value:=[.int .u8 x.kind,.int .i64 x.type,.int .i64 x.which,.slice r.1 x.exprs.length r.2]
def FS_Api_ActD (x:QS)(r:Option Addr×Nat):List Fact:=[.sli 7 QI r.1 r.2 (x.exprs++x.exprsT)]
def Q1W:Rep QS:=Q9n Qcl FS_Api_ActD (by intro x r u hu;simp [Qcl] at hu;rcases hu with rfl | rfl | rfl | rfl <;> rfl)
theorem Q8C:Q8B Q1W Qcl (fun _ _=>True) FS_Api_ActD:=Q3y
theorem RS_Api_ActD_lend : ∀ {F:Q1O} {w:World} {cs:List Value} {x:QS},Q1W.p F w cs x→QF.p F w cs (Q9G x):=by
 rintro F w cs x ⟨r,e,h⟩
 exact ⟨r,e.trans (by simp [Qcl,Qdf,Q9G]),(Q10 (Qbu _ (QbK (h _ (Q1f (k:=0) rfl))) (fun _ _=>Qcp)) Q16)⟩
def C_str (x:ByteArray)(_:Unit):List Value:=[.string x]
def F_str (_:ByteArray)(_:Unit):List Fact:=[]
def R_str:Rep ByteArray:=Q9n C_str F_str (by intro x r u hu;simp [C_str] at hu;subst hu;rfl)
structure Q11 where
 name:ByteArray
 salience:Int
 vars:Int
 conds:List QM
 condsT:List QM
 acts:List QS
 actsT:List QS
def Q6U (x:Q11):Qf:=⟨x.name,x.salience,x.vars,(x.conds.map Q96),(x.acts.map Q9G)⟩
def Qb6 (x:Q11)(r:(Option Addr×Nat)×(Option Addr×Nat)):List Value:=[.string x.name,.int .i64 x.salience,.int .i64 x.vars,.slice r.1.1 x.conds.length r.1.2,.slice r.2.1 x.acts.length r.2.2]
def FS_Api_RuleD (x:Q11)(r:(Option Addr×Nat)×(Option Addr×Nat)):List Fact:=[.sli 10 Q1J r.1.1 r.1.2 (x.conds++x.condsT),.sli 4 Q1W r.2.1 r.2.2 (x.acts++x.actsT)]
def Q25:Rep Q11:=Q9n Qb6 FS_Api_RuleD (by intro x r u hu;simp [Qb6] at hu;rcases hu with rfl | rfl | rfl | rfl | rfl <;> rfl)
theorem Q8e:Q8B Q25 Qb6 (fun _ _=>True) FS_Api_RuleD:=Q3y
theorem RS_Api_RuleD_lend : ∀ {F:Q1O} {w:World} {cs:List Value} {x:Q11},Q25.p F w cs x→Qh.p F w cs (Q6U x):=by
 rintro F w cs x ⟨r,e,h⟩
 exact ⟨r,e.trans (by simp [Qb6,Qcn,Q6U]),(Q10 (Qbu _ (QbK (h _ (Q1f (k:=0) rfl))) (fun _ _=>RS_Api_CondD_lend)) (Q10 (Qbu _ (QbK (h _ (Q1f (k:=1) rfl))) (fun _ _=>RS_Api_ActD_lend)) Q16))⟩
def G_FactD (x:QP)(r:Option Addr×Nat):List Fact:=[.own 57 3 R_V (.slice r.1 x.args.length r.2) x.args]
def T_FactD:Tre QP (Option Addr×Nat):=⟨C_FactD,G_FactD,by intro x r u hu;simp [C_FactD] at hu;rcases hu with rfl | rfl | rfl <;> rfl⟩
structure Q1u where
 id:Int
 ty:Int
 args:List V
 argsT:List V
def QaF (x:Q1u):QP:=⟨x.id,x.ty,x.args⟩
def QcU (x:Q1u)(r:Option Addr×Nat):List Value:=[.int .i64 x.id,.int .i64 x.ty,.slice r.1 x.args.length r.2]
def GS_FactD (x:Q1u)(r:Option Addr×Nat):List Fact:=[.own 57 3 R_V (.slice r.1 (x.args++x.argsT).length r.2) (x.args++x.argsT)]
def Q3i:Tre Q1u (Option Addr×Nat):=⟨QcU,GS_FactD,by intro x r u hu;simp [QcU] at hu;rcases hu with rfl | rfl | rfl <;> rfl⟩
theorem TS_FactD_lend : ∀ x r N F w,Star (Q3i.G x r) N F w→Q14.p (fun q=>N q∨F q) w (Q3i.C x r) (QaF x):=by
 rintro x r N F w ⟨A0,B0,a0,b0,h0,_⟩
 exact ⟨r,by simp [Q3i,QcU,C_FactD,QaF],Q10 (op_sliL h0 (fun q hq=>.inl (a0 q hq)) (fun _ hq=>.inr hq)) (Q16)⟩
structure Ql where
 rule:Int
 ids:List Int
def Q9K (x:Ql)(r:Option Addr×Nat):List Value:=[.int .i64 x.rule,.slice r.1 x.ids.length r.2]
def F_Api_TokenD (x:Ql)(r:Option Addr×Nat):List Fact:=[.sli 1 Q3B r.1 r.2 x.ids]
def Q34:Rep Ql:=Q9n Q9K F_Api_TokenD (by intro x r u hu;simp [Q9K] at hu;rcases hu with rfl | rfl <;> rfl)
theorem Qby:Q8B Q34 Q9K (fun _ _=>True) F_Api_TokenD:=Q3y
def Qdh (x:Ql)(r:Option Addr×Nat):List Fact:=[.own 3 1 Q3B (.slice r.1 x.ids.length r.2) x.ids]
def QZ:Tre Ql (Option Addr×Nat):=⟨Q9K,Qdh,by intro x r u hu;simp [Q9K] at hu;rcases hu with rfl | rfl <;> rfl⟩
theorem T_Api_TokenD_free:QZ.free:=by
 intro x r φ hφ
 have hφ : φ∈Qdh x r:=hφ
 simp only [Qdh,List.mem_cons,List.not_mem_nil,or_false] at hφ
 subst hφ;exact own_free mkRep_free
theorem T_Api_TokenD_lend : ∀ x r N F w,Star (QZ.G x r) N F w→Q34.p (fun q=>N q∨F q) w (QZ.C x r) x:=by
 rintro x r N F w ⟨A0,B0,a0,b0,h0,_⟩
 exact ⟨r,rfl,Q10 (op_sli h0 (fun q hq=>.inl (a0 q hq)) (fun _ hq=>.inr hq)) (Q16)⟩
def C_bool (x:Bool)(_:Unit):List Value:=[.bool x]
def F_bool (_:Bool)(_:Unit):List Fact:=[]
def Q1I:Rep Bool:=Q9n C_bool F_bool (by intro x r u hu;simp [C_bool] at hu;subst hu;rfl)
theorem Qdi:Q8B Q1I C_bool (fun _ _=>True) F_bool:=Q3y
structure Q9 where
 ids:List Int
 vars:List V
def Q65 (x:Q9)(r:(Option Addr×Nat)×(Option Addr×Nat)):List Value:=[.slice r.1.1 x.ids.length r.1.2,.slice r.2.1 x.vars.length r.2.2]
def Qay (x:Q9)(r:(Option Addr×Nat)×(Option Addr×Nat)):List Fact:=[.sli 1 Q3B r.1.1 r.1.2 x.ids,.sli 3 R_V r.2.1 r.2.2 x.vars]
def QN:Rep Q9:=Q9n Q65 Qay (by intro x r u hu;simp [Q65] at hu;rcases hu with rfl | rfl <;> rfl)
theorem Q8L:Q8B QN Q65 (fun _ _=>True) Qay:=Q3y
def QdP (x:Q9)(r:(Option Addr×Nat)×(Option Addr×Nat)):List Fact:=[.own 3 1 Q3B (.slice r.1.1 x.ids.length r.1.2) x.ids,.own 57 3 R_V (.slice r.2.1 x.vars.length r.2.2) x.vars]
def QW:Tre Q9 ((Option Addr×Nat)×(Option Addr×Nat)):=⟨Q65,QdP,by intro x r u hu;simp [Q65] at hu;rcases hu with rfl | rfl <;> rfl⟩
theorem Q99 : ∀ x r N F w,Star (QW.G x r) N F w→QN.p (fun q=>N q∨F q) w (QW.C x r) x:=by
 rintro x r N F w ⟨A0,B0,a0,b0,h0,A1,B1,a1,b1,h1,_⟩
 exact ⟨r,rfl,Q10 (op_sli h0 (fun q hq=>.inl (a0 q hq)) (fun _ hq=>.inr hq)) (Q10 (op_sli h1 (fun q hq=>.inl ((b0 q (a1 q hq)).1)) (fun _ hq=>.inr hq)) (Q16))⟩
def FS_FactD (x:Q1u)(r:Option Addr×Nat):List Fact:=[.sli 3 R_V r.1 r.2 (x.args++x.argsT)]
def QdQ:Rep Q1u:=Q9n QcU FS_FactD (by intro x r u hu;simp [QcU] at hu;rcases hu with rfl | rfl | rfl <;> rfl)
theorem Qbx:Q8B QdQ QcU (fun _ _=>True) FS_FactD:=Q3y
theorem TS_FactD_lendS : ∀ x r N F w,Star (Q3i.G x r) N F w→QdQ.p (fun q=>N q∨F q) w (Q3i.C x r) x:=by
 rintro x r N F w ⟨A0,B0,a0,b0,h0,_⟩
 exact ⟨r,rfl,Q10 (op_sli h0 (fun q hq=>.inl (a0 q hq)) (fun _ hq=>.inr hq)) (Q16)⟩
structure Q9u where
 types:List Q8
 rules:List Qf
def Qdg (x:Q9u)(r:(Option Addr×Nat)×(Option Addr×Nat)):List Value:=[.slice r.1.1 x.types.length r.1.2,.slice r.2.1 x.rules.length r.2.2]
def F_Api_RulesD (x:Q9u)(r:(Option Addr×Nat)×(Option Addr×Nat)):List Fact:=[.sli 2 Qd r.1.1 r.1.2 x.types,.sli 5 Qh r.2.1 r.2.2 x.rules]
def R_Api_RulesD:Rep Q9u:=Q9n Qdg F_Api_RulesD (by intro x r u hu;simp [Qdg] at hu;rcases hu with rfl | rfl <;> rfl)
def Qb9 (x:Q8):Prop:=x.name.size≤140737488351232∧inK .i64 x.fields
def ok_V (x:V):Prop:=inK .u8 x.k∧inK .i64 x.n∧x.s.size≤140737488351232
def ok_ArgD (x:Q1n):Prop:=inK .u8 x.k∧inK .i64 x.var∧ok_V x.v
inductive ok_Api_ExprD:Q4→Prop
 | mk (x:Q4) (h0:inK .u8 x.kind) (h1:ok_V x.value) (h2:inK .i64 x.var) (h3:inK .u8 x.op) (h4:x.kids.length≤1759218604390) (g4 : ∀ y∈x.kids,ok_Api_ExprD y):ok_Api_ExprD x
def Qdp (x:Qn):Prop:=inK .u8 x.kind∧inK .i64 x.type∧(x.args.length≤2932031007317∧∀ y∈x.args,ok_ArgD y)∧ok_Api_ExprD x.test
def Qe0 (x:QO):Prop:=inK .u8 x.kind∧inK .i64 x.type∧inK .i64 x.which∧(x.exprs.length≤1759218604390∧∀ y∈x.exprs,ok_Api_ExprD y)
def Q7z (x:Qf):Prop:=x.name.size≤140737488351232∧inK .i64 x.salience∧inK .i64 x.vars∧(x.conds.length≤1172812402926∧∀ y∈x.conds,Qdp y)∧(x.acts.length≤2932031007317∧∀ y∈x.acts,Qe0 y)
def QcH (x:Q9u):Prop:=(x.types.length≤5864062014634∧∀ y∈x.types,Qb9 y)∧(x.rules.length≤1759218604390∧∀ y∈x.rules,Q7z y)
def Qe1 (x:QP):Prop:=inK .i64 x.id∧inK .i64 x.ty∧(x.args.length≤4398046510976∧∀ y∈x.args,ok_V y)
end Go.Proofs.YtbgodclhmgmcgaaGreatDoor
