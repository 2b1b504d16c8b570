import Derived.Test.YtjfpefddanmliaaGreatAuto
import Derived.Test.YtjfpefddanmliaaGreatPatD
import Derived.Test.YtjfpefddanmliaaGreatEqB
import Derived.Test.YtjfpefddanmliaaGreatMapE
import Derived.Test.YtjfpefddanmliaaGreatTree
import Derived.Test.YtjfpefddanmliaaGreatShell
import Derived.Test.YtjfpefddanmliaaGreatShort
import Derived.Test.YtjfpefddanmliaaGreatFlat
import Derived.Test.YtjfpefddanmliaaGreatApart
import Derived.Test.YtjfpefddanmliaaGreatRun
namespace Go.Proofs.YtjfpefddanmliaaGreat
open Go.RowKit
def C_i64 (x:Int) (_:Unit):List Value:=[.int .i64 x]
def F_i64 (_:Int) (_:Unit):List Fact:=[]
def R_i64:Rep Int:=mkRep C_i64 F_i64 (by intro x r u hu; simp [C_i64] at hu; subst hu; rfl)
theorem Q2y:Q7G R_i64 C_i64 (fun _ _=>True) F_i64:=Q66
def C_V (x:V) (_:Unit):List Value:=[.int .u8 x.k,.int .i64 x.n,.string x.s]
def F_V (_:V) (_:Unit):List Fact:=[]
def R_V:Rep V:=mkRep C_V F_V (by intro x r u hu; simp [C_V] at hu; rcases hu with rfl | rfl | rfl <;> rfl)
theorem Q50:Q7G R_V C_V (fun _ _=>True) F_V:=Q66
def Q7c (x:FactD) (r:Option Addr × Nat):List Value:=[.int .i64 x.id,.int .i64 x.ty,.slice r.1 x.args.length r.2]
def F_FactD (x:FactD) (r:Option Addr × Nat):List Fact:=[.sli 3 R_V r.1 r.2 x.args]
def QO:Rep FactD:=mkRep Q7c F_FactD (by intro x r u hu; simp [Q7c] at hu; rcases hu with rfl | rfl | rfl <;> rfl)
theorem Q4u:Q7G QO Q7c (fun _ _=>True) F_FactD:=Q66
def Q7a (x:SessD) (r:(Option Addr × Nat) × (Option Addr × Nat)):List Value:=[.int .i64 x.id,.int .i64 x.seq,.int .i64 x.r.err,.int .i64 x.r.num,.slice r.1.1 x.r.facts.length r.1.2,.slice r.2.1 x.r.said.length r.2.2]
def F_SessD (x:SessD) (r:(Option Addr × Nat) × (Option Addr × Nat)):List Fact:=[.sli 3 QO r.1.1 r.1.2 x.r.facts,.sli 3 R_V r.2.1 r.2.2 x.r.said]
def Qt:Rep SessD:=mkRep Q7a F_SessD (by intro x r u hu; simp [Q7a] at hu; rcases hu with rfl | rfl | rfl | rfl | rfl | rfl <;> rfl)
theorem Q17:Q7G Qt Q7a (fun _ _=>True) F_SessD:=Q66
def G_FactD (x:FactD) (r:Option Addr × Nat):List Fact:=[.own 149 3 R_V (.slice r.1 x.args.length r.2) x.args]
def Qf:Tre FactD (Option Addr × Nat):=⟨Q7c,G_FactD,by intro x r u hu; simp [Q7c] at hu; rcases hu with rfl | rfl | rfl <;> rfl⟩
theorem T_FactD_free:Qf.free:=by
  intro x r φ hφ
  have hφ : φ ∈ G_FactD x r:=hφ
  simp only [G_FactD,List.mem_cons,List.not_mem_nil,or_false] at hφ
  subst hφ; exact own_free mkRep_free
theorem Q6a : ∀ x r N F w,Q6l (Qf.G x r) N F w → QO.p (fun q=>N q ∨ F q) w (Qf.C x r) x:=by
  rintro x r N F w ⟨A0,B0,a0,b0,h0,_⟩
  exact ⟨r,rfl,QD (op_sli h0 (fun q hq=>.inl (a0 q hq)) (fun _ hq=>.inr hq)) (Q1f)⟩
theorem T_FactD_cells : ∀ F w cs x,QO.p F w cs x → ∃ r,cs = Qf.C x r:=fun _ _ _ _ h=>⟨h.choose,h.choose_spec.1⟩
theorem T_FactD_read : ∀ x r F w,QO.p F w (Qf.C x r) x → ∀ φ ∈ F_FactD x r,φ.p F w:=by
  rintro x ⟨a0,ac0⟩ F w ⟨⟨d0,dc0⟩,e,h⟩
  have e:Q7c x (a0,ac0) = Q7c x (d0,dc0):=e
  simp [Q7c] at e
  simpa [e] using h
def G_SessD (x:SessD) (r:(Option Addr × Nat) × (Option Addr × Nat)):List Fact:=[Qi Qf 61 3 (.slice r.1.1 x.r.facts.length r.1.2) x.r.facts,.own 149 3 R_V (.slice r.2.1 x.r.said.length r.2.2) x.r.said]
def Qe:Tre SessD ((Option Addr × Nat) × (Option Addr × Nat)):=⟨Q7a,G_SessD,by intro x r u hu; simp [Q7a] at hu; rcases hu with rfl | rfl | rfl | rfl | rfl | rfl <;> rfl⟩
theorem Q5B:Qe.free:=by
  intro x r φ hφ
  have hφ : φ ∈ G_SessD x r:=hφ
  simp only [G_SessD,List.mem_cons,List.not_mem_nil,or_false] at hφ
  rcases hφ with rfl | rfl
  · exact Q68 T_FactD_free
  · exact own_free mkRep_free
theorem Q2z : ∀ x r N F w,Q6l (Qe.G x r) N F w → Qt.p (fun q=>N q ∨ F q) w (Qe.C x r) x:=by
  rintro x r N F w ⟨A0,B0,a0,b0,h0,A1,B1,a1,b1,h1,_⟩
  exact ⟨r,rfl,QD (Q1M Q6a h0 (fun q hq=>.inl (a0 q hq)) (fun _ hq=>.inr hq)) (QD (op_sli h1 (fun q hq=>.inl ((b0 q (a1 q hq)).1)) (fun _ hq=>.inr hq)) (Q1f))⟩
theorem T_SessD_cells : ∀ F w cs x,Qt.p F w cs x → ∃ r,cs = Qe.C x r:=fun _ _ _ _ h=>⟨h.choose,h.choose_spec.1⟩
theorem T_SessD_read : ∀ x r F w,Qt.p F w (Qe.C x r) x → ∀ φ ∈ F_SessD x r,φ.p F w:=by
  rintro x ⟨⟨a0,ac0⟩,⟨a1,ac1⟩⟩ F w ⟨⟨⟨d0,dc0⟩,⟨d1,dc1⟩⟩,e,h⟩
  have e:Q7a x ((a0,ac0),(a1,ac1)) = Q7a x ((d0,dc0),(d1,dc1)):=e
  simp [Q7a] at e
  simpa [e] using h
structure Ropewalklaw27_DoD where
  op:Int
  id:Int
  seq:Int
  reply:ReplyD
def Q4H (x:Ropewalklaw27_DoD) (r:(Option Addr × Nat) × (Option Addr × Nat)):List Value:=[.int .i64 x.op,.int .i64 x.id,.int .i64 x.seq,.int .i64 x.reply.err,.int .i64 x.reply.num,.slice r.1.1 x.reply.facts.length r.1.2,.slice r.2.1 x.reply.said.length r.2.2]
def Q79 (x:Ropewalklaw27_DoD) (r:(Option Addr × Nat) × (Option Addr × Nat)):List Fact:=[.sli 3 QO r.1.1 r.1.2 x.reply.facts,.sli 3 R_V r.2.1 r.2.2 x.reply.said]
def Q1u:Rep Ropewalklaw27_DoD:=mkRep Q4H Q79 (by intro x r u hu; simp [Q4H] at hu; rcases hu with rfl | rfl | rfl | rfl | rfl | rfl | rfl <;> rfl)
theorem Q6f:Q7G Q1u Q4H (fun _ _=>True) Q79:=Q66
def Q8C (x:Ropewalklaw27_DoD) (r:(Option Addr × Nat) × (Option Addr × Nat)):List Fact:=[Qi Qf 61 3 (.slice r.1.1 x.reply.facts.length r.1.2) x.reply.facts,.own 149 3 R_V (.slice r.2.1 x.reply.said.length r.2.2) x.reply.said]
def Q7:Tre Ropewalklaw27_DoD ((Option Addr × Nat) × (Option Addr × Nat)):=⟨Q4H,Q8C,by intro x r u hu; simp [Q4H] at hu; rcases hu with rfl | rfl | rfl | rfl | rfl | rfl | rfl <;> rfl⟩
theorem Q1b : ∀ x r N F w,Q6l (Q7.G x r) N F w → Q1u.p (fun q=>N q ∨ F q) w (Q7.C x r) x:=by
  rintro x r N F w ⟨A0,B0,a0,b0,h0,A1,B1,a1,b1,h1,_⟩
  exact ⟨r,rfl,QD (Q1M Q6a h0 (fun q hq=>.inl (a0 q hq)) (fun _ hq=>.inr hq)) (QD (op_sli h1 (fun q hq=>.inl ((b0 q (a1 q hq)).1)) (fun _ hq=>.inr hq)) (Q1f))⟩
structure FactDS where
  id:Int
  ty:Int
  args:List V
  argsT:List V
def Q3k (x:FactDS):FactD:=⟨x.id,x.ty,x.args⟩
def Q6C (x:FactDS) (r:Option Addr × Nat):List Value:=[.int .i64 x.id,.int .i64 x.ty,.slice r.1 x.args.length r.2]
def GS_FactD (x:FactDS) (r:Option Addr × Nat):List Fact:=[.own 149 3 R_V (.slice r.1 (x.args ++ x.argsT).length r.2) (x.args ++ x.argsT)]
def QL:Tre FactDS (Option Addr × Nat):=⟨Q6C,GS_FactD,by intro x r u hu; simp [Q6C] at hu; rcases hu with rfl | rfl | rfl <;> rfl⟩
theorem Q7R : ∀ x r N F w,Q6l (QL.G x r) N F w → QO.p (fun q=>N q ∨ F q) w (QL.C x r) (Q3k x):=by
  rintro x r N F w ⟨A0,B0,a0,b0,h0,_⟩
  exact ⟨r,by simp [QL,Q6C,Q7c,Q3k],QD (op_sliL h0 (fun q hq=>.inl (a0 q hq)) (fun _ hq=>.inr hq)) (Q1f)⟩
def C_ReplyD (x:ReplyD) (r:(Option Addr × Nat) × (Option Addr × Nat)):List Value:=[.int .i64 x.err,.int .i64 x.num,.slice r.1.1 x.facts.length r.1.2,.slice r.2.1 x.said.length r.2.2]
structure ReplyDS where
  err:Int
  num:Int
  facts:List FactDS
  factsT:List FactDS
  said:List V
  saidT:List V
def to_ReplyD (x:ReplyDS):ReplyD:=⟨x.err,x.num,(x.facts.map Q3k),x.said⟩
structure SessDS where
  id:Int
  seq:Int
  r:ReplyDS
def Q3E (x:SessDS):SessD:=⟨x.id,x.seq,(to_ReplyD x.r)⟩
def Q6I (x:SessDS) (r:(Option Addr × Nat) × (Option Addr × Nat)):List Value:=[.int .i64 x.id,.int .i64 x.seq,.int .i64 x.r.err,.int .i64 x.r.num,.slice r.1.1 x.r.facts.length r.1.2,.slice r.2.1 x.r.said.length r.2.2]
def GS_SessD (x:SessDS) (r:(Option Addr × Nat) × (Option Addr × Nat)):List Fact:=[Qi QL 61 3 (.slice r.1.1 (x.r.facts ++ x.r.factsT).length r.1.2) (x.r.facts ++ x.r.factsT),.own 149 3 R_V (.slice r.2.1 (x.r.said ++ x.r.saidT).length r.2.2) (x.r.said ++ x.r.saidT)]
def Q18:Tre SessDS ((Option Addr × Nat) × (Option Addr × Nat)):=⟨Q6I,GS_SessD,by intro x r u hu; simp [Q6I] at hu; rcases hu with rfl | rfl | rfl | rfl | rfl | rfl <;> rfl⟩
theorem Q8H : ∀ x r N F w,Q6l (Q18.G x r) N F w → Qt.p (fun q=>N q ∨ F q) w (Q18.C x r) (Q3E x):=by
  rintro x r N F w ⟨A0,B0,a0,b0,h0,A1,B1,a1,b1,h1,_⟩
  exact ⟨r,by simp [Q18,Q6I,Q7a,Q3k,to_ReplyD,Q3E],QD (treeM_sliL Q7R h0 (fun q hq=>.inl (a0 q hq)) (fun _ hq=>.inr hq)) (QD (op_sliL h1 (fun q hq=>.inl ((b0 q (a1 q hq)).1)) (fun _ hq=>.inr hq)) (Q1f))⟩
def FS_FactD (x:FactDS) (r:Option Addr × Nat):List Fact:=[.sli 3 R_V r.1 r.2 (x.args ++ x.argsT)]
def Q5G:Rep FactDS:=mkRep Q6C FS_FactD (by intro x r u hu; simp [Q6C] at hu; rcases hu with rfl | rfl | rfl <;> rfl)
theorem Q5w:Q7G Q5G Q6C (fun _ _=>True) FS_FactD:=Q66
theorem Q8t : ∀ x r N F w,Q6l (QL.G x r) N F w → Q5G.p (fun q=>N q ∨ F q) w (QL.C x r) x:=by
  rintro x r N F w ⟨A0,B0,a0,b0,h0,_⟩
  exact ⟨r,rfl,QD (op_sli h0 (fun q hq=>.inl (a0 q hq)) (fun _ hq=>.inr hq)) (Q1f)⟩
def FS_SessD (x:SessDS) (r:(Option Addr × Nat) × (Option Addr × Nat)):List Fact:=[.sli 3 Q5G r.1.1 r.1.2 (x.r.facts ++ x.r.factsT),.sli 3 R_V r.2.1 r.2.2 (x.r.said ++ x.r.saidT)]
def Q8w:Rep SessDS:=mkRep Q6I FS_SessD (by intro x r u hu; simp [Q6I] at hu; rcases hu with rfl | rfl | rfl | rfl | rfl | rfl <;> rfl)
theorem Q61:Q7G Q8w Q6I (fun _ _=>True) FS_SessD:=Q66
theorem Q8u : ∀ x r N F w,Q6l (Q18.G x r) N F w → Q8w.p (fun q=>N q ∨ F q) w (Q18.C x r) x:=by
  rintro x r N F w ⟨A0,B0,a0,b0,h0,A1,B1,a1,b1,h1,_⟩
  exact ⟨r,rfl,QD (Q1M Q8t h0 (fun q hq=>.inl (a0 q hq)) (fun _ hq=>.inr hq)) (QD (op_sli h1 (fun q hq=>.inl ((b0 q (a1 q hq)).1)) (fun _ hq=>.inr hq)) (Q1f))⟩
def Q6n (x:FactD):Prop:=x.args.length ≤ 10000
instance (x:FactD):Decidable (Q6n x):=by unfold Q6n; infer_instance
def G_ReplyD (x:ReplyD) (r:(Option Addr × Nat) × (Option Addr × Nat)):List Fact:=[Qi Qf 61 3 (.slice r.1.1 x.facts.length r.1.2) x.facts,.own 149 3 R_V (.slice r.2.1 x.said.length r.2.2) x.said]
def Q2D:Tre ReplyD ((Option Addr × Nat) × (Option Addr × Nat)):=⟨C_ReplyD,G_ReplyD,by intro x r u hu; simp [C_ReplyD] at hu; rcases hu with rfl | rfl | rfl | rfl <;> rfl⟩
def Q6v (x:ReplyD):Prop:=x.facts.length ≤ 10000 ∧ (∀ y ∈ x.facts,Q6n y) ∧ x.said.length ≤ 10000
instance (x:ReplyD):Decidable (Q6v x):=by unfold Q6v; infer_instance
def C_l_ReplyD (x:List ReplyD) (r:Option Addr × Nat):List Value:=[.slice r.1 x.length r.2]
def G_l_ReplyD (x:List ReplyD) (r:Option Addr × Nat):List Fact:=[Qi Q2D 27 4 (.slice r.1 x.length r.2) x]
def Q1T:Tre (List ReplyD) (Option Addr × Nat):=⟨C_l_ReplyD,G_l_ReplyD,by intro x r u hu; simp [C_l_ReplyD] at hu; subst hu; rfl⟩
def Q80 (x:SessD):Prop:=x.r.facts.length ≤ 10000 ∧ (∀ y ∈ x.r.facts,Q6n y) ∧ x.r.said.length ≤ 10000
instance (x:SessD):Decidable (Q80 x):=by unfold Q80; infer_instance
def C_l_SessD (x:List SessD) (r:Option Addr × Nat):List Value:=[.slice r.1 x.length r.2]
def G_l_SessD (x:List SessD) (r:Option Addr × Nat):List Fact:=[Qi Qe 35 6 (.slice r.1 x.length r.2) x]
def Q2o:Tre (List SessD) (Option Addr × Nat):=⟨C_l_SessD,G_l_SessD,by intro x r u hu; simp [C_l_SessD] at hu; subst hu; rfl⟩
end Go.Proofs.YtjfpefddanmliaaGreat
