import Derived.Test.YtighbinghbnjhaaGreatAuto
import Derived.Test.YtighbinghbnjhaaGreatPatD
import Derived.Test.YtighbinghbnjhaaGreatEqB
import Derived.Test.YtighbinghbnjhaaGreatMapE
import Derived.Test.YtighbinghbnjhaaGreatTree
import Derived.Test.YtighbinghbnjhaaGreatShell
import Derived.Test.YtighbinghbnjhaaGreatShort
import Derived.Test.YtighbinghbnjhaaGreatFlat
import Derived.Test.YtighbinghbnjhaaGreatApart
import Derived.Test.YtighbinghbnjhaaGreatRun
namespace Go.Proofs.YtighbinghbnjhaaGreat
open Go.RowKit
def C_V (x : V) (_ : Unit) : List Value := [.int .u8 x.k, .int .i64 x.n, .string x.s]
def F_V (_ : V) (_ : Unit) : List Fact := []
def R_V : Rep V := mkRep C_V F_V (by intro x r u hu; simp [C_V] at hu; rcases hu with rfl | rfl | rfl <;> rfl)
theorem R_V_opens : Opens R_V C_V (fun _ _ => True) F_V := mkRep_opens
def C_FactD (x : FactD) (r : Option Addr × Nat) : List Value := [.int .i64 x.id, .int .i64 x.ty, .slice r.1 x.args.length r.2]
def F_FactD (x : FactD) (r : Option Addr × Nat) : List Fact := [.sli 3 R_V r.1 r.2 x.args]
def R_FactD : Rep FactD := mkRep C_FactD F_FactD (by intro x r u hu; simp [C_FactD] at hu; rcases hu with rfl | rfl | rfl <;> rfl)
theorem R_FactD_opens : Opens R_FactD C_FactD (fun _ _ => True) F_FactD := mkRep_opens
def C_SessD (x : SessD) (r : (Option Addr × Nat) × (Option Addr × Nat)) : List Value := [.int .i64 x.id, .int .i64 x.seq, .int .i64 x.r.err, .int .i64 x.r.num, .slice r.1.1 x.r.facts.length r.1.2, .slice r.2.1 x.r.said.length r.2.2]
def F_SessD (x : SessD) (r : (Option Addr × Nat) × (Option Addr × Nat)) : List Fact := [.sli 3 R_FactD r.1.1 r.1.2 x.r.facts, .sli 3 R_V r.2.1 r.2.2 x.r.said]
def R_SessD : Rep SessD := mkRep C_SessD F_SessD (by intro x r u hu; simp [C_SessD] at hu; rcases hu with rfl | rfl | rfl | rfl | rfl | rfl <;> rfl)
theorem R_SessD_opens : Opens R_SessD C_SessD (fun _ _ => True) F_SessD := mkRep_opens
structure Ropewalklaw27_DoD where
  op : Int
  id : Int
  seq : Int
  reply : ReplyD
def C_Ropewalklaw27_DoD (x : Ropewalklaw27_DoD) (r : (Option Addr × Nat) × (Option Addr × Nat)) : List Value := [.int .i64 x.op, .int .i64 x.id, .int .i64 x.seq, .int .i64 x.reply.err, .int .i64 x.reply.num, .slice r.1.1 x.reply.facts.length r.1.2, .slice r.2.1 x.reply.said.length r.2.2]
def F_Ropewalklaw27_DoD (x : Ropewalklaw27_DoD) (r : (Option Addr × Nat) × (Option Addr × Nat)) : List Fact := [.sli 3 R_FactD r.1.1 r.1.2 x.reply.facts, .sli 3 R_V r.2.1 r.2.2 x.reply.said]
def R_Ropewalklaw27_DoD : Rep Ropewalklaw27_DoD := mkRep C_Ropewalklaw27_DoD F_Ropewalklaw27_DoD (by intro x r u hu; simp [C_Ropewalklaw27_DoD] at hu; rcases hu with rfl | rfl | rfl | rfl | rfl | rfl | rfl <;> rfl)
theorem R_Ropewalklaw27_DoD_opens : Opens R_Ropewalklaw27_DoD C_Ropewalklaw27_DoD (fun _ _ => True) F_Ropewalklaw27_DoD := mkRep_opens
def G_FactD (x : FactD) (r : Option Addr × Nat) : List Fact := [.own 149 3 R_V (.slice r.1 x.args.length r.2) x.args]
def T_FactD : Tre FactD (Option Addr × Nat) := ⟨C_FactD, G_FactD, by intro x r u hu; simp [C_FactD] at hu; rcases hu with rfl | rfl | rfl <;> rfl⟩
theorem T_FactD_free : T_FactD.free := by
  intro x r φ hφ
  have hφ : φ ∈ G_FactD x r := hφ
  simp only [G_FactD, List.mem_cons, List.not_mem_nil, or_false] at hφ
  subst hφ; exact own_free mkRep_free
theorem T_FactD_lend : ∀ x r N F w, Star (T_FactD.G x r) N F w → R_FactD.p (fun q => N q ∨ F q) w (T_FactD.C x r) x := by
  rintro x r N F w ⟨A0, B0, a0, b0, h0, _⟩
  exact ⟨r, rfl, ask_cons (op_sli h0 (fun q hq => .inl (a0 q hq)) (fun _ hq => .inr hq)) (ask_nil)⟩
theorem T_FactD_cells : ∀ F w cs x, R_FactD.p F w cs x → ∃ r, cs = T_FactD.C x r := fun _ _ _ _ h => ⟨h.choose, h.choose_spec.1⟩
theorem T_FactD_read : ∀ x r F w, R_FactD.p F w (T_FactD.C x r) x → ∀ φ ∈ F_FactD x r, φ.p F w := by
  rintro x ⟨a0, ac0⟩ F w ⟨⟨d0, dc0⟩, e, h⟩
  have e : C_FactD x (a0, ac0) = C_FactD x (d0, dc0) := e
  simp [C_FactD] at e
  simpa [e] using h
def G_SessD (x : SessD) (r : (Option Addr × Nat) × (Option Addr × Nat)) : List Fact := [treeF T_FactD 55 3 (.slice r.1.1 x.r.facts.length r.1.2) x.r.facts, .own 149 3 R_V (.slice r.2.1 x.r.said.length r.2.2) x.r.said]
def T_SessD : Tre SessD ((Option Addr × Nat) × (Option Addr × Nat)) := ⟨C_SessD, G_SessD, by intro x r u hu; simp [C_SessD] at hu; rcases hu with rfl | rfl | rfl | rfl | rfl | rfl <;> rfl⟩
theorem T_SessD_free : T_SessD.free := by
  intro x r φ hφ
  have hφ : φ ∈ G_SessD x r := hφ
  simp only [G_SessD, List.mem_cons, List.not_mem_nil, or_false] at hφ
  rcases hφ with rfl | rfl
  · exact tree_free T_FactD_free
  · exact own_free mkRep_free
theorem T_SessD_lend : ∀ x r N F w, Star (T_SessD.G x r) N F w → R_SessD.p (fun q => N q ∨ F q) w (T_SessD.C x r) x := by
  rintro x r N F w ⟨A0, B0, a0, b0, h0, A1, B1, a1, b1, h1, _⟩
  exact ⟨r, rfl, ask_cons (tree_sli T_FactD_lend h0 (fun q hq => .inl (a0 q hq)) (fun _ hq => .inr hq)) (ask_cons (op_sli h1 (fun q hq => .inl ((b0 q (a1 q hq)).1)) (fun _ hq => .inr hq)) (ask_nil))⟩
theorem T_SessD_cells : ∀ F w cs x, R_SessD.p F w cs x → ∃ r, cs = T_SessD.C x r := fun _ _ _ _ h => ⟨h.choose, h.choose_spec.1⟩
theorem T_SessD_read : ∀ x r F w, R_SessD.p F w (T_SessD.C x r) x → ∀ φ ∈ F_SessD x r, φ.p F w := by
  rintro x ⟨⟨a0, ac0⟩, ⟨a1, ac1⟩⟩ F w ⟨⟨⟨d0, dc0⟩, ⟨d1, dc1⟩⟩, e, h⟩
  have e : C_SessD x ((a0, ac0), (a1, ac1)) = C_SessD x ((d0, dc0), (d1, dc1)) := e
  simp [C_SessD] at e
  simpa [e] using h
def C_i64 (x : Int) (_ : Unit) : List Value := [.int .i64 x]
def F_i64 (_ : Int) (_ : Unit) : List Fact := []
def R_i64 : Rep Int := mkRep C_i64 F_i64 (by intro x r u hu; simp [C_i64] at hu; subst hu; rfl)
structure FactDS where
  id : Int
  ty : Int
  args : List V
  argsT : List V
def to_FactD (x : FactDS) : FactD := ⟨x.id, x.ty, x.args⟩
def CS_FactD (x : FactDS) (r : Option Addr × Nat) : List Value := [.int .i64 x.id, .int .i64 x.ty, .slice r.1 x.args.length r.2]
def GS_FactD (x : FactDS) (r : Option Addr × Nat) : List Fact := [.own 149 3 R_V (.slice r.1 (x.args ++ x.argsT).length r.2) (x.args ++ x.argsT)]
def TS_FactD : Tre FactDS (Option Addr × Nat) := ⟨CS_FactD, GS_FactD, by intro x r u hu; simp [CS_FactD] at hu; rcases hu with rfl | rfl | rfl <;> rfl⟩
theorem TS_FactD_lend : ∀ x r N F w, Star (TS_FactD.G x r) N F w → R_FactD.p (fun q => N q ∨ F q) w (TS_FactD.C x r) (to_FactD x) := by
  rintro x r N F w ⟨A0, B0, a0, b0, h0, _⟩
  exact ⟨r, by simp [TS_FactD, CS_FactD, C_FactD, to_FactD], ask_cons (op_sliL h0 (fun q hq => .inl (a0 q hq)) (fun _ hq => .inr hq)) (ask_nil)⟩
def C_ReplyD (x : ReplyD) (r : (Option Addr × Nat) × (Option Addr × Nat)) : List Value := [.int .i64 x.err, .int .i64 x.num, .slice r.1.1 x.facts.length r.1.2, .slice r.2.1 x.said.length r.2.2]
def F_ReplyD (x : ReplyD) (r : (Option Addr × Nat) × (Option Addr × Nat)) : List Fact := [.sli 3 R_FactD r.1.1 r.1.2 x.facts, .sli 3 R_V r.2.1 r.2.2 x.said]
def R_ReplyD : Rep ReplyD := mkRep C_ReplyD F_ReplyD (by intro x r u hu; simp [C_ReplyD] at hu; rcases hu with rfl | rfl | rfl | rfl <;> rfl)
structure ReplyDS where
  err : Int
  num : Int
  facts : List FactDS
  factsT : List FactDS
  said : List V
  saidT : List V
def to_ReplyD (x : ReplyDS) : ReplyD := ⟨x.err, x.num, (x.facts.map to_FactD), x.said⟩
structure SessDS where
  id : Int
  seq : Int
  r : ReplyDS
def to_SessD (x : SessDS) : SessD := ⟨x.id, x.seq, (to_ReplyD x.r)⟩
def CS_SessD (x : SessDS) (r : (Option Addr × Nat) × (Option Addr × Nat)) : List Value := [.int .i64 x.id, .int .i64 x.seq, .int .i64 x.r.err, .int .i64 x.r.num, .slice r.1.1 x.r.facts.length r.1.2, .slice r.2.1 x.r.said.length r.2.2]
def GS_SessD (x : SessDS) (r : (Option Addr × Nat) × (Option Addr × Nat)) : List Fact := [treeF TS_FactD 55 3 (.slice r.1.1 (x.r.facts ++ x.r.factsT).length r.1.2) (x.r.facts ++ x.r.factsT), .own 149 3 R_V (.slice r.2.1 (x.r.said ++ x.r.saidT).length r.2.2) (x.r.said ++ x.r.saidT)]
def TS_SessD : Tre SessDS ((Option Addr × Nat) × (Option Addr × Nat)) := ⟨CS_SessD, GS_SessD, by intro x r u hu; simp [CS_SessD] at hu; rcases hu with rfl | rfl | rfl | rfl | rfl | rfl <;> rfl⟩
theorem TS_SessD_lend : ∀ x r N F w, Star (TS_SessD.G x r) N F w → R_SessD.p (fun q => N q ∨ F q) w (TS_SessD.C x r) (to_SessD x) := by
  rintro x r N F w ⟨A0, B0, a0, b0, h0, A1, B1, a1, b1, h1, _⟩
  exact ⟨r, by simp [TS_SessD, CS_SessD, C_SessD, to_FactD, to_ReplyD, to_SessD], ask_cons (treeM_sliL TS_FactD_lend h0 (fun q hq => .inl (a0 q hq)) (fun _ hq => .inr hq)) (ask_cons (op_sliL h1 (fun q hq => .inl ((b0 q (a1 q hq)).1)) (fun _ hq => .inr hq)) (ask_nil))⟩
def FS_FactD (x : FactDS) (r : Option Addr × Nat) : List Fact := [.sli 3 R_V r.1 r.2 (x.args ++ x.argsT)]
def RS_FactD : Rep FactDS := mkRep CS_FactD FS_FactD (by intro x r u hu; simp [CS_FactD] at hu; rcases hu with rfl | rfl | rfl <;> rfl)
theorem RS_FactD_opens : Opens RS_FactD CS_FactD (fun _ _ => True) FS_FactD := mkRep_opens
theorem TS_FactD_lendS : ∀ x r N F w, Star (TS_FactD.G x r) N F w → RS_FactD.p (fun q => N q ∨ F q) w (TS_FactD.C x r) x := by
  rintro x r N F w ⟨A0, B0, a0, b0, h0, _⟩
  exact ⟨r, rfl, ask_cons (op_sli h0 (fun q hq => .inl (a0 q hq)) (fun _ hq => .inr hq)) (ask_nil)⟩
def FS_SessD (x : SessDS) (r : (Option Addr × Nat) × (Option Addr × Nat)) : List Fact := [.sli 3 RS_FactD r.1.1 r.1.2 (x.r.facts ++ x.r.factsT), .sli 3 R_V r.2.1 r.2.2 (x.r.said ++ x.r.saidT)]
def RS_SessD : Rep SessDS := mkRep CS_SessD FS_SessD (by intro x r u hu; simp [CS_SessD] at hu; rcases hu with rfl | rfl | rfl | rfl | rfl | rfl <;> rfl)
theorem RS_SessD_opens : Opens RS_SessD CS_SessD (fun _ _ => True) FS_SessD := mkRep_opens
theorem TS_SessD_lendS : ∀ x r N F w, Star (TS_SessD.G x r) N F w → RS_SessD.p (fun q => N q ∨ F q) w (TS_SessD.C x r) x := by
  rintro x r N F w ⟨A0, B0, a0, b0, h0, A1, B1, a1, b1, h1, _⟩
  exact ⟨r, rfl, ask_cons (tree_sli TS_FactD_lendS h0 (fun q hq => .inl (a0 q hq)) (fun _ hq => .inr hq)) (ask_cons (op_sli h1 (fun q hq => .inl ((b0 q (a1 q hq)).1)) (fun _ hq => .inr hq)) (ask_nil))⟩
def sz_FactD (x : FactD) : Prop := x.args.length ≤ 10000
instance (x : FactD) : Decidable (sz_FactD x) := by unfold sz_FactD; infer_instance
def G_ReplyD (x : ReplyD) (r : (Option Addr × Nat) × (Option Addr × Nat)) : List Fact := [treeF T_FactD 55 3 (.slice r.1.1 x.facts.length r.1.2) x.facts, .own 149 3 R_V (.slice r.2.1 x.said.length r.2.2) x.said]
def T_ReplyD : Tre ReplyD ((Option Addr × Nat) × (Option Addr × Nat)) := ⟨C_ReplyD, G_ReplyD, by intro x r u hu; simp [C_ReplyD] at hu; rcases hu with rfl | rfl | rfl | rfl <;> rfl⟩
def sz_ReplyD (x : ReplyD) : Prop := x.facts.length ≤ 10000 ∧ (∀ y ∈ x.facts, sz_FactD y) ∧ x.said.length ≤ 10000
instance (x : ReplyD) : Decidable (sz_ReplyD x) := by unfold sz_ReplyD; infer_instance
def C_l_ReplyD (x : List ReplyD) (r : Option Addr × Nat) : List Value := [.slice r.1 x.length r.2]
def G_l_ReplyD (x : List ReplyD) (r : Option Addr × Nat) : List Fact := [treeF T_ReplyD 29 4 (.slice r.1 x.length r.2) x]
def T_l_ReplyD : Tre (List ReplyD) (Option Addr × Nat) := ⟨C_l_ReplyD, G_l_ReplyD, by intro x r u hu; simp [C_l_ReplyD] at hu; subst hu; rfl⟩
def sz_SessD (x : SessD) : Prop := x.r.facts.length ≤ 10000 ∧ (∀ y ∈ x.r.facts, sz_FactD y) ∧ x.r.said.length ≤ 10000
instance (x : SessD) : Decidable (sz_SessD x) := by unfold sz_SessD; infer_instance
def C_l_SessD (x : List SessD) (r : Option Addr × Nat) : List Value := [.slice r.1 x.length r.2]
def G_l_SessD (x : List SessD) (r : Option Addr × Nat) : List Fact := [treeF T_SessD 31 6 (.slice r.1 x.length r.2) x]
def T_l_SessD : Tre (List SessD) (Option Addr × Nat) := ⟨C_l_SessD, G_l_SessD, by intro x r u hu; simp [C_l_SessD] at hu; subst hu; rfl⟩
def C_u8 (x : Int) (_ : Unit) : List Value := [.int .u8 x]
def F_u8 (_ : Int) (_ : Unit) : List Fact := []
def R_u8 : Rep Int := mkRep C_u8 F_u8 (by intro x r u hu; simp [C_u8] at hu; subst hu; rfl)
def C_str (x : ByteArray) (_ : Unit) : List Value := [.string x]
def F_str (_ : ByteArray) (_ : Unit) : List Fact := []
def R_str : Rep ByteArray := mkRep C_str F_str (by intro x r u hu; simp [C_str] at hu; subst hu; rfl)
def C_bool (x : Bool) (_ : Unit) : List Value := [.bool x]
def F_bool (_ : Bool) (_ : Unit) : List Fact := []
def R_bool : Rep Bool := mkRep C_bool F_bool (by intro x r u hu; simp [C_bool] at hu; subst hu; rfl)
def ok_V (x : V) : Prop := inK .u8 x.k ∧ inK .i64 x.n ∧ x.s.size ≤ 140737488351232
def ok_FactD (x : FactD) : Prop := inK .i64 x.id ∧ inK .i64 x.ty ∧ (x.args.length ≤ 4398046510976 ∧ ∀ y ∈ x.args, ok_V y)
def ok_ReplyD (x : ReplyD) : Prop := inK .i64 x.err ∧ inK .i64 x.num ∧ (x.facts.length ≤ 3518437208780 ∧ ∀ y ∈ x.facts, ok_FactD y) ∧ (x.said.length ≤ 4398046510976 ∧ ∀ y ∈ x.said, ok_V y)
def ok_SessD (x : SessD) : Prop := inK .i64 x.id ∧ inK .i64 x.seq ∧ ok_ReplyD x.r
def ok_Ropewalklaw27_DoD (x : Ropewalklaw27_DoD) : Prop := inK .i64 x.op ∧ inK .i64 x.id ∧ inK .i64 x.seq ∧ ok_ReplyD x.reply
end Go.Proofs.YtighbinghbnjhaaGreat
