/- How a reply and a session read. No program in sight. -/
import Derived.Test.YtcfeknjfcpaekaaDoorDyn
namespace Go.Proofs.YtcfeknjfcpaekaaDoor
open Go.RowKit

structure ReplyD where
  err : Int
  num : Int
  facts : List FactD
  said : List V
structure SessD where
  id : Int
  seq : Int
  r : ReplyD
abbrev RowAt := Option Addr × Nat
def ReplyD.ok (x : ReplyD) : Prop := inI x.err ∧ inI x.num
def SessD.ok (x : SessD) : Prop := inI x.id ∧ inI x.seq ∧ x.r.ok
def rplCells (x : ReplyD) (r : RowAt × RowAt) : List Value := [.int .i64 x.err, .int .i64 x.num, .slice r.1.1 x.facts.length r.1.2, .slice r.2.1 x.said.length r.2.2]
def rplFacts (x : ReplyD) (r : RowAt × RowAt) : List Fact := [.sli 3 fRep r.1.1 r.1.2 x.facts, .sli 3 vRep r.2.1 r.2.2 x.said]
def sesCells (x : SessD) (r : RowAt × RowAt) : List Value := .int .i64 x.id :: .int .i64 x.seq :: rplCells x.r r
def sesRep : Rep SessD := ⟨fun F w cs x => x.ok ∧ ∃ r : RowAt × RowAt, cs = sesCells x r ∧ ∀ φ ∈ rplFacts x.r r, φ.p F w, fun hF ha ⟨h0, r, h1, h2⟩ => ⟨h0, r, h1, fun φ hφ => Fact.good _ hF ha (h2 φ hφ)⟩,
  fun ⟨_, r, h1, _⟩ u hu => by rw [h1] at hu; simp [sesCells, rplCells] at hu; rcases hu with rfl | rfl | rfl | rfl | rfl | rfl <;> rfl⟩
theorem sesRep_opens : Opens sesRep sesCells (fun x _ => x.ok) (fun x r => rplFacts x.r r) := fun _ _ _ _ ⟨h0, r, h1, h2⟩ => ⟨r, h1, h0, h2⟩
theorem sesRep_shuts : Shuts sesRep sesCells (fun x _ => x.ok) (fun x r => rplFacts x.r r) := fun _ _ _ r h0 h => ⟨h0, r, rfl, h⟩
end Go.Proofs.YtcfeknjfcpaekaaDoor
