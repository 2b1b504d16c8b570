import Derived.Test.YtegkmbkbaenkcaaAuto
namespace Go.Proofs.Ytegkmbkbaenkcaa
open Go Go.RowKit
section
variable {P : Program} {C : Ctx} {n : Nat} {Q : Exit → Act → World → Prop} {Φ : List Fact} {H : List Fact} {S S' : List (Nat × Value)} {ops : Array Oper} {rest : List Oper} {o : Oper} {d : Nat} {lights L : List Nat} {D : List (Nat × Fact)}
def Reck (P : Program) (n : Nat) (S : List (Nat × Value)) (o : Oper) (v : Value) : Prop := ∀ a w, Frm n S a → (execOp a.eval o).run P w = .ok (.value v) w
theorem wl_reck {v : Value} (hg : wantS ops S o = some true) (hd : o.dst = some d) (hn : Nat.blt d n = true) (hS : outS d S = S') (h : Reck P n S o v) (next : WL P C n Q Φ H ((d, v) :: S') ops rest) : WL P C n Q Φ H S ops (o :: rest) :=
  wl_val hg hd hn hS (fun a w hf _ => h a w hf) next
theorem wx_reck (hok : okDraw ops lights = true) (i : Nat) {o : Oper} {d : Nat} {v : Value} (hi : ops[i]? = some o) (hd : o.dst = some d) (hl : lightB ops lights L i n d o = true) (hS : outS d S = S') (hg : wantS ops S o = some true) (h : Reck P n S o v)
    (next : WX P C n Q ops lights (i :: L) D Φ H ((d, v) :: S')) : WX P C n Q ops lights L D Φ H S :=
  wx_det hok i [] [] hi hd hl hS rfl hg (fun a w hf _ => h a w hf) next
def tArrE (P : Program) (t : Nat) : Option (Nat × Nat) := match P.underlying t with
  | some (.array m e) => some (m, e)
  | _ => none
theorem tArrE_run {t m e : Nat} (h : tArrE P t = some (m, e)) : P.underlying t = some (.array m e) := by
  unfold tArrE at h
  split at h
  · rename_i h2; cases h; exact h2
  · cases h
theorem rk_arrAt {t m e sz b q : Nat} {x y : Operand} {k : IntKind} {z : Int} (j : Nat) (ho : o.op = .indexAddr t x y) (hx : evS S x = some (.pointer (some ⟨b, q, none⟩))) (hy : evS S y = some (.int k z)) (hz : z = (j : Int)) (hj : j < m) (he : tArrE P t = some (m, e)) (hs : tSize P e = some sz) :
    Reck P n S o (.pointer (some ⟨b, q + j * sz, none⟩)) := by
  subst hz
  refine fun a w hf => ?_
  have h1 : (0 : Int) ≤ j ∧ (j : Int) < m := by omega
  simp [execOp, ho, hf.eval hx, hf.eval hy, Instr.indexAt, asIntOf, run_underlying (tArrE_run he), h1, tSize_run hs, addr_add, Instr.sureAddr, hj]
end
end Go.Proofs.Ytegkmbkbaenkcaa
