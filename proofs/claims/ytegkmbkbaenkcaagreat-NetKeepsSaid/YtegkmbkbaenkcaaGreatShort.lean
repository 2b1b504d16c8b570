import Derived.Test.YtegkmbkbaenkcaaGreatTree
namespace Go.Proofs.YtegkmbkbaenkcaaGreat
open Go Go.RowKit
section
variable {P : Program} {C : Ctx} {n : Nat} {Q : Exit → Act → World → Prop} {Φ : List Fact} {H : List Fact} {S S' : List (Nat × Value)} {ops : Array Oper} {rest : List Oper} {o : Oper} {d : Nat}
theorem wl_sliToF {α : Type} {t e sz c h m : Nat} {x y : Operand} {R : Rep α} {p : Option Addr} {l : List α} {z : Int} (k : Nat) (hg : wantS ops S o = some true) (hd : o.dst = some d) (hn : Nat.blt d n = true) (hS : outS d S = S') (ho : o.op = .slice t x none (some y) none)
    (hx : evS S x = some (.slice p m c)) (hk : Φ[k]? = some (.sli sz R p c l)) (hy : evS S y = some (.int .i64 z)) (hz : z = (h : Int)) (ht : tElem P t = some e) (hs : tSize P e = some sz) (hh : h ≤ l.length)
    (next : ∀ p', WL P C n Q (.sli sz R p' c (l.take h) :: Φ) H ((d, .slice p' (l.take h).length c) :: S') ops rest) : WL P C n Q Φ H S ops (o :: rest) := by
  subst hz
  refine wl_run hg hd hn hS fun a w hf hw => ?_
  obtain ⟨F, N, hi⟩ := hw
  have h1 := hi.facts _ (mem_at hk)
  have hcap := sli_cap h1
  refine ⟨.slice (if c = 0 then p else p.map (·.add (0 * sz))) (l.take h).length c, w, ?_, _, H, Holds.fact (φ := .sli sz R (if c = 0 then p else p.map (·.add (0 * sz))) c (l.take h)) ⟨F, N, hi⟩ (fun F' hF' => ?_), next _⟩
  · have e1 : (l.take h).length = h := by simp only [List.length_take]; omega
    rw [e1]
    simp [execOp, ho, hf.eval hx, hf.eval hy, Instr.sliceAt, Instr.slice, run_underlying (tElem_run ht), Instr.sliceBounds, Instr.sliceBound, asIntOf, Nat.le_trans hh hcap.1, tSize_run hs]
  · have h3 := sli_cut (i := 0) (h := h) (p' := if c = 0 then p else p.map (·.add (0 * sz))) (hF' _ (mem_at hk)) (Nat.zero_le _) hh (fun hlt b o e => by subst e; exact cut_at (by omega))
    simp only [List.drop_zero, Nat.sub_zero] at h3
    exact h3
end
end Go.Proofs.YtegkmbkbaenkcaaGreat
