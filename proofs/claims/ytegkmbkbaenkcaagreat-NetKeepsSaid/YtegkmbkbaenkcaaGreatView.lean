import Derived.Test.YtegkmbkbaenkcaaGreatAuto
namespace Go.Proofs.YtegkmbkbaenkcaaGreat
open Go Go.RowKit
theorem sli_cut {α : Type} {sz c i h : Nat} {R : Rep α} {p p' : Option Addr} {l : List α} {F : Foot} {w : World} (hs : (Fact.sli sz R p c l).p F w) (hi : i ≤ h) (hl : h ≤ l.length) (hp : i < h → ∀ b o, p = some ⟨b, o, none⟩ → p' = some ⟨b, o + i * sz, none⟩) : (Fact.sli sz R p' (c - i) ((l.take h).drop i)).p F w := by
  obtain ⟨p0, n0, c0, xs, e1, e2, h1, h2, h3, h4⟩ := sli_to h hs
  cases e1
  refine ⟨p', _, c - i, xs.drop (i * sz), rfl, rfl, by simp only [List.length_drop, List.length_take] at h1 ⊢; omega, by omega, h3.drop i, fun h0 => ?_⟩
  simp only [List.length_drop, List.length_take] at h0
  obtain ⟨b, o, e3, h5, h6⟩ := h4 (by simp only [List.length_take]; omega)
  refine ⟨b, o + i * sz, hp (by omega) b o e3, h5, fun j u hu => ?_⟩
  rw [List.getElem?_drop] at hu
  have := h6 (i * sz + j) u hu
  rw [Nat.add_assoc]; exact this
section
variable {P : Program} {C : Ctx} {n : Nat} {Q : Exit → Act → World → Prop} {Φ : List Fact} {H : List Fact} {S S' : List (Nat × Value)} {ops : Array Oper} {rest : List Oper} {o : Oper} {d : Nat}
theorem cut_at {b o sz i c : Nat} (hc : i < c) : (if c = i then (some ⟨b, o, none⟩ : Option Addr) else (some ⟨b, o, none⟩ : Option Addr).map (·.add (i * sz))) = some ⟨b, o + i * sz, none⟩ := by
  rw [if_neg (by omega)]; simp [addr_add]
end
section
variable {P : Program} {C : Ctx} {n : Nat} {Q : Exit → Act → World → Prop} {Φ : List Fact} {H : List Fact} {S S' : List (Nat × Value)} {ops : Array Oper} {rest : List Oper} {o : Oper} {d : Nat} {lights L : List Nat} {D : List (Nat × Fact)}
theorem wl_indexS {α : Type} {t e sz m q : Nat} {x i : Operand} {R : Rep α} {p : Option Addr} {cp : Nat} {l : List α} {ik : IntKind} {z : Int} (k j : Nat) (hg : wantS ops S o = some true) (hd : o.dst = some d) (hn : Nat.blt d n = true) (hS : outS d S = S') (ho : o.op = .indexAddr t x i)
    (hφ : H[k]? = some (.own e sz R (.slice p m cp) l)) (hx : evS S x = some (.slice p q cp)) (hi : evS S i = some (.int ik z)) (hz : z = (j : Int)) (hq : j < q) (hj : j < l.length) (he : tElem P t = some e) (hs : tSize P e = some sz)
    (next : ∀ g, p = some ⟨g, 0, none⟩ → WL P C n Q Φ H ((d, .pointer (some ⟨g, j * sz, none⟩)) :: S') ops rest) : WL P C n Q Φ H S ops (o :: rest) := by
  refine wl_run hg hd hn hS fun a w hf hw => ?_
  have hw' := hw
  obtain ⟨F, N, hi'⟩ := hw
  obtain ⟨hN, hown⟩ := hi'.owns k _ hφ
  obtain ⟨g, hp, hm, _⟩ := hown.head (by omega)
  subst hp; subst hz
  refine ⟨.pointer (some ⟨g, j * sz, none⟩), w, ?_, Φ, H, hw', next g rfl⟩
  have h1 : (0 : Int) ≤ j ∧ (j : Int) < q := by omega
  simp [execOp, ho, hf.eval hx, hf.eval hi, Instr.indexAt, asIntOf, run_underlying (tElem_run he), h1, hq, tSize_run hs]
  unfold Addr.add; split <;> simp_all
end
theorem view_to {α : Type} {sz c : Nat} {R : Rep α} {p : Option Addr} {l : List α} {F : Foot} {w : World} (h : (Fact.sli sz R p c l).p F w) (k : Nat) : (Fact.sli sz R p c (l.take k)).p F w := sli_to k h
end Go.Proofs.YtegkmbkbaenkcaaGreat
