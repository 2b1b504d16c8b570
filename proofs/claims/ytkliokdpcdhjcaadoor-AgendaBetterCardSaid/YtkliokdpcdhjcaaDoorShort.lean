import Derived.Test.YtkliokdpcdhjcaaDoorTree
namespace Go.Proofs.YtkliokdpcdhjcaaDoor
open Go Go.RowKit
section
variable {α Λ : Type} (T : Tre α Λ) (R : Rep α)
def Later (zs : List (α × Λ)) (k : Nat) (F : Foot) (w : World) : Prop := ∀ (j : Nat) (z : α × Λ), zs[j]? = some z → k ≤ j → R.p F w (T.C z.1 z.2) z.1
def ShellP (e sz : Nat) (v : Value) (xs : List α) (k : Nat) (N F : Foot) (w : World) : Prop :=
  ∃ (zs : List (α × Λ)) (A B : Foot), zs.map (·.1) = xs ∧ (∀ q, A q → N q) ∧ (∀ q, B q → N q ∧ ¬ A q) ∧ (Fact.own e sz T.pair v zs).op A F w ∧ (bagF T (zs.take k) none).op B F w ∧ Later T R zs k F w
theorem ShellP.good {T : Tre α Λ} {R : Rep α} {e sz : Nat} {v : Value} {xs : List α} {k : Nat} {N N' F G : Foot} {w w' : World} (hN : ∀ k, N k → N' k) (ha : Agree N w w') (hF : ∀ k, F k → G k) (hb : Agree F w w') (h : ShellP T R e sz v xs k N F w) : ShellP T R e sz v xs k N' G w' := by
  obtain ⟨zs, A, B, h0, h1, h2, h3, h4, h5⟩ := h
  exact ⟨zs, A, B, h0, fun q hq => hN q (h1 q hq), fun q hq => ⟨hN q (h2 q hq).1, (h2 q hq).2⟩, Fact.opgood _ (fun _ h => h) (fun q hq => ha q (h1 q hq)) hF hb h3, Fact.opgood _ (fun _ h => h) (fun q hq => ha q (h2 q hq).1) hF hb h4, fun j z hz hk => R.good hF hb (h5 j z hz hk)⟩
end
end Go.Proofs.YtkliokdpcdhjcaaDoor
namespace Go.Proofs.YtkliokdpcdhjcaaDoor
open Go Go.RowKit
section
variable {P : Program} {C : Ctx} {n : Nat} {Q : Exit → Act → World → Prop} {Φ : List Fact} {H : List Fact} {S S' : List (Nat × Value)} {ops : Array Oper} {rest : List Oper} {o : Oper} {d : Nat}
theorem wl_sliToF {α : Type} {t e sz c h m : Nat} {x y : Operand} {R : Rep α} {p : Option Addr} {l : List α} {z : Int} (k : Nat) (hg : wantS ops S o = some true) (hd : o.dst = some d) (hn : Nat.blt d n = true) (hS : outS d S = S') (ho : o.op = .slice t x none (some y) none)
    (hx : evS S x = some (.slice p m c)) (hk : Φ[k]? = some (.sli sz R p c l)) (hy : evS S y = some (.int .i64 z)) (hz : z = (h : Int)) (ht : tElem P t = some e) (hs : tSize P e = some sz) (hh : h ≤ l.length)
    (next : ∀ p', WL P C n Q (.sli sz R p' c (l.take h) :: Φ) H ((d, .slice p' (l.take h).length c) :: S') ops rest) : WL P C n Q Φ H S ops (o :: rest) := by
  subst hz
  refine wl_run hg hd hn hS fun a w hf hw => ?_
  obtain ⟨F, N, hi⟩ := hw
  have h1 := hi.facts _ (mem_at hk)
  have hcap := sli_cap h1
  refine ⟨.slice (if c = 0 then p else p.map (·.add (0 * sz))) (l.take h).length c, w, ?_, _, H, Holds.fact (φ := .sli sz R (if c = 0 then p else p.map (·.add (0 * sz))) c (l.take h)) ⟨F, N, hi⟩ (fun F' hF' => ?_), next _⟩
  · have e1 : (l.take h).length = h := by simp only [List.length_take]; omega
    rw [e1]
    simp [execOp, ho, hf.eval hx, hf.eval hy, Instr.sliceAt, Instr.slice, run_underlying (tElem_run ht), Instr.sliceBounds, Instr.sliceBound, asIntOf, Nat.le_trans hh hcap.1, tSize_run hs]
  · have h3 := sli_cut (i := 0) (h := h) (p' := if c = 0 then p else p.map (·.add (0 * sz))) (hF' _ (mem_at hk)) (Nat.zero_le _) hh (fun hlt b o e => by subst e; exact cut_at (by omega))
    simp only [List.drop_zero, Nat.sub_zero] at h3
    exact h3
end
section lights
variable {P : Program} {C : Ctx} {n : Nat} {Q : Exit → Act → World → Prop} {ops : Array Oper} {lights L : List Nat} {D : List (Nat × Fact)} {Φ H : List Fact} {S S' : List (Nat × Value)}
theorem wx_indexF {α : Type} (hok : okDraw ops lights = true) (i : Nat) {o : Oper} {d t e sz m : Nat} {x y : Operand} {R : Rep α} {p : Option Addr} {cp : Nat} {l : List α} {ik : IntKind} {z : Int} {u : α} (k j : Nat) (hi : ops[i]? = some o) (hd : o.dst = some d) (hl : lightB ops lights L i n d o = true) (hS : outS d S = S') (hg : wantS ops S o = some true)
    (ho : o.op = .indexAddr t x y) (hφ : Φ[k]? = some (.sli sz R p cp l)) (hx : evS S x = some (.slice p m cp)) (hy : evS S y = some (.int ik z)) (hz : z = (j : Int)) (hm : j < m) (hu : l[j]? = some u) (he : tElem P t = some e) (hs : tSize P e = some sz)
    (next : ∀ b q cs, cs.length = sz → WX P C n Q ops lights (i :: L) D (.cells b q cs :: .rep R cs u :: Φ) H ((d, .pointer (some ⟨b, q, none⟩)) :: S')) : WX P C n Q ops lights L D Φ H S := by
  have hj := get_lt hu
  subst hz
  refine wx_open (Λ := Nat × Nat × List Value) (pure := fun r => p = some ⟨r.1, r.2.1, none⟩ ∧ r.2.2.length = sz) (facts := fun r => [.cells r.1 (r.2.1 + j * sz) r.2.2, .rep R r.2.2 u]) (fun F w hΦ => ?_) ?_
  · obtain ⟨p', n', c', xs, he', hn', hc, _, hch, hrow⟩ := (hΦ _ (mem_at hφ) : Sli F w sz (R.p F w) (.slice p l.length cp) l)
    cases he'
    obtain ⟨b, off, hp, hF, hcell⟩ := hrow (by omega)
    obtain ⟨cs, hcl, hr, hu2⟩ := hch.at hu
    refine ⟨(b, off, cs), ⟨hp, hcl⟩, fun φ hφ' => ?_⟩
    simp only [List.mem_cons, List.not_mem_nil, or_false] at hφ'
    rcases hφ' with rfl | rfl
    · refine ⟨hF, fun i v hi2 => ?_⟩
      rw [Nat.add_assoc]; exact hcell _ v (hu2 i v hi2)
    · exact hr
  · rintro ⟨b, off, cs⟩ ⟨rfl, hcl⟩
    refine wx_det hok i [] [] hi hd hl hS rfl hg (fun a w hf _ => ?_) (next b (off + j * sz) cs hcl)
    have h1 : (0 : Int) ≤ j ∧ (j : Int) < m := by omega
    simp [execOp, ho, hf.eval hx, hf.eval hy, Instr.indexAt, asIntOf, run_underlying (tElem_run he), h1, tSize_run hs, Addr.add, hm]
end lights
end Go.Proofs.YtkliokdpcdhjcaaDoor
