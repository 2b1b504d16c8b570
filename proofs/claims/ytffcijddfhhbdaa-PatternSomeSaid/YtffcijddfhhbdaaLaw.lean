/- A law's arguments opened: what the program's data are when they read; what a law leaves. -/
import Derived.Test.YtffcijddfhhbdaaOpen
import Derived.Test.YtffcijddfhhbdaaTypes
import Derived.Test.YtffcijddfhhbdaaLight
import Derived.Deep.Strs
import Derived.Lib.SmallJoins
namespace Go.Proofs.Ytffcijddfhhbdaa
open Go.RowKit Go.Deep

theorem wf_inI {n : Int} (h : (Lit.int .i64 n).wf = true) : inI n := by
  have e1 : IntKind.min .i64 = -9223372036854775808 := by decide
  have e2 : IntKind.max .i64 = 9223372036854775807 := by decide
  simp only [Lit.wf, e1, e2, Bool.and_eq_true, decide_eq_true_eq] at h
  exact h
theorem wf_inB {n : Int} (h : (Lit.int .u8 n).wf = true) : inB n := by
  have e1 : IntKind.min .u8 = 0 := by decide
  have e2 : IntKind.max .u8 = 255 := by decide
  simp only [Lit.wf, e1, e2, Bool.and_eq_true, decide_eq_true_eq] at h
  exact h
section
variable {H : Type} {enc : TypeId × Value → H} {w : World} {base : Nat} {spare : Nat → Bool} {held : Bool} {fuel : Nat} {cs : List Value} {y : DataW H × List MemPlace}
theorem open_V (h : DataW.trod enc Try.prog w base spare held fuel 27 cs = some y) : ∃ x : V, cs = vCells x () ∧ x.ok := by
  obtain ⟨y0, y1, y2, n, rfl, hl, h0, h1, h2⟩ := trod_struct3 Try.underlying27 h
  have c : Try.prog.cellsOf 27 = 3 := by kernel_rfl
  have c0 : Try.prog.cellsOf 25 = 1 := by kernel_rfl
  have c1 : Try.prog.cellsOf 2 = 1 := by kernel_rfl
  have c2 : Try.prog.cellsOf 9 = 1 := by kernel_rfl
  rw [c] at hl
  match cs, hl with
  | [a, b, d], _ =>
    simp only [c0, c1, c2, List.drop_zero, List.take_succ_cons, List.take_zero, List.drop_succ_cons] at h0 h1 h2
    obtain ⟨k, e0, _, w0⟩ := DataW.trod_int Try.underlying25 h0
    obtain ⟨m, e1, _, w1⟩ := DataW.trod_int Try.underlying2 h1
    obtain ⟨s, e2, _, _⟩ := DataW.trod_string Try.underlying9 h2
    cases e0; cases e1; cases e2
    exact ⟨⟨k, m, s⟩, rfl, wf_inB w0, wf_inI w1⟩
theorem open_A (h : DataW.trod enc Try.prog w base spare held fuel 48 cs = some y) : ∃ x : ArgD, cs = aCells x () ∧ x.ok := by
  obtain ⟨y0, y1, y2, n, rfl, hl, h0, h1, h2⟩ := trod_struct3 Try.underlying48 h
  have c : Try.prog.cellsOf 48 = 5 := by kernel_rfl
  have c0 : Try.prog.cellsOf 46 = 1 := by kernel_rfl
  have c1 : Try.prog.cellsOf 3 = 1 := by kernel_rfl
  have c2 : Try.prog.cellsOf 27 = 3 := by kernel_rfl
  rw [c] at hl
  match cs, hl with
  | [a, b, d, e, f], _ =>
    simp only [c0, c1, c2, List.drop_zero, List.take_succ_cons, List.take_zero, List.drop_succ_cons] at h0 h1 h2
    obtain ⟨k, e0, _, w0⟩ := DataW.trod_int Try.underlying46 h0
    obtain ⟨m, e1, _, w1⟩ := DataW.trod_int Try.underlying3 h1
    obtain ⟨x, e2, hx⟩ := open_V h2
    cases e0; cases e1
    simp only [vCells, List.cons.injEq, and_true] at e2
    obtain ⟨rfl, rfl, rfl⟩ := e2
    exact ⟨⟨k, m, x⟩, rfl, wf_inB w0, wf_inI w1, hx⟩
theorem open_B (h : DataW.trod enc Try.prog w base spare held fuel 4 cs = some y) : ∃ x : Bool, cs = [.bool x] := by
  obtain ⟨b, h1, _⟩ := DataW.trod_bool Try.underlying4 h
  exact ⟨b, h1⟩
/-- A slice that reads: a list that nobody writes. -/
theorem open_list {α : Type} {t e sz : Nat} {R : Rep α} (ht : Try.prog.underlying t = some (.slice e)) (hC : Try.prog.cellsOf e = sz) (hz : 0 < sz) (hel : ∀ n cs y, DataW.trod enc Try.prog w base spare held n e cs = some y → ∃ a, R.p (fun k => k < w.heap.size) w cs a)
    {u : Value} (h : DataW.trod enc Try.prog w base spare held fuel t [u] = some y) : ∃ (p : Option Addr) (c : Nat) (l : List α), u = .slice p l.length c ∧ (Fact.sli sz R p c l).p (fun k => k < w.heap.size) w := by
  obtain ⟨v, l, e1, hs⟩ := open_sli (R := R.p (fun k => k < w.heap.size) w) ht hC hz hel h
  cases e1
  have hs' := hs
  obtain ⟨p, n, c, xs, e2, hn, _⟩ := hs
  subst hn
  subst e2
  exact ⟨p, c, l, rfl, hs'⟩
theorem open_Vs {u : Value} (h : DataW.trod enc Try.prog w base spare held fuel 34 [u] = some y) : ∃ p c l, u = .slice p l.length c ∧ (Fact.sli 3 vRep p c l).p (fun k => k < w.heap.size) w :=
  open_list Try.underlying34 (by kernel_rfl) (by decide) (fun _ _ _ h => open_V h) h
theorem open_As {u : Value} (h : DataW.trod enc Try.prog w base spare held fuel 23 [u] = some y) : ∃ p c l, u = .slice p l.length c ∧ (Fact.sli 5 aRep p c l).p (fun k => k < w.heap.size) w :=
  open_list Try.underlying23 (by kernel_rfl) (by decide) (fun _ _ _ h => open_A h) h
theorem open_Bs {u : Value} (h : DataW.trod enc Try.prog w base spare held fuel 37 [u] = some y) : ∃ p c l, u = .slice p l.length c ∧ (Fact.sli 1 bRep p c l).p (fun k => k < w.heap.size) w :=
  open_list Try.underlying37 (by kernel_rfl) (by decide) (fun _ _ _ h => open_B h) h
theorem open_F (h : DataW.trod enc Try.prog w base spare held fuel 36 cs = some y) : ∃ (p : Option Addr) (c : Nat) (f : FactD), cs = [.int .i64 f.id, .int .i64 f.ty, .slice p f.args.length c] ∧ f.ok ∧ (Fact.sli 3 vRep p c f.args).p (fun k => k < w.heap.size) w := by
  obtain ⟨y0, y1, y2, n, rfl, hl, h0, h1, h2⟩ := trod_struct3 Try.underlying36 h
  have c : Try.prog.cellsOf 36 = 3 := by kernel_rfl
  have c1 : Try.prog.cellsOf 3 = 1 := by kernel_rfl
  have c2 : Try.prog.cellsOf 34 = 1 := by kernel_rfl
  rw [c] at hl
  match cs, hl with
  | [a, b, d], _ =>
    simp only [c1, c2, List.drop_zero, List.take_succ_cons, List.take_zero, List.drop_succ_cons] at h0 h1 h2
    obtain ⟨k, e0, _, w0⟩ := DataW.trod_int Try.underlying3 h0
    obtain ⟨m, e1, _, w1⟩ := DataW.trod_int Try.underlying3 h1
    obtain ⟨p, cc, l, e2, hs⟩ := open_Vs h2
    cases e0; cases e1; subst e2
    exact ⟨p, cc, ⟨k, m, l⟩, rfl, ⟨wf_inI w0, wf_inI w1⟩, hs⟩
theorem len7 {cs : List Value} (h : cs.length = 10) : ∃ a b c t0 t1 t2 t3 t4 t5 t6, cs = [a, b, c, t0, t1, t2, t3, t4, t5, t6] := by
  match cs, h with
  | [a, b, c, t0, t1, t2, t3, t4, t5, t6], _ => exact ⟨a, b, c, t0, t1, t2, t3, t4, t5, t6, rfl⟩
end
theorem open_C {H : Type} {enc : TypeId × Value → H} {w : World} {base : Nat} {spare : Nat → Bool} {held : Bool} {fuel : Nat} {cs : List Value} {y : DataW H × List MemPlace} (h : DataW.trod enc Try.prog w base spare held fuel 33 cs = some y) :
    ∃ (p : Option Addr) (c : Nat) (k ty : Int) (l : List ArgD) (t0 t1 t2 t3 t4 t5 t6 : Value), cs = [.int .u8 k, .int .i64 ty, .slice p l.length c, t0, t1, t2, t3, t4, t5, t6] ∧ (Fact.sli 5 aRep p c l).p (fun k => k < w.heap.size) w := by
  obtain ⟨y0, y1, y2, y3, n, rfl, hl, h0, h1, h2, _⟩ := Go.Joins.trod_struct4 Try.underlying33 h
  have c : Try.prog.cellsOf 33 = 10 := by kernel_rfl
  have c0 : Try.prog.cellsOf 22 = 1 := by kernel_rfl
  have c1 : Try.prog.cellsOf 3 = 1 := by kernel_rfl
  have c2 : Try.prog.cellsOf 23 = 1 := by kernel_rfl
  rw [c] at hl
  obtain ⟨a, b, d, t0, t1, t2, t3, t4, t5, t6, rfl⟩ := len7 hl
  simp only [c0, c1, c2, List.drop_zero, List.take_succ_cons, List.take_zero, List.drop_succ_cons] at h0 h1 h2
  obtain ⟨k, e0, _, w0⟩ := DataW.trod_int Try.underlying22 h0
  obtain ⟨m, e1, _, w1⟩ := DataW.trod_int Try.underlying3 h1
  obtain ⟨p, cc, l, e2, hs⟩ := open_As h2
  cases e0; cases e1; subst e2
  exact ⟨p, cc, k, m, l, t0, t1, t2, t3, t4, t5, t6, rfl, hs⟩
theorem okWide_agg {P : Program} {w : World} {r : Reach} {base t : Nat} {v : Value} {fs : Array Field} (ht : P.underlying t = some (.struct fs)) (h : Value.okWide P w r base t v) : ∃ cs, v = .agg cs := by
  unfold Value.okWide at h
  rw [ht] at h
  obtain ⟨cs, h1, _⟩ := h
  exact ⟨cs, h1⟩
theorem okWide_sl {P : Program} {w : World} {r : Reach} {base t e : Nat} {v : Value} (ht : P.underlying t = some (.slice e)) (h : Value.okWide P w r base t v) : v.cells.toList = [v] := by
  unfold Value.okWide at h
  rw [ht] at h
  unfold Cell.okWide at h
  rw [ht] at h
  unfold Cell.ok at h
  rw [ht] at h
  cases v <;> first | rfl | (simp at h)
/-- A contract, called: nothing that was there is written. -/
theorem spec_calls {P : Program} {f : FuncId} {args : List Value} {Φ : List Fact} {v : Value} {w : World} (h : Spec P f args Φ [] (fun u Φr Hr => u = v ∧ Φr = [] ∧ Hr = [])) (hΦ : ∀ φ ∈ Φ, φ.p (fun k => k < w.heap.size) w) :
    Calls P f args.toArray w fun e w' => e = .returned v ∧ Mod (fun _ => False) w w' := by
  refine Calls.mono (h (fun k => k < w.heap.size) (fun _ _ => False) w (fun _ h => h) hΦ (fun i x hx => by simp at hx) (fun i k hi => by simp at hi) (fun i j k hi => by simp at hi)) fun e w' he => ?_
  obtain ⟨u, Φr, Hr, rfl, ⟨rfl, _⟩, F, N, hm⟩ := he
  exact ⟨rfl, hm.mod.mono fun k _ hk => by obtain ⟨i, hi, _⟩ := hk; simp at hi⟩
end Go.Proofs.Ytffcijddfhhbdaa
