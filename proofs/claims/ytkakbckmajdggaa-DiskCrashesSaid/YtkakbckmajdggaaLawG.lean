/- A law's call, whatever the law. No program in sight. -/
import Derived.Test.YtkakbckmajdggaaOpen
import Derived.Test.YtkakbckmajdggaaLight
import Derived.Deep.Strs
import Derived.Lib.SmallJoins
namespace Go.Proofs.Ytkakbckmajdggaa
open Go.RowKit Go.Deep

theorem wf_inI {n : Int} (h : (Lit.int .i64 n).wf = true) : inI n := by
  have e1 : IntKind.min .i64 = -9223372036854775808 := by decide
  have e2 : IntKind.max .i64 = 9223372036854775807 := by decide
  simp only [Lit.wf, e1, e2, Bool.and_eq_true, decide_eq_true_eq] at h
  exact h
theorem wf_inB {n : Int} (h : (Lit.int .u8 n).wf = true) : inB n := by
  have e1 : IntKind.min .u8 = 0 := by decide
  have e2 : IntKind.max .u8 = 255 := by decide
  simp only [Lit.wf, e1, e2, Bool.and_eq_true, decide_eq_true_eq] at h
  exact h
theorem okWide_agg {P : Program} {w : World} {r : Reach} {base t : Nat} {v : Value} {fs : Array Field} (ht : P.underlying t = some (.struct fs)) (h : Value.okWide P w r base t v) : ∃ cs, v = .agg cs := by
  unfold Value.okWide at h
  rw [ht] at h
  obtain ⟨cs, h1, _⟩ := h
  exact ⟨cs, h1⟩
theorem okWide_sl {P : Program} {w : World} {r : Reach} {base t e : Nat} {v : Value} (ht : P.underlying t = some (.slice e)) (h : Value.okWide P w r base t v) : v.cells.toList = [v] := by
  unfold Value.okWide at h
  rw [ht] at h
  unfold Cell.okWide at h
  rw [ht] at h
  unfold Cell.ok at h
  rw [ht] at h
  cases v <;> first | rfl | (simp at h)
/-- A contract, called: nothing that was there is written. -/
theorem spec_calls {P : Program} {f : FuncId} {args : List Value} {Φ : List Fact} {v : Value} {w : World} (h : Spec P f args Φ [] (fun u Φr Hr => u = v ∧ Φr = [] ∧ Hr = [])) (hΦ : ∀ φ ∈ Φ, φ.p (fun k => k < w.heap.size) w) :
    Calls P f args.toArray w fun e w' => e = .returned v ∧ Mod (fun _ => False) w w' := by
  refine Calls.mono (h (fun k => k < w.heap.size) (fun _ _ => False) w (fun _ h => h) hΦ (fun i x hx => by simp at hx) (fun i k hi => by simp at hi) (fun i j k hi => by simp at hi)) fun e w' he => ?_
  obtain ⟨u, Φr, Hr, rfl, ⟨rfl, _⟩, F, N, hm⟩ := he
  exact ⟨rfl, hm.mod.mono fun k _ hk => by obtain ⟨i, hi, _⟩ := hk; simp at hi⟩
end Go.Proofs.Ytkakbckmajdggaa
