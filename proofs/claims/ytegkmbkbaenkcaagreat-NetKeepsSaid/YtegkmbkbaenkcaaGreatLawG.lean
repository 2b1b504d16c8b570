import Derived.Test.YtegkmbkbaenkcaaGreatOpen
import Derived.Test.YtegkmbkbaenkcaaGreatLight
import Derived.Deep.Strs
import Derived.Lib.SmallJoins
namespace Go.Proofs.YtegkmbkbaenkcaaGreat
open Go.RowKit Go.Deep
theorem okWide_sl {P : Program} {w : World} {r : Reach} {base t e : Nat} {v : Value} (ht : P.underlying t = some (.slice e)) (h : Value.okWide P w r base t v) : v.cells.toList = [v] := by
  unfold Value.okWide at h
  rw [ht] at h
  unfold Cell.okWide at h
  rw [ht] at h
  unfold Cell.ok at h
  rw [ht] at h
  cases v <;> first | rfl | (simp at h)
theorem spec_calls {P : Program} {f : FuncId} {args : List Value} {Φ : List Fact} {v : Value} {w : World} (h : Spec P f args Φ [] (fun u Φr Hr => u = v ∧ Φr = [] ∧ Hr = [])) (hΦ : ∀ φ ∈ Φ, φ.p (fun k => k < w.heap.size) w) :
    Calls P f args.toArray w fun e w' => e = .returned v ∧ Mod (fun _ => False) w w' := by
  refine Calls.mono (h (fun k => k < w.heap.size) (fun _ _ => False) w (fun _ h => h) hΦ (fun i x hx => by simp at hx) (fun i k hi => by simp at hi) (fun i j k hi => by simp at hi)) fun e w' he => ?_
  obtain ⟨u, Φr, Hr, rfl, ⟨rfl, _⟩, F, N, hm⟩ := he
  exact ⟨rfl, hm.mod.mono fun k _ hk => by obtain ⟨i, hi, _⟩ := hk; simp at hi⟩
end Go.Proofs.YtegkmbkbaenkcaaGreat
