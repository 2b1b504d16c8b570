import Derived.Test.YtkakbckmajdggaaAuto
import Derived.Test.YtkakbckmajdggaaShelf
namespace Go.Proofs.Ytkakbckmajdggaa
open Go Go.RowKit
theorem spec_pure {P : Program} {f : FuncId} {args : List Value} {v : Value} (h : ∀ w, Calls P f args.toArray w fun e w' => e = .returned v ∧ Below w.heap.size w w') : Spec P f args [] [] (fun u Φr Hr => u = v ∧ Φr = [] ∧ Hr = []) := by
  intro F N w hF _ _ _ _
  refine (h w).mono fun e w' ⟨he, hb⟩ => ⟨v, [], [], he, ⟨rfl, rfl, rfl⟩, ?_⟩
  have h0 : Holds ⟨w, fun k => ∃ i, i < ([] : List Fact).length ∧ N i k, F⟩ [] [] w :=
    ⟨F, N, hF, fun _ h => h, fun _ h => .inl h, fun φ hφ => (by cases hφ), fun i φ h => (by simp at h), fun i k hi => (by simp at hi), fun i j k hi => (by simp at hi), Mod.refl _ _⟩
  exact h0.drew' hb
end Go.Proofs.Ytkakbckmajdggaa
namespace Go.Proofs.Ytkakbckmajdggaa
open Go Go.RowKit
theorem sh_Repeat (s : ByteArray) (c : Nat) (hc2 : 2 ≤ c) (hc : c ≤ 9223372036854775807) (hlen : s.size * c ≤ 140737488355328) (h0 : 0 < s.size) : Spec Try.prog 32 [.string s, .int .i64 c] [] [] (fun u Φr Hr => u = .string ⟨(Lib.repeatL s.data.toList c).toArray⟩ ∧ Φr = [] ∧ Hr = []) := spec_pure fun w => Try.strings_Repeat s c w hc hlen
end Go.Proofs.Ytkakbckmajdggaa
