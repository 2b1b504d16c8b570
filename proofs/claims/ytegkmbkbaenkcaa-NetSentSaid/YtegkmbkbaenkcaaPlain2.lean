import Derived.Test.YtegkmbkbaenkcaaPlain
namespace Go.Proofs.Ytegkmbkbaenkcaa
open Go Go.RowKit
theorem iter_end {O : Type} {f : Nat → Option (Nat ⊕ O)} (n : Nat) (o : O) (step : ∀ i, i < n → f i = some (.inl (i + 1))) (stop : f n = some (.inr o)) {N : Nat} (hN : n < N) : iter f N 0 = some o := by
  obtain ⟨q, h1, h2⟩ := iter_inv (f := f) (fun i => i ≤ n) (fun i => n - i) (fun q => q = o) (fun i hi => by
    by_cases h : i < n
    · exact .inl ⟨_, step i h, by omega, by omega⟩
    · obtain rfl : i = n := by omega
      exact .inr ⟨_, stop, rfl⟩) N 0 (Nat.zero_le _) (by omega)
  rw [h1, h2]
theorem iter_look {ε : Type} {f : Nat → Option (Nat ⊕ (Unit ⊕ ε))} (n : Nat) (step : ∀ i, i < n → f i = some (.inl (i + 1))) (stop : f n = some (.inr (.inl ()))) {N : Nat} (hN : n < N) : iter f N 0 = some (.inl ()) := by
  obtain ⟨o, h1, h2⟩ := iter_inv (f := f) (fun i => i ≤ n) (fun i => n - i) (fun o => o = .inl ()) (fun i hi => by
    by_cases h : i < n
    · exact .inl ⟨_, step i h, by omega, by omega⟩
    · obtain rfl : i = n := by omega
      exact .inr ⟨_, stop, rfl⟩) N 0 (Nat.zero_le _) (by omega)
  rw [h1, h2]
end Go.Proofs.Ytegkmbkbaenkcaa
