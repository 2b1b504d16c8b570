import Derived.Test.YtegkmbkbaenkcaaGreatPlain
namespace Go.Proofs.YtegkmbkbaenkcaaGreat
open Go Go.RowKit
theorem iter_push {β : Type} {f : Nat × List β → Option ((Nat × List β) ⊕ List β)} (n : Nat) (g : Nat → β) (l0 : List β)
    (step : ∀ i, i < n → f (i, l0 ++ (List.range i).map g) = some (.inl (i + 1, l0 ++ (List.range i).map g ++ [g i])))
    (stop : f (n, l0 ++ (List.range n).map g) = some (.inr (l0 ++ (List.range n).map g))) {N : Nat} (hN : n < N) : iter f N (0, l0) = some (l0 ++ (List.range n).map g) := by
  obtain ⟨o, h1, h2⟩ := iter_inv (f := f) (fun s => s.1 ≤ n ∧ s.2 = l0 ++ (List.range s.1).map g) (fun s => n - s.1) (fun o => o = l0 ++ (List.range n).map g) (fun s hs => by
    obtain ⟨i, m⟩ := s
    obtain ⟨hi, hm⟩ := hs
    simp only at hi hm
    subst hm
    by_cases h : i < n
    · left
      exact ⟨_, step i h, ⟨by simp only; omega, by simp [List.range_succ]⟩, by simp only; omega⟩
    · right
      obtain rfl : i = n := by omega
      exact ⟨_, stop, rfl⟩) N (0, l0) ⟨Nat.zero_le _, by simp⟩ (by simp only; omega)
  rw [h1, h2]
theorem iter_look {ε : Type} {f : Nat → Option (Nat ⊕ (Unit ⊕ ε))} (n : Nat) (step : ∀ i, i < n → f i = some (.inl (i + 1))) (stop : f n = some (.inr (.inl ()))) {N : Nat} (hN : n < N) : iter f N 0 = some (.inl ()) := by
  obtain ⟨o, h1, h2⟩ := iter_inv (f := f) (fun i => i ≤ n) (fun i => n - i) (fun o => o = .inl ()) (fun i hi => by
    by_cases h : i < n
    · exact .inl ⟨_, step i h, by omega, by omega⟩
    · obtain rfl : i = n := by omega
      exact .inr ⟨_, stop, rfl⟩) N 0 (Nat.zero_le _) (by omega)
  rw [h1, h2]
theorem app_l {α : Type} {l t : List α} {i : Nat} (h : i < l.length) : (l ++ t)[i]? = some (l[i]) := by rw [List.getElem?_append_left h, List.getElem?_eq_getElem h]
theorem app_r {α : Type} {l t : List α} {i : Nat} (h : l.length ≤ i) : (l ++ t)[i]? = t[i - l.length]? := List.getElem?_append_right h
theorem take_all {α : Type} {l t : List α} {n : Nat} (h : t.length = n) : (l ++ t).take (l.length + n) = l ++ t := by rw [List.take_of_length_le]; simp [h]
end Go.Proofs.YtegkmbkbaenkcaaGreat
