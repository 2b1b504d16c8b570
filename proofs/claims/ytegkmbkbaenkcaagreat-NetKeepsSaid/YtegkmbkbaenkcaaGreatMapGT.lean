import Derived.Test.YtegkmbkbaenkcaaGreatMapG
namespace Go.Proofs.YtegkmbkbaenkcaaGreat
open Go Go.RowKit
theorem mapG_free {κ α : Type} [DecidableEq κ] {P : Program} {k : TypeId} {K : KeyL P k κ} {T : Value → List α → Fact} {o : Option (κ × Value)} {b : Nat} {es : List (κ × List α)} (hT : ∀ v l, LFree (T v l)) : LFree (mapG K T o b es) := fun N F G w h => by
  obtain ⟨zs, N0, Ns, h1, h2, h3, h4, h5, h6, h7⟩ : MapG K T o b es N F w := h
  have h1' : MapE K false valRep N0 G b zs w := h1
  exact (⟨zs, N0, Ns, h1', h2, h3, h4, h5, fun x v l hx hl hc => hT v l _ _ _ _ (h6 x v l hx hl hc), h7⟩ : MapG K T o b es N G w)
section
variable {C : Ctx} {Φ H : List Fact} {w : World} {α Λ : Type} {T : Tre α Λ} {zs : List (α × Λ)}
theorem Bag.delHole {N F : Foot} {k : Nat} (h : Bag T zs (some k) N F w) : Bag T (zs.take k ++ zs.drop (k + 1)) none N F w := by
  obtain ⟨Ns, h1, h2, h3⟩ := h
  refine ⟨fun i => if i < k then Ns i else Ns (i + 1), fun i q hq => ?_, fun i j q hij hq hq' => ?_, fun i z hz _ => ?_⟩
  · dsimp only at hq
    split at hq
    · exact h1 _ q hq
    · exact h1 _ q hq
  · dsimp only at hq hq'
    split at hq <;> split at hq' <;> exact h2 _ _ q (by omega) hq hq'
  · dsimp only
    by_cases hi : i < k
    · rw [if_pos hi]
      by_cases hk : k ≤ zs.length
      · rw [List.getElem?_append_left (by rw [List.length_take]; omega), List.getElem?_take] at hz
        rw [if_pos hi] at hz
        exact h3 i z hz (fun e => by cases e; omega)
      · rw [List.drop_of_length_le (by omega), List.append_nil, List.take_of_length_le (by omega)] at hz
        exact h3 i z hz (fun e => by cases e; omega)
    · rw [if_neg hi]
      by_cases hk : k ≤ zs.length
      · rw [List.getElem?_append_right (by rw [List.length_take]; omega), List.length_take, List.getElem?_drop] at hz
        have e1 : k + 1 + (i - min k zs.length) = i + 1 := by omega
        rw [e1] at hz
        exact h3 (i + 1) z hz (fun e => by cases e; omega)
      · rw [List.drop_of_length_le (by omega), List.append_nil, List.take_of_length_le (by omega)] at hz
        have := (List.getElem?_eq_some_iff.1 hz).1
        omega
theorem Holds.bagDelHole {k : Nat} (h : Holds C Φ H w) (j : Nat) (hj : H[j]? = some (bagF T zs (some k))) : Holds C Φ (H.set j (bagF T (zs.take k ++ zs.drop (k + 1)) none)) w :=
  h.as_ j hj (fun _ _ hb => Bag.delHole hb)
end
end Go.Proofs.YtegkmbkbaenkcaaGreat
