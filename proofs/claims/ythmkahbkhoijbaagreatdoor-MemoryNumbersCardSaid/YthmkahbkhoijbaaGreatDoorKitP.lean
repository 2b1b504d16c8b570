import Derived.Test.YthmkahbkhoijbaaGreatDoorXM
import Derived.Test.YthmkahbkhoijbaaGreatDoorPlain
namespace Go.Proofs.YthmkahbkhoijbaaGreatDoor
open Go.RowKit
theorem sameValues_is {N : Nat} {l m : List V} (hN : 9223372036854775808 ≤ N) (hl : l.length ≤ 9223372036854775807) : Says (m_ropewalkkit_SameValues N l m) (l = m) := by
  unfold m_ropewalkkit_SameValues
  refine Says.same hN hl (fun hlm i x y hi hx hy => ⟨decide (x = y), by simp, ?_⟩) (fun i hi => ?_)
  · unfold m_ropewalkkit_SameValues_L1
    rw [if_pos (by simpa using hi), hx, bindO_pure, hy, bindO_pure]
    by_cases h : x = y
    · rw [if_neg (by simp [h]), gd_pos (by omega), if_pos (by simp [h])]
    · rw [if_pos (by simp [h]), if_neg (by simp [h])]
  · unfold m_ropewalkkit_SameValues_L1
    rw [if_neg (by simp; omega)]
theorem fact_ext {f g : FactD} : f = g ↔ f.id = g.id ∧ f.ty = g.ty ∧ f.args = g.args := by
  cases f; cases g; simp
theorem sameFact_is {N : Nat} {f g : FactD} (hN : 9223372036854775808 ≤ N) (hl : f.args.length ≤ 9223372036854775807) : Says (m_ropewalkkit_SameFact N f.id f.ty f.args g.id g.ty g.args) (f = g) := by
  unfold m_ropewalkkit_SameFact
  refine Says.iff (Says.and (Says.and (Says.id (sameValues_is hN hl)) (by simp)) (by simp)) fact_ext.symm
theorem sameFacts_is {N : Nat} {l m : List FactD} (hN : 9223372036854775808 ≤ N) (hl : l.length ≤ 9223372036854775807) (ha : ∀ f ∈ l, f.args.length ≤ 9223372036854775807) : Says (m_ropewalkkit_SameFacts N l m) (l = m) := by
  unfold m_ropewalkkit_SameFacts
  refine Says.same hN hl (fun hlm i x y hi hx hy => ?_) (fun i hi => ?_)
  · obtain ⟨b, h1, h2⟩ := sameFact_is (N := N) (f := x) (g := y) hN (ha x (List.mem_of_getElem? hx))
    refine ⟨b, h2, ?_⟩
    unfold m_ropewalkkit_SameFacts_L1
    rw [if_pos (by simpa using hi), hx, bindO_pure, hy, bindO_pure, h1, bindO_pure]
    cases b
    · rfl
    · rw [if_neg (by simp), gd_pos (by omega), if_pos rfl]
  · unfold m_ropewalkkit_SameFacts_L1
    rw [if_neg (by simp; omega)]
theorem Pick_is {N : Nat} {x n : Int} (hn : n ≤ 9223372036854775807) : ∃ y, m_ropewalkkit_Pick N x n = some y ∧ 0 ≤ y ∧ (1 ≤ n → y < n) ∧ (n < 1 → y = 0) := by
  unfold m_ropewalkkit_Pick
  by_cases h : n < 1
  · exact ⟨0, by rw [if_pos (by simpa using h)], by omega, by omega, fun _ => rfl⟩
  · have h1 := Int.tmod_lt_of_pos x (show 0 < n by omega)
    have h2 : -n < Int.tmod x n := by
      have := Int.tmod_lt_of_pos (-x) (show 0 < n by omega)
      rw [Int.neg_tmod] at this; omega
    rw [if_neg (by simpa using h), gd_pos (by omega)]
    by_cases h3 : Int.tmod x n < 0
    · exact ⟨_, by rw [if_pos (by simpa using h3), gd_pos (by omega)]; rfl, by omega, by omega, by omega⟩
    · exact ⟨_, by rw [if_neg (by simpa using h3)]; rfl, by omega, by omega, by omega⟩
end Go.Proofs.YthmkahbkhoijbaaGreatDoor
