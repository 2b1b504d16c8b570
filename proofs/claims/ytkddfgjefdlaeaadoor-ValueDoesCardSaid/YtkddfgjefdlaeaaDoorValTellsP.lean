/- The plain law behind ValueTells. -/
import Derived.Test.YtkddfgjefdlaeaaDoorValTP
namespace Go.Proofs.YtkddfgjefdlaeaaDoor
open Go Go.RowKit
theorem light_tot {N : Nat} {l : List V} (hN : 9223372036854775808 ≤ N) (hl : l.length ≤ 9223372036854775807) : ∃ b, m_ropewalklaw01_light N l = some b := by
  obtain ⟨o, h1, _⟩ := iter_inv (f := m_ropewalklaw01_light_L1 N l) (fun i => i ≤ l.length) (fun i => l.length - i) (fun _ => True) (fun i hi => by
    unfold m_ropewalklaw01_light_L1
    by_cases hlt : i < l.length
    · have hx := List.getElem?_eq_getElem hlt
      rw [if_pos (by simpa using hlt), hx, bindO_pure]
      by_cases h : 300 < l[i].s.size
      · right; exact ⟨_, by rw [if_pos (by simpa using h)], trivial⟩
      · left; exact ⟨i + 1, by rw [if_neg (by simpa using h), gd_pos (by omega)], by omega, by omega⟩
    · right; exact ⟨_, by rw [if_neg (by simpa using hlt)], trivial⟩) N 0 (by omega) (by omega)
  unfold m_ropewalklaw01_light
  rw [h1]
  rcases o with _ | b
  · exact ⟨_, rfl⟩
  · exact ⟨b, rfl⟩
theorem valtells_law (a b : V) (ha : in64 a.n) (hsa : a.s.size ≤ 140737488351232) (hsb : b.s.size ≤ 140737488351232) : m_ropewalklaw01_ValueTells 9223372036854775808 a.k a.n a.s b.k b.n b.s = some true := by
  have hN : 9223372036854775808 ≤ 9223372036854775808 := Nat.le_refl _
  unfold m_ropewalklaw01_ValueTells
  rw [val_awake, bindO_pure, if_neg nott]
  obtain ⟨q, hq⟩ := light_tot (N := 9223372036854775808) (l := [⟨a.k, a.n, a.s⟩, ⟨b.k, b.n, b.s⟩]) hN (by simp)
  rw [hq, bindO_pure]
  cases q with
  | false => rw [if_pos (show (!false) = true from rfl)]
  | true =>
    rw [if_neg nott]
    obtain ⟨ra, hra, _⟩ := right_is 9223372036854775808 a
    obtain ⟨rb, hrb, _⟩ := right_is 9223372036854775808 b
    have hra2 := (right_same a.k a.n hN (s := a.s) (by omega)).symm.trans hra
    have hrb2 := (right_same b.k b.n hN (s := b.s) (by omega)).symm.trans hrb
    obtain ⟨t, ht1, ht2, _⟩ := text_same hN ha hsa hra hra2
    unfold m_ropewalklaw01_ValueTells_C1
    rw [hra, bindO_pure, hra2, bindO_pure, if_pos (by simp), vcompare_is hN a b ra rb hra hrb, bindO_pure, rcompare_is a b ra rb hra2 hrb2, bindO_pure, if_pos (by simp), ht1, bindO_pure, ht2, bindO_pure, if_pos (by simp)]
    have h1 : ∀ c : Bool, m_value_Truth 9223372036854775808 c = some (if c = true then 1 else 0) := truth_is _
    have h2 : ∀ c : Bool, m_ropewalkref01_Truth 9223372036854775808 c = some (if c = true then 1 else 0) := fun c => by cases c <;> rfl
    rw [h1, bindO_pure, h2, bindO_pure]
    simp [bindO_pure]
theorem valtells_arg (a : V) (ha : ok_V a) (b : V) (hb : ok_V b) : m_ropewalklaw01_ValueTells 9223372036854775808 a.k a.n a.s b.k b.n b.s = some true :=
  valtells_law a b ha.2.1 ha.2.2 hb.2.2
end Go.Proofs.YtkddfgjefdlaeaaDoor
