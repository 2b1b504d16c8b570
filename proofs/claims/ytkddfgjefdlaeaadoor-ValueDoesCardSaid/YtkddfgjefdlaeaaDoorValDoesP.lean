/- The plain law behind ValueDoes. -/
import Derived.Test.YtkddfgjefdlaeaaDoorValDoP
namespace Go.Proofs.YtkddfgjefdlaeaaDoor
open Go Go.RowKit
theorem light_len {N : Nat} {l : List V} (hN : 9223372036854775808 ≤ N) (hl : l.length ≤ 9223372036854775807) (h : m_ropewalklaw01_light N l = some true) : l.length ≤ 20 := by
  obtain ⟨o, h1, h2⟩ := iter_inv (f := m_ropewalklaw01_light_L1 N l) (fun i => i ≤ l.length) (fun i => l.length - i) (fun o => o = .inl () ∨ o = .inr false) (fun i hi => by
    unfold m_ropewalklaw01_light_L1
    by_cases hlt : i < l.length
    · have hx := List.getElem?_eq_getElem hlt
      rw [if_pos (by simpa using hlt), hx, bindO_pure]
      by_cases h : 300 < l[i].s.size
      · right; exact ⟨_, by rw [if_pos (by simpa using h)], .inr rfl⟩
      · left; exact ⟨i + 1, by rw [if_neg (by simpa using h), gd_pos (by omega)], by omega, by omega⟩
    · right; exact ⟨_, by rw [if_neg (by simpa using hlt)], .inl rfl⟩) N 0 (by omega) (by omega)
  unfold m_ropewalklaw01_light at h
  rw [h1] at h
  rcases h2 with rfl | rfl
  · rw [bindS_inl] at h
    simpa using h
  · cases h
def mkV (i : Nat) : V := ⟨0, ((1000003 * (1 + 7)) + ((i : Nat) : Int)), (⟨#[]⟩ : ByteArray)⟩
def mksV (n : Nat) : List V := (List.range n).map mkV
theorem mksV_succ (n : Nat) : mksV (n + 1) = mksV n ++ [mkV n] := by simp [mksV, List.range_succ]
theorem mksV_len (n : Nat) : (mksV n).length = n := by simp [mksV]
theorem mksV_at {n i : Nat} (h : i < n) : (mksV n)[i]? = some (mkV i) := by simp [mksV, h]
theorem mark_is {N : Nat} {i : Int} (h : 0 ≤ i ∧ i ≤ 1000000) : m_ropewalkkit_markValue N 1 i = some () := by
  unfold m_ropewalkkit_markValue m_ropewalkkit_mark
  rw [gd_pos (by omega), gd_pos (by omega), gd_pos (by omega)]; rfl
theorem lent_is {N : Nat} {l : List V} (hN : 9223372036854775808 ≤ N) (hl : l.length ≤ 20) : m_ropewalkkit_LentValues N l = some (l ++ mksV 12) := by
  obtain ⟨o, h1, h2⟩ := iter_inv (f := m_ropewalkkit_LentValues_L1 N) (fun s => s.1 ≤ 12 ∧ s.2 = l ++ mksV s.1) (fun s => 12 - s.1) (fun o => o = l ++ mksV 12) (fun s hs => by
    obtain ⟨i, L⟩ := s
    obtain ⟨hi, hL⟩ := hs
    simp only at hi hL
    subst hL
    unfold m_ropewalkkit_LentValues_L1
    simp only
    by_cases h : i < 12
    · left
      refine ⟨(i + 1, l ++ mksV (i + 1)), ?_, ⟨by simp only; omega, rfl⟩, by simp only; omega⟩
      rw [if_pos (by simpa using h), mark_is (by omega), bindO_pure, gd_pos (by simp [mksV_len]; omega), gd_pos (by omega), mksV_succ, List.append_assoc]
      rfl
    · right
      have : i = 12 := by omega
      subst this
      exact ⟨_, by rw [if_neg (by simp)], rfl⟩) N (0, l) ⟨by simp, by simp [mksV]⟩ (by simp only; omega)
  unfold m_ropewalkkit_LentValues
  rw [gd_pos (by omega), gd_pos (by omega), gd_pos (by simp; omega), h1, bindO_pure, h2, gd_pos (by simp)]
theorem vdo_short {N : Nat} {op : Int} {l t : List V} : m_value_Do_v2 N op (l ++ t) l.length = m_value_Do N op l := by
  have hc : m_value_Do_v2_C1 N op = m_value_Do_C1 N op := rfl
  have h7 : ∀ v w, m_value_Do_v2_C7 N op v w = m_value_Do_C7 N op v w := fun _ _ => rfl
  have hL : m_value_Do_v2_L1 N l.length (l ++ t) = m_value_Do_L1 N l := by
    funext ⟨i, b⟩
    unfold m_value_Do_v2_L1 m_value_Do_L1
    simp only
    by_cases hlt : i < l.length
    · rw [if_pos (by simpa using hlt), if_pos (by simpa using hlt)]
      have hC : m_value_Do_v2_C5 N (l ++ t) i l.length b = m_value_Do_C5 N l i b := by
        unfold m_value_Do_v2_C5 m_value_Do_C5
        rw [List.getElem?_append_left hlt, List.getElem?_eq_getElem hlt, bindO_pure, bindO_pure, gd_pos hlt]
      rw [hC]
    · rw [if_neg (by simpa using hlt), if_neg (by simpa using hlt)]
  unfold m_value_Do_v2 m_value_Do
  rw [hc, (c1_is N op).1, bindO_pure, bindO_pure, bad_is, bindO_pure, bindO_pure, hL]
  by_cases hbad : op < 1 ∨ op > 11 ∨ l.length ≠ (if op = 4 ∨ op = 11 then 1 else 2)
  · have hd := decide_eq_true hbad
    simp only [hd, if_true]
  · have hd := decide_eq_false hbad
    simp only [hd, Bool.false_eq_true, if_false]
    have hlen : l.length = (if op = 4 ∨ op = 11 then 1 else 2) := by omega
    rw [← hlen]
    have hpos : 0 < l.length := by rw [hlen]; split <;> omega
    have hle : l.length ≤ 2 := by rw [hlen]; split <;> omega
    have e1 : (l ++ t)[0]? = l[0]? := List.getElem?_append_left hpos
    have hk : (((l.length : Nat) : Int) - 1).toNat < l.length := by omega
    have e2 : (l ++ t)[(((l.length : Nat) : Int) - 1).toNat]? = l[(((l.length : Nat) : Int) - 1).toNat]? := List.getElem?_append_left hk
    simp only [e1, e2, h7, gd_pos hpos, gd_pos hk]
theorem kept_is {N : Nat} {l : List V} (hN : 9223372036854775808 ≤ N) (hl : l.length ≤ 20) : m_ropewalkkit_KeptValues N (l ++ mksV 12) l.length l = some true := by
  obtain ⟨o, h1, h2⟩ := iter_inv (f := m_ropewalkkit_KeptValues_L1 N l (l ++ mksV 12)) (fun i => i ≤ l.length + 12) (fun i => l.length + 12 - i) (fun o => o = .inl ()) (fun i hi => by
    unfold m_ropewalkkit_KeptValues_L1
    by_cases hlt : i < l.length + 12
    · left
      have hC : m_ropewalkkit_KeptValues_C2 N i l (l ++ mksV 12) = some false := by
        unfold m_ropewalkkit_KeptValues_C2
        by_cases h : i < l.length
        · rw [if_pos (by simpa using h), List.getElem?_append_left h, List.getElem?_eq_getElem h, bindO_pure, gd_pos hlt, bindO_pure, if_neg (by simp), if_neg (by simp; omega)]
        · rw [if_neg (by simpa using h), if_pos (by simp; omega), List.getElem?_append_right (by omega), mksV_at (by omega), bindO_pure, gd_pos hlt, gd_pos (by omega), mark_is (by omega), bindO_pure]
          have e : mkV (i - l.length) = (⟨0, (1000003 * (1 + 7)) + (((i : Nat) : Int) - ((l.length : Nat) : Int)), (⟨#[]⟩ : ByteArray)⟩ : V) := by
            unfold mkV
            rw [show ((i - l.length : Nat) : Int) = ((i : Nat) : Int) - ((l.length : Nat) : Int) by omega]
          rw [e]
          simp
      exact ⟨i + 1, by rw [if_pos (by simpa using hlt), hC, bindO_pure, if_neg notf, gd_pos (by omega)], by omega, by omega⟩
    · right
      exact ⟨_, by rw [if_neg (by simpa using hlt)], rfl⟩) N 0 (by omega) (by omega)
  unfold m_ropewalkkit_KeptValues
  rw [if_neg (by simp), gd_pos (by omega), gd_pos (by simp [mksV_len]), h1, h2]
  rfl
theorem valdoes_law {op : Int} {l : List V} (hl : ∀ v ∈ l, in64 v.n ∧ v.s.size ≤ 140737488351232) (hlen : l.length ≤ 140737488351232) : m_ropewalklaw01_ValueDoes 9223372036854775808 op l = some true := by
  have hN : 9223372036854775808 ≤ 9223372036854775808 := Nat.le_refl _
  unfold m_ropewalklaw01_ValueDoes
  rw [val_awake, bindO_pure, if_neg nott]
  obtain ⟨q, hq⟩ := light_tot (N := 9223372036854775808) (l := l) hN (by omega)
  rw [hq, bindO_pure]
  cases q with
  | false => rw [if_pos (show (!false) = true from rfl)]
  | true =>
    have h20 := light_len hN (by omega) hq
    obtain ⟨⟨a, b, c⟩, r1, r2⟩ := do_both (N := 9223372036854775808) (op := op) (l := l) hN hl
    rw [if_neg nott, lent_is hN h20, bindO_pure, vdo_short, r1, bindO_pure]
    simp only
    rw [r2, bindO_pure]
    simp only
    rw [if_pos (by simp), if_pos (by simp), kept_is hN h20, bindO_pure]
theorem valdoes_arg (op : Int) (_ : inK .u8 op) (l : List V) (hl : l.length ≤ 140737488351232 ∧ ∀ y ∈ l, ok_V y) : m_ropewalklaw01_ValueDoes 9223372036854775808 op l = some true :=
  valdoes_law (fun v hv => ⟨(hl.2 v hv).2.1, (hl.2 v hv).2.2⟩) hl.1
end Go.Proofs.YtkddfgjefdlaeaaDoor
