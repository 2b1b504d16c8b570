/- The plain law behind ValueNumbers. -/
import Derived.Test.YtkddfgjefdlaeaaDoorValDoP
namespace Go.Proofs.YtkddfgjefdlaeaaDoor
open Go Go.RowKit
def numsL : List Int := [0, 1, -1, 2, -2, 2147483647, 2147483648, -2147483648, 4294967297, 4611686018427387903, 4611686018427387904, -4611686018427387904, 9223372036854775807, -9223372036854775807, -9223372036854775808]
theorem nums_in : ∀ x ∈ numsL, in64 x := by decide
theorem num_size (x : Int) : (num x).s.size ≤ 140737488351232 := Nat.zero_le _
theorem c4_false (N a : Nat) (b : Int) (c d : Nat) (e : Int) (f : Nat) : m_ropewalklaw01_ValueNumbers_C4 N a b a b c c d e d e f f = some false := by
  unfold m_ropewalklaw01_ValueNumbers_C4
  rw [if_neg (by simp), if_neg (by simp), if_neg (by simp)]
  simp
theorem nums_l3 {N i k : Nat} {x y : Int} (hN : 9223372036854775808 ≤ N) (hx : numsL[i]? = some x) (hy : numsL[k]? = some y) : iter (m_ropewalklaw01_ValueNumbers_L3 N i k) N 0 = some (.inl ()) := by
  have ix := nums_in x (List.mem_of_getElem? hx)
  have iy := nums_in y (List.mem_of_getElem? hy)
  obtain ⟨o, h1, h2⟩ := iter_inv (f := m_ropewalklaw01_ValueNumbers_L3 N i k) (fun op => 0 ≤ op ∧ op ≤ 13) (fun op => (13 - op).toNat) (fun o => o = .inl ()) (fun op hop => by
    unfold m_ropewalklaw01_ValueNumbers_L3
    by_cases h : op ≤ 12
    · left
      obtain ⟨⟨a, b, c⟩, r1, r2⟩ := do_both (N := N) (op := op) (l := [num x, num y]) hN (fun v hv => by
        simp at hv
        rcases hv with rfl | rfl
        · exact ⟨ix, num_size x⟩
        · exact ⟨iy, num_size y⟩)
      obtain ⟨⟨d, e, f⟩, r3, r4⟩ := do_both (N := N) (op := op) (l := [num x]) hN (fun v hv => by
        simp at hv
        subst hv
        exact ⟨ix, num_size x⟩)
      refine ⟨op + 1, ?_, by omega, by omega⟩
      rw [if_pos (by simpa using h)]
      have q1 : bindO (numsL[i]?) (fun x35 => bindO (m_ropewalkref01_Number N x35) fun _ => bindO (numsL[k]?) fun x40 => bindO (m_ropewalkref01_Number N x40) fun _ =>
          bindO (m_value_Do N op [num x35, num x40]) fun (v47_0, v47_1, v47_2) => bindO (m_ropewalkref01_Do N op [num x35, num x40]) fun (v53_0, v53_1, v53_2) =>
          bindO ([num x35, num x40][0]?) fun x59 => bindO (m_value_Do N op [x59]) fun (v62_0, v62_1, v62_2) => gd (1 ≤ [num x35, num x40].length) <|
          bindO (m_ropewalkref01_Do N op ([num x35, num x40].take 1)) fun (v69_0, v69_1, v69_2) =>
          bindO (m_ropewalklaw01_ValueNumbers_C4 N v47_0 v47_1 v53_0 v53_1 v47_2 v53_2 v62_0 v62_1 v69_0 v69_1 v62_2 v69_2) fun j =>
          if j = true then (some (.inr (.inr (.inr (.inr (.inr (.inr false)))))) : Option (Int ⊕ (Unit ⊕ (Nat ⊕ (Unit ⊕ (Nat ⊕ (Unit ⊕ Bool))))))) else some (.inl (IntKind.wrap .u8 (op + 1)))) = some (.inl (op + 1)) := by
        rw [hx, bindO_pure, rnumber_is, bindO_pure, hy, bindO_pure, rnumber_is, bindO_pure, r1, bindO_pure]
        simp only
        rw [r2, bindO_pure]
        simp only [List.getElem?_cons_zero, bindO_pure]
        rw [r3, bindO_pure]
        simp only
        rw [gd_pos (by simp), show [num x, num y].take 1 = [num x] from rfl, r4, bindO_pure]
        simp only
        rw [c4_false, bindO_pure, if_neg notf, IntWalk.u8_in _ (by omega)]
      exact q1
    · right
      exact ⟨_, by rw [if_neg (by simpa using h)], rfl⟩) N 0 ⟨by omega, by omega⟩ (by omega)
  rw [h1, h2]
theorem nums_at {i : Nat} (h : i < 15) : ∃ x, numsL[i]? = some x := ⟨numsL[i]'(by simpa [numsL] using h), List.getElem?_eq_getElem _⟩
theorem nums_l2 {N i : Nat} (hN : 9223372036854775808 ≤ N) (hi : i < 15) : iter (m_ropewalklaw01_ValueNumbers_L2 N i) N 0 = some (.inl ()) := by
  obtain ⟨x, hx⟩ := nums_at hi
  obtain ⟨o, h1, h2⟩ := iter_inv (f := m_ropewalklaw01_ValueNumbers_L2 N i) (fun k => k ≤ 15) (fun k => 15 - k) (fun o => o = .inl ()) (fun k hk => by
    unfold m_ropewalklaw01_ValueNumbers_L2
    by_cases h : k < 15
    · left
      obtain ⟨y, hy⟩ := nums_at h
      exact ⟨k + 1, by rw [if_pos (by simpa using h), nums_l3 hN hx hy, bindS_inl, gd_pos (by omega)], by omega, by omega⟩
    · right
      exact ⟨_, by rw [if_neg (by simpa using h)], rfl⟩) N 0 (by omega) (by omega)
  rw [h1, h2]
theorem valnum_law : m_ropewalklaw01_ValueNumbers 9223372036854775808 = some true := by
  have hN : 9223372036854775808 ≤ 9223372036854775808 := Nat.le_refl _
  obtain ⟨o, h1, h2⟩ := iter_inv (f := m_ropewalklaw01_ValueNumbers_L1 9223372036854775808) (fun k => k ≤ 15) (fun k => 15 - k) (fun o => o = .inl ()) (fun k hk => by
    unfold m_ropewalklaw01_ValueNumbers_L1
    by_cases h : k < 15
    · left
      exact ⟨k + 1, by rw [if_pos (by simpa using h), nums_l2 hN h, bindS_inl, gd_pos (by omega)], by omega, by omega⟩
    · right
      exact ⟨_, by rw [if_neg (by simpa using h)], rfl⟩) 9223372036854775808 0 (by omega) (by omega)
  unfold m_ropewalklaw01_ValueNumbers
  rw [val_awake, bindO_pure, if_neg nott, h1, h2]
  rfl
theorem valnum_arg : m_ropewalklaw01_ValueNumbers 9223372036854775808 = some true := valnum_law
end Go.Proofs.YtkddfgjefdlaeaaDoor
