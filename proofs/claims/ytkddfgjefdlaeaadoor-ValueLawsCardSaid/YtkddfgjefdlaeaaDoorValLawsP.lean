/- The plain law behind ValueLaws. -/
import Derived.Test.YtkddfgjefdlaeaaDoorValP
namespace Go.Proofs.YtkddfgjefdlaeaaDoor
open Go Go.RowKit
theorem vallaws_law {x y : Int} (hx : in64 x) (hy : in64 y) : m_ropewalklaw01_ValueLaws 9223372036854775808 x y = some true := by
  have hN : 9223372036854775808 ≤ 9223372036854775808 := Nat.le_refl _
  unfold m_ropewalklaw01_ValueLaws
  rw [val_awake, bindO_pure, if_neg nott]
  have e1 : ∀ z, m_ropewalkref01_Number 9223372036854775808 z = some () := fun z => rfl
  rw [e1, bindO_pure, e1, bindO_pure]
  have hadd := do_add hN hx hy
  have hadd2 := do_add hN hy hx
  have hmul := do_mul hN hx hy
  have hmul2 := do_mul hN hy hx
  have hneg := do_negs hN hx
  have hlt := do_lt (x := x) (y := y) hN
  have hle := do_le (x := y) (y := x) hN
  simp only [num] at hadd hadd2 hmul hmul2 hneg hlt hle
  rw [Int.add_comm y x] at hadd2
  rw [Int.mul_comm y x] at hmul2
  rw [hadd, bindO_pure]
  have hend : ∀ {β : Type} (k : Int → Int → Option β), True := fun _ => trivial
  have c1 : ∀ (a : Nat) (b : Int) (c d : Nat) (e : Int) (f : Nat), m_ropewalklaw01_ValueLaws_C1 9223372036854775808 a b a b c c d e d e f f = some false := fun a b c d e f => by
    unfold m_ropewalklaw01_ValueLaws_C1
    rw [if_neg (by simp), if_neg (by simp), if_neg (by simp)]
    simp
  have h2 : ∀ (s : Nat) (n : Int) (e : Nat), ((s, n, e) = (if in64 (x + y) then (1, x + y, 0) else (0, 0, 300) : Nat × Int × Nat)) → m_ropewalklaw01_ValueLaws_C2 9223372036854775808 e s n y x = some (.inl ()) := fun s n e he => by
    unfold m_ropewalklaw01_ValueLaws_C2
    by_cases hi : in64 (x + y)
    · rw [if_pos hi] at he
      cases he
      have hsub := do_sub hN hi hy
      rw [show x + y - y = x by omega, if_pos hx] at hsub
      simp only [num] at hsub
      rw [if_pos (by simp)]
      simp only [Int.cast_ofNat_Int]
      rw [hsub, bindO_pure]
      simp only
      have h3 : m_ropewalklaw01_ValueLaws_C3 9223372036854775808 0 1 x x 1 (x + y) = some false := by
        unfold m_ropewalklaw01_ValueLaws_C3
        rw [if_neg (by simp), if_neg (by simp)]
        simp only [Int.cast_ofNat_Int]
        rw [right_num]; rfl
      rw [h3, bindO_pure, if_neg notf]
    · rw [if_neg hi] at he
      cases he
      rw [if_neg (by simp)]
  have h4 : ∀ (s : Nat) (n : Int) (e : Nat), ((s, n, e) = (if in64 (0 - x) then (1, 0 - x, 0) else (0, 0, 300) : Nat × Int × Nat)) → m_ropewalklaw01_ValueLaws_C4 9223372036854775808 e s n x = some (.inl ()) := fun s n e he => by
    unfold m_ropewalklaw01_ValueLaws_C4
    by_cases hi : in64 (0 - x)
    · rw [if_pos hi] at he
      cases he
      have hn := do_negs hN hi
      rw [show 0 - (0 - x) = x by omega, if_pos hx] at hn
      simp only [num] at hn
      rw [if_pos (by simp)]
      simp only [Int.cast_ofNat_Int]
      rw [hn, bindO_pure]
      simp only
      rw [if_neg (by simp), bindO]
      simp
    · rw [if_neg hi] at he
      cases he
      rw [if_neg (by simp)]
  generalize he : (if in64 (x + y) then (1, x + y, 0) else (0, 0, 300) : Nat × Int × Nat) = r at hadd2 ⊢
  obtain ⟨s, n, e⟩ := r
  simp only
  rw [hadd2, bindO_pure]
  simp only
  rw [hmul, bindO_pure]
  generalize (if in64 (x * y) then (1, x * y, 0) else (0, 0, 300) : Nat × Int × Nat) = r2 at hmul2 ⊢
  obtain ⟨s2, n2, e2⟩ := r2
  simp only
  rw [hmul2, bindO_pure]
  simp only
  rw [c1, bindO_pure, if_neg notf, h2 s n e he.symm, bindS_inl, hneg, bindO_pure]
  generalize hr : (if in64 (0 - x) then (1, 0 - x, 0) else (0, 0, 300) : Nat × Int × Nat) = r3
  obtain ⟨s3, n3, e3⟩ := r3
  simp only
  rw [h4 s3 n3 e3 hr.symm, bindS_inl, hlt, bindO_pure]
  simp only
  rw [hle, bindO_pure]
  simp only
  by_cases h : x < y
  · rw [if_pos h, if_neg (by omega : ¬ y ≤ x), gd_pos (by omega), if_pos (by simp)]
    simp [h]
  · rw [if_neg h, if_pos (by omega : y ≤ x), gd_pos (by omega), if_pos (by simp)]
    simp [h]
theorem vallaws_arg (x : Int) (hx : inK .i64 x) (y : Int) (hy : inK .i64 y) : m_ropewalklaw01_ValueLaws 9223372036854775808 x y = some true :=
  vallaws_law hx hy
end Go.Proofs.YtkddfgjefdlaeaaDoor
