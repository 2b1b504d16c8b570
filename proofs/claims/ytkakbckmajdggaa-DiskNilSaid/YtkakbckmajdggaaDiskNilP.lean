/- DiskNil, plain: what the model of the law says is true. -/
import Derived.Test.YtkakbckmajdggaaDiskP
namespace Go.Proofs.Ytkakbckmajdggaa
open Go Go.RowKit
theorem silent_iter {N : Nat} (hN : 40 ≤ N) : iter (m_ropewalklaw17_silent_L1 N) N 0 = some (.inl ()) := by
  obtain ⟨n, rfl⟩ : ∃ n, N = n + 40 := ⟨N - 40, by omega⟩
  rw [iter_step (s' := 1) (by unfold m_ropewalklaw17_silent_L1; simp [bindO, gd]), iter_step (s' := 2) (by unfold m_ropewalklaw17_silent_L1; simp [bindO, gd]), iter_step (s' := 3) (by unfold m_ropewalklaw17_silent_L1; simp [bindO, gd]), iter_step (s' := 4) (by unfold m_ropewalklaw17_silent_L1; simp [bindO, gd]), iter_step (s' := 5) (by unfold m_ropewalklaw17_silent_L1; simp [bindO, gd]), iter_step (s' := 6) (by unfold m_ropewalklaw17_silent_L1; simp [bindO, gd]), iter_stop (o := .inl ()) (by unfold m_ropewalklaw17_silent_L1; simp)]
theorem silent_iter2 {N : Nat} (hN : 40 ≤ N) : iter (m_ropewalklaw17_silent_v2_L1 N) N 0 = some (.inl ()) := by
  obtain ⟨n, rfl⟩ : ∃ n, N = n + 40 := ⟨N - 40, by omega⟩
  rw [iter_step (s' := 1) (by unfold m_ropewalklaw17_silent_v2_L1; simp [bindO, gd]), iter_step (s' := 2) (by unfold m_ropewalklaw17_silent_v2_L1; simp [bindO, gd]), iter_step (s' := 3) (by unfold m_ropewalklaw17_silent_v2_L1; simp [bindO, gd]), iter_step (s' := 4) (by unfold m_ropewalklaw17_silent_v2_L1; simp [bindO, gd]), iter_step (s' := 5) (by unfold m_ropewalklaw17_silent_v2_L1; simp [bindO, gd]), iter_step (s' := 6) (by unfold m_ropewalklaw17_silent_v2_L1; simp [bindO, gd]), iter_stop (o := .inl ()) (by unfold m_ropewalklaw17_silent_v2_L1; simp)]
theorem silent_ok {N : Nat} (hN : 40 ≤ N) (a : Int) : m_ropewalklaw17_silent N a = some true := by
  have h : m_ropewalklaw17_silent N a = bindS (iter (m_ropewalklaw17_silent_L1 N) N 0) (fun _ => some true) := rfl
  rw [h, silent_iter hN]; rfl
theorem silent_ok2 {N : Nat} (hN : 40 ≤ N) (a b : Int) : m_ropewalklaw17_silent_v2 N a b = some true := by
  have h : m_ropewalklaw17_silent_v2 N a b = bindS (iter (m_ropewalklaw17_silent_v2_L1 N) N 0) (fun _ => some true) := rfl
  rw [h, silent_iter2 hN]; rfl
theorem disknil_arg (a : Int) (_ : inK .i64 a) : m_ropewalklaw17_DiskNil 9223372036854775808 a = some true := by
  unfold m_ropewalklaw17_DiskNil
  rw [awake_ok (by omega), bindO_pure, if_pos rfl, silent_ok (by omega), bindO_pure, if_pos rfl, silent_ok2 (by omega)]
  rfl
end Go.Proofs.Ytkakbckmajdggaa
