import Derived.Test.YtkakbckmajdggaaDiskP
namespace Go.Proofs.Ytkakbckmajdggaa
open Go Go.RowKit
theorem ltB_asymm {a b : ByteArray} (h : ltB a b = true) : ltB b a = false := by
  simp only [ltB, decide_eq_true_eq, decide_eq_false_iff_not] at *
  exact List.lt_asymm h
theorem ltB_trans {a b c : ByteArray} (h : ltB a b = true) (h2 : ltB b c = true) : ltB a c = true := by
  simp only [ltB, decide_eq_true_eq] at *
  exact List.lt_trans h h2
theorem ltB_ne {a b : ByteArray} (h : ltB a b = true) : a ≠ b := by
  intro e
  subst e
  have := ltB_asymm h
  rw [h] at this; cases this
def SortedE (es : List (ByteArray × Disk_rowsD)) : Prop := es.Pairwise (fun x y => ltB x.1 y.1 = true)
theorem SortedE.nodup {es : List (ByteArray × Disk_rowsD)} (h : SortedE es) : (keysE es).Nodup := List.pairwise_map.2 (h.imp fun h => ltB_ne h)
theorem same_go {N : Nat} (l : List Int) : ∀ (n i : Nat), l.length - i < n → l.length < 9223372036854775807 → iter (m_ropewalkkit_SameBytes_L1 N l l) n i = some (.inl ())
  | 0, _, h, _ => by omega
  | n + 1, i, h, hl => by
    by_cases hi : i < l.length
    · have hx : l[i]? = some l[i] := List.getElem?_eq_getElem hi
      rw [iter_step (s' := i + 1) (by
        unfold m_ropewalkkit_SameBytes_L1
        rw [if_pos (by simpa using hi), hx]
        simp only [bindO_pure]
        rw [if_neg (by simp), gd_pos (by omega)])]
      exact same_go l n (i + 1) (by omega) hl
    · exact iter_stop (by unfold m_ropewalkkit_SameBytes_L1; rw [if_neg (by simpa using hi)])
theorem same_self {N : Nat} (l : List Int) (hN : l.length < N) (hl : l.length < 9223372036854775807) : m_ropewalkkit_SameBytes N l l = some true := by
  unfold m_ropewalkkit_SameBytes
  rw [if_neg (by simp), same_go l N 0 (by omega) hl]
  rfl
theorem sameT_go {N : Nat} (l : List ByteArray) : ∀ (n i : Nat), l.length - i < n → l.length < 9223372036854775807 → iter (m_ropewalkkit_SameTexts_L1 N l l) n i = some (.inl ())
  | 0, _, h, _ => by omega
  | n + 1, i, h, hl => by
    by_cases hi : i < l.length
    · have hx : l[i]? = some l[i] := List.getElem?_eq_getElem hi
      rw [iter_step (s' := i + 1) (by
        unfold m_ropewalkkit_SameTexts_L1
        rw [if_pos (by simpa using hi), hx]
        simp only [bindO_pure]
        rw [if_neg (by simp), gd_pos (by omega)])]
      exact sameT_go l n (i + 1) (by omega) hl
    · exact iter_stop (by unfold m_ropewalkkit_SameTexts_L1; rw [if_neg (by simpa using hi)])
theorem sameT_self {N : Nat} (l : List ByteArray) (hN : l.length < N) (hl : l.length < 9223372036854775807) : m_ropewalkkit_SameTexts N l l = some true := by
  unfold m_ropewalkkit_SameTexts
  rw [if_neg (by simp), sameT_go l N 0 (by omega) hl]
  rfl
theorem pick_eq {N : Nat} (a : Int) (n : Nat) (hn : 0 < n) (h : n ≤ 4611686018427387904) : ∃ k : Nat, k < n ∧ m_ropewalkkit_Pick N a (n : Int) = some (k : Int) := by
  have h1 : (n : Int) ≠ 0 := by omega
  have hlt := Int.tmod_lt_of_pos a (b := (n : Int)) (by omega)
  have hgt : -(n : Int) < Int.tmod a n := by
    have := Int.lt_tmod_of_pos a (b := (n : Int)) (by omega)
    omega
  unfold m_ropewalkkit_Pick
  rw [if_neg (by simp; omega), gd_pos h1]
  by_cases hneg : Int.tmod a n < 0
  · refine ⟨(Int.tmod a n + n).toNat, by omega, ?_⟩
    rw [if_pos (by simpa using hneg), gd_pos (by omega)]
    simp only [bindO_pure]
    congr 1; omega
  · refine ⟨(Int.tmod a n).toNat, by omega, ?_⟩
    rw [if_neg (by simpa using hneg)]
    simp only [bindO_pure]
    congr 1; omega
theorem fit_two {N : Nat} (hN : 40 ≤ N) (s t : ByteArray) : m_disk_fit N [s, t] = some (fitB s && fitB t) := by
  obtain ⟨n, rfl⟩ : ∃ n, N = n + 3 := ⟨N - 3, by omega⟩
  unfold m_disk_fit
  cases h : fitB s with
  | false =>
    rw [iter_stop (o := .inr false) (by unfold m_disk_fit_L1; simp [bindO, fit_C2_eq hN, h])]
    rfl
  | true =>
    rw [iter_step (s' := 1) (by unfold m_disk_fit_L1; simp [bindO, fit_C2_eq hN, h, gd])]
    cases h2 : fitB t with
    | false =>
      rw [iter_stop (o := .inr false) (by unfold m_disk_fit_L1; simp [bindO, fit_C2_eq hN, h2])]
      rfl
    | true =>
      rw [iter_step (s' := 2) (by unfold m_disk_fit_L1; simp [bindO, fit_C2_eq hN, h2, gd]), iter_stop (o := .inl ()) (by unfold m_disk_fit_L1; simp)]
      rfl
theorem beq_bytes {s t : ByteArray} : (s.toList == t.toList) = decide (s = t) := by
  rw [btl, btl, Bool.eq_iff_iff, beq_iff_eq, decide_eq_true_eq]
  constructor
  · intro h
    cases s; cases t
    exact congrArg ByteArray.mk (Array.toList_inj.1 h)
  · intro h; rw [h]
def renE (es : List (ByteArray × Disk_rowsD)) (s t : ByteArray) : List (ByteArray × Disk_rowsD) := mputP ltB s (rowE es s) (mputP ltB t (rowE es s) es)
theorem rename_eq {N : Nat} (hN : 40 ≤ N) {a : Int} {es : List (ByteArray × Disk_rowsD)} (s t : ByteArray) : m_disk_Disk_Rename_v3 N a es s t = some (if (fitB s && fitB t) = false then (2, es) else if (mlook s es).isSome = false then (6, es) else (0, if s = t then renE es s t else mdel s (renE es s t))) := by
  unfold m_disk_Disk_Rename_v3 m_disk_Disk_is m_disk_Disk_turn_v13 m_disk_Disk_is
  rw [bindO_pure, fit_two hN, bindO_pure, bindO_pure, turn_row]
  simp only [bindO_pure]
  cases fitB s && fitB t
  · rfl
  · cases h : (mlook s es).isSome
    · simp only [Bool.not_true, Bool.false_eq_true, if_false, Bool.not_false, if_true, bindO_pure, m_disk_Disk_Rename_v3_C1]
      rfl
    · simp only [Bool.not_true, Bool.false_eq_true, if_false, m_disk_Disk_Rename_1, bindO_pure, m_disk_Disk_Rename_v3_C1, beq_bytes]
      by_cases e : s = t
      · simp [e, bindO, renE]
      · simp [e, bindO, renE]
theorem cut_eq {N : Nat} (hN : 3 ≤ N) {a : Int} {es : List (ByteArray × Disk_rowsD)} {t : ByteArray} {n : Int} (hl : sizeE es t ≤ 281474976710656) :
    m_disk_Disk_Cut_v3 N a es t n = some (if (mlook t es).isSome = false then (6, es) else if n < 0 ∨ n > ((sizeE es t : Nat) : Int) then (2, es) else (0, mputP ltB t ⟨((rowE es t).firm ++ (rowE es t).loose).take n.toNat, []⟩ es)) := by
  unfold m_disk_Disk_Cut_v3 m_disk_Disk_turn_v14 m_disk_Disk_is
  rw [bindO_pure, turn_row]
  simp only [bindO_pure]
  cases h : (mlook t es).isSome
  · rfl
  · simp only [Bool.not_true, Bool.false_eq_true, if_false]
    unfold sizeE at hl
    unfold m_disk_Disk_Cut_1 m_disk_rows_size m_disk_rows_whole
    by_cases h1 : n < 0
    · simp [h1, bindO]
    · have h1' : decide (n < 0) = false := by simpa using h1
      rw [h1']
      simp only [Bool.false_eq_true, if_false]
      rw [gd_pos (by omega)]
      simp only [bindO_pure]
      by_cases h2 : n > (((rowE es t).firm.length + (rowE es t).loose.length : Nat) : Int)
      · have h2' : decide (n > (((rowE es t).firm.length + (rowE es t).loose.length : Nat) : Int)) = true := by simpa using h2
        rw [h2']
        simp only [if_true, bindO_pure]
        rw [if_pos (show n < 0 ∨ n > ((sizeE es t : Nat) : Int) from .inr h2)]
        rfl
      · have h2' : decide (n > (((rowE es t).firm.length + (rowE es t).loose.length : Nat) : Int)) = false := by simpa using h2
        rw [h2']
        simp only [Bool.false_eq_true, if_false, bindO_pure]
        rw [concat_two hN _ _ hl]
        simp only [bindO_pure]
        rw [gd_pos (by omega), gd_pos (by omega), gd_pos (by omega), gd_pos (by omega), gd_pos (by rw [List.length_append]; omega)]
        simp only [bindO_pure]
        rw [if_neg (show ¬ (n < 0 ∨ n > ((sizeE es t : Nat) : Int)) from fun h => by unfold sizeE at h; omega)]
        rfl
theorem remove_eq {N : Nat} {a : Int} {es : List (ByteArray × Disk_rowsD)} {t : ByteArray} : m_disk_Disk_Remove_v3 N a es t = some (if (mlook t es).isSome = false then (6, es) else (0, mdel t (mputP ltB t (rowE es t) es))) := by
  unfold m_disk_Disk_Remove_v3 m_disk_Disk_turn_v15 m_disk_Disk_is
  rw [bindO_pure, turn_row]
  simp only [bindO_pure]
  cases h : (mlook t es).isSome
  · rfl
  · rfl
end Go.Proofs.Ytkakbckmajdggaa
