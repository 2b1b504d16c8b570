/- Layer 17, plain: sorted entries, copies, equal rows. -/
import Derived.Test.YtkakbckmajdggaaDiskP
namespace Go.Proofs.Ytkakbckmajdggaa
open Go Go.RowKit
theorem ltB_asymm {a b : ByteArray} (h : ltB a b = true) : ltB b a = false := by
  simp only [ltB, decide_eq_true_eq, decide_eq_false_iff_not] at *
  exact List.lt_asymm h
theorem ltB_trans {a b c : ByteArray} (h : ltB a b = true) (h2 : ltB b c = true) : ltB a c = true := by
  simp only [ltB, decide_eq_true_eq] at *
  exact List.lt_trans h h2
theorem ltB_ne {a b : ByteArray} (h : ltB a b = true) : a ≠ b := by
  intro e
  subst e
  have := ltB_asymm h
  rw [h] at this; cases this
def SortedE (es : List (ByteArray × Disk_rowsD)) : Prop := es.Pairwise (fun x y => ltB x.1 y.1 = true)
theorem SortedE.nodup {es : List (ByteArray × Disk_rowsD)} (h : SortedE es) : (keysE es).Nodup := List.pairwise_map.2 (h.imp fun h => ltB_ne h)
theorem mlook_filter {g : ByteArray → Bool} {k : ByteArray} (hg : g k = false) : ∀ {es : List (ByteArray × Disk_rowsD)}, mlook k (es.filter fun y => g y.1) = none
  | [] => rfl
  | y :: es => by
    rw [List.filter_cons]
    split
    · rename_i h
      unfold mlook
      rw [if_neg (fun e => by rw [e, hg] at h; cases h)]
      exact mlook_filter hg
    · exact mlook_filter hg
theorem mins_filter {g : ByteArray → Bool} {k : ByteArray} {x : Disk_rowsD} (hg : g k = false) : ∀ {es : List (ByteArray × Disk_rowsD)}, SortedE es → mlook k es = some x →
    mins ltB k x (es.filter fun y => g y.1) = es.filter fun y => g y.1 || decide (y.1 = k)
  | [], _, h => by cases h
  | y :: es, hs, h => by
    obtain ⟨h1, h2⟩ := List.pairwise_cons.1 hs
    unfold mlook at h
    split at h
    · rename_i e
      cases h
      subst e
      have hrest : (es.filter fun z => g z.1 || decide (z.1 = y.1)) = es.filter fun z => g z.1 := by
        refine List.filter_congr fun z hz => ?_
        have : decide (z.1 = y.1) = false := by
          rw [decide_eq_false_iff_not]
          exact fun e => ltB_ne (h1 z hz) e.symm
        rw [this, Bool.or_false]
      rw [List.filter_cons, List.filter_cons, hrest]
      simp only [hg, decide_true, Bool.or_true, if_true, Bool.false_eq_true, if_false]
      cases hl : es.filter fun z => g z.1 with
      | nil => rfl
      | cons z l =>
        have hz : z ∈ es := (List.mem_filter.1 (hl ▸ List.mem_cons_self : z ∈ es.filter fun z => g z.1)).1
        unfold mins
        rw [if_pos (h1 z hz)]
    · rename_i hne
      have hlt : ltB y.1 k = true := h1 (k, x) (mlook_mem h)
      have ih := mins_filter hg h2 h
      rw [List.filter_cons, List.filter_cons]
      have hd : decide (y.1 = k) = false := by rw [decide_eq_false_iff_not]; exact hne
      rw [hd, Bool.or_false]
      split
      · unfold mins
        rw [if_neg (by rw [ltB_asymm hlt]; simp), ih]
      · exact ih
theorem copy_go {N : Nat} (es : List (ByteArray × Disk_rowsD)) (hs : SortedE es) (hl : ∀ x ∈ es, sizeR x.2 ≤ 140737488355328) : ∀ (ord : List ByteArray) (g : ByteArray → Bool), ord.Nodup → (∀ k ∈ ord, k ∈ keysE es ∧ g k = false) →
    ranL (m_disk_Disk_Copy_v3_L1 N es) ord (es.filter fun y => g y.1) = some (es.filter fun y => g y.1 || isin y.1 ord)
  | [], g, _, _ => by simp [ranL, bindS, m_disk_Disk_Copy_v3_L1, optE, isin]
  | k :: ord, g, ho, hk => by
    obtain ⟨hk1, hk2⟩ := hk k (by simp)
    obtain ⟨x, hx⟩ := mlook_isSome hk1
    have hlx : sizeR x ≤ 140737488355328 := hl _ (mlook_mem hx)
    unfold sizeR at hlx
    have hst : m_disk_Disk_Copy_v3_L1 N es (some k) (es.filter fun y => g y.1) = some (.inl (es.filter fun y => g y.1 || decide (y.1 = k))) := by
      unfold m_disk_Disk_Copy_v3_L1
      simp only [optE, hx, bindO_pure]
      rw [gd_pos (by omega), gd_pos (by omega), ← mins_filter hk2 hs hx]
      unfold mputP
      rw [mlook_filter hk2]
    show bindS (m_disk_Disk_Copy_v3_L1 N es (some k) _) _ = _
    rw [hst, bindS_inl]
    have ho' := List.nodup_cons.1 ho
    rw [copy_go es hs hl ord (fun q => g q || decide (q = k)) ho'.2 (fun q hq => ⟨(hk q (by simp [hq])).1, by
      have h3 := (hk q (by simp [hq])).2
      have : decide (q = k) = false := by rw [decide_eq_false_iff_not]; intro e; subst e; exact ho'.1 hq
      simp [h3, this]⟩)]
    congr 1
    refine List.filter_congr fun y _ => ?_
    simp only [isin, List.any_cons, Bool.or_assoc]
theorem copy_eq {N : Nat} {a : Int} {es : List (ByteArray × Disk_rowsD)} (hs : SortedE es) (hl : ∀ x ∈ es, sizeR x.2 ≤ 140737488355328) : m_disk_Disk_Copy_v3 N a es = some es := by
  have key : ranP (m_disk_Disk_Copy_v3_L1 N es) (List.map (fun x : ByteArray × Disk_rowsD => x.1) es) ([] : List (ByteArray × Disk_rowsD)) = some es := by
    refine ranP_of fun ord ho => ?_
    have h1 := copy_go (N := N) es hs hl ord (fun _ => false) (ho.nodup_iff.2 hs.nodup) (fun k hk => ⟨ho.mem_iff.1 hk, rfl⟩)
    have h2 : (es.filter fun y : ByteArray × Disk_rowsD => (fun _ : ByteArray => false) y.1) = [] := by simp
    rw [h2] at h1
    rw [h1]
    congr 1
    refine List.filter_eq_self.2 fun y hy => ?_
    simp only [Bool.false_or]
    exact isin_iff.2 (ho.mem_iff.2 (List.mem_map.2 ⟨y, hy, rfl⟩))
  unfold m_disk_Disk_Copy_v3 m_disk_Disk_is m_disk_New
  rw [bindO_pure, bindO_pure, key]
  rfl
/-! Equal rows, equal texts. -/
theorem same_go {N : Nat} (l : List Int) : ∀ (n i : Nat), l.length - i < n → l.length < 9223372036854775807 → iter (m_ropewalkkit_SameBytes_L1 N l l) n i = some (.inl ())
  | 0, _, h, _ => by omega
  | n + 1, i, h, hl => by
    by_cases hi : i < l.length
    · have hx : l[i]? = some l[i] := List.getElem?_eq_getElem hi
      rw [iter_step (s' := i + 1) (by
        unfold m_ropewalkkit_SameBytes_L1
        rw [if_pos (by simpa using hi), hx]
        simp only [bindO_pure]
        rw [if_neg (by simp), gd_pos (by omega)])]
      exact same_go l n (i + 1) (by omega) hl
    · exact iter_stop (by unfold m_ropewalkkit_SameBytes_L1; rw [if_neg (by simpa using hi)])
theorem same_self {N : Nat} (l : List Int) (hN : l.length < N) (hl : l.length < 9223372036854775807) : m_ropewalkkit_SameBytes N l l = some true := by
  unfold m_ropewalkkit_SameBytes
  rw [if_neg (by simp), same_go l N 0 (by omega) hl]
  rfl
theorem sameT_go {N : Nat} (l : List ByteArray) : ∀ (n i : Nat), l.length - i < n → l.length < 9223372036854775807 → iter (m_ropewalkkit_SameTexts_L1 N l l) n i = some (.inl ())
  | 0, _, h, _ => by omega
  | n + 1, i, h, hl => by
    by_cases hi : i < l.length
    · have hx : l[i]? = some l[i] := List.getElem?_eq_getElem hi
      rw [iter_step (s' := i + 1) (by
        unfold m_ropewalkkit_SameTexts_L1
        rw [if_pos (by simpa using hi), hx]
        simp only [bindO_pure]
        rw [if_neg (by simp), gd_pos (by omega)])]
      exact sameT_go l n (i + 1) (by omega) hl
    · exact iter_stop (by unfold m_ropewalkkit_SameTexts_L1; rw [if_neg (by simpa using hi)])
theorem sameT_self {N : Nat} (l : List ByteArray) (hN : l.length < N) (hl : l.length < 9223372036854775807) : m_ropewalkkit_SameTexts N l l = some true := by
  unfold m_ropewalkkit_SameTexts
  rw [if_neg (by simp), sameT_go l N 0 (by omega) hl]
  rfl
theorem pick_eq {N : Nat} (a : Int) (n : Nat) (hn : 0 < n) (h : n ≤ 4611686018427387904) : ∃ k : Nat, k < n ∧ m_ropewalkkit_Pick N a (n : Int) = some (k : Int) := by
  have h1 : (n : Int) ≠ 0 := by omega
  have hlt := Int.tmod_lt_of_pos a (b := (n : Int)) (by omega)
  have hgt : -(n : Int) < Int.tmod a n := by
    have := Int.lt_tmod_of_pos a (b := (n : Int)) (by omega)
    omega
  unfold m_ropewalkkit_Pick
  rw [if_neg (by simp; omega), gd_pos h1]
  by_cases hneg : Int.tmod a n < 0
  · refine ⟨(Int.tmod a n + n).toNat, by omega, ?_⟩
    rw [if_pos (by simpa using hneg), gd_pos (by omega)]
    simp only [bindO_pure]
    congr 1; omega
  · refine ⟨(Int.tmod a n).toNat, by omega, ?_⟩
    rw [if_neg (by simpa using hneg)]
    simp only [bindO_pure]
    congr 1; omega
/-! Rename, Cut, Remove. -/
theorem fit_two {N : Nat} (hN : 40 ≤ N) (s t : ByteArray) : m_disk_fit N [s, t] = some (fitB s && fitB t) := by
  obtain ⟨n, rfl⟩ : ∃ n, N = n + 3 := ⟨N - 3, by omega⟩
  unfold m_disk_fit
  cases h : fitB s with
  | false =>
    rw [iter_stop (o := .inr false) (by unfold m_disk_fit_L1; simp [bindO, fit_C2_eq hN, h])]
    rfl
  | true =>
    rw [iter_step (s' := 1) (by unfold m_disk_fit_L1; simp [bindO, fit_C2_eq hN, h, gd])]
    cases h2 : fitB t with
    | false =>
      rw [iter_stop (o := .inr false) (by unfold m_disk_fit_L1; simp [bindO, fit_C2_eq hN, h2])]
      rfl
    | true =>
      rw [iter_step (s' := 2) (by unfold m_disk_fit_L1; simp [bindO, fit_C2_eq hN, h2, gd]), iter_stop (o := .inl ()) (by unfold m_disk_fit_L1; simp)]
      rfl
theorem beq_bytes {s t : ByteArray} : (s.toList == t.toList) = decide (s = t) := by
  rw [btl, btl, Bool.eq_iff_iff, beq_iff_eq, decide_eq_true_eq]
  constructor
  · intro h
    cases s; cases t
    exact congrArg ByteArray.mk (Array.toList_inj.1 h)
  · intro h; rw [h]
def renE (es : List (ByteArray × Disk_rowsD)) (s t : ByteArray) : List (ByteArray × Disk_rowsD) := mputP ltB s (rowE es s) (mputP ltB t (rowE es s) es)
theorem rename_eq {N : Nat} (hN : 40 ≤ N) {a : Int} {es : List (ByteArray × Disk_rowsD)} (s t : ByteArray) : m_disk_Disk_Rename_v3 N a es s t = some (if (fitB s && fitB t) = false then (2, es) else if (mlook s es).isSome = false then (6, es) else (0, if s = t then renE es s t else mdel s (renE es s t))) := by
  unfold m_disk_Disk_Rename_v3 m_disk_Disk_is m_disk_Disk_turn_v13 m_disk_Disk_is
  rw [bindO_pure, fit_two hN, bindO_pure, bindO_pure, turn_row]
  simp only [bindO_pure]
  cases fitB s && fitB t
  · rfl
  · cases h : (mlook s es).isSome
    · simp only [Bool.not_true, Bool.false_eq_true, if_false, Bool.not_false, if_true, bindO_pure, m_disk_Disk_Rename_v3_C1]
      rfl
    · simp only [Bool.not_true, Bool.false_eq_true, if_false, m_disk_Disk_Rename_1, bindO_pure, m_disk_Disk_Rename_v3_C1, beq_bytes]
      by_cases e : s = t
      · simp [e, bindO, renE]
      · simp [e, bindO, renE]
theorem cut_eq {N : Nat} (hN : 3 ≤ N) {a : Int} {es : List (ByteArray × Disk_rowsD)} {t : ByteArray} {n : Int} (hl : sizeE es t ≤ 281474976710656) :
    m_disk_Disk_Cut_v3 N a es t n = some (if (mlook t es).isSome = false then (6, es) else if n < 0 ∨ n > ((sizeE es t : Nat) : Int) then (2, es) else (0, mputP ltB t ⟨((rowE es t).firm ++ (rowE es t).loose).take n.toNat, []⟩ es)) := by
  unfold m_disk_Disk_Cut_v3 m_disk_Disk_turn_v14 m_disk_Disk_is
  rw [bindO_pure, turn_row]
  simp only [bindO_pure]
  cases h : (mlook t es).isSome
  · rfl
  · simp only [Bool.not_true, Bool.false_eq_true, if_false]
    unfold sizeE at hl
    unfold m_disk_Disk_Cut_1 m_disk_rows_size m_disk_rows_whole
    by_cases h1 : n < 0
    · simp [h1, bindO]
    · have h1' : decide (n < 0) = false := by simpa using h1
      rw [h1']
      simp only [Bool.false_eq_true, if_false]
      rw [gd_pos (by omega)]
      simp only [bindO_pure]
      by_cases h2 : n > (((rowE es t).firm.length + (rowE es t).loose.length : Nat) : Int)
      · have h2' : decide (n > (((rowE es t).firm.length + (rowE es t).loose.length : Nat) : Int)) = true := by simpa using h2
        rw [h2']
        simp only [if_true, bindO_pure]
        rw [if_pos (show n < 0 ∨ n > ((sizeE es t : Nat) : Int) from .inr h2)]
        rfl
      · have h2' : decide (n > (((rowE es t).firm.length + (rowE es t).loose.length : Nat) : Int)) = false := by simpa using h2
        rw [h2']
        simp only [Bool.false_eq_true, if_false, bindO_pure]
        rw [concat_two hN _ _ hl]
        simp only [bindO_pure]
        rw [gd_pos (by omega), gd_pos (by omega), gd_pos (by omega), gd_pos (by omega), gd_pos (by rw [List.length_append]; omega)]
        simp only [bindO_pure]
        rw [if_neg (show ¬ (n < 0 ∨ n > ((sizeE es t : Nat) : Int)) from fun h => by unfold sizeE at h; omega)]
        rfl
theorem remove_eq {N : Nat} {a : Int} {es : List (ByteArray × Disk_rowsD)} {t : ByteArray} : m_disk_Disk_Remove_v3 N a es t = some (if (mlook t es).isSome = false then (6, es) else (0, mdel t (mputP ltB t (rowE es t) es))) := by
  unfold m_disk_Disk_Remove_v3 m_disk_Disk_turn_v15 m_disk_Disk_is
  rw [bindO_pure, turn_row]
  simp only [bindO_pure]
  cases h : (mlook t es).isSome
  · rfl
  · rfl
end Go.Proofs.Ytkakbckmajdggaa
