import Derived.Test.YtgangmegcejllaaDoorPdqB
namespace Go.Proofs.YtgangmegcejllaaDoor
open Go Go.RowKit
theorem wrap_s {z : Int} (h : -1000000 ≤ z ∧ z ≤ 1000000) : IntKind.wrap .i64 z = z := by
  have := i64_in (x := z) ⟨by omega, by omega⟩
  injection this
section
variable {N : Nat} {s : List Int} (hN : 1000000 ≤ N)
include hN
theorem siftC {d : Array Api_TokenD} (hd : QT d) (hs : d.size ≤ 1000) {hi F r : Nat} (hF : F + hi ≤ d.size) (hr : r ≤ 1000) :
    m_slices_siftDownCmpFunc_Token_v2_C2 N ((r : Nat) : Int) ((hi : Nat) : Int) ((F : Nat) : Int) d.toList s = some (decide (2 * r + 1 + 1 < hi) && ltT s d[F + (2 * r + 1)]! d[F + (2 * r + 1) + 1]!) := by
  have e2 : ((F : Nat) : Int) + (2 * ((r : Nat) : Int) + 1) = ((F + (2 * r + 1) : Nat) : Int) := by omega
  have e3 : ((F + (2 * r + 1) : Nat) : Int) + 1 = ((F + (2 * r + 1) + 1 : Nat) : Int) := by omega
  unfold m_slices_siftDownCmpFunc_Token_v2_C2
  simp only [e2, e3, Int.toNat_natCast]
  rw [gd_pos (by omega)]
  by_cases h : 2 * r + 1 + 1 < hi
  · rw [if_pos (decide_eq_true (by omega)), gd_pos (by omega), gd_pos (by omega), rd (by omega), bindO_pure, gd_pos (by omega), gd_pos (by omega), gd_pos (by omega), rd (by omega), bindO_pure, cmpQ hN hd, bindO_pure, decide_eq_true h, Bool.true_and]
    rfl
  · rw [if_neg (by rw [decide_eq_true_eq]; omega), decide_eq_false h, Bool.false_and]
theorem siftS {d : Array Api_TokenD} (hd : QT d) (hs : d.size ≤ 1000) {hi F r c : Nat} (hF : F + hi ≤ d.size) (hr : r ≤ 1000) (hr2 : 2 * r + 1 < hi)
    (hc : c = if (decide (2 * r + 1 + 1 < hi) && ltT s d[F + (2 * r + 1)]! d[F + (2 * r + 1) + 1]!) = true then 2 * r + 2 else 2 * r + 1) :
    m_slices_siftDownCmpFunc_Token_v2_L1 N ((hi : Nat) : Int) ((F : Nat) : Int) s (((r : Nat) : Int), d.toList) =
      if ltT s d[F + r]! d[F + c]! = true then some (.inl (((c : Nat) : Int), (Sort.swp d (F + r) (F + c)).toList)) else some (.inr d.toList) := by
  have hcl : c < hi := by
    rw [hc]
    split
    · rename_i h
      rw [Bool.and_eq_true, decide_eq_true_eq] at h
      omega
    · omega
  unfold m_slices_siftDownCmpFunc_Token_v2_L1
  simp only
  rw [gd_pos (by omega), gd_pos (by omega), if_neg (by rw [decide_eq_true_eq]; omega), siftC hN hd hs hF hr, bindO_pure]
  have hb : (if (decide (2 * r + 1 + 1 < hi) && ltT s d[F + (2 * r + 1)]! d[F + (2 * r + 1) + 1]!) = true then gd (-9223372036854775808 ≤ 2 * ((r : Nat) : Int) + 1 + 1 ∧ 2 * ((r : Nat) : Int) + 1 + 1 ≤ 9223372036854775807) (some (2 * ((r : Nat) : Int) + 1 + 1)) else some (2 * ((r : Nat) : Int) + 1)) = some ((c : Nat) : Int) := by
    rw [hc]
    split
    · rw [gd_pos (by omega)]; congr 1
    · congr 1
  rw [hb, bindO_pure]
  have e1 : ((F : Nat) : Int) + ((r : Nat) : Int) = ((F + r : Nat) : Int) := by omega
  have e2 : ((F : Nat) : Int) + ((c : Nat) : Int) = ((F + c : Nat) : Int) := by omega
  simp only [e1, e2, Int.toNat_natCast]
  rw [gd_pos (by omega), gd_pos (by omega), rd (by omega), bindO_pure, gd_pos (by omega), gd_pos (by omega), rd (by omega), bindO_pure, cmpQ hN hd, bindO_pure]
  unfold ltT
  by_cases h : cfT s d[F + r]! d[F + c]! < 0
  · rw [if_neg (by simp [h]), if_pos (decide_eq_true h), gd_pos (by omega), gd_pos (by omega), gd_pos (by omega), gd_pos (by omega), bindO_pure, gd_pos (by omega), gd_pos (by omega), bindO_pure, gd_pos (by omega), bindO_pure, gd_pos (by omega), bind_any (by simp; omega), swp_l]
  · rw [if_pos (by simp [h]), if_neg (by simp [h])]
theorem sift_is (hi F : Nat) : ∀ (k r : Nat) (d : Array Api_TokenD), hi - r ≤ k → QT d → F + hi ≤ d.size → d.size ≤ 1000 → r ≤ 1000 → ∀ fuel, k < fuel →
    iter (m_slices_siftDownCmpFunc_Token_v2_L1 N ((hi : Nat) : Int) ((F : Nat) : Int) s) fuel (((r : Nat) : Int), d.toList) = some (Sort.siftDown (ltT s) hi F r d).toList := by
  intro k
  induction k with
  | zero =>
    intro r d hk hd hF hs hr fuel hf
    obtain ⟨fuel, rfl⟩ : ∃ f, fuel = f + 1 := ⟨fuel - 1, by omega⟩
    rw [Sort.siftDown, dif_pos (by omega), iter_stop]
    unfold m_slices_siftDownCmpFunc_Token_v2_L1
    simp only
    rw [gd_pos (by omega), gd_pos (by omega), if_pos (decide_eq_true (by omega))]
  | succ k ih =>
    intro r d hk hd hF hs hr fuel hf
    obtain ⟨fuel, rfl⟩ : ∃ f, fuel = f + 1 := ⟨fuel - 1, by omega⟩
    rw [Sort.siftDown]
    by_cases h : 2 * r + 1 ≥ hi
    · rw [dif_pos h, iter_stop]
      unfold m_slices_siftDownCmpFunc_Token_v2_L1
      simp only
      rw [gd_pos (by omega), gd_pos (by omega), if_pos (decide_eq_true (by omega))]
    · rw [dif_neg h]
      have hst := siftS (s := s) hN hd hs hF hr (by omega) rfl
      by_cases hc : (decide (2 * r + 1 + 1 < hi) && ltT s d[F + (2 * r + 1)]! d[F + (2 * r + 1) + 1]!) = true
      · have hc2 : 2 * r + 2 < hi := by
          rw [Bool.and_eq_true, decide_eq_true_eq] at hc
          omega
        rw [if_pos hc] at hst ⊢
        by_cases hl : ltT s d[F + r]! d[F + (2 * r + 2)]! = true
        · rw [if_pos hl] at hst
          rw [if_neg (by simp [hl]), dif_pos hc2, iter_step hst]
          exact ih (2 * r + 2) _ (by omega) (hd.swp (by omega) (by omega)) (by rw [Sort.swp_size]; omega) (by rw [Sort.swp_size]; omega) (by omega) fuel (by omega)
        · rw [if_neg hl] at hst
          rw [if_pos (by simp [hl]), iter_stop hst]
      · rw [if_neg hc] at hst ⊢
        by_cases hl : ltT s d[F + r]! d[F + (2 * r + 1)]! = true
        · rw [if_pos hl] at hst
          rw [if_neg (by simp [hl]), iter_step hst]
          exact ih (2 * r + 1) _ (by omega) (hd.swp (by omega) (by omega)) (by rw [Sort.swp_size]; omega) (by rw [Sort.swp_size]; omega) (by omega) fuel (by omega)
        · rw [if_neg hl] at hst
          rw [if_pos (by simp [hl]), iter_stop hst]
omit hN in
theorem sift_keep {lt : Api_TokenD → Api_TokenD → Bool} (hi F : Nat) : ∀ (k r : Nat) (d : Array Api_TokenD), hi - r ≤ k → F + hi ≤ d.size → (Sort.siftDown lt hi F r d).size = d.size ∧ (QT d → QT (Sort.siftDown lt hi F r d)) := by
  intro k
  induction k with
  | zero => intro r d hk hF; rw [Sort.siftDown, dif_pos (by omega)]; exact ⟨rfl, id⟩
  | succ k ih =>
    intro r d hk hF
    rw [Sort.siftDown]
    by_cases h : 2 * r + 1 ≥ hi
    · rw [dif_pos h]; exact ⟨rfl, id⟩
    · rw [dif_neg h]
      have go : ∀ c, r < c → c < hi → (Sort.siftDown lt hi F c (Sort.swp d (F + r) (F + c))).size = d.size ∧ (QT d → QT (Sort.siftDown lt hi F c (Sort.swp d (F + r) (F + c)))) := fun c h1 h2 => by
        have := ih c (Sort.swp d (F + r) (F + c)) (by omega) (by rw [Sort.swp_size]; exact hF)
        rw [Sort.swp_size] at this
        exact ⟨this.1, fun hq => this.2 (hq.swp (by omega) (by omega))⟩
      split
      · split
        · exact ⟨rfl, id⟩
        · split
          · exact go _ (by omega) (by omega)
          · exact ⟨rfl, id⟩
      · split
        · exact ⟨rfl, id⟩
        · exact go _ (by omega) (by omega)
theorem hb_is (a b : Nat) (hab : a ≤ b) : ∀ (k : Nat) (d : Array Api_TokenD), QT d → b ≤ d.size → d.size ≤ 1000 → k ≤ 1000 → ∀ fuel, k < fuel →
    iter (m_slices_heapSortCmpFunc_Token_v2_L1 N ((b : Nat) : Int) ((a : Nat) : Int) s) fuel (((k : Nat) : Int) - 1, d.toList) = some (Sort.heapBuild (ltT s) (b - a) a k d).toList ∧ (Sort.heapBuild (ltT s) (b - a) a k d).size = d.size ∧ QT (Sort.heapBuild (ltT s) (b - a) a k d) := by
  intro k
  induction k with
  | zero =>
    intro d hd hb hs hk fuel hf
    obtain ⟨fuel, rfl⟩ : ∃ f, fuel = f + 1 := ⟨fuel - 1, by omega⟩
    refine ⟨?_, rfl, hd⟩
    rw [iter_stop]
    unfold m_slices_heapSortCmpFunc_Token_v2_L1
    simp only
    rw [if_neg (by rw [decide_eq_true_eq]; omega)]
    rfl
  | succ k ih =>
    intro d hd hb hs hk fuel hf
    obtain ⟨fuel, rfl⟩ : ∃ f, fuel = f + 1 := ⟨fuel - 1, by omega⟩
    have kp := sift_keep (lt := ltT s) (b - a) a (b - a - k) k d (by omega) (by omega)
    have e1 : ((k + 1 : Nat) : Int) - 1 = ((k : Nat) : Int) := by omega
    have e2 : ((b : Nat) : Int) - ((a : Nat) : Int) = ((b - a : Nat) : Int) := by omega
    have hst : m_slices_heapSortCmpFunc_Token_v2_L1 N ((b : Nat) : Int) ((a : Nat) : Int) s (((k + 1 : Nat) : Int) - 1, d.toList) = some (.inl (((k : Nat) : Int) - 1, (Sort.siftDown (ltT s) (b - a) a k d).toList)) := by
      unfold m_slices_heapSortCmpFunc_Token_v2_L1
      simp only [e1, e2]
      rw [if_pos (decide_eq_true (by omega))]
      unfold m_slices_siftDownCmpFunc_Token_v2
      rw [sift_is hN (b - a) a (b - a - k) k d (by omega) hd (by omega) hs (by omega) N (by omega), bindO_pure, gd_pos (by omega)]
    rw [iter_step hst]
    have := ih (Sort.siftDown (ltT s) (b - a) a k d) (kp.2 hd) (by rw [kp.1]; exact hb) (by rw [kp.1]; exact hs) (by omega) fuel (by omega)
    rw [kp.1] at this
    exact this
theorem hp_is (a b : Nat) (hab : a ≤ b) : ∀ (k : Nat) (d : Array Api_TokenD), QT d → a + k ≤ d.size → d.size ≤ 1000 → k ≤ 1000 → ∀ fuel, k < fuel →
    iter (m_slices_heapSortCmpFunc_Token_v2_L2 N ((a : Nat) : Int) s) fuel (((k : Nat) : Int) - 1, d.toList) = some (Sort.heapPop (ltT s) a k d).toList := by
  intro k
  induction k with
  | zero =>
    intro d hd hb hs hk fuel hf
    obtain ⟨fuel, rfl⟩ : ∃ f, fuel = f + 1 := ⟨fuel - 1, by omega⟩
    rw [iter_stop]
    unfold m_slices_heapSortCmpFunc_Token_v2_L2
    simp only
    rw [if_neg (by rw [decide_eq_true_eq]; omega)]
    rfl
  | succ k ih =>
    intro d hd hb hs hk fuel hf
    obtain ⟨fuel, rfl⟩ : ∃ f, fuel = f + 1 := ⟨fuel - 1, by omega⟩
    have q := hd.swp (i := a) (j := a + k) (by omega) (by omega)
    have kp := sift_keep (lt := ltT s) k a k 0 (Sort.swp d a (a + k)) (by omega) (by rw [Sort.swp_size]; omega)
    rw [Sort.swp_size] at kp
    have e1 : ((k + 1 : Nat) : Int) - 1 = ((k : Nat) : Int) := by omega
    have e2 : ((a : Nat) : Int) + ((k : Nat) : Int) = ((a + k : Nat) : Int) := by omega
    have hst : m_slices_heapSortCmpFunc_Token_v2_L2 N ((a : Nat) : Int) s (((k + 1 : Nat) : Int) - 1, d.toList) = some (.inl (((k : Nat) : Int) - 1, (Sort.siftDown (ltT s) k a 0 (Sort.swp d a (a + k))).toList)) := by
      unfold m_slices_heapSortCmpFunc_Token_v2_L2
      simp only [e1, e2, Int.toNat_natCast]
      rw [if_pos (decide_eq_true (by omega)), gd_pos (by omega), gd_pos (by omega), gd_pos (by omega), rd (by omega), bindO_pure, gd_pos (by omega), rd (by omega), bindO_pure, gd_pos (by omega), bindO_pure, gd_pos (by omega), bind_any (by simp; omega), ← swp_l]
      unfold m_slices_siftDownCmpFunc_Token_v2
      have := sift_is (s := s) hN k a k 0 (Sort.swp d a (a + k)) (by omega) q (by rw [Sort.swp_size]; omega) (by rw [Sort.swp_size]; omega) (by omega) N (by omega)
      rw [show ((0 : Nat) : Int) = 0 from rfl] at this
      rw [this, bindO_pure, gd_pos (by omega)]
    rw [iter_step hst]
    exact ih _ (kp.2 q) (by rw [kp.1]; omega) (by rw [kp.1]; exact hs) (by omega) fuel (by omega)
theorem heap_is {a b : Nat} {d : Array Api_TokenD} (hd : QT d) (hb : b ≤ d.size) (ha : a ≤ b) (hs : d.size ≤ 999) :
    m_slices_heapSortCmpFunc_Token_v2 N d.toList ((a : Nat) : Int) ((b : Nat) : Int) s = some (Sort.heapSort (ltT s) d a b).toList := by
  have e2 : ((b : Nat) : Int) - ((a : Nat) : Int) = ((b - a : Nat) : Int) := by omega
  have e3 : IntKind.wrap .i64 (Int.tdiv (((b - a : Nat) : Int) - 1) 2) = (((b - a - 1) / 2 + 1 : Nat) : Int) - 1 := by
    by_cases h : b - a = 0
    · rw [h]; decide
    · rw [show ((b - a : Nat) : Int) - 1 = ((b - a - 1 : Nat) : Int) by omega, Int.tdiv_eq_ediv_of_nonneg (by omega), wrap_s (by omega)]; omega
  have h1 := hb_is (s := s) hN a b ha ((b - a - 1) / 2 + 1) d hd hb (by omega) (by omega) N (by omega)
  unfold m_slices_heapSortCmpFunc_Token_v2 Sort.heapSort
  simp only [e2, e3]
  rw [gd_pos (by omega), gd_pos (by omega), h1.1, bindO_pure, gd_pos (by omega)]
  exact hp_is hN a b ha (b - a) _ h1.2.2 (by rw [h1.2.1]; omega) (by rw [h1.2.1]; omega) (by omega) N (by omega)
omit hN in
theorem rev1 : ∀ (k i j : Nat) (d : Array Api_TokenD), j - i ≤ k → j < d.size → d.size ≤ 1000 → ∀ fuel, k < fuel →
    iter (m_slices_reverseRangeCmpFunc_Token_v2_L1 N) fuel (((j : Nat) : Int), ((i : Nat) : Int), d.toList) = some (Sort.reverseLoop i j d).toList := by
  intro k
  induction k with
  | zero =>
    intro i j d hk hj hs fuel hf
    obtain ⟨fuel, rfl⟩ : ∃ f, fuel = f + 1 := ⟨fuel - 1, by omega⟩
    rw [Sort.reverseLoop, if_neg (by omega), iter_stop]
    unfold m_slices_reverseRangeCmpFunc_Token_v2_L1
    simp only
    rw [if_neg (by rw [decide_eq_true_eq]; omega)]
  | succ k ih =>
    intro i j d hk hj hs fuel hf
    obtain ⟨fuel, rfl⟩ : ∃ f, fuel = f + 1 := ⟨fuel - 1, by omega⟩
    rw [Sort.reverseLoop]
    by_cases h : i < j
    · have hst : m_slices_reverseRangeCmpFunc_Token_v2_L1 N (((j : Nat) : Int), ((i : Nat) : Int), d.toList) = some (.inl (((j - 1 : Nat) : Int), ((i + 1 : Nat) : Int), (Sort.swp d i j).toList)) := by
        unfold m_slices_reverseRangeCmpFunc_Token_v2_L1
        simp only [Int.toNat_natCast]
        rw [if_pos (decide_eq_true (by omega)), gd_pos (by omega), rd (by omega), bindO_pure, gd_pos (by omega), rd (by omega), bindO_pure, gd_pos (by omega), bindO_pure, gd_pos (by omega), bind_any (by simp; omega), gd_pos (by omega), gd_pos (by omega), swp_l, show ((j : Nat) : Int) - 1 = ((j - 1 : Nat) : Int) by omega]
        rfl
      rw [if_pos h, iter_step hst]
      exact ih (i + 1) (j - 1) _ (by omega) (by rw [Sort.swp_size]; omega) (by rw [Sort.swp_size]; omega) fuel (by omega)
    · rw [if_neg h, iter_stop]
      unfold m_slices_reverseRangeCmpFunc_Token_v2_L1
      simp only
      rw [if_neg (by rw [decide_eq_true_eq]; omega)]
theorem rev_is {a b : Nat} {d : Array Api_TokenD} (hb : b ≤ d.size) (ha : a < b) (hs : d.size ≤ 999) :
    m_slices_reverseRangeCmpFunc_Token_v2 N d.toList ((a : Nat) : Int) ((b : Nat) : Int) s = some (Sort.reverseRange d a b).toList := by
  unfold m_slices_reverseRangeCmpFunc_Token_v2 Sort.reverseRange
  rw [gd_pos (by omega), show ((b : Nat) : Int) - 1 = ((b - 1 : Nat) : Int) by omega]
  exact rev1 (b - 1) a (b - 1) d (by omega) (by omega) (by omega) N (by omega)
end
end Go.Proofs.YtgangmegcejllaaDoor
