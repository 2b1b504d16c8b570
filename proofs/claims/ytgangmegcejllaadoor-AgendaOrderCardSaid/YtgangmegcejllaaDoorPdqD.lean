import Derived.Test.YtgangmegcejllaaDoorPdqC
namespace Go.Proofs.YtgangmegcejllaaDoor
open Go Go.RowKit
theorem up_go {f : Int → Option (Int ⊕ Int)} {p : Api_TokenD → Bool} {d : Array Api_TokenD} {j B : Nat} (h : ∀ i : Nat, i ≤ B → f ((i : Nat) : Int) = if (decide (i ≤ j) && p d[i]!) = true then some (.inl ((i + 1 : Nat) : Int)) else some (.inr ((i : Nat) : Int))) (hB : j < B) :
    ∀ (k i : Nat), j + 1 - i ≤ k → i ≤ B → ∀ fuel, k < fuel → iter f fuel ((i : Nat) : Int) = some ((Sort.scanUp p d j i : Nat) : Int) := by
  intro k
  induction k with
  | zero =>
    intro i hk hi fuel hf
    obtain ⟨fuel, rfl⟩ : ∃ f, fuel = f + 1 := ⟨fuel - 1, by omega⟩
    have hc : ¬ (decide (i ≤ j) && p d[i]!) = true := by rw [decide_eq_false (by omega)]; simp
    have := h i hi
    rw [if_neg hc] at this
    rw [Sort.scanUp, if_neg hc, iter_stop this]
  | succ k ih =>
    intro i hk hi fuel hf
    obtain ⟨fuel, rfl⟩ : ∃ f, fuel = f + 1 := ⟨fuel - 1, by omega⟩
    have := h i hi
    rw [Sort.scanUp]
    by_cases hc : (decide (i ≤ j) && p d[i]!) = true
    · have hij : i ≤ j := by rw [Bool.and_eq_true, decide_eq_true_eq] at hc; exact hc.1
      rw [if_pos hc] at this ⊢
      rw [iter_step this]
      exact ih (i + 1) (by omega) (by omega) fuel (by omega)
    · rw [if_neg hc] at this ⊢
      rw [iter_stop this]
theorem down_go {f : Int → Option (Int ⊕ Int)} {p : Api_TokenD → Bool} {d : Array Api_TokenD} {i B : Nat} (hi : 1 ≤ i) (h : ∀ j : Nat, j ≤ B → f ((j : Nat) : Int) = if (decide (i ≤ j) && p d[j]!) = true then some (.inl (((j : Nat) : Int) - 1)) else some (.inr ((j : Nat) : Int))) :
    ∀ (j : Nat), j ≤ B → ∀ fuel, j < fuel → iter f fuel ((j : Nat) : Int) = some ((Sort.scanDown p d i j : Nat) : Int) := by
  intro j
  induction j with
  | zero =>
    intro hj fuel hf
    obtain ⟨fuel, rfl⟩ : ∃ f, fuel = f + 1 := ⟨fuel - 1, by omega⟩
    have := h 0 hj
    rw [if_neg (by rw [decide_eq_false (by omega)]; simp)] at this
    rw [iter_stop this]
    rfl
  | succ j ih =>
    intro hj fuel hf
    obtain ⟨fuel, rfl⟩ : ∃ f, fuel = f + 1 := ⟨fuel - 1, by omega⟩
    have := h (j + 1) hj
    unfold Sort.scanDown
    by_cases hc : (decide (i ≤ j + 1) && p d[j + 1]!) = true
    · rw [if_pos hc] at this ⊢
      rw [iter_step this, show ((j + 1 : Nat) : Int) - 1 = ((j : Nat) : Int) by omega]
      exact ih (by omega) fuel (by omega)
    · rw [if_neg hc] at this ⊢
      rw [iter_stop this]
section
variable {N : Nat} {s : List Int} (hN : 1000000 ≤ N)
include hN
theorem pa_up {d : Array Api_TokenD} (hd : QT d) (hs : d.size ≤ 999) {a j : Nat} (ha : a < d.size) (hj : j < d.size) {i : Nat} (hi : i ≤ 1000) :
    iter (m_slices_partitionCmpFunc_Token_v2_L4 N ((j : Nat) : Int) d.toList ((a : Nat) : Int) s) N ((i : Nat) : Int) = some ((Sort.scanUp (fun x => ltT s x d[a]!) d j i : Nat) : Int) := by
  refine up_go (B := 1000) (fun i hi => ?_) (by omega) 2000 i (by omega) hi N (by omega)
  unfold m_slices_partitionCmpFunc_Token_v2_L4 m_slices_partitionCmpFunc_Token_v2_C10
  simp only [Int.toNat_natCast]
  by_cases h : i ≤ j
  · rw [if_pos (decide_eq_true (by omega)), gd_pos (by omega), rd (by omega), bindO_pure, gd_pos (by omega), rd (by omega), bindO_pure, cmpQ hN hd, bindO_pure, bindO_pure, gd_pos (by omega), decide_eq_true h, Bool.true_and]
    unfold ltT
    rfl
  · rw [if_neg (by rw [decide_eq_true_eq]; omega), bindO_pure, if_neg (by simp), decide_eq_false h, Bool.false_and, if_neg (by simp)]
theorem pa_down {d : Array Api_TokenD} (hd : QT d) (hs : d.size ≤ 999) {a i : Nat} (ha : a < d.size) (hi : 1 ≤ i) {j : Nat} (hj : j < d.size) :
    iter (m_slices_partitionCmpFunc_Token_v2_L5 N ((i : Nat) : Int) d.toList ((a : Nat) : Int) s) N ((j : Nat) : Int) = some ((Sort.scanDown (fun x => !ltT s x d[a]!) d i j : Nat) : Int) := by
  refine down_go (B := d.size - 1) hi (fun j hj => ?_) j (by omega) N (by omega)
  unfold m_slices_partitionCmpFunc_Token_v2_L5 m_slices_partitionCmpFunc_Token_v2_C12
  simp only [Int.toNat_natCast]
  by_cases h : i ≤ j
  · rw [if_pos (decide_eq_true (by omega)), gd_pos (by omega), rd (by omega), bindO_pure, gd_pos (by omega), rd (by omega), bindO_pure, cmpQ hN hd, bindO_pure, bindO_pure, gd_pos (by omega), decide_eq_true h, Bool.true_and]
    unfold ltT
    rfl
  · rw [if_neg (by rw [decide_eq_true_eq]; omega), bindO_pure, if_neg (by simp), decide_eq_false h, Bool.false_and, if_neg (by simp)]
theorem pa_loop (a : Nat) : ∀ (k i j : Nat) (d : Array Api_TokenD), j + 1 - i ≤ k → QT d → d.size ≤ 999 → a < d.size → j < d.size → 1 ≤ i → i ≤ 1000 → ∀ fuel, k < fuel →
    iter (m_slices_partitionCmpFunc_Token_v2_L3 N ((a : Nat) : Int) s) fuel (((j : Nat) : Int), ((i : Nat) : Int), d.toList) = some ((((Sort.partLoop (ltT s) a i j d).1 : Nat) : Int), (Sort.partLoop (ltT s) a i j d).2.toList) ∧ (Sort.partLoop (ltT s) a i j d).1 < d.size ∧ (Sort.partLoop (ltT s) a i j d).2.size = d.size ∧ QT (Sort.partLoop (ltT s) a i j d).2 := by
  intro k
  induction k with
  | zero =>
    intro i j d hk hd hs ha hj hi hi2 fuel hf
    obtain ⟨fuel, rfl⟩ : ∃ f, fuel = f + 1 := ⟨fuel - 1, by omega⟩
    have g1 := Sort.scanUp_ge (fun x => ltT s x d[a]!) d j i
    have g2 := Sort.scanDown_le (fun x => !ltT s x d[a]!) d (Sort.scanUp (fun x => ltT s x d[a]!) d j i) j
    rw [Sort.partLoop_eq, if_pos (by omega)]
    refine ⟨?_, by omega, rfl, hd⟩
    rw [iter_stop]
    unfold m_slices_partitionCmpFunc_Token_v2_L3
    simp only
    rw [pa_up hN hd hs ha hj hi2, bindO_pure, pa_down hN hd hs ha (by omega) hj, bindO_pure, if_pos (decide_eq_true (by omega))]
  | succ k ih =>
    intro i j d hk hd hs ha hj hi hi2 fuel hf
    obtain ⟨fuel, rfl⟩ : ∃ f, fuel = f + 1 := ⟨fuel - 1, by omega⟩
    have g1 := Sort.scanUp_ge (fun x => ltT s x d[a]!) d j i
    have g2 := Sort.scanDown_le (fun x => !ltT s x d[a]!) d (Sort.scanUp (fun x => ltT s x d[a]!) d j i) j
    rw [Sort.partLoop_eq]
    by_cases h : Sort.scanUp (fun x => ltT s x d[a]!) d j i > Sort.scanDown (fun x => !ltT s x d[a]!) d (Sort.scanUp (fun x => ltT s x d[a]!) d j i) j
    · rw [if_pos h]
      refine ⟨?_, by simp only; omega, rfl, hd⟩
      rw [iter_stop]
      unfold m_slices_partitionCmpFunc_Token_v2_L3
      simp only
      rw [pa_up hN hd hs ha hj hi2, bindO_pure, pa_down hN hd hs ha (by omega) hj, bindO_pure, if_pos (decide_eq_true (by omega))]
    · have hst : m_slices_partitionCmpFunc_Token_v2_L3 N ((a : Nat) : Int) s (((j : Nat) : Int), ((i : Nat) : Int), d.toList) = some (.inl (((Sort.scanDown (fun x => !ltT s x d[a]!) d (Sort.scanUp (fun x => ltT s x d[a]!) d j i) j - 1 : Nat) : Int), ((Sort.scanUp (fun x => ltT s x d[a]!) d j i + 1 : Nat) : Int), (Sort.swp d (Sort.scanUp (fun x => ltT s x d[a]!) d j i) (Sort.scanDown (fun x => !ltT s x d[a]!) d (Sort.scanUp (fun x => ltT s x d[a]!) d j i) j)).toList)) := by
        unfold m_slices_partitionCmpFunc_Token_v2_L3
        simp only
        rw [pa_up hN hd hs ha hj hi2, bindO_pure, pa_down hN hd hs ha (by omega) hj, bindO_pure]
        generalize Sort.scanDown (fun x => !ltT s x d[a]!) d (Sort.scanUp (fun x => ltT s x d[a]!) d j i) j = j2 at *
        generalize Sort.scanUp (fun x => ltT s x d[a]!) d j i = i2 at *
        simp only [Int.toNat_natCast]
        rw [if_neg (by rw [decide_eq_true_eq]; omega), gd_pos (by omega), rd (by omega), bindO_pure, gd_pos (by omega), rd (by omega), bindO_pure, gd_pos (by omega), bindO_pure, gd_pos (by omega), bind_any (by simp; omega), gd_pos (by omega), gd_pos (by omega), swp_l, show ((j2 : Nat) : Int) - 1 = ((j2 - 1 : Nat) : Int) by omega]
        rfl
      rw [if_neg h, iter_step hst]
      have q := hd.swp (i := Sort.scanUp (fun x => ltT s x d[a]!) d j i) (j := Sort.scanDown (fun x => !ltT s x d[a]!) d (Sort.scanUp (fun x => ltT s x d[a]!) d j i) j) (by omega) (by omega)
      have := ih (Sort.scanUp (fun x => ltT s x d[a]!) d j i + 1) (Sort.scanDown (fun x => !ltT s x d[a]!) d (Sort.scanUp (fun x => ltT s x d[a]!) d j i) j - 1) _ (by omega) q (by rw [Sort.swp_size]; omega) (by rw [Sort.swp_size]; omega) (by rw [Sort.swp_size]; omega) (by omega) (by omega) fuel (by omega)
      rw [Sort.swp_size] at this
      exact this
theorem part_is {a b p : Nat} {d : Array Api_TokenD} (hd : QT d) (hb : b ≤ d.size) (ha : a < b) (hp : p < d.size) (hs : d.size ≤ 999) :
    m_slices_partitionCmpFunc_Token_v2 N d.toList ((a : Nat) : Int) ((b : Nat) : Int) ((p : Nat) : Int) s = some ((((Sort.partition (ltT s) d a b p).1 : Nat) : Int), (Sort.partition (ltT s) d a b p).2.1, (Sort.partition (ltT s) d a b p).2.2.toList) ∧ QT (Sort.partition (ltT s) d a b p).2.2 := by
  have hq := hd.swp (i := a) (j := p) (by omega) hp
  have hsz : (Sort.swp d a p).size = d.size := Sort.swp_size ..
  have g1 := Sort.scanUp_ge (fun x => ltT s x (Sort.swp d a p)[a]!) (Sort.swp d a p) (b - 1) (a + 1)
  have g2 := Sort.scanDown_le (fun x => !ltT s x (Sort.swp d a p)[a]!) (Sort.swp d a p) (Sort.scanUp (fun x => ltT s x (Sort.swp d a p)[a]!) (Sort.swp d a p) (b - 1) (a + 1)) (b - 1)
  have u1 : iter (m_slices_partitionCmpFunc_Token_v2_L1 N ((b : Nat) : Int) d.toList ((a : Nat) : Int) d[p]! ((p : Nat) : Int) d[a]! s) N (((a : Nat) : Int) + 1) = some ((Sort.scanUp (fun x => ltT s x (Sort.swp d a p)[a]!) (Sort.swp d a p) (b - 1) (a + 1) : Nat) : Int) := by
    rw [show ((a : Nat) : Int) + 1 = ((a + 1 : Nat) : Int) by omega]
    refine up_go (B := 1000) (fun i hi => ?_) (by omega) 2000 (a + 1) (by omega) (by omega) N (by omega)
    unfold m_slices_partitionCmpFunc_Token_v2_L1 m_slices_partitionCmpFunc_Token_v2_C3
    simp only [Int.toNat_natCast, ← swp_l]
    by_cases h : i ≤ b - 1
    · rw [if_pos (decide_eq_true (by omega)), gd_pos (by omega), rd (by omega), bindO_pure, gd_pos (by omega), rd (by omega), bindO_pure, cmpQ hN hq, bindO_pure, bindO_pure, gd_pos (by omega), decide_eq_true h, Bool.true_and]
      unfold ltT
      rfl
    · rw [if_neg (by rw [decide_eq_true_eq]; omega), bindO_pure, if_neg (by simp), decide_eq_false h, Bool.false_and, if_neg (by simp)]
  have u2 : ∀ i : Nat, 1 ≤ i → iter (m_slices_partitionCmpFunc_Token_v2_L2 N ((i : Nat) : Int) d.toList ((a : Nat) : Int) d[p]! ((p : Nat) : Int) d[a]! s) N (((b : Nat) : Int) - 1) = some ((Sort.scanDown (fun x => !ltT s x (Sort.swp d a p)[a]!) (Sort.swp d a p) i (b - 1) : Nat) : Int) := by
    intro i hi
    rw [show ((b : Nat) : Int) - 1 = ((b - 1 : Nat) : Int) by omega]
    refine down_go (B := b - 1) hi (fun j hj => ?_) (b - 1) (by omega) N (by omega)
    unfold m_slices_partitionCmpFunc_Token_v2_L2 m_slices_partitionCmpFunc_Token_v2_C5
    simp only [Int.toNat_natCast, ← swp_l]
    by_cases h : i ≤ j
    · rw [if_pos (decide_eq_true (by omega)), gd_pos (by omega), rd (by omega), bindO_pure, gd_pos (by omega), rd (by omega), bindO_pure, cmpQ hN hq, bindO_pure, bindO_pure, gd_pos (by omega), decide_eq_true h, Bool.true_and]
      unfold ltT
      rfl
    · rw [if_neg (by rw [decide_eq_true_eq]; omega), bindO_pure, if_neg (by simp), decide_eq_false h, Bool.false_and, if_neg (by simp)]
  unfold m_slices_partitionCmpFunc_Token_v2 Sort.partition
  simp only [Int.toNat_natCast]
  rw [gd_pos (by omega), rd (by omega), bindO_pure, gd_pos (by omega), rd (by omega), bindO_pure, gd_pos (by omega), bindO_pure, gd_pos (by omega), bind_any (by simp; omega), gd_pos (by omega), gd_pos (by omega), u1, bindO_pure, u2 _ (by omega), bindO_pure]
  generalize Sort.scanDown (fun x => !ltT s x (Sort.swp d a p)[a]!) (Sort.swp d a p) (Sort.scanUp (fun x => ltT s x (Sort.swp d a p)[a]!) (Sort.swp d a p) (b - 1) (a + 1)) (b - 1) = j2 at *
  generalize Sort.scanUp (fun x => ltT s x (Sort.swp d a p)[a]!) (Sort.swp d a p) (b - 1) (a + 1) = i2 at *
  clear u1 u2
  simp only [Int.toNat_natCast, ← swp_l]
  by_cases h : i2 > j2
  · rw [if_pos (decide_eq_true (by omega)), if_pos h, gd_pos (by omega), rd (by omega), bindO_pure, gd_pos (by omega), rd (by omega), bindO_pure, gd_pos (by omega), bindO_pure, gd_pos (by omega), bind_any (by simp; omega)]
    refine ⟨?_, hq.swp (by omega) (by omega)⟩
    rw [swp_l (d := Sort.swp d a p) (i := j2)]
  · have hq2 := hq.swp (i := i2) (j := j2) (by omega) (by omega)
    have hl := pa_loop (s := s) hN a 2000 (i2 + 1) (j2 - 1) (Sort.swp (Sort.swp d a p) i2 j2) (by omega) hq2 (by rw [Sort.swp_size]; omega) (by rw [Sort.swp_size]; omega) (by rw [Sort.swp_size]; omega) (by omega) (by omega) N (by omega)
    rw [Sort.swp_size, hsz] at hl
    rw [if_neg (by rw [decide_eq_true_eq]; omega), if_neg h, gd_pos (by omega), rd (by omega), bindO_pure, gd_pos (by omega), rd (by omega), bindO_pure, gd_pos (by omega), bindO_pure, gd_pos (by omega), bind_any (by simp; omega), gd_pos (by omega), gd_pos (by omega), ← swp_l, show ((j2 : Nat) : Int) - 1 = ((j2 - 1 : Nat) : Int) by omega, show ((i2 : Nat) : Int) + 1 = ((i2 + 1 : Nat) : Int) by omega, hl.1, bindO_pure]
    generalize Sort.partLoop (ltT s) a (i2 + 1) (j2 - 1) (Sort.swp (Sort.swp d a p) i2 j2) = r at *
    obtain ⟨r1, r2⟩ := r
    simp only at hl ⊢
    refine ⟨?_, hl.2.2.2.swp (by omega) (by omega)⟩
    simp only [Int.toNat_natCast]
    rw [gd_pos (by omega), rd (by omega), bindO_pure, gd_pos (by omega), rd (by omega), bindO_pure, gd_pos (by omega), bindO_pure, gd_pos (by omega), bind_any (by simp; omega), swp_l]
theorem pe_up {d : Array Api_TokenD} (hd : QT d) (hs : d.size ≤ 999) {a j : Nat} (ha : a < d.size) (hj : j < d.size) {i : Nat} (hi : i ≤ 1000) :
    iter (m_slices_partitionEqualCmpFunc_Token_v2_L2 N ((j : Nat) : Int) ((a : Nat) : Int) d.toList s) N ((i : Nat) : Int) = some ((Sort.scanUp (fun x => !ltT s d[a]! x) d j i : Nat) : Int) := by
  refine up_go (B := 1000) (fun i hi => ?_) (by omega) 2000 i (by omega) hi N (by omega)
  unfold m_slices_partitionEqualCmpFunc_Token_v2_L2 m_slices_partitionEqualCmpFunc_Token_v2_C4
  simp only [Int.toNat_natCast]
  by_cases h : i ≤ j
  · rw [if_pos (decide_eq_true (by omega)), gd_pos (by omega), rd (by omega), bindO_pure, gd_pos (by omega), rd (by omega), bindO_pure, cmpQ hN hd, bindO_pure, bindO_pure, gd_pos (by omega), decide_eq_true h, Bool.true_and]
    unfold ltT
    rfl
  · rw [if_neg (by rw [decide_eq_true_eq]; omega), bindO_pure, if_neg (by simp), decide_eq_false h, Bool.false_and, if_neg (by simp)]
theorem pe_down {d : Array Api_TokenD} (hd : QT d) (hs : d.size ≤ 999) {a i : Nat} (ha : a < d.size) (hi : 1 ≤ i) {j : Nat} (hj : j < d.size) :
    iter (m_slices_partitionEqualCmpFunc_Token_v2_L3 N ((i : Nat) : Int) ((a : Nat) : Int) d.toList s) N ((j : Nat) : Int) = some ((Sort.scanDown (fun x => ltT s d[a]! x) d i j : Nat) : Int) := by
  refine down_go (B := d.size - 1) hi (fun j hj => ?_) j (by omega) N (by omega)
  unfold m_slices_partitionEqualCmpFunc_Token_v2_L3 m_slices_partitionEqualCmpFunc_Token_v2_C6
  simp only [Int.toNat_natCast]
  by_cases h : i ≤ j
  · rw [if_pos (decide_eq_true (by omega)), gd_pos (by omega), rd (by omega), bindO_pure, gd_pos (by omega), rd (by omega), bindO_pure, cmpQ hN hd, bindO_pure, bindO_pure, gd_pos (by omega), decide_eq_true h, Bool.true_and]
    unfold ltT
    rfl
  · rw [if_neg (by rw [decide_eq_true_eq]; omega), bindO_pure, if_neg (by simp), decide_eq_false h, Bool.false_and, if_neg (by simp)]
theorem pe_loop (a : Nat) : ∀ (k i j : Nat) (d : Array Api_TokenD), j + 1 - i ≤ k → QT d → d.size ≤ 999 → a < d.size → j < d.size → 1 ≤ i → i ≤ 1000 → ∀ fuel, k < fuel →
    iter (m_slices_partitionEqualCmpFunc_Token_v2_L1 N ((a : Nat) : Int) s) fuel (((j : Nat) : Int), ((i : Nat) : Int), d.toList) = some ((((Sort.partEqLoop (ltT s) a i j d).1 : Nat) : Int), (Sort.partEqLoop (ltT s) a i j d).2.toList) ∧ QT (Sort.partEqLoop (ltT s) a i j d).2 := by
  intro k
  induction k with
  | zero =>
    intro i j d hk hd hs ha hj hi hi2 fuel hf
    obtain ⟨fuel, rfl⟩ : ∃ f, fuel = f + 1 := ⟨fuel - 1, by omega⟩
    have g1 := Sort.scanUp_ge (fun x => !ltT s d[a]! x) d j i
    have g2 := Sort.scanDown_le (fun x => ltT s d[a]! x) d (Sort.scanUp (fun x => !ltT s d[a]! x) d j i) j
    rw [Sort.partEqLoop_eq, if_pos (by omega)]
    refine ⟨?_, hd⟩
    rw [iter_stop]
    unfold m_slices_partitionEqualCmpFunc_Token_v2_L1
    simp only
    rw [pe_up hN hd hs ha hj hi2, bindO_pure, pe_down hN hd hs ha (by omega) hj, bindO_pure, if_pos (decide_eq_true (by omega))]
  | succ k ih =>
    intro i j d hk hd hs ha hj hi hi2 fuel hf
    obtain ⟨fuel, rfl⟩ : ∃ f, fuel = f + 1 := ⟨fuel - 1, by omega⟩
    have g1 := Sort.scanUp_ge (fun x => !ltT s d[a]! x) d j i
    have g2 := Sort.scanDown_le (fun x => ltT s d[a]! x) d (Sort.scanUp (fun x => !ltT s d[a]! x) d j i) j
    rw [Sort.partEqLoop_eq]
    by_cases h : Sort.scanUp (fun x => !ltT s d[a]! x) d j i > Sort.scanDown (fun x => ltT s d[a]! x) d (Sort.scanUp (fun x => !ltT s d[a]! x) d j i) j
    · rw [if_pos h]
      refine ⟨?_, hd⟩
      rw [iter_stop]
      unfold m_slices_partitionEqualCmpFunc_Token_v2_L1
      simp only
      rw [pe_up hN hd hs ha hj hi2, bindO_pure, pe_down hN hd hs ha (by omega) hj, bindO_pure, if_pos (decide_eq_true (by omega))]
    · have hst : m_slices_partitionEqualCmpFunc_Token_v2_L1 N ((a : Nat) : Int) s (((j : Nat) : Int), ((i : Nat) : Int), d.toList) = some (.inl (((Sort.scanDown (fun x => ltT s d[a]! x) d (Sort.scanUp (fun x => !ltT s d[a]! x) d j i) j - 1 : Nat) : Int), ((Sort.scanUp (fun x => !ltT s d[a]! x) d j i + 1 : Nat) : Int), (Sort.swp d (Sort.scanUp (fun x => !ltT s d[a]! x) d j i) (Sort.scanDown (fun x => ltT s d[a]! x) d (Sort.scanUp (fun x => !ltT s d[a]! x) d j i) j)).toList)) := by
        unfold m_slices_partitionEqualCmpFunc_Token_v2_L1
        simp only
        rw [pe_up hN hd hs ha hj hi2, bindO_pure, pe_down hN hd hs ha (by omega) hj, bindO_pure]
        generalize Sort.scanDown (fun x => ltT s d[a]! x) d (Sort.scanUp (fun x => !ltT s d[a]! x) d j i) j = j2 at *
        generalize Sort.scanUp (fun x => !ltT s d[a]! x) d j i = i2 at *
        simp only [Int.toNat_natCast]
        rw [if_neg (by rw [decide_eq_true_eq]; omega), gd_pos (by omega), rd (by omega), bindO_pure, gd_pos (by omega), rd (by omega), bindO_pure, gd_pos (by omega), bindO_pure, gd_pos (by omega), bind_any (by simp; omega), gd_pos (by omega), gd_pos (by omega), swp_l, show ((j2 : Nat) : Int) - 1 = ((j2 - 1 : Nat) : Int) by omega]
        rfl
      rw [if_neg h, iter_step hst]
      have q := hd.swp (i := Sort.scanUp (fun x => !ltT s d[a]! x) d j i) (j := Sort.scanDown (fun x => ltT s d[a]! x) d (Sort.scanUp (fun x => !ltT s d[a]! x) d j i) j) (by omega) (by omega)
      exact ih (Sort.scanUp (fun x => !ltT s d[a]! x) d j i + 1) (Sort.scanDown (fun x => ltT s d[a]! x) d (Sort.scanUp (fun x => !ltT s d[a]! x) d j i) j - 1) _ (by omega) q (by rw [Sort.swp_size]; omega) (by rw [Sort.swp_size]; omega) (by rw [Sort.swp_size]; omega) (by omega) (by omega) fuel (by omega)
theorem parteq_is {a b p : Nat} {d : Array Api_TokenD} (hd : QT d) (hb : b ≤ d.size) (ha : a < b) (hp : p < d.size) (hs : d.size ≤ 999) :
    m_slices_partitionEqualCmpFunc_Token_v2 N d.toList ((a : Nat) : Int) ((b : Nat) : Int) ((p : Nat) : Int) s = some ((((Sort.partitionEqual (ltT s) d a b p).1 : Nat) : Int), (Sort.partitionEqual (ltT s) d a b p).2.toList) ∧ QT (Sort.partitionEqual (ltT s) d a b p).2 := by
  have hq := hd.swp (i := a) (j := p) (by omega) hp
  have hl := pe_loop (s := s) hN a 2000 (a + 1) (b - 1) (Sort.swp d a p) (by omega) hq (by rw [Sort.swp_size]; omega) (by rw [Sort.swp_size]; omega) (by rw [Sort.swp_size]; omega) (by omega) (by omega) N (by omega)
  unfold m_slices_partitionEqualCmpFunc_Token_v2 Sort.partitionEqual
  refine ⟨?_, hl.2⟩
  simp only [Int.toNat_natCast]
  rw [gd_pos (by omega), rd (by omega), bindO_pure, gd_pos (by omega), rd (by omega), bindO_pure, gd_pos (by omega), bindO_pure, gd_pos (by omega), bind_any (by simp; omega), gd_pos (by omega), gd_pos (by omega), ← swp_l, show ((b : Nat) : Int) - 1 = ((b - 1 : Nat) : Int) by omega, show ((a : Nat) : Int) + 1 = ((a + 1 : Nat) : Int) by omega, hl.1, bindO_pure]
end
end Go.Proofs.YtgangmegcejllaaDoor
