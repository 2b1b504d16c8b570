import Derived.Test.YtgangmegcejllaaDoorPdqA
namespace Go.Proofs.YtgangmegcejllaaDoor
open Go Go.RowKit
instance : Inhabited Api_TokenD := ⟨⟨0, []⟩⟩
def QT (d : Array Api_TokenD) : Prop := ∀ i : Nat, (d[i]!).ids.length ≤ 400
theorem QT.swp {d : Array Api_TokenD} (h : QT d) {i j : Nat} (hi : i < d.size) (hj : j < d.size) : QT (Sort.swp d i j) := fun k => by
  rw [Sort.swp_get d hi hj]
  split
  · exact h i
  · split
    · exact h j
    · exact h k
theorem rd {d : Array Api_TokenD} {i : Nat} (h : i < d.size) : d.toList[i]? = some d[i]! := by
  rw [Array.getElem?_toList, Array.getElem?_eq_getElem h, getElem!_pos d i h]
theorem swp_l {d : Array Api_TokenD} {i j : Nat} : (Sort.swp d i j).toList = (d.toList.set i d[j]!).set j d[i]! := by simp [Sort.swp]
theorem bind_any {α β : Type} {l : List α} {i : Nat} {m : Option β} (h : i < l.length) : (bindO (l[i]?) fun _ => m) = m := by rw [List.getElem?_eq_getElem h, bindO_pure]
section
variable {N : Nat} {s : List Int} (hN : 1000000 ≤ N)
include hN
theorem cmpQ {d : Array Api_TokenD} (h : QT d) (i j : Nat) : m_agenda_order_compare N s d[i]!.rule d[i]!.ids d[j]!.rule d[j]!.ids = some (cfT s d[i]! d[j]!) :=
  order_is hN (Nat.le_trans (h i) (by omega)) (Nat.le_trans (h j) (by omega))
theorem ins2 (a : Nat) : ∀ (j : Nat) (d : Array Api_TokenD), QT d → j < d.size → d.size ≤ 1000 → ∀ fuel, j < fuel →
    iter (m_slices_insertionSortCmpFunc_Token_v2_L2 N ((a : Nat) : Int) s) fuel (((j : Nat) : Int), d.toList) = some (Sort.insInner (ltT s) a j d).toList := by
  intro j
  induction j with
  | zero =>
    intro d hd hj hs fuel hf
    obtain ⟨fuel, rfl⟩ : ∃ f, fuel = f + 1 := ⟨fuel - 1, by omega⟩
    rw [iter_stop (o := d.toList) (by
      unfold m_slices_insertionSortCmpFunc_Token_v2_L2 m_slices_insertionSortCmpFunc_Token_v2_C2
      simp only
      rw [if_neg (by rw [decide_eq_true_eq]; omega), bindO_pure, if_neg (by simp)])]
    rfl
  | succ j ih =>
    intro d hd hj hs fuel hf
    obtain ⟨fuel, rfl⟩ : ∃ f, fuel = f + 1 := ⟨fuel - 1, by omega⟩
    have e1 : ((j + 1 : Nat) : Int) - 1 = ((j : Nat) : Int) := by omega
    have hst : m_slices_insertionSortCmpFunc_Token_v2_L2 N ((a : Nat) : Int) s (((j + 1 : Nat) : Int), d.toList) = if (decide (j + 1 > a) && ltT s d[j + 1]! d[j]!) = true then some (.inl (((j : Nat) : Int), (Sort.swp d (j + 1) j).toList)) else some (.inr d.toList) := by
      unfold m_slices_insertionSortCmpFunc_Token_v2_L2 m_slices_insertionSortCmpFunc_Token_v2_C2
      simp only [e1, Int.toNat_natCast]
      by_cases h : j + 1 > a
      · rw [if_pos (decide_eq_true (by omega)), gd_pos (by omega), rd hj, bindO_pure, gd_pos (by omega), gd_pos (by omega), rd (by omega), bindO_pure, cmpQ hN hd, bindO_pure, bindO_pure, decide_eq_true h, Bool.true_and]
        unfold ltT
        by_cases hc : cfT s d[j + 1]! d[j]! < 0
        · rw [if_pos (decide_eq_true hc), if_pos (decide_eq_true hc), gd_pos (by omega), gd_pos (by omega), gd_pos (by omega), bindO_pure, gd_pos (by omega), bindO_pure, gd_pos (by omega), bindO_pure, gd_pos (by omega), bind_any (by simp; omega), gd_pos (by omega), swp_l]
        · rw [if_neg (by rw [decide_eq_true_eq]; exact hc), if_neg (by rw [decide_eq_true_eq]; exact hc)]
      · rw [if_neg (by rw [decide_eq_true_eq]; omega), bindO_pure, if_neg (by simp), decide_eq_false h, Bool.false_and, if_neg (by simp)]
    unfold Sort.insInner
    by_cases h : (decide (j + 1 > a) && ltT s d[j + 1]! d[j]!) = true
    · rw [if_pos h] at hst ⊢
      rw [iter_step hst]
      exact ih _ (hd.swp hj (by omega)) (by rw [Sort.swp_size]; omega) (by rw [Sort.swp_size]; omega) fuel (by omega)
    · rw [if_neg h] at hst ⊢
      rw [iter_stop hst]
omit hN in
theorem insInner_size {lt : Api_TokenD → Api_TokenD → Bool} (a : Nat) : ∀ (j : Nat) (d : Array Api_TokenD), (Sort.insInner lt a j d).size = d.size
  | 0, _ => rfl
  | j + 1, d => by
    unfold Sort.insInner
    split
    · rw [insInner_size a j, Sort.swp_size]
    · rfl
omit hN in
theorem insInner_QT {lt : Api_TokenD → Api_TokenD → Bool} (a : Nat) : ∀ (j : Nat) (d : Array Api_TokenD), j < d.size → QT d → QT (Sort.insInner lt a j d)
  | 0, _, _, h => h
  | j + 1, d, hj, h => by
    unfold Sort.insInner
    split
    · exact insInner_QT a j _ (by rw [Sort.swp_size]; omega) (h.swp hj (by omega))
    · exact h
theorem ins1 (a b : Nat) : ∀ (k i : Nat) (d : Array Api_TokenD), b - i ≤ k → QT d → b ≤ d.size → d.size ≤ 1000 → i ≤ 1000 → ∀ fuel, k < fuel →
    iter (m_slices_insertionSortCmpFunc_Token_v2_L1 N ((b : Nat) : Int) ((a : Nat) : Int) s) fuel (((i : Nat) : Int), d.toList) = some (Sort.insOuter (ltT s) a b i d).toList := by
  intro k
  induction k with
  | zero =>
    intro i d hk hd hb hs hi fuel hf
    obtain ⟨fuel, rfl⟩ : ∃ f, fuel = f + 1 := ⟨fuel - 1, by omega⟩
    unfold Sort.insOuter
    rw [if_neg (by omega), iter_stop]
    unfold m_slices_insertionSortCmpFunc_Token_v2_L1
    simp only
    rw [if_neg (by rw [decide_eq_true_eq]; omega)]
  | succ k ih =>
    intro i d hk hd hb hs hi fuel hf
    obtain ⟨fuel, rfl⟩ : ∃ f, fuel = f + 1 := ⟨fuel - 1, by omega⟩
    unfold Sort.insOuter
    by_cases h : i < b
    · have hst : m_slices_insertionSortCmpFunc_Token_v2_L1 N ((b : Nat) : Int) ((a : Nat) : Int) s (((i : Nat) : Int), d.toList) = some (.inl (((i + 1 : Nat) : Int), (Sort.insInner (ltT s) a i d).toList)) := by
        unfold m_slices_insertionSortCmpFunc_Token_v2_L1
        simp only
        rw [if_pos (decide_eq_true (by omega)), ins2 hN a i d hd (by omega) hs N (by omega), bindO_pure, gd_pos (by omega)]
        rfl
      rw [if_pos h, iter_step hst]
      exact ih (i + 1) _ (by omega) (insInner_QT a i d (by omega) hd) (by rw [insInner_size]; exact hb) (by rw [insInner_size]; exact hs) (by omega) fuel (by omega)
    · rw [if_neg h, iter_stop]
      unfold m_slices_insertionSortCmpFunc_Token_v2_L1
      simp only
      rw [if_neg (by rw [decide_eq_true_eq]; omega)]
theorem ins_is {a b : Nat} {d : Array Api_TokenD} (hd : QT d) (hb : b ≤ d.size) (ha : a ≤ b) (hs : d.size ≤ 999) :
    m_slices_insertionSortCmpFunc_Token_v2 N d.toList ((a : Nat) : Int) ((b : Nat) : Int) s = some (Sort.insertionSort (ltT s) d a b).toList := by
  unfold m_slices_insertionSortCmpFunc_Token_v2 Sort.insertionSort
  rw [gd_pos (by omega)]
  exact ins1 hN a b b (a + 1) d (by omega) hd hb (by omega) (by omega) N (by omega)
end
end Go.Proofs.YtgangmegcejllaaDoor
