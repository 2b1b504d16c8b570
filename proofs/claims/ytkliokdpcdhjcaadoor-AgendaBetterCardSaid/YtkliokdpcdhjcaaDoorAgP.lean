import Derived.Test.YtkliokdpcdhjcaaDoorXM
import Derived.Test.YtkliokdpcdhjcaaDoorPlain2
namespace Go.Proofs.YtkliokdpcdhjcaaDoor
open Go Go.RowKit
def cmpI (a b : Int) : Int := if a < b then -1 else if a > b then 1 else 0
def lexI : List Int → List Int → Int
  | [], [] => 0
  | [], _ :: _ => -1
  | _ :: _, [] => 1
  | a :: l, b :: m => if a < b then -1 else if a > b then 1 else lexI l m
theorem lexI_zero : ∀ {l m : List Int}, lexI l m = 0 → l = m
  | [], [], _ => rfl
  | [], _ :: _, h => by simp [lexI] at h
  | _ :: _, [], h => by simp [lexI] at h
  | a :: l, b :: m, h => by
    unfold lexI at h
    split at h
    · omega
    · split at h
      · omega
      · rw [lexI_zero h, show a = b by omega]
theorem lexI_self : ∀ l : List Int, lexI l l = 0
  | [] => rfl
  | a :: l => by unfold lexI; rw [if_neg (by omega), if_neg (by omega), lexI_self l]
section
variable {N : Nat}
theorem cmp_is (a b : Int) : m_cmp_Compare_int N a b = some (cmpI a b) := by
  unfold m_cmp_Compare_int cmpI m_cmp_isNaN_int
  rw [bindO_pure, bindO_pure, if_neg (by simp), if_neg (by simp)]
  by_cases h1 : a < b
  · rw [if_pos (by simpa using h1), if_pos h1]
  · rw [if_neg (by simpa using h1), if_neg h1]
    by_cases h2 : a > b
    · rw [if_pos (by simpa using h2), if_pos h2]
    · rw [if_neg (by simpa using h2), if_neg h2]
theorem compare_go (l m : List Int) : ∀ (k i fuel : Nat), l.length - i ≤ k → k < fuel → i ≤ l.length → i ≤ m.length → l.length ≤ 9223372036854775000 →
    (bindS (iter (m_slices_Compare_int_L1 N l m) fuel i) fun _ => if (decide (l.length < m.length)) = true then some (-1) else some 0) = some (lexI (l.drop i) (m.drop i)) := by
  intro k
  induction k with
  | zero =>
    intro i fuel h1 h2 h3 h4 h5
    obtain ⟨fuel, rfl⟩ : ∃ f, fuel = f + 1 := ⟨fuel - 1, by omega⟩
    have hi : i = l.length := by omega
    subst hi
    rw [iter_stop (o := .inl ()) (by unfold m_slices_Compare_int_L1; rw [if_neg (by simp)]), bindS_inl, List.drop_length]
    by_cases h : l.length < m.length
    · rw [if_pos (by simpa using h), List.drop_eq_getElem_cons h]; rfl
    · rw [if_neg (by simpa using h), List.drop_eq_nil_of_le (by omega)]; rfl
  | succ k ih =>
    intro i fuel h1 h2 h3 h4 h5
    by_cases hi : i < l.length
    · obtain ⟨fuel, rfl⟩ : ∃ f, fuel = f + 1 := ⟨fuel - 1, by omega⟩
      rw [List.drop_eq_getElem_cons hi]
      by_cases hm : i < m.length
      · rw [List.drop_eq_getElem_cons hm]
        unfold lexI
        have hs : m_slices_Compare_int_L1 N l m i = if (cmpI l[i] m[i] != 0) = true then some (.inr (.inr (cmpI l[i] m[i]))) else some (.inl (i + 1)) := by
          unfold m_slices_Compare_int_L1
          rw [if_pos (by simpa using hi), List.getElem?_eq_getElem hi, bindO_pure, if_neg (by simp; omega), List.getElem?_eq_getElem hm, bindO_pure, cmp_is, bindO_pure, gd_pos (by omega)]
        by_cases hc : cmpI l[i] m[i] = 0
        · rw [if_neg (by simp [hc])] at hs
          rw [iter_step hs, ih (i + 1) fuel (by omega) (by omega) (by omega) (by omega) h5]
          unfold cmpI at hc
          split at hc
          · omega
          · split at hc
            · omega
            · rename_i q1 q2
              rw [if_neg q1, if_neg q2]
        · rw [if_pos (by simpa using hc)] at hs
          rw [iter_stop hs, bindS_inr]
          unfold cmpI at hc ⊢
          split
          · rfl
          · split
            · rfl
            · rename_i q1 q2
              rw [if_neg q1, if_neg q2] at hc
              exact absurd rfl hc
      · rw [iter_stop (o := .inr 1) (by unfold m_slices_Compare_int_L1; rw [if_pos (by simpa using hi), List.getElem?_eq_getElem hi, bindO_pure, if_pos (by simp; omega)]), bindS_inr, show m.drop i = [] from List.drop_eq_nil_of_le (by omega)]; rfl
    · exact ih i fuel (by omega) (by omega) h3 h4 h5
theorem compare_is {l m : List Int} (hN : 9223372036854775808 ≤ N) (hl : l.length ≤ 1000000000) : m_slices_Compare_int N l m = some (lexI l m) := by
  have := compare_go (N := N) l m l.length 0 N (by omega) (by omega) (by omega) (by omega) (by omega)
  unfold m_slices_Compare_int
  simpa using this
theorem compare_self {l : List Int} (hN : 9223372036854775808 ≤ N) (hl : l.length ≤ 1000000000) : m_slices_Compare_int_v2 N l = some 0 := by
  unfold m_slices_Compare_int_v2
  obtain ⟨o, h1, h2⟩ := iter_inv (f := m_slices_Compare_int_v2_L1 N l) (fun i => i ≤ l.length) (fun i => l.length - i) (fun o => o = .inl ()) (fun i hi => by
    unfold m_slices_Compare_int_v2_L1
    by_cases h : i < l.length
    · left
      exact ⟨i + 1, by rw [if_pos (by simpa using h), List.getElem?_eq_getElem h, bindO_pure, if_neg (by simp; omega), bindO_pure, cmp_is, bindO_pure, if_neg (by simp [cmpI]), gd_pos (by omega)], by omega, by omega⟩
    · right
      exact ⟨_, by rw [if_neg (by simpa using h)], rfl⟩) N 0 (Nat.zero_le _) (by omega)
  rw [h1, h2, bindS_inl, if_neg (by simp)]
def orI : List Int → Int
  | [] => 0
  | a :: l => if a = 0 then orI l else a
theorem or_is (hN : 9223372036854775808 ≤ N) (a b c d : Int) : m_cmp_Or_int N [a, b, c, d] = some (orI [a, b, c, d]) := by
  unfold m_cmp_Or_int
  obtain ⟨M, rfl⟩ : ∃ M, N = M + 5 := ⟨N - 5, by omega⟩
  have st : ∀ (i : Nat) (x : Int), [a, b, c, d][i]? = some x → i < 4 → m_cmp_Or_int_L1 (M + 5) [a, b, c, d] i = if x = 0 then some (.inl (i + 1)) else some (.inr (.inr x)) := fun i x hx hi => by
    unfold m_cmp_Or_int_L1
    rw [if_pos (by simpa using hi), hx, bindO_pure, gd_pos (by omega)]
    by_cases h : x = 0
    · rw [if_neg (by simp [h]), if_pos h]
    · rw [if_pos (by simpa using h), if_neg h]
  unfold orI
  by_cases h0 : a = 0
  · rw [iter_step (by rw [st 0 a rfl (by omega), if_pos h0]), if_pos h0]
    unfold orI
    by_cases h1 : b = 0
    · rw [iter_step (by rw [st 1 b rfl (by omega), if_pos h1]), if_pos h1]
      unfold orI
      by_cases h2 : c = 0
      · rw [iter_step (by rw [st 2 c rfl (by omega), if_pos h2]), if_pos h2]
        unfold orI
        by_cases h3 : d = 0
        · rw [iter_step (by rw [st 3 d rfl (by omega), if_pos h3]), if_pos h3, iter_stop (o := .inl ()) (by unfold m_cmp_Or_int_L1; rw [if_neg (by simp)])]; rfl
        · rw [iter_stop (by rw [st 3 d rfl (by omega), if_neg h3]), if_neg h3]; rfl
      · rw [iter_stop (by rw [st 2 c rfl (by omega), if_neg h2]), if_neg h2]; rfl
    · rw [iter_stop (by rw [st 1 b rfl (by omega), if_neg h1]), if_neg h1]; rfl
  · rw [iter_stop (by rw [st 0 a rfl (by omega), if_neg h0]), if_neg h0]; rfl
end
end Go.Proofs.YtkliokdpcdhjcaaDoor
