import Derived.Test.YtalbennlmcpnmaaGreatExprS
import Derived.Test.YtalbennlmcpnmaaGreatKeepV
namespace Go.Proofs.YtalbennlmcpnmaaGreat
open Go Go.RowKit
section args
variable {N : Nat} {l : List ArgD}
def mkA (z : Int) : ArgD := ⟨0, IntKind.wrap .i64 ((IntKind.wrap .i64 (1000003 * (IntKind.wrap .i64 (1 + 7)))) + z), (⟨0, 0, (⟨#[]⟩ : ByteArray)⟩ : V)⟩
def tailA : List ArgD := (List.range 12).map fun i => mkA ((i : Nat) : Int)
theorem tailA_len : tailA.length = 12 := by simp [tailA]
theorem tailA_at {i : Nat} (h : i < 12) : tailA[i]? = some (mkA ((i : Nat) : Int)) := by simp [tailA, h]
theorem lentArgs_is (hN : 100 ≤ N) (hl : l.length ≤ 1000000000) : m_ropewalkkit_LentArgs N l = some (l ++ tailA) := by
  unfold m_ropewalkkit_LentArgs
  rw [gd_pos (by omega), gd_pos (by omega), gd_pos (by simp; omega), iter_push 12 (fun i => mkA ((i : Nat) : Int)) l (fun i hi => by
    unfold m_ropewalkkit_LentArgs_L1
    simp only
    rw [if_pos (by simpa using hi), show m_ropewalkkit_markArg N 1 ((i : Nat) : Int) = some () from rfl, bindO_pure, gd_pos (by simp; omega), gd_pos (by omega)]
    rfl) (by unfold m_ropewalkkit_LentArgs_L1; simp only; rw [if_neg (by simp)]) (by omega)]
  rw [bindO_pure, gd_pos (by simp)]; rfl
theorem keptArgs_is (hN : 2000000000 ≤ N) (hl : l.length ≤ 1000000000) : m_ropewalkkit_KeptArgs_W N (l ++ tailA) l.length l = some true := by
  unfold m_ropewalkkit_KeptArgs_W
  rw [if_neg (by simp), gd_pos (by omega), gd_pos (by simp [tailA_len]), iter_look (l.length + 12) (fun i hi => by
    unfold m_ropewalkkit_KeptArgs_W_L1 m_ropewalkkit_KeptArgs_W_C2
    rw [take_all tailA_len, if_pos (by simp [tailA_len]; omega)]
    by_cases h : i < l.length
    · rw [if_pos (by simpa using h), app_l h, bindO_pure, List.getElem?_eq_getElem h, bindO_pure, if_neg (by simp), if_neg (by simp; omega), bindO_pure, if_neg (by simp), gd_pos (by omega)]
    · rw [if_neg (by simpa using h), if_pos (by simp; omega), app_r (by omega), tailA_at (by omega), bindO_pure, gd_pos (by omega), show m_ropewalkkit_markArg N 1 (((i : Nat) : Int) - ((l.length : Nat) : Int)) = some () from rfl, bindO_pure, bindO_pure,
        if_neg (by rw [show (((i - l.length : Nat) : Int)) = ((i : Nat) : Int) - ((l.length : Nat) : Int) by omega]; simp [mkA]), gd_pos (by omega)])
    (by unfold m_ropewalkkit_KeptArgs_W_L1; rw [take_all tailA_len, if_neg (by simp [tailA_len])]) (by omega)]
  rfl
theorem sameArgsW_is {t : List ArgD} (hN : 2000000000 ≤ N) (hl : l.length ≤ 1000000000) : m_ropewalkkit_SameArgs_W N (l ++ t) l.length l = some true := by
  unfold m_ropewalkkit_SameArgs_W
  rw [if_neg (by simp), iter_look l.length (fun i hi => by
    unfold m_ropewalkkit_SameArgs_W_L1
    rw [if_pos (by simpa using hi), gd_pos hi, app_l hi, bindO_pure, List.getElem?_eq_getElem hi, bindO_pure, if_neg (by simp), gd_pos (by omega)])
    (by unfold m_ropewalkkit_SameArgs_W_L1; rw [if_neg (by simp)]) (by omega)]
  rfl
end args
section
variable {N : Nat} (hN : 9223372036854775808 ≤ N)
include hN
theorem sameVals_self {l : List V} (hl : l.length ≤ 1000000) : m_ropewalkkit_SameValues N l l = some true := by
  unfold m_ropewalkkit_SameValues
  rw [if_neg (by simp), iter_look l.length (fun i hi => by
    unfold m_ropewalkkit_SameValues_L1
    rw [if_pos (by simpa using hi), List.getElem?_eq_getElem hi, bindO_pure, bindO_pure, if_neg (by simp), gd_pos (by omega)])
    (by unfold m_ropewalkkit_SameValues_L1; rw [if_neg (by simp)]) (by omega)]
  rfl
theorem envSame_self {h : List Bool} {v : List V} (hh : h.length ≤ 1000000) (hv : v.length ≤ 1000000) : m_ropewalklaw10_same N h v h v = some true := by
  unfold m_ropewalklaw10_same
  rw [if_neg (by simp), sameVals_self hN hv, bindO_pure, bindO_pure, if_neg (by simp), iter_look h.length (fun i hi => by
    unfold m_ropewalklaw10_same_L1
    rw [if_pos (by simpa using hi), List.getElem?_eq_getElem hi, bindO_pure, bindO_pure, if_neg (by simp), gd_pos (by omega)])
    (by unfold m_ropewalklaw10_same_L1; rw [if_neg (by simp)]) (by omega)]
  rfl
theorem apart_is {h h2 : List Bool} {v v2 : List V} (hh : h.length ≤ 10000) (hh2 : h2.length ≤ 10000) (hv : v.length ≤ 10000) (hv2 : v2.length ≤ 10000) : ∃ o, m_ropewalklaw10_apart_v2 N h v h2 v2 = some (true, o) := by
  obtain ⟨o, h1, _⟩ := iter_inv (f := m_ropewalklaw10_apart_v2_L1 N) (fun s => s.1 ≤ 10000 ∧ s.2.length ≤ 10000) (fun s => 10000 - s.1) (fun _ => True) (fun s hs => by
    obtain ⟨i, m⟩ := s
    obtain ⟨hi, hm⟩ := hs
    simp only at hi hm
    unfold m_ropewalklaw10_apart_v2_L1
    simp only
    by_cases hlt : i < m.length
    · left
      refine ⟨_, by rw [if_pos (by simpa using hlt), List.getElem?_eq_getElem hlt, bindO_pure, bindO_pure, gd_pos (by omega)], ⟨by simp only; omega, by simpa using hm⟩, by simp only; omega⟩
    · right
      exact ⟨_, by rw [if_neg (by simpa using hlt)], trivial⟩) N (0, h) ⟨by simp, hh⟩ (by simp only; omega)
  unfold m_ropewalklaw10_apart_v2
  rw [gd_pos (by simp; omega), h1, bindO_pure, iter_look h2.length (fun i hi => by
    unfold m_ropewalklaw10_apart_v2_L2
    have e : (if decide (i < h2.length) = true then some (decide (i < h2.length)) else some false) = some true := by rw [if_pos (by simpa using hi)]; simp [hi]
    rw [e, bindO_pure, if_pos rfl, List.getElem?_eq_getElem hi, bindO_pure, bindO_pure, if_neg (by simp), gd_pos (by omega)])
    (by unfold m_ropewalklaw10_apart_v2_L2; rw [if_neg (by simp), bindO_pure, if_neg (by simp)]) (by omega), bindS_inl, gd_pos ⟨by simp, fun y hy => by
      simp at hy
      rcases hy with rfl | rfl
      · exact hv
      · exact hv2⟩]
  exact ⟨_, rfl⟩
omit hN in
theorem made_both {h : List Bool} {v : List V} : m_ropewalkref10_Made N h v = m_pattern_Env_made N h v := by
  have e : m_ropewalkref10_Made_L1 N h v = m_pattern_Env_made_L1 N h v := by
    funext i
    unfold m_ropewalkref10_Made_L1 m_pattern_Env_made_L1
    rcases h[i]? with _ | x <;> rfl
  unfold m_ropewalkref10_Made m_pattern_Env_made
  rw [e]
theorem made_tot {h : List Bool} {v : List V} (hh : h.length ≤ 1000000) : ∃ b, m_pattern_Env_made N h v = some b ∧ (b = true → h.length = v.length) := by
  unfold m_pattern_Env_made
  by_cases hl : h.length = v.length
  · rw [if_neg (by simp [hl])]
    obtain ⟨o, h1, h2⟩ := iter_inv (f := m_pattern_Env_made_L1 N h v) (fun i => i ≤ h.length) (fun i => h.length - i) (fun o => o = .inl () ∨ o = .inr false) (fun i hi => by
      unfold m_pattern_Env_made_L1
      by_cases hlt : i < h.length
      · have hv : i < v.length := by omega
        have e : ∃ j, (if (!h[i]) = true then bindO (v[i]?) fun x26 => some (!decide (x26 = (⟨0, 0, (⟨#[]⟩ : ByteArray)⟩ : V))) else some false) = some j := by
          split
          · rw [List.getElem?_eq_getElem hv, bindO_pure]; exact ⟨_, rfl⟩
          · exact ⟨_, rfl⟩
        obtain ⟨j, hj⟩ := e
        rw [if_pos (by simpa using hlt), List.getElem?_eq_getElem hlt, bindO_pure, hj, bindO_pure]
        cases j
        · left; exact ⟨i + 1, by rw [if_neg (by simp), gd_pos (by omega)], by omega, by omega⟩
        · right; exact ⟨_, by rw [if_pos rfl], .inr rfl⟩
      · right
        exact ⟨_, by rw [if_neg (by simpa using hlt)], .inl rfl⟩) N 0 (Nat.zero_le _) (by omega)
    rw [h1]
    rcases h2 with rfl | rfl
    · exact ⟨true, rfl, fun _ => hl⟩
    · exact ⟨false, rfl, fun h => by cases h⟩
  · rw [if_pos (by simpa using hl)]
    exact ⟨false, rfl, fun h => by cases h⟩
omit hN in
theorem in_is {z : Int} {h : List Bool} : (if decide (z ≥ 0) = true then some (decide (z < ((h.length : Nat) : Int))) else some false) = some (decide (0 ≤ z ∧ z < ((h.length : Nat) : Int))) := by
  by_cases h0 : 0 ≤ z
  · rw [if_pos (by simpa using h0)]; simp [h0]
  · rw [if_neg (by simpa using h0)]; simp [h0]
omit hN in
theorem arg_both {a : ArgD} {x : V} {h : List Bool} {v : List V} (hl : h.length = v.length) : ∃ b h' v', m_pattern_fill_arg_v2 N h v a.k a.var a.v.k a.v.n a.v.s x.k x.n x.s = some (b, h', v') ∧
    m_ropewalkref10_Match_C6 N a h v (decide (0 ≤ a.var ∧ a.var < ((h.length : Nat) : Int))) x = some (h', v', b) ∧ h'.length = h.length ∧ v'.length = v.length := by
  unfold m_pattern_fill_arg_v2 m_ropewalkref10_Match_C6
  rw [in_is, bindO_pure]
  have tt : true = true := rfl
  have ff : ¬ (false = true) := by simp
  by_cases k1 : (a.k == 1) = true
  · rw [if_pos k1, if_pos k1]
    exact ⟨_, _, _, rfl, rfl, rfl, rfl⟩
  rw [if_neg k1, if_neg k1]
  by_cases k4 : (a.k == 4) = true
  · have q : a.k = 4 := by simpa using k4
    have k2 : ¬ (a.k == 2) = true := by rw [q]; decide
    have k3 : ¬ (a.k == 3) = true := by rw [q]; decide
    rw [if_pos k4, if_neg k2, if_neg k3, if_pos k4]
    exact ⟨_, _, _, rfl, rfl, rfl, rfl⟩
  rw [if_neg k4]
  by_cases hin : 0 ≤ a.var ∧ a.var < ((h.length : Nat) : Int)
  · have g1 : a.var.toNat < h.length := by omega
    have g2 : a.var.toNat < v.length := by omega
    rw [show decide (0 ≤ a.var ∧ a.var < ((h.length : Nat) : Int)) = true from decide_eq_true hin]
    by_cases k3 : (a.k == 3) = true
    · have q : a.k = 3 := by simpa using k3
      have k2 : ¬ (a.k == 2) = true := by rw [q]; decide
      rw [if_pos k3, if_neg k2, if_pos k3, if_pos tt, gd_pos hin.1, List.getElem?_eq_getElem g1, bindO_pure, if_pos tt, gd_pos hin.1, bindO_pure]
      by_cases hb : h[a.var.toNat] = true
      · rw [if_pos hb, gd_pos hin.1, List.getElem?_eq_getElem g2, bindO_pure, if_pos hb, gd_pos hin.1, bindO_pure]
        exact ⟨_, _, _, rfl, rfl, rfl, rfl⟩
      · rw [if_neg hb, if_neg hb, gd_pos hin.1]
        exact ⟨_, _, _, rfl, rfl, rfl, rfl⟩
    · rw [if_neg k3]
      by_cases k2 : (a.k == 2) = true
      · unfold m_pattern_fill_arg_v2_C2
        rw [if_pos k2, if_pos k2, if_pos tt, gd_pos hin.1, List.getElem?_eq_getElem g1, bindO_pure, gd_pos hin.1, List.getElem?_eq_getElem g2, bindO_pure, bindO_pure, if_pos tt, gd_pos hin.1, bindO_pure, gd_pos hin.1, bindO_pure]
        exact ⟨_, _, _, rfl, rfl, by simp, by simp⟩
      · rw [if_neg k2, if_neg k2, if_neg k3, if_neg k4]
        exact ⟨_, _, _, rfl, rfl, rfl, rfl⟩
  · rw [show decide (0 ≤ a.var ∧ a.var < ((h.length : Nat) : Int)) = false from decide_eq_false hin]
    by_cases k3 : (a.k == 3) = true
    · have q : a.k = 3 := by simpa using k3
      have k2 : ¬ (a.k == 2) = true := by rw [q]; decide
      rw [if_pos k3, if_neg k2, if_pos k3, if_neg ff, if_neg ff]
      exact ⟨_, _, _, rfl, rfl, rfl, rfl⟩
    · rw [if_neg k3]
      by_cases k2 : (a.k == 2) = true
      · unfold m_pattern_fill_arg_v2_C2
        rw [if_pos k2, if_pos k2, if_neg ff, bindO_pure, if_neg ff]
        exact ⟨_, _, _, rfl, rfl, rfl, rfl⟩
      · rw [if_neg k2, if_neg k2, if_neg k3, if_neg k4]
        exact ⟨_, _, _, rfl, rfl, rfl, rfl⟩
theorem match_both (a0 a1 a3 a4 a5 a7 a8 a10 a11 b3 b4 b5 b7 b8 : Int) (a6 b6 : ByteArray) {l2 : List ArgD} {l9 m9 : List Api_ExprD} {l12 : List V} {l13 : List Bool} {l14 : List V} (h2 : l2.length ≤ 2000) (h13 : l13.length ≤ 2000) (h14 : l14.length ≤ 2000) :
    ∃ h v b, m_pattern_Match N a0 a1 l2 a3 a4 a5 a6 a7 a8 l9 a10 a11 l12 l13 l14 = some (h, v, b) ∧ m_ropewalkref10_Match N a0 a1 l2 b3 b4 b5 b6 b7 b8 m9 a10 a11 l12 l13 l14 = some (h, v, b) ∧ h.length ≤ 2000 ∧ v.length ≤ 2000 := by
  obtain ⟨bm, hm, hm2⟩ := made_tot hN (h := l13) (v := l14) (by omega)
  unfold m_pattern_Match m_ropewalkref10_Match
  have hC : ∃ bad, m_pattern_Match_C2 N ((a0 == 1) || (a0 == 2)) a1 a11 l2 l12 l13 l14 = some bad ∧ m_ropewalkref10_Match_C1 N l13 l14 a0 a11 a1 l12 l2 = some bad ∧ (bad = false → bm = true ∧ l2.length = l12.length) := by
    unfold m_pattern_Match_C2 m_ropewalkref10_Match_C1
    have e1 : (a11 != a1) = (a1 != a11) := bne_comm
    have e2 : (l12.length != l2.length) = (l2.length != l12.length) := bne_comm
    have n1 : (a0 != 1) = !(a0 == 1) := rfl
    have n2 : (a0 != 2) = !(a0 == 2) := rfl
    rw [hm, made_both, hm, bindO_pure, bindO_pure, e1, e2, n1, n2]
    generalize h4 : (l2.length != l12.length) = b4
    have h5 : b4 = false → l2.length = l12.length := by intro h; rw [h] at h4; simpa using h4
    generalize (a1 != a11) = b3
    generalize (a0 == 1) = b1
    generalize (a0 == 2) = b2
    cases b1 <;> cases b2 <;> cases b3 <;> cases b4 <;> cases bm <;> first | exact ⟨true, rfl, rfl, by simp⟩ | exact ⟨false, rfl, rfl, fun _ => ⟨rfl, h5 rfl⟩⟩
  obtain ⟨bad, hP, hR, hb⟩ := hC
  rw [ite_or, bindO_pure, hP, bindO_pure, hR, bindO_pure]
  cases bad with
  | true => exact ⟨[], [], false, by rw [if_pos rfl], by rw [if_pos rfl], by simp, by simp⟩
  | false =>
    obtain ⟨e1, e2⟩ := hb rfl
    have hlen := hm2 e1
    unfold m_pattern_of
    rw [if_neg (by simp), if_neg (by simp), gd_pos (by omega), gd_pos (by omega), bindO_pure, gd_pos (by simp; omega), gd_pos (by simp; omega)]
    obtain ⟨r, r', q1, q2, q3⟩ := iter_two (f := m_pattern_Match_L1 N l2 l12) (g := m_ropewalkref10_Match_L1 N l2 l12) (fun s t => t = s ∧ s.1 ≤ l2.length ∧ s.2.1.length = l13.length ∧ s.2.2.length = l14.length) (fun s => l2.length - s.1)
      (fun r r' => r' = r ∧ ((∃ h v, r = .inl (h, v) ∧ h.length ≤ 2000 ∧ v.length ≤ 2000) ∨ r = .inr ([], [], false))) (fun s t hst => by
        obtain ⟨i, h, v⟩ := s
        obtain ⟨rfl, hi, p1, p2⟩ := hst
        simp only at hi p1 p2
        unfold m_pattern_Match_L1 m_ropewalkref10_Match_L1
        simp only
        by_cases hlt : i < l2.length
        · have hlt2 : i < l12.length := by omega
          obtain ⟨b, h', v', g1, g2, g3, g4⟩ := arg_both (N := N) (a := l2[i]) (x := l12[i]) (h := h) (v := v) (by omega)
          rw [if_pos (by simpa using hlt), if_pos (by simpa using hlt), List.getElem?_eq_getElem hlt, bindO_pure, bindO_pure, List.getElem?_eq_getElem hlt2, bindO_pure, bindO_pure, g1, bindO_pure, in_is, bindO_pure, g2, bindO_pure]
          simp only
          cases b with
          | true =>
            left
            rw [if_neg (by simp), gd_pos (by omega)]
            exact ⟨_, _, rfl, rfl, ⟨rfl, by simp only; omega, by simp only; omega, by simp only; omega⟩, by simp only; omega⟩
          | false =>
            right
            rw [if_pos (by decide : (!false) = true)]
            exact ⟨_, _, rfl, rfl, rfl, .inr rfl⟩
        · right
          rw [if_neg (by simpa using hlt), if_neg (by simpa using hlt)]
          exact ⟨_, _, rfl, rfl, rfl, .inl ⟨_, _, rfl, by omega, by omega⟩⟩) N (0, l13, l14) (0, l13, l14) ⟨rfl, by simp, rfl, rfl⟩ (by simp only; omega)
    rw [q1, q2]
    obtain ⟨rfl, q4⟩ := q3
    rcases q4 with ⟨h, v, rfl, p1, p2⟩ | rfl
    · exact ⟨h, v, true, rfl, rfl, p1, p2⟩
    · exact ⟨[], [], false, rfl, rfl, by simp, by simp⟩
end
end Go.Proofs.YtalbennlmcpnmaaGreat
