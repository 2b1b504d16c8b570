import Derived.Test.YtalbennlmcpnmaaGreatPatMP
namespace Go.Proofs.YtalbennlmcpnmaaGreat
open Go Go.RowKit
section
variable {N : Nat} (hN : 9223372036854778808 ≤ N)
include hN
theorem exprsC_is {l2 : List ArgD} {l12 : List V} {l13 : List Bool} {l14 : List V} {l9 : List Api_ExprD} (hok : (∀ y ∈ l9, ok_Api_ExprD y) ∧ l9.length ≤ 1759218604390) :
    ∃ b, m_ropewalklaw10_PatternMatches_C1 N l2 l12 l13 l14 l9 = some b ∧ (b = false → l2.length ≤ 2000 ∧ l12.length ≤ 2000 ∧ l13.length ≤ 2000 ∧ l14.length ≤ 2000 ∧ nodesL l9 ≤ 2000) := by
  obtain ⟨v, hv1, hv2, hv3, hv4⟩ := exprsof_is 2001 N l9 2000 hok.1 hok.2 (by omega) (by omega) (by omega) (by omega)
  unfold m_ropewalklaw10_PatternMatches_C1
  by_cases h1 : 2000 < l2.length
  · rw [if_pos (by simpa using h1)]; exact ⟨true, rfl, fun h => by cases h⟩
  rw [if_neg (by simpa using h1)]
  by_cases h2 : 2000 < l12.length
  · rw [if_pos (by simpa using h2)]; exact ⟨true, rfl, fun h => by cases h⟩
  rw [if_neg (by simpa using h2)]
  by_cases h3 : 2000 < l13.length
  · rw [if_pos (by simpa using h3)]; exact ⟨true, rfl, fun h => by cases h⟩
  rw [if_neg (by simpa using h3)]
  by_cases h4 : 2000 < l14.length
  · rw [if_pos (by simpa using h4)]; exact ⟨true, rfl, fun h => by cases h⟩
  rw [if_neg (by simpa using h4), hv1, bindO_pure]
  refine ⟨_, rfl, fun h => ?_⟩
  have h5 : v ≤ 2000 := by simpa using h
  have := hv4 h5
  omega
variable (aw : m_ropewalklaw10_awake N = some true)
include aw
theorem patmatch_is (a0 a1 : Int) (l2 : List ArgD) (t : Api_ExprD) (a10 a11 : Int) (l12 : List V) (l13 : List Bool) (l14 : List V) (hok : (∀ y ∈ t.kids, ok_Api_ExprD y) ∧ t.kids.length ≤ 1759218604390) :
    m_ropewalklaw10_PatternMatches N a0 a1 l2 t.kind t.value.k t.value.n t.value.s t.var t.op t.kids a10 a11 l12 l13 l14 = some true := by
  have hN' : 9223372036854775808 ≤ N := by omega
  obtain ⟨b0, hC, hb⟩ := exprsC_is (l2 := l2) (l12 := l12) (l13 := l13) (l14 := l14) hN hok
  unfold m_ropewalklaw10_PatternMatches
  rw [hC, bindO_pure]
  cases b0 with
  | true => rw [if_pos rfl, aw]; rfl
  | false =>
    obtain ⟨h2, h12, h13, h14, hn⟩ := hb rfl
    have hnt : nodes t ≤ 2001 := by rw [nodes_eq]; omega
    have hkl := nodesL_len t.kids
    have hLC : m_ropewalkkit_LentCond N a0 a1 l2 t.kind t.value.k t.value.n t.value.s t.var t.op t.kids = some (l2 ++ tailA, t.kind, t.value.k, t.value.n, t.value.s, t.var, t.op, lEs t.kids ++ tailE, t.kids.length) := by
      unfold m_ropewalkkit_LentCond
      rw [lentArgs_is (by omega) (by omega), bindO_pure, lentExpr_is 2001 N t hnt (by omega) (by omega), bindO_pure]
    have e2 : (l2 ++ tailA).take l2.length = l2 := by rw [List.take_left']; rfl
    have e12 : (l12 ++ tailV).take l12.length = l12 := by rw [List.take_left']; rfl
    have e14 : (l14 ++ tailV).take l14.length = l14 := by rw [List.take_left']; rfl
    have g2 : l2.length ≤ (l2 ++ tailA).length := by simp
    have g9 : t.kids.length ≤ (lEs t.kids ++ tailE).length := by rw [List.length_append, lEs_len]; omega
    have g12 : l12.length ≤ (l12 ++ tailV).length := by simp
    have g14 : l14.length ≤ (l14 ++ tailV).length := by simp
    obtain ⟨h, v, b, m1, m2, hh, hv⟩ := match_both hN' a0 a1 t.kind t.value.k t.value.n t.var t.op a10 a11 t.kind t.value.k t.value.n t.var t.op t.value.s t.value.s (l2 := l2) (l9 := t.kids) (m9 := t.kids) (l12 := l12) (l13 := l13) (l14 := l14) h2 h13 h14
    have s1 := envSame_self hN' (h := h) (v := v) (by omega) (by omega)
    have s2 := envSame_self hN' (h := l13) (v := l14) (by omega) (by omega)
    have hC3 : m_ropewalklaw10_PatternMatches_C3 N b b h v h v h v l14 (l14 ++ tailV) l13 = some false := by
      unfold m_ropewalklaw10_PatternMatches_C3
      rw [if_neg (by simp), s1, bindO_pure, if_neg (by simp), bindO_pure, if_neg (by simp), gd_pos g14, e14, s2, bindO_pure]; rfl
    have hKC : m_ropewalkkit_KeptCond_W N a0 a1 (l2 ++ tailA) l2.length t.kind t.value.k t.value.n t.value.s t.var t.op (lEs t.kids ++ tailE) t.kids.length a0 a1 l2 t.kind t.value.k t.value.n t.value.s t.var t.op t.kids = some true := by
      unfold m_ropewalkkit_KeptCond_W m_ropewalkkit_SameCond_W m_ropewalkkit_SameCond_W_C1
      rw [if_pos (by simp), if_pos (by simp), sameArgsW_is (by omega) (by omega), bindO_pure, if_pos rfl, sameExprW_is 2001 N t tailE hnt (by omega) (by omega), bindO_pure, bindO_pure, bindO_pure, if_pos rfl, keptArgs_is (by omega) (by omega), bindO_pure, if_pos rfl, keptExprW_is 2001 N t hnt (by omega) (by omega)]
      rfl
    have hKF := keptFact_is (N := N) (f := ⟨a10, a11, l12⟩) (by omega) (show l12.length ≤ 1000000000 by omega)
    have hC4 : m_ropewalklaw10_PatternMatches_C4 N a0 a1 (l2 ++ tailA) l2 t.kind t.value.k t.value.n t.value.s t.var t.op (lEs t.kids ++ tailE) t.kids.length t.kind t.value.k t.value.n t.value.s t.var t.op t.kids a10 a11 (l12 ++ tailV) l12 (l14 ++ tailV) l14 = some false := by
      unfold m_ropewalklaw10_PatternMatches_C4
      rw [hKC, bindO_pure, if_neg (by simp), hKF, bindO_pure, if_neg (by simp), keptValues_is (by omega) (by omega), bindO_pure]; rfl
    obtain ⟨o1, ho1⟩ := overFact_is (N := N) (x := ⟨a10, a11, l12, tailV⟩) (by omega) ⟨tailV_len, show l12.length ≤ 1000000000 by omega⟩
    obtain ⟨o2, ho2, _⟩ := overValues_is (N := N) (l := l14 ++ tailV) (k := l14.length) (by omega) (by simp [tailV_len]; omega) (by simp [tailV_len])
    obtain ⟨o3, ho3⟩ := apart_is hN' (h := h) (h2 := h) (v := v) (v2 := v) (by omega) (by omega) (by omega) (by omega)
    have hLF := lentFact_is (N := N) (f := ⟨a10, a11, l12⟩) (by omega) (show l12.length ≤ 1000000000 by omega)
    rw [if_neg (by simp), hLC, bindO_pure]
    simp only
    rw [hLF, bindO_pure, gd_pos (by simp; omega), lentValues_is (by omega) (by omega), bindO_pure]
    simp only [gd_pos g2, gd_pos g9, gd_pos g12, gd_pos g14, e2, e12, e14, take_lE, m1, m2, bindO_pure]
    rw [hC3, bindO_pure, if_neg (by simp), hC4, bindO_pure, if_neg (by simp), ho1, bindO_pure, ho2, bindO_pure, s1, bindO_pure, if_pos rfl, ho3, bindO_pure]
    simp only
    rw [if_pos trivial, aw]
    rfl
end
theorem pawake_is : m_ropewalklaw10_awake 9223372036854778808 = some true := by kernel_rfl
end Go.Proofs.YtalbennlmcpnmaaGreat
