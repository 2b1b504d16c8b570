import Derived.Test.YtalbennlmcpnmaaGreatXM
import Derived.Test.YtalbennlmcpnmaaGreatPlain2
namespace Go.Proofs.YtalbennlmcpnmaaGreat
open Go Go.RowKit
mutual
def nodes : Api_ExprD → Nat
  | ⟨_, _, _, _, l⟩ => 1 + nodesL l
def nodesL : List Api_ExprD → Nat
  | [] => 0
  | e :: l => nodes e + nodesL l
end
theorem nodes_eq (e : Api_ExprD) : nodes e = 1 + nodesL e.kids := by cases e; simp [nodes]
theorem nodesL_app : ∀ (a b : List Api_ExprD), nodesL (a ++ b) = nodesL a + nodesL b
  | [], b => by simp [nodesL]
  | x :: a, b => by simp only [List.cons_append, nodesL]; rw [nodesL_app a b]; omega
theorem nodesL_mem {x : Api_ExprD} : ∀ {l : List Api_ExprD}, x ∈ l → nodes x ≤ nodesL l
  | y :: l, h => by
    simp only [nodesL]
    rcases List.mem_cons.1 h with rfl | h
    · omega
    · have := nodesL_mem h; omega
theorem nodesL_len : ∀ (l : List Api_ExprD), l.length ≤ nodesL l
  | [] => by simp
  | x :: l => by
    have := nodesL_len l
    simp only [List.length_cons, nodesL, nodes_eq]; omega
theorem nodesL_take {l : List Api_ExprD} {i : Nat} {x : Api_ExprD} (h : l[i]? = some x) : nodesL (l.take (i + 1)) = nodesL (l.take i) + 1 + nodesL x.kids := by
  rw [List.take_add_one, h, nodesL_app]
  simp [nodesL, nodes_eq]; omega
theorem ok_kids {x : Api_ExprD} (h : ok_Api_ExprD x) : x.kids.length ≤ 1759218604390 ∧ ∀ y ∈ x.kids, ok_Api_ExprD y := by
  cases h with
  | mk _ _ _ _ _ h4 g4 => exact ⟨h4, g4⟩
theorem exprsof_is : ∀ (m N : Nat) (l : List Api_ExprD) (most : Int), (∀ y ∈ l, ok_Api_ExprD y) → l.length ≤ 1759218604390 → 9223372036854775808 + m < N → -1 ≤ most → most + 1 ≤ m → most ≤ 1000000 →
    ∃ v, m_ropewalkkit_ExprsOf N l most = some v ∧ 0 ≤ v ∧ v ≤ most + 1 ∧ (v ≤ most → v = nodesL l) := by
  intro m
  induction m with
  | zero =>
    intro N l most hok hl hN h1 h2 h3
    obtain ⟨N, rfl⟩ : ∃ k, N = k + 1 := ⟨N - 1, by omega⟩
    have hm : most = -1 := by omega
    subst hm
    show ∃ v, m_ropewalkkit_ExprsOf_b N (m_ropewalkkit_ExprsOf N) l (-1) = some v ∧ _
    unfold m_ropewalkkit_ExprsOf_b
    obtain ⟨k, hk⟩ : ∃ k, N = k + 1 := ⟨N - 1, by omega⟩
    have hs : m_ropewalkkit_ExprsOf_L1 N l (-1) (m_ropewalkkit_ExprsOf N) (0, 0) = some (.inr 0) := by
      unfold m_ropewalkkit_ExprsOf_L1
      by_cases h : 0 < l.length
      · simp only [h, decide_true, if_true]; rfl
      · simp only [h, decide_false, Bool.false_eq_true, if_false]; rfl
    have hi : iter (m_ropewalkkit_ExprsOf_L1 N l (-1) (m_ropewalkkit_ExprsOf N)) N (0, 0) = some 0 := by
      have := iter_stop (n := N - 1) hs
      rwa [show N - 1 + 1 = N by omega] at this
    rw [hi, bindO_pure, gd_pos (by omega)]
    exact ⟨_, rfl, by decide, by decide, fun h => by exact absurd h (by decide)⟩
  | succ m ih =>
    intro N l most hok hl hN h1 h2 h3
    obtain ⟨N, rfl⟩ : ∃ k, N = k + 1 := ⟨N - 1, by omega⟩
    show ∃ v, m_ropewalkkit_ExprsOf_b N (m_ropewalkkit_ExprsOf N) l most = some v ∧ _
    unfold m_ropewalkkit_ExprsOf_b
    obtain ⟨o, e1, e2, e3, e4⟩ := iter_inv (f := m_ropewalkkit_ExprsOf_L1 N l most (m_ropewalkkit_ExprsOf N)) (fun s => s.1 ≤ l.length ∧ 0 ≤ s.2 ∧ s.2 ≤ most + 1 ∧ (s.2 ≤ most → s.2 = nodesL (l.take s.1))) (fun s => l.length - s.1)
      (fun o => 0 ≤ o ∧ o ≤ most + 1 ∧ (o ≤ most → o = nodesL l)) (fun s hs => by
        obtain ⟨i, c⟩ := s
        obtain ⟨g1, g2, g3, g4⟩ := hs
        simp only at g1 g2 g3 g4
        unfold m_ropewalkkit_ExprsOf_L1
        simp only
        by_cases hlt : i < l.length
        · have hx := List.getElem?_eq_getElem hlt
          rw [if_pos (by simpa using hlt), bindO_pure]
          by_cases hc : c ≤ most
          · rw [if_pos (by simpa using hc), gd_pos (by omega), hx, bindO_pure, gd_pos (by omega), gd_pos (by omega)]
            have hmem := List.getElem_mem hlt
            obtain ⟨k1, k2⟩ := ok_kids (hok _ hmem)
            obtain ⟨v, v1, v2, v3, v4⟩ := ih N l[i].kids (most - c - 1) k2 k1 (by omega) (by omega) (by omega) (by omega)
            rw [v1, bindO_pure, gd_pos (by omega), gd_pos (by omega)]
            left
            refine ⟨_, rfl, ⟨by simp only; omega, by simp only; omega, by simp only; omega, fun hle => ?_⟩, by simp only; omega⟩
            simp only at hle ⊢
            rw [nodesL_take hx]
            have a1 := g4 hc
            have a2 := v4 (by omega)
            omega
          · rw [if_neg (by simpa using hc)]
            right
            exact ⟨c, rfl, g2, g3, fun h => absurd h hc⟩
        · rw [if_neg (by simpa using hlt), bindO_pure, if_neg (by simp)]
          right
          refine ⟨c, rfl, g2, g3, fun h => ?_⟩
          have := g4 h
          rwa [List.take_of_length_le (by omega)] at this) N (0, 0) ⟨by simp, by simp, by simp only; omega, fun _ => by simp [nodesL]⟩ (by simp only; omega)
    rw [e1, bindO_pure, gd_pos (by omega)]
    refine ⟨_, rfl, ?_, ?_, ?_⟩ <;> unfold minI
    · split <;> omega
    · split <;> omega
    · intro h
      split at h
      · omega
      · rename_i h5
        rw [if_neg h5]; exact e4 h
end Go.Proofs.YtalbennlmcpnmaaGreat
