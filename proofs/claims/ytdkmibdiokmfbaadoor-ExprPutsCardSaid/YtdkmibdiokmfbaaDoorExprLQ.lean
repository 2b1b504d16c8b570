/- The plain laws of ExprAll and ExprPuts: the laws themselves. -/
import Derived.Test.YtdkmibdiokmfbaaDoorExprLP
namespace Go.Proofs.YtdkmibdiokmfbaaDoor
open Go Go.RowKit
theorem pick_in {N : Nat} {x n : Int} (hn : n ≤ 9223372036854775807) (h1 : 1 ≤ n) : ∃ y, m_ropewalkkit_Pick N x n = some y ∧ 0 ≤ y ∧ y < n := by
  unfold m_ropewalkkit_Pick
  rw [if_neg (by simp; omega), gd_pos (by omega)]
  have ha := Int.tmod_lt_of_pos x (show (0 : Int) < n by omega)
  have hb : -n < Int.tmod x n := by
    have := Int.tmod_lt_of_pos (-x) (show (0 : Int) < n by omega)
    rw [Int.neg_tmod] at this; omega
  by_cases h : Int.tmod x n < 0
  · rw [if_pos (by simpa using h), gd_pos (by omega)]
    exact ⟨_, rfl, by omega, by omega⟩
  · rw [if_neg (by simpa using h)]
    exact ⟨_, rfl, by omega, by omega⟩
theorem expr_awake : m_ropewalklaw09_awake 9223372036854776808 = some true := by kernel_rfl
theorem light_is {N : Nat} {vars : List V} {l : List Api_ExprD} (hN : 9223372036854776200 ≤ N) (hv : vars.length ≤ 140737488351232) (hok : ∀ y ∈ l, ok_Api_ExprD y) :
    ∃ b, m_ropewalklaw09_light N vars l = some b ∧ (b = true → vars.length ≤ 30 ∧ nodesL l ≤ 300) := by
  unfold m_ropewalklaw09_light
  obtain ⟨o, e1, e2⟩ := iter_inv (f := m_ropewalklaw09_light_L1 N vars) (fun i => i ≤ vars.length) (fun i => vars.length - i) (fun o => o = .inl () ∨ o = .inr false) (fun i hi => by
    unfold m_ropewalklaw09_light_L1
    by_cases hlt : i < vars.length
    · have hx := List.getElem?_eq_getElem hlt
      rw [if_pos (by simpa using hlt), hx, bindO_pure]
      by_cases hb : 300 < vars[i].s.size
      · rw [if_pos (by simpa using hb)]; right; exact ⟨_, rfl, .inr rfl⟩
      · rw [if_neg (by simpa using hb), gd_pos (by omega)]; left; exact ⟨_, rfl, by omega, by omega⟩
    · rw [if_neg (by simpa using hlt)]; right; exact ⟨_, rfl, .inl rfl⟩) N 0 (by omega) (by omega)
  rw [e1]
  rcases e2 with rfl | rfl
  · rw [bindS_inl]
    by_cases h1 : vars.length ≤ 30
    · rw [if_pos (by simpa using h1)]
      by_cases h2 : l.length ≤ 30
      · rw [if_pos (by simpa using h2)]
        obtain ⟨v, v1, _, _, v4⟩ := exprsof_is 301 N l 300 hok (by omega) (by omega) (by omega) (by omega) (by omega)
        rw [v1, bindO_pure]
        refine ⟨_, rfl, fun h => ⟨h1, ?_⟩⟩
        have h := of_decide_eq_true h
        have := v4 h
        omega
      · rw [if_neg (by simpa using h2)]; exact ⟨_, rfl, fun h => by cases h⟩
    · rw [if_neg (by simpa using h1)]; exact ⟨_, rfl, fun h => by cases h⟩
  · rw [bindS_inr]; exact ⟨_, rfl, fun h => by cases h⟩
theorem same_refl {N : Nat} {a : List V} (hN : 9223372036854775808 ≤ N) (ha : a.length ≤ 9223372036854775807) : m_ropewalkkit_SameValues N a a = some true := by
  unfold m_ropewalkkit_SameValues
  rw [if_neg (by simp)]
  obtain ⟨o, e1, e2⟩ := iter_inv (f := m_ropewalkkit_SameValues_L1 N a a) (fun i => i ≤ a.length) (fun i => a.length - i) (fun o => o = .inl ()) (fun i hi => by
    unfold m_ropewalkkit_SameValues_L1
    by_cases hlt : i < a.length
    · have hx := List.getElem?_eq_getElem hlt
      rw [if_pos (by simpa using hlt), hx, bindO_pure, bindO_pure, if_neg (by simp), gd_pos (by omega)]; left; exact ⟨_, rfl, by omega, by omega⟩
    · rw [if_neg (by simpa using hlt)]; right; exact ⟨_, rfl, rfl⟩) N 0 (by omega) (by omega)
  rw [e1, e2]; rfl
theorem allR_len {f : Api_ExprD → Option Say} : ∀ {l : List Api_ExprD} {acc a : List V}, allR f l acc = some (.inl a) → a.length = acc.length + l.length
  | [], acc, a, h => by cases h; simp
  | x :: l, acc, a, h => by
    unfold allR at h
    obtain ⟨⟨p, q, r, e⟩, _, h⟩ := bindO_some h
    simp only at h
    split at h
    · cases h
    · have := allR_len h
      simp only [List.length_append, List.length_cons, List.length_nil] at this ⊢; omega
theorem okV_of {v : V} (h : ok_V v) : okV v := ⟨inK_i64 h.2.1, h.2.2⟩
theorem exprall_arg (l0 : List V) (h0 : l0.length ≤ 140737488351232 ∧ ∀ y ∈ l0, ok_V y) (l1 : List Api_ExprD) (h1 : l1.length ≤ 140737488351232 ∧ ∀ y ∈ l1, ok_Api_ExprD y) : m_ropewalklaw09_ExprAll 9223372036854776808 l0 l1 = some true := by
  unfold m_ropewalklaw09_ExprAll
  rw [expr_awake, bindO_pure, if_neg nott]
  have hN : 9223372036854775808 ≤ 9223372036854776808 := by decide
  obtain ⟨b, b1, b2⟩ : ∃ b, m_ropewalklaw09_light 9223372036854776808 l0 l1 = some b ∧ (b = true → l0.length ≤ 30 ∧ nodesL l1 ≤ 300) := light_is (by decide) h0.1 h1.2
  rw [b1, bindO_pure]
  cases b with
  | false => rfl
  | true =>
    obtain ⟨c1, c2⟩ := b2 rfl
    rw [if_neg nott]
    have hk : l1.length ≤ 1000000 := by have := nodesL_len l1; omega
    unfold m_expr_All m_ropewalkref09_All
    rw [lrowA hN hk, lrowB hN hk]
    obtain ⟨w, w1, w2, w3, w4⟩ := allR_both (f := at_ (m_expr_Eval 9223372036854776808) l0) (g := at_ (m_ropewalkref09_Eval 9223372036854776808) l0) l1 [] (fun y hy => both 1000 9223372036854776808 y l0 (h1.2 y hy) (by have := nodesL_mem hy; omega) (by omega) (by omega) (fun v hv => okV_of (h0.2 v hv)) (by omega)) (by simp)
    rw [w1, w2]
    cases w with
    | inr e =>
      simp only [upR, bindS_inr, bindO_pure]
      rw [if_pos (by simp), same_refl hN (by simp)]; rfl
    | inl a =>
      have := allR_len w1
      simp only [upR, id, bindS_inl, bindO_pure]
      rw [if_pos (by simp), same_refl hN (by simp at this; omega)]; rfl
end Go.Proofs.YtdkmibdiokmfbaaDoor
