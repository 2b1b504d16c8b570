import Derived.Test.YtkliokdpcdhjcaaDoorAgR
namespace Go.Proofs.YtkliokdpcdhjcaaDoor
open Go Go.RowKit
section
variable {N : Nat} (hN : 9223372036854775808 ≤ N)
include hN
def mkI (z : Int) : Int := IntKind.wrap .i64 ((IntKind.wrap .i64 (1000003 * (IntKind.wrap .i64 (1 + 7)))) + z)
def tailI : List Int := (List.range 12).map fun i => mkI ((i : Nat) : Int)
omit hN in
theorem tailI_len : tailI.length = 12 := by simp [tailI]
omit hN in
theorem tailI_at {i : Nat} (h : i < 12) : tailI[i]? = some (mkI ((i : Nat) : Int)) := by simp [tailI, h]
theorem lentTok_is {a : Int} {l : List Int} (hl : l.length ≤ 1000000) : m_ropewalkkit_LentToken N a l = some (l ++ tailI) := by
  unfold m_ropewalkkit_LentToken m_ropewalkkit_LentInts
  rw [gd_pos (by omega), gd_pos (by omega), gd_pos (by simp; omega), iter_push 12 (fun i => mkI ((i : Nat) : Int)) l (fun i hi => by
    unfold m_ropewalkkit_LentInts_L1
    simp only
    rw [if_pos (by simpa using hi), show m_ropewalkkit_mark N 1 ((i : Nat) : Int) = some () from rfl, bindO_pure, gd_pos (by simp; omega), gd_pos (by omega)]
    rfl) (by unfold m_ropewalkkit_LentInts_L1; simp only; rw [if_neg (by simp)]) (by omega)]
  rw [bindO_pure, gd_pos (by simp), bindO_pure]; rfl
theorem keptTok_is {a : Int} {l : List Int} (hl : l.length ≤ 1000000) : m_ropewalkkit_KeptToken_W N a (l ++ tailI) l.length a l = some true := by
  unfold m_ropewalkkit_KeptToken_W m_ropewalkkit_SameToken_W m_ropewalkkit_SameInts_W m_ropewalkkit_KeptInts_W
  rw [if_pos (by simp), if_neg (by simp), iter_look l.length (fun i hi => by
    unfold m_ropewalkkit_SameInts_W_L1
    rw [if_pos (by simpa using hi), gd_pos hi, app_l hi, bindO_pure, List.getElem?_eq_getElem hi, bindO_pure, if_neg (by simp), gd_pos (by omega)])
    (by unfold m_ropewalkkit_SameInts_W_L1; rw [if_neg (by simp)]) (by omega), bindS_inl, bindO_pure, bindO_pure, if_pos rfl, if_neg (by simp), gd_pos (by omega), gd_pos (by simp [tailI_len]), iter_look (l.length + 12) (fun i hi => by
    unfold m_ropewalkkit_KeptInts_W_L1 m_ropewalkkit_KeptInts_W_C2
    rw [take_all tailI_len, if_pos (by simp [tailI_len]; omega)]
    by_cases h : i < l.length
    · rw [if_pos (by simpa using h), app_l h, bindO_pure, List.getElem?_eq_getElem h, bindO_pure, if_neg (by simp), if_neg (by simp; omega), bindO_pure, if_neg (by simp), gd_pos (by omega)]
    · rw [if_neg (by simpa using h), if_pos (by simp; omega), app_r (by omega), tailI_at (by omega), bindO_pure, gd_pos (by omega), show m_ropewalkkit_mark N 1 (((i : Nat) : Int) - ((l.length : Nat) : Int)) = some () from rfl, bindO_pure, bindO_pure,
        if_neg (by rw [show (((i - l.length : Nat) : Int)) = ((i : Nat) : Int) - ((l.length : Nat) : Int) by omega]; simp [mkI]), gd_pos (by omega)])
    (by unfold m_ropewalkkit_KeptInts_W_L1; rw [take_all tailI_len, if_neg (by simp [tailI_len])]) (by omega)]
  rfl
theorem sameRl_is (s : Int) : m_ropewalkkit_SameRule N (mkRl s).name (mkRl s).salience (mkRl s).vars (mkRl s).conds (mkRl s).acts (mkRl s).name (mkRl s).salience (mkRl s).vars (mkRl s).conds (mkRl s).acts = some true := by
  unfold m_ropewalkkit_SameRule m_ropewalkkit_SameRule_C1 m_ropewalkkit_SameConds m_ropewalkkit_SameActs mkRl
  rw [if_pos (by simp), if_pos (by simp), if_pos (by simp), if_neg (by simp), iter_look 0 (fun i hi => by omega) (by unfold m_ropewalkkit_SameConds_L1; rw [if_neg (by simp)]) (by omega), bindS_inl, bindO_pure, if_pos rfl, if_neg (by simp),
    iter_look 0 (fun i hi => by omega) (by unfold m_ropewalkkit_SameActs_L1; rw [if_neg (by simp)]) (by omega), bindS_inl, bindO_pure, bindO_pure]
theorem sameRules_is {s : List Int} (hs : s.length ≤ 1000) : m_ropewalkkit_SameRules N [] (s.map mkRl) [] (s.map mkRl) = some true := by
  unfold m_ropewalkkit_SameRules m_ropewalkkit_SameTypes m_ropewalkkit_SameRuleRow
  rw [if_neg (by simp), iter_look 0 (fun i hi => by omega) (by unfold m_ropewalkkit_SameTypes_L1; rw [if_neg (by simp)]) (by omega), bindS_inl, bindO_pure, if_pos rfl, if_neg (by simp), iter_look (s.map mkRl).length (fun i hi => by
    unfold m_ropewalkkit_SameRuleRow_L1
    have hi2 : i < s.length := by simpa using hi
    rw [if_pos (by simpa using hi), List.getElem?_map, List.getElem?_eq_getElem hi2, Option.map_some, bindO_pure, bindO_pure, sameRl_is hN, bindO_pure, if_neg (by simp), gd_pos (by omega)])
    (by unfold m_ropewalkkit_SameRuleRow_L1; rw [if_neg (by simp)]) (by simp; omega), bindS_inl, bindO_pure]
theorem great_is {a b : Api_TokenD} (ha : a.ids.length ≤ 17592186043904) (hb : b.ids.length ≤ 17592186043904) : ∃ g, m_ropewalklaw14_great N [a, b] = some g ∧ (g = false → a.ids.length ≤ 400 ∧ b.ids.length ≤ 400) := by
  unfold m_ropewalklaw14_great
  obtain ⟨o, h1, h2⟩ := iter_inv (f := m_ropewalklaw14_great_L1 N [a, b]) (fun s => s.1 ≤ 2 ∧ (s.1 = 0 → s.2 = 2) ∧ (s.1 = 1 → s.2 = 2 + a.ids.length) ∧ (s.1 = 2 → s.2 = 2 + a.ids.length + b.ids.length)) (fun s => 2 - s.1)
    (fun o => 400 < o ∨ o = 2 + a.ids.length + b.ids.length) (fun s hs => by
      obtain ⟨i, n⟩ := s
      obtain ⟨q0, q1, q2, q3⟩ := hs
      simp only at q0 q1 q2 q3
      unfold m_ropewalklaw14_great_L1
      simp only
      by_cases hi : i < 2
      · rw [if_pos (by simpa using hi), bindO_pure]
        by_cases hn : n ≤ 400
        · left
          obtain rfl | rfl : i = 0 ∨ i = 1 := by omega
          · have := q1 rfl
            exact ⟨(1, n + a.ids.length), by rw [if_pos (by simpa using hn)]; simp only [List.getElem?_cons_zero]; rw [bindO_pure, gd_pos (by omega), gd_pos (by omega)], ⟨by simp only; omega, by simp only; omega, fun _ => by simp only; omega, by simp only; omega⟩, by simp only; omega⟩
          · have := q2 rfl
            exact ⟨(2, n + b.ids.length), by rw [if_pos (by simpa using hn)]; simp only [List.getElem?_cons_succ, List.getElem?_cons_zero]; rw [bindO_pure, gd_pos (by omega), gd_pos (by omega)], ⟨by simp only; omega, by simp only; omega, by simp only; omega, fun _ => by simp only; omega⟩, by simp only; omega⟩
        · right
          exact ⟨n, by rw [if_neg (by simpa using hn)], .inl (by omega)⟩
      · right
        have : i = 2 := by omega
        exact ⟨n, by rw [if_neg (by simpa using hi), bindO_pure, if_neg (by simp)], .inr (q3 this)⟩) N (0, [a, b].length) ⟨by simp, by simp, by simp, by simp⟩ (by simp only; omega)
  rw [h1, bindO_pure]
  refine ⟨_, rfl, fun h => ?_⟩
  have h3 : ¬ 400 < o := by simpa using h
  omega
theorem agbet_is {s i1 i2 : List Int} {r1 r2 : Int} (h1 : i1.length ≤ 17592186043904) (h2 : i2.length ≤ 17592186043904) : m_ropewalklaw14_AgendaBetter N s r1 i1 r2 i2 = some true := by
  unfold m_ropewalklaw14_AgendaBetter
  by_cases hs : 400 < s.length
  · rw [if_pos (by simpa using hs), bindO_pure, if_pos rfl]
  · obtain ⟨g, g1, g2⟩ := great_is hN (a := ⟨r1, i1⟩) (b := ⟨r2, i2⟩) h1 h2
    rw [if_neg (by simpa using hs), g1, bindO_pure, bindO_pure]
    cases g with
    | true => rw [if_pos rfl]
    | false =>
      obtain ⟨l1, l2⟩ := g2 rfl
      simp only at l1 l2
      have e1 : (i1 ++ tailI).take i1.length = i1 := List.take_left' rfl
      have e2 : (i2 ++ tailI).take i2.length = i2 := List.take_left' rfl
      rw [if_neg (by simp), of_is hN (by omega), bindO_pure, lentTok_is hN (by omega), bindO_pure, lentTok_is hN (by omega), bindO_pure]
      have hC3 : m_ropewalklaw14_AgendaBetter_C3 N i1 (i1 ++ tailI) i2 (i2 ++ tailI) (s.map mkRl) r1 r2 = some true := by
        unfold m_ropewalklaw14_AgendaBetter_C3
        rw [gd_pos (by simp), gd_pos (by simp), e1, e2, pbetter_is hN (by omega) (by omega) (by omega), bindO_pure, rbetter_is hN (by omega) (by omega), bindO_pure, if_pos (by simp), gd_pos (by simp), gd_pos (by simp), pbetter_is hN (by omega) (by omega) (by omega), bindO_pure, rbetter_is hN (by omega) (by omega), bindO_pure]
        simp
      have hC4 : m_ropewalklaw14_AgendaBetter_C4 N true r1 (i1 ++ tailI) i1 r2 (i2 ++ tailI) i2 s (s.map mkRl) = some true := by
        unfold m_ropewalklaw14_AgendaBetter_C4
        rw [if_pos rfl, keptTok_is hN (by omega), bindO_pure, if_pos rfl, keptTok_is hN (by omega), bindO_pure, if_pos rfl, of_is hN (by omega), bindO_pure, sameRules_is hN (by omega), bindO_pure, if_pos rfl, pself_is hN (by omega) (by omega), bindO_pure, if_pos (by decide)]
      rw [hC3, bindO_pure, hC4, bindO_pure]
end
theorem agbet_arg {p : Prop} (s : List Int) (_ : p) (a : Api_TokenD) (ha : ok_Api_TokenD a) (b : Api_TokenD) (hb : ok_Api_TokenD b) : m_ropewalklaw14_AgendaBetter 9223372036854776808 s a.rule a.ids b.rule b.ids = some true :=
  agbet_is (by decide) ha.2.1 hb.2.1
end Go.Proofs.YtkliokdpcdhjcaaDoor
