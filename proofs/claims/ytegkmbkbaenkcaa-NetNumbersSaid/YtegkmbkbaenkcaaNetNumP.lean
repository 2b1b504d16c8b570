import Derived.Test.YtegkmbkbaenkcaaNetLivesP
namespace Go.Proofs.Ytegkmbkbaenkcaa
open Go Go.RowKit
section
variable {N : Nat}
def KX : Ky := (-9223372036854775808, 9223372036854775807)
def rowX (n : Nat) : List (List Int) := (List.range n).map fun i => [IntKind.wrap .u8 ((i : Nat) : Int)]
def envX (l : List (List Int)) : EnvG := [(KX, l)]
theorem bagX {l : List (List Int)} : bagE (envX l) KX = l := by simp [bagE, envX, mlook]
theorem putX {l m : List (List Int)} : mput KX m (envX l) = envX m := by simp [envX, mput]
theorem rowX_len {n : Nat} : (rowX n).length = n := by simp [rowX]
theorem iA : i64 (-9223372036854775808) := by decide
theorem iB : i64 9223372036854775807 := by decide
theorem sendX {l : List (List Int)} {b : List Int} (hl : l.length ≤ 1000) : m_net_Net_Send N (envX l) (-9223372036854775808) 9223372036854775807 b = some (if 1048576 < b.length then (3, envX l) else if 64 ≤ l.length then (5, envX l) else (0, envX (l ++ [b]))) := by
  have hb : bagE (envX l) (-9223372036854775808, 9223372036854775807) = l := bagX
  rw [send_is iA iB (by rw [hb]; omega)]
  unfold sendE sendC
  rw [hb]
  by_cases h1 : 1048576 < b.length
  · rw [if_pos h1, if_neg (by decide), if_pos h1]
  · rw [if_neg h1, if_neg h1]
    by_cases h2 : 64 ≤ l.length
    · rw [if_pos h2, if_neg (by decide), if_pos h2]
    · rw [if_neg h2, if_pos rfl, if_neg h2, show mput (-9223372036854775808, 9223372036854775807) (l ++ [b]) (envX l) = envX (l ++ [b]) from putX]
theorem atX {l : List (List Int)} {c : Int} : isAt (envX l) (-9223372036854775808, 9223372036854775807) c ↔ 0 ≤ c ∧ c.toNat < l.length := by
  unfold isAt
  rw [show bagE (envX l) (-9223372036854775808, 9223372036854775807) = l from bagX]
theorem takeX {l : List (List Int)} {c : Int} (hl : l.length ≤ 1000) (h1 : 1 < l.length) : m_net_Net_Take N (envX l) (-9223372036854775808) 9223372036854775807 c = some (if 0 ≤ c ∧ c.toNat < l.length then (l.getD c.toNat [], 0, envX (cutL l c.toNat)) else ([], 6, envX l)) := by
  have hb : bagE (envX l) (-9223372036854775808, 9223372036854775807) = l := bagX
  rw [take_is iA iB (by rw [hb]; omega)]
  by_cases h : 0 ≤ c ∧ c.toNat < l.length
  · rw [if_pos (atX.2 h), if_pos h, hb]
    unfold takeE
    rw [hb, if_neg (by unfold cutL; rw [List.length_append, List.length_take, List.length_drop]; omega), show mput (-9223372036854775808, 9223372036854775807) (cutL l c.toNat) (envX l) = envX (cutL l c.toNat) from putX]
  · rw [if_neg (fun q => h (atX.1 q)), if_neg h]
theorem dropX {l : List (List Int)} {c : Int} (hl : l.length ≤ 1000) (h1 : 1 < l.length) : m_net_Net_Drop N (envX l) (-9223372036854775808) 9223372036854775807 c = some (if 0 ≤ c ∧ c.toNat < l.length then (0, envX (cutL l c.toNat)) else (6, envX l)) := by
  unfold m_net_Net_Drop
  rw [takeX hl h1, bindO_pure]
  by_cases h : 0 ≤ c ∧ c.toNat < l.length
  · rw [if_pos h, if_pos h]
  · rw [if_neg h, if_neg h]
theorem doubleX {l : List (List Int)} {c : Int} (hl : l.length ≤ 1000) (h2 : ∀ b ∈ l, b.length ≤ 1048576) : m_net_Net_Double N (envX l) (-9223372036854775808) 9223372036854775807 c = some (if 0 ≤ c ∧ c.toNat < l.length then (if 64 ≤ l.length then (5, envX l) else (0, envX (l ++ [l.getD c.toNat []]))) else (6, envX l)) := by
  have hb : bagE (envX l) (-9223372036854775808, 9223372036854775807) = l := bagX
  rw [double_is iA iB (by rw [hb]; omega)]
  by_cases h : 0 ≤ c ∧ c.toNat < l.length
  · rw [if_pos (atX.2 h), if_pos h, hb]
    have hx : l.getD c.toNat [] ∈ l := by
      rw [List.getD_eq_getElem?_getD, List.getElem?_eq_getElem h.2]; exact List.getElem_mem h.2
    have hxl := h2 _ hx
    unfold sendE sendC
    rw [hb, if_neg (by omega)]
    by_cases h3 : 64 ≤ l.length
    · rw [if_pos h3, if_neg (by decide), if_pos h3]
    · rw [if_neg h3, if_pos rfl, if_neg h3, show mput (-9223372036854775808, 9223372036854775807) (l ++ [l.getD c.toNat []]) (envX l) = envX (l ++ [l.getD c.toNat []]) from putX]
  · rw [if_neg (fun q => h (atX.1 q)), if_neg h]
theorem rowX_small {n : Nat} : ∀ b ∈ rowX n, b.length ≤ 1048576 := fun b hb => by
  obtain ⟨i, _, rfl⟩ := List.mem_map.1 hb
  simp
theorem fill_is (hN : 9223372036854775808 ≤ N) : iter (m_ropewalklaw20_NetNumbers_L1 N) N (0, []) = some (.inl (envX (rowX 64))) := by
  obtain ⟨o, h1, h2⟩ := iter_inv (f := m_ropewalklaw20_NetNumbers_L1 N) (fun s => s.1 ≤ 64 ∧ s.2 = if s.1 = 0 then [] else envX (rowX s.1)) (fun s => 64 - s.1) (fun o => o = .inl (envX (rowX 64))) (fun s hs => by
    obtain ⟨i, e⟩ := s
    obtain ⟨q1, q2⟩ := hs
    simp only at q1 q2
    unfold m_ropewalklaw20_NetNumbers_L1
    simp only
    by_cases hi : i < 64
    · left
      refine ⟨(i + 1, envX (rowX (i + 1))), ?_, ⟨by simp only; omega, by simp only; rw [if_neg (by omega)]⟩, by simp only; omega⟩
      rw [if_pos (by simpa using hi)]
      have hs : m_net_Net_Send N e (-9223372036854775808) 9223372036854775807 [(IntKind.wrap .u8 ((i : Nat) : Int))] = some (0, envX (rowX (i + 1))) := by
        have hr : rowX (i + 1) = rowX i ++ [[(IntKind.wrap .u8 ((i : Nat) : Int))]] := by simp [rowX, List.range_succ]
        by_cases h0 : i = 0
        · rw [if_pos h0] at q2
          subst q2; subst h0
          rw [send_is iA iB (by simp [bagE, mlook])]
          simp [sendC, sendE, bagE, mlook, mput, envX, rowX, KX]
        · rw [if_neg h0] at q2
          subst q2
          rw [sendX (by rw [rowX_len]; omega), if_neg (by simp), if_neg (by rw [rowX_len]; omega), hr]
      rw [hs, bindO_pure]
      simp only
      rw [if_neg (by simp), gd_pos (by omega)]
    · right
      obtain rfl : i = 64 := by omega
      exact ⟨_, by rw [if_neg (by simp)], by rw [q2]; rfl⟩) N (0, []) ⟨by simp, rfl⟩ (by simp only; omega)
  rw [h1, h2]
theorem big_send {e : EnvG} {a b : Int} {l : List Int} (ha : i64 a) (hb : i64 b) (hl : 1048576 < l.length) : m_net_Net_Send N e a b l = some (3, e) := by
  unfold m_net_Net_Send m_net_Net_all m_net_bags_put
  rw [bindO_pure, if_pos (by simpa using hl), bindO_pure]
def Y0 : List (List Int) := rowX 64
def Y1 : List (List Int) := cutL Y0 63
def Y2 : List (List Int) := Y1 ++ [Y1.getD 62 []]
def Y3 : List (List Int) := cutL Y2 63
def Y4 : List (List Int) := cutL Y3 0
def Y5 : List (List Int) := cutL Y4 0
theorem Y_all : Y0.length = 64 ∧ Y1.length = 63 ∧ Y2.length = 64 ∧ Y3.length = 63 ∧ Y4.length = 62 ∧ Y5.length = 61 ∧ Y0.getD 63 [] = [63] ∧ Y2.getD 63 [] = [62] ∧ Y4.getD 0 [] = [1] := by decide
theorem numA_is (hN : 9223372036854775808 ≤ N) : m_ropewalklaw20_NetNumbers_C2 N (envX Y0) = some (envX Y0, false) := by
  obtain ⟨y0, y1, y2, y3, y4, y5, z0, z2, z4⟩ := Y_all
  have hs0 : ∀ b ∈ Y0, b.length ≤ 1048576 := rowX_small
  unfold m_ropewalklaw20_NetNumbers_C2
  rw [sendX (by omega), if_neg (by simp), if_pos (by omega), bindO_pure]
  simp only
  rw [if_neg (by simp), gd_pos (by omega), bindO_pure]
  generalize hz : List.replicate 1048577 (0 : Int) = z
  have hzl : z.length = 1048577 := by rw [← hz, List.length_replicate]
  rw [big_send iA iB (by omega), bindO_pure]
  simp only
  rw [if_neg (by simp), doubleX (by omega) hs0, if_pos ⟨by omega, by omega⟩, if_pos (by omega), bindO_pure]
  simp only
  rw [if_neg (by simp), doubleX (by omega) hs0, if_neg (fun h => by have := h.2; omega), bindO_pure]
  simp only
  rw [if_neg (by simp), count_is iA iB, bindO_pure, show bagE (envX Y0) (-9223372036854775808, 9223372036854775807) = Y0 from bagX, y0]
  rfl
def eB (z : List Int) : EnvG := [((1, 1), [z, []]), ((3, 2), [[]]), ((2, 3), [[]]), ((2, -3), [[]]), ((-1, 3), [[]])]
def eC : EnvG := [((2, 3), [[]]), ((2, -3), [[]]), ((-1, 3), [[]])]
theorem eB_inv (z : List Int) : InvG (eB z) := by
  refine ⟨by simp [eB], fun k l h => ?_⟩
  have hm := mlook_mem h
  simp [eB] at hm
  rcases hm with h | h | h | h | h <;> (rw [h.2]; simp)
theorem eC_inv : InvG eC := by
  refine ⟨by simp [eC], fun k l h => ?_⟩
  have hm := mlook_mem h
  simp [eC] at hm
  rcases hm with h | h | h <;> (rw [h.2]; simp)
theorem linksB (hN : 9223372036854775808 ≤ N) (z : List Int) : m_net_Net_Links N (eB z) = some [(-1, 3), (1, 1), (2, -3), (2, 3), (3, 2)] := by
  have hp : ([(-1, 3), (1, 1), (2, -3), (2, 3), (3, 2)] : List Ky).Perm ((eB z).map (·.1)) := by
    show ([(-1, 3), (1, 1), (2, -3), (2, 3), (3, 2)] : List Ky).Perm [(1, 1), (3, 2), (2, 3), (2, -3), (-1, 3)]
    decide
  exact links_is hN (eB_inv z) (by decide) (fun k => hp.mem_iff.trans (eB_inv z).mem) (by simp)
theorem linksC (hN : 9223372036854775808 ≤ N) : m_net_Net_Links N eC = some [(-1, 3), (2, -3), (2, 3)] := by
  have hp : ([(-1, 3), (2, -3), (2, 3)] : List Ky).Perm (eC.map (·.1)) := by
    show ([(-1, 3), (2, -3), (2, 3)] : List Ky).Perm [(2, 3), (2, -3), (-1, 3)]
    decide
  exact links_is hN eC_inv (by decide) (fun k => hp.mem_iff.trans eC_inv.mem) (by simp)
theorem send0 {e : EnvG} {a b : Int} (ha : i64 a) (hb : i64 b) (h : bagE e (a, b) = []) {l : List Int} (hl : l.length ≤ 1048576) : m_net_Net_Send N e a b l = some (0, mput (a, b) [l] e) := by
  rw [send_is ha hb (by rw [h]; simp)]
  have hc : sendC e (a, b) l = 0 := by unfold sendC; rw [if_neg (by omega), h, if_neg (by simp)]
  unfold sendE
  rw [hc, if_pos rfl, h]; rfl
theorem fillB {z : List Int} (hz : z.length = 1048576) : ∃ e1 e2 e3 e4 e5, m_net_Net_Send N [] 1 1 z = some (0, e1) ∧ m_net_Net_Send N e1 1 1 [] = some (0, e2) ∧ m_net_Net_Send N e2 3 2 [] = some (0, e3) ∧ m_net_Net_Send N e3 2 3 [] = some (0, e4) ∧ m_net_Net_Send N e4 2 (-3) [] = some (0, e5) ∧ m_net_Net_Send N e5 (-1) 3 [] = some (0, eB z) := by
  refine ⟨[((1, 1), [z])], [((1, 1), [z, []])], [((1, 1), [z, []]), ((3, 2), [[]])], [((1, 1), [z, []]), ((3, 2), [[]]), ((2, 3), [[]])], [((1, 1), [z, []]), ((3, 2), [[]]), ((2, 3), [[]]), ((2, -3), [[]])], ?_, ?_, ?_, ?_, ?_, ?_⟩
  · rw [send0 (by decide) (by decide) rfl (by omega)]; rfl
  · have hb : bagE [((1, 1), [z])] (1, 1) = [z] := by simp [bagE, mlook]
    rw [send_is (by decide) (by decide) (by rw [hb]; simp)]
    simp [sendE, sendC, hb, mput]
  · rw [send0 (by decide) (by decide) (by simp [bagE, mlook]) (by simp)]; simp [mput]
  · rw [send0 (by decide) (by decide) (by simp [bagE, mlook]) (by simp)]; simp [mput]
  · rw [send0 (by decide) (by decide) (by simp [bagE, mlook]) (by simp)]; simp [mput]
  · rw [send0 (by decide) (by decide) (by simp [bagE, mlook]) (by simp)]; simp [mput, eB]
theorem emptyB {z : List Int} : ∃ e1 e2 x, m_net_Net_Drop N (eB z) 3 2 0 = some (0, e1) ∧ m_net_Net_Take N e1 1 1 0 = some (z, 0, e2) ∧ m_net_Net_Take N e2 1 1 0 = some (x, 0, eC) := by
  have b1 : bagE (eB z) (3, 2) = [[]] := by simp [bagE, eB, mlook]
  have b2 : bagE [((1, 1), [z, []]), ((2, 3), [[]]), ((2, -3), [[]]), ((-1, 3), [[]])] (1, 1) = [z, []] := by simp [bagE, mlook]
  have b3 : bagE [((1, 1), [[]]), ((2, 3), [[]]), ((2, -3), [[]]), ((-1, 3), [[]])] (1, 1) = [[]] := by simp [bagE, mlook]
  refine ⟨[((1, 1), [z, []]), ((2, 3), [[]]), ((2, -3), [[]]), ((-1, 3), [[]])], [((1, 1), [[]]), ((2, 3), [[]]), ((2, -3), [[]]), ((-1, 3), [[]])], [], ?_, ?_, ?_⟩
  · rw [drop_is (by decide) (by decide) (by rw [b1]; simp), if_pos ⟨by decide, by rw [b1]; decide⟩]
    unfold takeE cutL
    rw [b1]
    simp [eB, mput, mdel]
  · rw [take_is (by decide) (by decide) (by rw [b2]; simp), if_pos ⟨by decide, by rw [b2]; simp⟩]
    simp [takeE, cutL, b2, mput]
  · rw [take_is (by decide) (by decide) (by rw [b3]; simp), if_pos ⟨by decide, by rw [b3]; simp⟩]
    simp [takeE, cutL, b3, mput, mdel, eC]
theorem num_is (hN : 9223372036854775808 ≤ N) : m_ropewalklaw20_NetNumbers N = some true := by
  obtain ⟨y0, y1, y2, y3, y4, y5, z0, z2, z4⟩ := Y_all
  unfold m_ropewalklaw20_NetNumbers
  rw [show m_net_New N = some () from rfl, bindO_pure, fill_is hN, bindS_inl, show envX (rowX 64) = envX Y0 from rfl, numA_is hN, bindO_pure]
  simp only
  have hs : ∀ b ∈ Y1, b.length ≤ 1048576 := fun b hb => by
    have : b ∈ Y0 := by
      unfold Y1 cutL at hb
      rcases List.mem_append.1 hb with h | h
      · exact List.mem_of_mem_take h
      · exact List.mem_of_mem_drop h
    exact rowX_small b this
  rw [if_neg (by simp), takeX (by omega) (by omega), if_neg (fun h => by have := h.2; omega), bindO_pure]
  simp only
  rw [takeX (by omega) (by omega), if_neg (fun h => by have := h.1; omega), bindO_pure]
  simp only
  rw [takeX (by omega) (by omega), if_pos ⟨by omega, by omega⟩, bindO_pure]
  simp only
  rw [show envX (cutL Y0 (63 : Int).toNat) = envX Y1 from rfl, doubleX (by omega) hs, if_pos ⟨by omega, by omega⟩, if_neg (by omega), bindO_pure]
  simp only
  rw [show envX (Y1 ++ [Y1.getD (62 : Int).toNat []]) = envX Y2 from rfl, takeX (by omega) (by omega), if_pos ⟨by omega, by omega⟩, bindO_pure]
  simp only
  rw [show envX (cutL Y2 (63 : Int).toNat) = envX Y3 from rfl, dropX (by omega) (by omega), if_pos ⟨by omega, by omega⟩, bindO_pure]
  simp only
  rw [show envX (cutL Y3 (0 : Int).toNat) = envX Y4 from rfl, takeX (by omega) (by omega), if_pos ⟨by omega, by omega⟩, bindO_pure]
  simp only
  rw [show envX (cutL Y4 (0 : Int).toNat) = envX Y5 from rfl, show Y0.getD (63 : Int).toNat [] = [63] from z0, show Y2.getD (63 : Int).toNat [] = [62] from z2, show Y4.getD (0 : Int).toNat [] = [1] from z4]
  have hC3 : m_ropewalklaw20_NetNumbers_C3 N 6 6 0 0 0 0 0 [63] [62] [1] (envX Y5) = some false := by
    unfold m_ropewalklaw20_NetNumbers_C3
    rw [if_neg (by simp), if_neg (by simp), if_neg (by simp), if_neg (by simp), if_neg (by simp), if_neg (by simp), if_neg (by simp), sameB_self hN (by simp), bindO_pure, if_neg (by simp), sameB_self hN (by simp), bindO_pure, if_neg (by simp), sameB_self hN (by simp), bindO_pure, if_neg (by simp), dropX (by omega) (by omega), if_neg (fun h => by have := h.2; omega), bindO_pure]
    simp only
    rw [if_neg (by simp), dropX (by omega) (by omega), if_neg (fun h => by have := h.1; omega), bindO_pure]
    rfl
  rw [hC3, bindO_pure, if_neg (by simp), bindO_pure]
  have hC4 : ∃ z, m_ropewalklaw20_NetNumbers_C4 N = some (eB z, false) := by
    unfold m_ropewalklaw20_NetNumbers_C4
    rw [gd_pos (by omega), bindO_pure]
    generalize hz : List.replicate 1048577 (0 : Int) = z
    have hzl : z.length = 1048577 := by rw [← hz, List.length_replicate]
    rw [big_send (by decide) (by decide) (by omega), bindO_pure]
    simp only
    rw [if_neg (by simp), gd_pos (by omega), bindO_pure]
    generalize hw : List.replicate 1048576 (0 : Int) = w
    have hwl : w.length = 1048576 := by rw [← hw, List.length_replicate]
    obtain ⟨e1, e2, e3, e4, e5, s1, s2, s3, s4, s5, s6⟩ := fillB (N := N) hwl
    rw [s1, bindO_pure]
    simp only
    rw [if_neg (by simp), s2, bindO_pure]
    simp only
    rw [if_neg (by simp), s3, bindO_pure]
    simp only
    rw [if_neg (by simp), s4, bindO_pure]
    simp only
    rw [if_neg (by simp), s5, bindO_pure]
    simp only
    rw [if_neg (by simp), s6, bindO_pure]
    exact ⟨w, rfl⟩
  obtain ⟨z, hz⟩ := hC4
  obtain ⟨e1, e2, x, t1, t2, t3⟩ := emptyB (N := N) (z := z)
  rw [hz, bindO_pure]
  simp only
  rw [if_neg (by simp), linksB hN, bindO_pure, linksame_is hN (by simp), bindO_pure, if_neg (by simp), t1, bindO_pure]
  simp only
  rw [t2, bindO_pure]
  simp only
  rw [t3, bindO_pure]
  simp only
  rw [linksC hN, bindO_pure, linksame_is hN (by simp), bindO_pure, if_pos rfl, awake_is hN, bindO_pure]
end
theorem netnum_arg : m_ropewalklaw20_NetNumbers 9223372036854775808 = some true := num_is (Nat.le_refl _)
end Go.Proofs.Ytegkmbkbaenkcaa
