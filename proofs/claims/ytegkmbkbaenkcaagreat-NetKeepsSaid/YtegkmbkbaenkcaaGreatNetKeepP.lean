import Derived.Test.YtegkmbkbaenkcaaGreatXM
import Derived.Test.YtegkmbkbaenkcaaGreatMapG
import Derived.Test.YtegkmbkbaenkcaaGreatPlain2
namespace Go.Proofs.YtegkmbkbaenkcaaGreat
open Go Go.RowKit
section
variable {N : Nat} (hN : 9223372036854775808 ≤ N)
include hN
def mB (z : Int) : Int := z_markByte 1 z
def tailB : List Int := (List.range 12).map fun i => mB ((i : Nat) : Int)
omit hN in
theorem tailB_len : tailB.length = 12 := by simp [tailB]
omit hN in
theorem tailB_at {i : Nat} (h : i < 12) : tailB[i]? = some (mB ((i : Nat) : Int)) := by simp [tailB, h]
theorem lentB_is {l : List Int} (hl : l.length ≤ 1000000) : m_ropewalkkit_LentBytes N l = some (l ++ tailB) := by
  unfold m_ropewalkkit_LentBytes
  rw [gd_pos (by omega), gd_pos (by omega), gd_pos (by simp; omega), iter_push 12 (fun i => mB ((i : Nat) : Int)) l (fun i hi => by
    unfold m_ropewalkkit_LentBytes_L1
    simp only
    rw [if_pos (by simpa using hi), show m_ropewalkkit_markByte N 1 ((i : Nat) : Int) = some () from rfl, bindO_pure, gd_pos (by simp; omega), gd_pos (by omega)]
    rfl) (by unfold m_ropewalkkit_LentBytes_L1; simp only; rw [if_neg (by simp)]) (by omega)]
  rw [bindO_pure, gd_pos (by simp)]; rfl
theorem keptB_is {l : List Int} (hl : l.length ≤ 1000000) : m_ropewalkkit_KeptBytes_W N (l ++ tailB) l.length l = some true := by
  unfold m_ropewalkkit_KeptBytes_W
  rw [if_neg (by simp), gd_pos (by omega), gd_pos (by simp [tailB_len]), iter_look (l.length + 12) (fun i hi => by
    unfold m_ropewalkkit_KeptBytes_W_L1 m_ropewalkkit_KeptBytes_W_C2
    rw [take_all tailB_len, if_pos (by simp [tailB_len]; omega)]
    by_cases h : i < l.length
    · rw [if_pos (by simpa using h), app_l h, bindO_pure, List.getElem?_eq_getElem h, bindO_pure, if_neg (by simp), if_neg (by simp; omega), bindO_pure, if_neg (by simp), gd_pos (by omega)]
    · rw [if_neg (by simpa using h), if_pos (by simp; omega), app_r (by omega), tailB_at (by omega), bindO_pure, gd_pos (by omega), show m_ropewalkkit_markByte N 1 (((i : Nat) : Int) - ((l.length : Nat) : Int)) = some () from rfl, bindO_pure, bindO_pure,
        if_neg (by rw [show (((i - l.length : Nat) : Int)) = ((i : Nat) : Int) - ((l.length : Nat) : Int) by omega]; simp [mB, z_markByte]), gd_pos (by omega)])
    (by unfold m_ropewalkkit_KeptBytes_W_L1; rw [take_all tailB_len, if_neg (by simp [tailB_len])]) (by omega)]
  rfl
theorem overB_is {l : List Int} {k : Nat} (hk : k + 12 ≤ l.length) (hl : l.length ≤ 1000000) : ∃ o, m_ropewalkkit_OverBytes_V N l k = some o := by
  unfold m_ropewalkkit_OverBytes_V
  rw [gd_pos (by omega), gd_pos hk]
  obtain ⟨o, h1, _⟩ := iter_inv (f := m_ropewalkkit_OverBytes_V_L1 N k) (fun s => s.1 ≤ k + 12 ∧ s.2.length = l.length) (fun s => k + 12 - s.1) (fun _ => True) (fun s hs => by
    obtain ⟨i, m⟩ := s
    obtain ⟨q1, q2⟩ := hs
    simp only at q1 q2
    unfold m_ropewalkkit_OverBytes_V_L1
    simp only
    by_cases hi : i < k + 12
    · left
      have hm : i < m.length := by omega
      exact ⟨_, by rw [if_pos (by simpa using hi), show m_ropewalkkit_markByte N 2 ((i : Nat) : Int) = some () from rfl, bindO_pure, List.getElem?_eq_getElem hm, bindO_pure, gd_pos hi, gd_pos (by omega)], ⟨by simp only; omega, by simpa using q2⟩, by simp only; omega⟩
    · right
      exact ⟨_, by rw [if_neg (by simpa using hi)], trivial⟩) N (0, l) ⟨by simp, rfl⟩ (by simp only; omega)
  exact ⟨o, h1⟩
theorem turnB_is {l : List Int} (hl : l.length ≤ 1000000) : ∃ o, m_ropewalkkit_TurnBytes_v2 N l = some o := by
  unfold m_ropewalkkit_TurnBytes_v2
  obtain ⟨o, h1, _⟩ := iter_inv (f := m_ropewalkkit_TurnBytes_v2_L1 N) (fun s => s.1 ≤ l.length ∧ s.2.length = l.length) (fun s => l.length - s.1) (fun _ => True) (fun s hs => by
    obtain ⟨i, m⟩ := s
    obtain ⟨q1, q2⟩ := hs
    simp only at q1 q2
    unfold m_ropewalkkit_TurnBytes_v2_L1
    simp only
    by_cases hi : i < m.length
    · left
      exact ⟨_, by rw [if_pos (by simpa using hi), List.getElem?_eq_getElem hi, bindO_pure, bindO_pure, gd_pos (by omega)], ⟨by simp only; omega, by simpa using q2⟩, by simp only; omega⟩
    · right
      exact ⟨_, by rw [if_neg (by simpa using hi)], trivial⟩) N (0, l) ⟨by simp, rfl⟩ (by simp only; omega)
  exact ⟨o, h1⟩
theorem sameB_self {l : List Int} (hl : l.length ≤ 1000000) : m_ropewalkkit_SameBytes N l l = some true := by
  unfold m_ropewalkkit_SameBytes
  rw [if_neg (by simp), iter_look l.length (fun i hi => by
    unfold m_ropewalkkit_SameBytes_L1
    rw [if_pos (by simpa using hi), List.getElem?_eq_getElem hi, bindO_pure, bindO_pure, if_neg (by simp), gd_pos (by omega)])
    (by unfold m_ropewalkkit_SameBytes_L1; rw [if_neg (by simp)]) (by omega)]
  rfl
abbrev EnvG := List ((Int × Int) × List (List Int))
def E1 (l : List (List Int)) : EnvG := [((1, 2), l)]
omit hN in
theorem lookE1 (l : List (List Int)) : (mlook ((1 : Int), (2 : Int)) (E1 l)).getD [] = l := by simp [E1, mlook]
omit hN in
theorem putE1 (l m : List (List Int)) : mput ((1 : Int), (2 : Int)) m (E1 l) = E1 m := by simp [E1, mput]
omit hN in
theorem at1 {l : List (List Int)} {n : Nat} (h : n < l.length) : m_net_bags_at N (E1 l) 1 2 ((n : Nat) : Int) = some 0 := by
  unfold m_net_bags_at
  rw [if_neg (by simp), gd_pos (by decide), gd_pos (by decide), bindO_pure, bindO_pure, lookE1, if_neg (by simp; omega)]
omit hN in
theorem send1 {l : List Int} (hl : l.length ≤ 10000) : m_net_Net_Send N [] 1 2 l = some (0, E1 [l]) := by
  unfold m_net_Net_Send m_net_Net_all m_net_bags_put
  rw [bindO_pure, if_neg (by simp; omega), gd_pos (by decide), gd_pos (by decide), bindO_pure, show (mlook ((1 : Int), (2 : Int)) ([] : EnvG)).getD [] = [] from rfl, if_neg (by simp), gd_pos (by omega), bindO_pure, gd_pos (by simp), bindO_pure]
  rfl
omit hN in
theorem double1 {l : List (List Int)} {n : Nat} {x : List Int} (hx : l[n]? = some x) (hl : x.length ≤ 10000) (h : l.length < 64) : m_net_Net_Double N (E1 l) 1 2 ((n : Nat) : Int) = some (0, E1 (l ++ [x])) := by
  unfold m_net_Net_Double m_net_Net_all
  have hn := (List.getElem?_eq_some_iff.1 hx).1
  rw [bindO_pure, at1 hn, bindO_pure, if_neg (by simp), bindO_pure, bindO_pure, gd_pos (by decide), gd_pos (by decide), bindO_pure, gd_pos (by omega), lookE1, Int.toNat_natCast, hx, bindO_pure, gd_pos (by omega), gd_pos h, putE1]
omit hN in
theorem take1 {l : List (List Int)} {x : List Int} (h : l.length < 64) : ∃ e, m_net_Net_Take N (E1 (x :: l)) 1 2 0 = some (x, 0, e) ∧ (l ≠ [] → e = E1 l) := by
  unfold m_net_Net_Take m_net_Net_all m_net_bags_take
  have := at1 (N := N) (l := x :: l) (n := 0) (by simp)
  rw [bindO_pure, show ((0 : Int)) = ((0 : Nat) : Int) from rfl, this, bindO_pure, if_neg (by simp), gd_pos (by decide), gd_pos (by decide), bindO_pure, gd_pos (by omega), lookE1, Int.toNat_natCast, show (x :: l)[0]? = some x from rfl, bindO_pure, gd_pos (by decide), gd_pos (by omega), gd_pos (by simp)]
  simp only [List.take_zero, List.nil_append, Nat.zero_add, List.drop_succ_cons, List.drop_zero]
  by_cases hl : l = []
  · rw [if_pos (by simp [hl]), bindO_pure]
    exact ⟨_, rfl, fun h => absurd hl h⟩
  · rw [if_neg (by simpa using hl), bindO_pure, putE1]
    exact ⟨_, rfl, fun _ => rfl⟩
theorem keeps_is {l0 : List Int} : m_ropewalklaw20_NetKeeps N l0 = some true := by
  unfold m_ropewalklaw20_NetKeeps
  by_cases h : 10000 < l0.length
  · rw [if_pos (by simpa using h)]
  · have h0 : l0.length ≤ 10000 := by omega
    rw [if_neg (by simpa using h), show m_net_New N = some () from rfl, bindO_pure, lentB_is hN (by omega), bindO_pure, gd_pos (by simp), List.take_left' rfl, send1 h0, bindO_pure]
    dsimp only
    have d1 : m_net_Net_Double N (E1 [l0]) 1 2 0 = some (0, E1 [l0, l0]) := double1 (l := [l0]) (n := 0) (x := l0) rfl h0 (by simp)
    have d2 : m_net_Net_Double N (E1 [l0, l0]) 1 2 1 = some (0, E1 [l0, l0, l0]) := double1 (l := [l0, l0]) (n := 1) (x := l0) rfl h0 (by simp)
    rw [d1, bindO_pure]
    dsimp only
    rw [d2, bindO_pure]
    dsimp only
    rw [keptB_is hN (by omega), bindO_pure, if_neg (by simp)]
    obtain ⟨o, ho⟩ := overB_is hN (l := l0 ++ tailB) (k := l0.length) (by simp [tailB_len]) (by simp [tailB_len]; omega)
    obtain ⟨e1, t1, q1⟩ := take1 (N := N) (l := [l0, l0]) (x := l0) (by simp)
    obtain ⟨e2, t2, q2⟩ := take1 (N := N) (l := [l0]) (x := l0) (by simp)
    obtain ⟨e3, t3, _⟩ := take1 (N := N) (l := []) (x := l0) (by simp)
    rw [q1 (by simp)] at t1
    rw [q2 (by simp)] at t2
    rw [ho, bindO_pure, t1, bindO_pure]
    dsimp only
    rw [t2, bindO_pure]
    dsimp only
    rw [sameB_self hN (by omega), bindO_pure, if_neg (by simp), gd_pos ⟨by simp, by simp; omega⟩, bindO_pure]
    dsimp only
    rw [if_neg (by simp)]
    obtain ⟨o1, ho1⟩ := turnB_is hN (l := (List.range l0.length).map (fun i => z_markByte ((0 : Nat) : Int) ((i : Nat) : Int))) (by simp; omega)
    obtain ⟨o2, ho2⟩ := turnB_is hN (l := (List.range l0.length).map (fun i => z_markByte ((1 : Nat) : Int) ((i : Nat) : Int))) (by simp; omega)
    rw [ho1, bindO_pure, ho2, bindO_pure, t3, bindO_pure]
    dsimp only
    rw [if_pos (by simp), sameB_self hN (by omega), bindO_pure, if_pos rfl]
end
theorem netkeep_arg {p : Prop} (l0 : List Int) (_ : p) : m_ropewalklaw20_NetKeeps 9223372036854775808 l0 = some true := keeps_is (Nat.le_refl _)
end Go.Proofs.YtegkmbkbaenkcaaGreat
