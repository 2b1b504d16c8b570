import Derived.Test.YtalbennlmcpnmaaGreatXM
import Derived.Test.YtalbennlmcpnmaaGreatPlain2
namespace Go.Proofs.YtalbennlmcpnmaaGreat
open Go.RowKit
section values
variable {N : Nat} {l : List V}
def mkV (z : Int) : V := ⟨0, IntKind.wrap .i64 ((IntKind.wrap .i64 (1000003 * (IntKind.wrap .i64 (1 + 7)))) + z), (⟨#[]⟩ : ByteArray)⟩
def tailV : List V := (List.range 12).map fun i => mkV ((i : Nat) : Int)
theorem tailV_len : tailV.length = 12 := by simp [tailV]
theorem tailV_at {i : Nat} (h : i < 12) : tailV[i]? = some (mkV ((i : Nat) : Int)) := by simp [tailV, h]
theorem lentValues_is (hN : 100 ≤ N) (hl : l.length ≤ 1000000000) : m_ropewalkkit_LentValues N l = some (l ++ tailV) := by
  unfold m_ropewalkkit_LentValues
  rw [gd_pos (by omega), gd_pos (by omega), gd_pos (by simp; omega), iter_push 12 (fun i => mkV ((i : Nat) : Int)) l (fun i hi => by
    unfold m_ropewalkkit_LentValues_L1
    simp only
    rw [if_pos (by simpa using hi), show m_ropewalkkit_markValue N 1 ((i : Nat) : Int) = some () from rfl, bindO_pure, gd_pos (by simp; omega), gd_pos (by omega)]
    rfl) (by unfold m_ropewalkkit_LentValues_L1; simp only; rw [if_neg (by simp)]) (by omega)]
  rw [bindO_pure, gd_pos (by simp)]; rfl
theorem keptValues_is (hN : 2000000000 ≤ N) (hl : l.length ≤ 1000000000) : m_ropewalkkit_KeptValues_W N (l ++ tailV) l.length l = some true := by
  unfold m_ropewalkkit_KeptValues_W
  rw [if_neg (by simp), gd_pos (by omega), gd_pos (by simp [tailV_len]), iter_look (l.length + 12) (fun i hi => by
    unfold m_ropewalkkit_KeptValues_W_L1 m_ropewalkkit_KeptValues_W_C2
    rw [take_all tailV_len, if_pos (by simp [tailV_len]; omega)]
    by_cases h : i < l.length
    · rw [if_pos (by simpa using h), app_l h, bindO_pure, List.getElem?_eq_getElem h, bindO_pure, if_neg (by simp), if_neg (by simp; omega), bindO_pure, if_neg (by simp), gd_pos (by omega)]
    · rw [if_neg (by simpa using h), if_pos (by simp; omega), app_r (by omega), tailV_at (by omega), bindO_pure, gd_pos (by omega), show m_ropewalkkit_markValue N 1 (((i : Nat) : Int) - ((l.length : Nat) : Int)) = some () from rfl, bindO_pure, bindO_pure,
        if_neg (by rw [show (((i - l.length : Nat) : Int)) = ((i : Nat) : Int) - ((l.length : Nat) : Int) by omega]; simp [mkV]), gd_pos (by omega)])
    (by unfold m_ropewalkkit_KeptValues_W_L1; rw [take_all tailV_len, if_neg (by simp [tailV_len])]) (by omega)]
  rfl
theorem sameValuesW_is {t : List V} (hN : 2000000000 ≤ N) (hl : l.length ≤ 1000000000) : m_ropewalkkit_SameValues_W N (l ++ t) l.length l = some true := by
  unfold m_ropewalkkit_SameValues_W
  rw [if_neg (by simp), iter_look l.length (fun i hi => by
    unfold m_ropewalkkit_SameValues_W_L1
    rw [if_pos (by simpa using hi), gd_pos hi, app_l hi, bindO_pure, List.getElem?_eq_getElem hi, bindO_pure, if_neg (by simp), gd_pos (by omega)])
    (by unfold m_ropewalkkit_SameValues_W_L1; rw [if_neg (by simp)]) (by omega)]
  rfl
theorem overValues_is {k : Nat} (hN : 2000000000 ≤ N) (hl : l.length ≤ 1000000012) (hk : k + 12 ≤ l.length) : ∃ o, m_ropewalkkit_OverValues_V N l k = some o ∧ o.length = l.length := by
  unfold m_ropewalkkit_OverValues_V
  rw [gd_pos (by omega), gd_pos hk]
  refine iter_inv (f := m_ropewalkkit_OverValues_V_L1 N k) (fun s => s.1 ≤ k + 12 ∧ s.2.length = l.length) (fun s => k + 12 - s.1) (fun o => o.length = l.length) (fun s hs => ?_) N (0, l) ⟨Nat.zero_le _, rfl⟩ (by simp only; omega)
  obtain ⟨i, m⟩ := s
  obtain ⟨hi, hm⟩ := hs
  simp only at hi hm
  unfold m_ropewalkkit_OverValues_V_L1
  simp only
  by_cases h : i < k + 12
  · left
    refine ⟨_, by rw [if_pos (by simpa using h), show m_ropewalkkit_markValue N 2 ((i : Nat) : Int) = some () from rfl, bindO_pure, List.getElem?_eq_getElem (by omega), bindO_pure, gd_pos h, gd_pos (by omega)], ⟨by simp only; omega, by simpa using hm⟩, by simp only; omega⟩
  · right
    exact ⟨m, by rw [if_neg (by simpa using h)], hm⟩
end values
section facts
variable {N : Nat} {l : List FactD}
theorem lentFact_is {f : FactD} (hN : 100 ≤ N) (hl : f.args.length ≤ 1000000000) : m_ropewalkkit_LentFact N f.id f.ty f.args = some (f.args ++ tailV) := by
  unfold m_ropewalkkit_LentFact
  rw [lentValues_is hN hl]; rfl
theorem sameFactW_is {f : FactD} (hN : 2000000000 ≤ N) (hl : f.args.length ≤ 1000000000) : m_ropewalkkit_SameFact_W N f.id f.ty (f.args ++ tailV) f.args.length f.id f.ty f.args = some true := by
  unfold m_ropewalkkit_SameFact_W
  rw [if_pos (by simp), if_pos (by simp), sameValuesW_is hN hl]; rfl
theorem keptFact_is {f : FactD} (hN : 2000000000 ≤ N) (hl : f.args.length ≤ 1000000000) : m_ropewalkkit_KeptFact_W N f.id f.ty (f.args ++ tailV) f.args.length f.id f.ty f.args = some true := by
  unfold m_ropewalkkit_KeptFact_W
  rw [sameFactW_is hN hl, bindO_pure, if_pos rfl, keptValues_is hN hl]; rfl
theorem overFact_is {x : FactDS} (hN : 2000000000 ≤ N) (hx : x.argsT.length = 12 ∧ x.args.length ≤ 1000000000) : ∃ o, m_ropewalkkit_OverFact_V N x.id x.ty (x.args ++ x.argsT) x.args.length = some o := by
  unfold m_ropewalkkit_OverFact_V
  obtain ⟨o, h, _⟩ := overValues_is (N := N) (l := x.args ++ x.argsT) (k := x.args.length) hN (by simp; omega) (by simp; omega)
  exact ⟨o, by rw [h]; rfl⟩
end facts
end Go.Proofs.YtalbennlmcpnmaaGreat
