import Derived.Test.YthmkahbkhoijbaaGreatDoorXM
import Derived.Test.YthmkahbkhoijbaaGreatDoorPlain2
namespace Go.Proofs.YthmkahbkhoijbaaGreatDoor
open Go.RowKit
section values
variable {N : Nat} {l : List V}
def mkV (z : Int) : V := ⟨0, IntKind.wrap .i64 ((IntKind.wrap .i64 (1000003 * (IntKind.wrap .i64 (1 + 7)))) + z), (⟨#[]⟩ : ByteArray)⟩
def tailV : List V := (List.range 12).map fun i => mkV ((i : Nat) : Int)
theorem tailV_len : tailV.length = 12 := by simp [tailV]
theorem tailV_at {i : Nat} (h : i < 12) : tailV[i]? = some (mkV ((i : Nat) : Int)) := by simp [tailV, h]
theorem lentValues_is (hN : 100 ≤ N) (hl : l.length ≤ 1000000000) : m_ropewalkkit_LentValues N l = some (l ++ tailV) := by
  unfold m_ropewalkkit_LentValues
  rw [gd_pos (by omega), gd_pos (by omega), gd_pos (by simp; omega), iter_push 12 (fun i => mkV ((i : Nat) : Int)) l (fun i hi => by
    unfold m_ropewalkkit_LentValues_L1
    simp only
    rw [if_pos (by simpa using hi), show m_ropewalkkit_markValue N 1 ((i : Nat) : Int) = some () from rfl, bindO_pure, gd_pos (by simp; omega), gd_pos (by omega)]
    rfl) (by unfold m_ropewalkkit_LentValues_L1; simp only; rw [if_neg (by simp)]) (by omega)]
  rw [bindO_pure, gd_pos (by simp)]; rfl
theorem keptValues_is (hN : 2000000000 ≤ N) (hl : l.length ≤ 1000000000) : m_ropewalkkit_KeptValues_W N (l ++ tailV) l.length l = some true := by
  unfold m_ropewalkkit_KeptValues_W
  rw [if_neg (by simp), gd_pos (by omega), gd_pos (by simp [tailV_len]), iter_look (l.length + 12) (fun i hi => by
    unfold m_ropewalkkit_KeptValues_W_L1 m_ropewalkkit_KeptValues_W_C2
    rw [take_all tailV_len, if_pos (by simp [tailV_len]; omega)]
    by_cases h : i < l.length
    · rw [if_pos (by simpa using h), app_l h, bindO_pure, List.getElem?_eq_getElem h, bindO_pure, if_neg (by simp), if_neg (by simp; omega), bindO_pure, if_neg (by simp), gd_pos (by omega)]
    · rw [if_neg (by simpa using h), if_pos (by simp; omega), app_r (by omega), tailV_at (by omega), bindO_pure, gd_pos (by omega), show m_ropewalkkit_markValue N 1 (((i : Nat) : Int) - ((l.length : Nat) : Int)) = some () from rfl, bindO_pure, bindO_pure,
        if_neg (by rw [show (((i - l.length : Nat) : Int)) = ((i : Nat) : Int) - ((l.length : Nat) : Int) by omega]; simp [mkV]), gd_pos (by omega)])
    (by unfold m_ropewalkkit_KeptValues_W_L1; rw [take_all tailV_len, if_neg (by simp [tailV_len])]) (by omega)]
  rfl
theorem sameValuesW_is {t : List V} (hN : 2000000000 ≤ N) (hl : l.length ≤ 1000000000) : m_ropewalkkit_SameValues_W N (l ++ t) l.length l = some true := by
  unfold m_ropewalkkit_SameValues_W
  rw [if_neg (by simp), iter_look l.length (fun i hi => by
    unfold m_ropewalkkit_SameValues_W_L1
    rw [if_pos (by simpa using hi), gd_pos hi, app_l hi, bindO_pure, List.getElem?_eq_getElem hi, bindO_pure, if_neg (by simp), gd_pos (by omega)])
    (by unfold m_ropewalkkit_SameValues_W_L1; rw [if_neg (by simp)]) (by omega)]
  rfl
theorem overValues_is {k : Nat} (hN : 2000000000 ≤ N) (hl : l.length ≤ 1000000012) (hk : k + 12 ≤ l.length) : ∃ o, m_ropewalkkit_OverValues_V N l k = some o ∧ o.length = l.length := by
  unfold m_ropewalkkit_OverValues_V
  rw [gd_pos (by omega), gd_pos hk]
  refine iter_inv (f := m_ropewalkkit_OverValues_V_L1 N k) (fun s => s.1 ≤ k + 12 ∧ s.2.length = l.length) (fun s => k + 12 - s.1) (fun o => o.length = l.length) (fun s hs => ?_) N (0, l) ⟨Nat.zero_le _, rfl⟩ (by simp only; omega)
  obtain ⟨i, m⟩ := s
  obtain ⟨hi, hm⟩ := hs
  simp only at hi hm
  unfold m_ropewalkkit_OverValues_V_L1
  simp only
  by_cases h : i < k + 12
  · left
    refine ⟨_, by rw [if_pos (by simpa using h), show m_ropewalkkit_markValue N 2 ((i : Nat) : Int) = some () from rfl, bindO_pure, List.getElem?_eq_getElem (by omega), bindO_pure, gd_pos h, gd_pos (by omega)], ⟨by simp only; omega, by simpa using hm⟩, by simp only; omega⟩
  · right
    exact ⟨m, by rw [if_neg (by simpa using h)], hm⟩
end values
section facts
variable {N : Nat} {l : List FactD}
def sF (f : FactD) : FactDS := ⟨f.id, f.ty, f.args, tailV⟩
def mkF (z : Int) : FactDS := ⟨IntKind.wrap .i64 ((IntKind.wrap .i64 (1000003 * (IntKind.wrap .i64 (1 + 7)))) + z), 0, [], []⟩
def tailF : List FactDS := (List.range 12).map fun i => mkF ((i : Nat) : Int)
theorem tailF_len : tailF.length = 12 := by simp [tailF]
theorem tailF_at {i : Nat} (h : i < 12) : tailF[i]? = some (mkF ((i : Nat) : Int)) := by simp [tailF, h]
def lF (l : List FactD) : List FactDS := l.map sF ++ tailF
theorem lF_len : (lF l).length = l.length + 12 := by simp [lF, tailF_len]
theorem lF_at {i : Nat} (h : i < l.length) : (lF l)[i]? = some (sF l[i]) := by unfold lF; rw [List.getElem?_append_left (by simpa using h)]; simp [h]
theorem lF_tail {i : Nat} (h : l.length ≤ i) (h2 : i < l.length + 12) : (lF l)[i]? = some (mkF (((i : Nat) : Int) - ((l.length : Nat) : Int))) := by
  unfold lF
  rw [List.getElem?_append_right (by simpa using h), List.length_map, tailF_at (by omega)]
  congr 2; omega
def okF (l : List FactD) : Prop := l.length ≤ 1000000000 ∧ ∀ f ∈ l, f.args.length ≤ 1000000000
theorem lentFact_is {f : FactD} (hN : 100 ≤ N) (hl : f.args.length ≤ 1000000000) : m_ropewalkkit_LentFact N f.id f.ty f.args = some (f.args ++ tailV) := by
  unfold m_ropewalkkit_LentFact
  rw [lentValues_is hN hl]; rfl
theorem lentFacts_is (hN : 2000000000 ≤ N) (hl : okF l) : m_ropewalkkit_LentFacts N l = some (lF l) := by
  obtain ⟨h1, h2⟩ := hl
  unfold m_ropewalkkit_LentFacts
  rw [gd_pos (by omega), gd_pos (by omega), iter_push l.length (fun i => sF (l.getD i ⟨0, 0, []⟩)) [] (fun i hi => by
    unfold m_ropewalkkit_LentFacts_L1
    simp only
    rw [if_pos (by simpa using hi), List.getElem?_eq_getElem hi, bindO_pure, lentFact_is (by omega) (h2 _ (List.getElem_mem hi)), bindO_pure, gd_pos (by simp), gd_pos (by simp; omega), gd_pos (by omega)]
    simp [sF, hi]) (by unfold m_ropewalkkit_LentFacts_L1; simp only; rw [if_neg (by simp)]) (by omega), bindO_pure, List.nil_append, map_range l sF ⟨0, 0, []⟩, iter_push 12 (fun i => mkF ((i : Nat) : Int)) (l.map sF) (fun i hi => by
    unfold m_ropewalkkit_LentFacts_L2
    simp only
    rw [if_pos (by simpa using hi), show m_ropewalkkit_markFact N 1 ((i : Nat) : Int) = some () from rfl, bindO_pure, gd_pos (by simp; omega), gd_pos (by omega)]
    rfl) (by unfold m_ropewalkkit_LentFacts_L2; simp only; rw [if_neg (by simp)]) (by omega), bindO_pure, gd_pos (by simp)]
  rfl
theorem sameFactW_is {f : FactD} (hN : 2000000000 ≤ N) (hl : f.args.length ≤ 1000000000) : m_ropewalkkit_SameFact_W N f.id f.ty (f.args ++ tailV) f.args.length f.id f.ty f.args = some true := by
  unfold m_ropewalkkit_SameFact_W
  rw [if_pos (by simp), if_pos (by simp), sameValuesW_is hN hl]; rfl
theorem keptFact_is {f : FactD} (hN : 2000000000 ≤ N) (hl : f.args.length ≤ 1000000000) : m_ropewalkkit_KeptFact_W N f.id f.ty (f.args ++ tailV) f.args.length f.id f.ty f.args = some true := by
  unfold m_ropewalkkit_KeptFact_W
  rw [sameFactW_is hN hl, bindO_pure, if_pos rfl, keptValues_is hN hl]; rfl
theorem markFact_same {z : Int} (hN : 2000000000 ≤ N) : m_ropewalkkit_SameFact_W N (mkF z).id (mkF z).ty ((mkF z).args ++ (mkF z).argsT) (mkF z).args.length (mkF z).id 0 [] = some true := by
  have := sameFactW_is (N := N) (f := ⟨(mkF z).id, 0, []⟩) hN (by simp)
  unfold m_ropewalkkit_SameFact_W at this ⊢
  rw [if_pos (by simp), if_pos (by simp [mkF])]
  have h := sameValuesW_is (N := N) (l := []) (t := []) hN (by simp)
  simp only [mkF, List.append_nil, List.length_nil] at h ⊢
  rw [h]; rfl
theorem keptFacts_is (hN : 2000000000 ≤ N) (hl : okF l) : m_ropewalkkit_KeptFacts_W N (lF l) l.length l = some true := by
  obtain ⟨h1, h2⟩ := hl
  have ht : (lF l).take (l.length + 12) = lF l := List.take_of_length_le (by rw [lF_len]; omega)
  unfold m_ropewalkkit_KeptFacts_W
  rw [if_neg (by simp), gd_pos (by omega), gd_pos (by rw [lF_len]; omega), iter_look (l.length + 12) (fun i hi => by
    unfold m_ropewalkkit_KeptFacts_W_L1 m_ropewalkkit_KeptFacts_W_C2
    rw [ht, if_pos (by rw [lF_len]; simpa using hi)]
    by_cases h : i < l.length
    · rw [if_pos (by simpa using h), lF_at h, bindO_pure, List.getElem?_eq_getElem h, bindO_pure, show m_ropewalkkit_KeptFact_W N (sF l[i]).id (sF l[i]).ty ((sF l[i]).args ++ (sF l[i]).argsT) (sF l[i]).args.length l[i].id l[i].ty l[i].args = some true from keptFact_is hN (h2 _ (List.getElem_mem h)), bindO_pure, if_neg (by simp), if_neg (by simp; omega), bindO_pure, if_neg (by simp), gd_pos (by omega)]
    · rw [if_neg (by simpa using h), if_pos (by simp; omega), lF_tail (by omega) hi, bindO_pure, gd_pos (by omega), show m_ropewalkkit_markFact N 1 (((i : Nat) : Int) - ((l.length : Nat) : Int)) = some () from rfl, bindO_pure]
      have := markFact_same (N := N) (z := ((i : Nat) : Int) - ((l.length : Nat) : Int)) hN
      simp only [mkF] at this ⊢
      rw [this, bindO_pure, bindO_pure, if_neg (by simp), gd_pos (by omega)])
    (by unfold m_ropewalkkit_KeptFacts_W_L1; rw [ht, if_neg (by rw [lF_len]; simp)]) (by omega)]
  rfl
theorem overFact_is {x : FactDS} (hN : 2000000000 ≤ N) (hx : x.argsT.length = 12 ∧ x.args.length ≤ 1000000000) : ∃ o, m_ropewalkkit_OverFact_V N x.id x.ty (x.args ++ x.argsT) x.args.length = some o := by
  unfold m_ropewalkkit_OverFact_V
  obtain ⟨o, h, _⟩ := overValues_is (N := N) (l := x.args ++ x.argsT) (k := x.args.length) hN (by simp; omega) (by simp; omega)
  exact ⟨o, by rw [h]; rfl⟩
theorem overFacts_is (hN : 2000000000 ≤ N) (hl : okF l) : ∃ o, m_ropewalkkit_OverFacts_V N (lF l) l.length = some o ∧ o.length = (lF l).length := by
  obtain ⟨h1, h2⟩ := hl
  have hlen := lF_len (l := l)
  obtain ⟨m, g1, g2⟩ := iter_inv (f := m_ropewalkkit_OverFacts_V_L1 N l.length) (fun s => s.1 ≤ l.length ∧ s.2.length = (lF l).length ∧ ∀ j, s.1 ≤ j → j < l.length → s.2[j]? = (lF l)[j]?) (fun s => l.length - s.1) (fun o => o.length = (lF l).length) (fun s hs => by
    obtain ⟨i, m⟩ := s
    obtain ⟨hi, hm, hj⟩ := hs
    simp only at hi hm hj
    unfold m_ropewalkkit_OverFacts_V_L1
    simp only
    by_cases h : i < l.length
    · left
      obtain ⟨o, ho⟩ := overFact_is (N := N) (x := sF l[i]) hN ⟨by simp [sF, tailV_len], h2 _ (List.getElem_mem h)⟩
      refine ⟨_, by rw [if_pos (by simpa using h), hj i (Nat.le_refl _) h, lF_at h, bindO_pure, gd_pos h, ho, bindO_pure, gd_pos (by omega)], ⟨by simp only; omega, by simpa using hm, fun j hij hjl => ?_⟩, by simp only; omega⟩
      simp only at hij ⊢
      rw [List.getElem?_set_ne (by omega)]; exact hj j (by omega) hjl
    · right
      exact ⟨m, by rw [if_neg (by simpa using h)], hm⟩) N (0, lF l) ⟨Nat.zero_le _, rfl, fun _ _ _ => rfl⟩ (by simp only; omega)
  unfold m_ropewalkkit_OverFacts_V
  rw [g1, bindO_pure, gd_pos (by omega), gd_pos (by omega)]
  refine iter_inv (f := m_ropewalkkit_OverFacts_V_L2 N l.length) (fun s => s.1 ≤ l.length + 12 ∧ s.2.length = (lF l).length) (fun s => l.length + 12 - s.1) (fun o => o.length = (lF l).length) (fun s hs => ?_) N (0, m) ⟨Nat.zero_le _, g2⟩ (by simp only; omega)
  obtain ⟨i, q⟩ := s
  obtain ⟨hi, hm⟩ := hs
  simp only at hi hm
  unfold m_ropewalkkit_OverFacts_V_L2
  simp only
  by_cases h : i < l.length + 12
  · left
    refine ⟨_, by rw [if_pos (by simpa using h), show m_ropewalkkit_markFact N 2 ((i : Nat) : Int) = some () from rfl, bindO_pure, List.getElem?_eq_getElem (by omega), bindO_pure, gd_pos h, gd_pos (by omega)], ⟨by simp only; omega, by simpa using hm⟩, by simp only; omega⟩
  · right
    exact ⟨q, by rw [if_neg (by simpa using h)], hm⟩
theorem copyFacts_is (hN : 2000000000 ≤ N) (hl : okF l) : m_ropewalkkit_CopyFacts N l = some l := by
  obtain ⟨h1, h2⟩ := hl
  unfold m_ropewalkkit_CopyFacts
  rw [iter_push l.length (fun i => l.getD i ⟨0, 0, []⟩) [] (fun i hi => by
    unfold m_ropewalkkit_CopyFacts_L1 m_ropewalkkit_CopyFact m_ropewalkkit_CopyValues
    have := h2 _ (List.getElem_mem hi)
    simp only
    rw [if_pos (by simpa using hi), List.getElem?_eq_getElem hi, bindO_pure, gd_pos (by simp; omega), bindO_pure, bindO_pure, gd_pos (by simp; omega), gd_pos (by omega)]
    simp [hi]) (by unfold m_ropewalkkit_CopyFacts_L1; simp only; rw [if_neg (by simp)]) (by omega)]
  rw [bindO_pure, List.nil_append]
  have := map_range l (fun x => x) ⟨0, 0, []⟩
  rw [this, List.map_id']
end facts
end Go.Proofs.YthmkahbkhoijbaaGreatDoor
