import Derived.Test.YtalbennlmcpnmaaGreatPatMQ
namespace Go.Proofs.YtalbennlmcpnmaaGreat
open Go Go.RowKit
theorem pm_at (a0 a1 : Int) (l2 : List ArgD) (a10 a11 : Int) (l12 : List V) (l13 : List Bool) (l14 : List V) : m_ropewalklaw10_PatternMatches 9223372036854778808 a0 a1 l2 0 0 0 (⟨#[]⟩ : ByteArray) 0 0 ([] : List Api_ExprD) a10 a11 l12 l13 l14 = some true :=
  patmatch_is (Nat.le_refl _) pawake_is a0 a1 l2 ⟨0, ⟨0, 0, ⟨#[]⟩⟩, 0, 0, []⟩ a10 a11 l12 l13 l14 ⟨fun y hy => by simp at hy, by simp⟩
def numsP : List Int := [-9223372036854775808, -1, 0, 1, 2, 16, 17, 9223372036854775807]
theorem numsP_at {i : Nat} (h : i < 8) : ∃ x, numsP[i]? = some x := ⟨_, List.getElem?_eq_getElem (by simpa [numsP] using h)⟩
def valsP : List V := [(⟨0, 0, (⟨#[]⟩ : ByteArray)⟩ : V), (⟨1, 1, (⟨#[]⟩ : ByteArray)⟩ : V), (⟨1, 2, (⟨#[]⟩ : ByteArray)⟩ : V), (⟨2, 0, (⟨#[97]⟩ : ByteArray)⟩ : V), (⟨1, 1, (⟨#[97]⟩ : ByteArray)⟩ : V)]
theorem valsP_at {i : Nat} (h : i < 5) : ∃ x, valsP[i]? = some x := ⟨_, List.getElem?_eq_getElem (by simpa [valsP] using h)⟩
theorem new_both (x : Int) : ∃ h v, m_pattern_New 9223372036854778808 x = some (h, v) ∧ m_ropewalkref10_New 9223372036854778808 x = some (h, v) ∧ h.length ≤ 1000000 ∧ v.length ≤ 1000000 := by
  unfold m_pattern_New m_ropewalkref10_New
  rw [ite_or, bindO_pure]
  by_cases h : x < 0 ∨ x > 16
  · have e : (decide (x < 0) || decide (x > 16)) = true := by simpa using h
    rw [e, if_pos rfl]
    exact ⟨[], [], rfl, rfl, by simp, by simp⟩
  · have e : (decide (x < 0) || decide (x > 16)) = false := by
      rw [Bool.eq_false_iff]; simpa using h
    rw [e, if_neg (by simp), gd_pos (by omega), gd_pos (by omega), gd_pos (by omega), gd_pos (by omega)]
    exact ⟨_, _, rfl, rfl, by simp; omega, by simp; omega⟩
theorem pnumL1_is : iter (m_ropewalklaw10_PatternNumbers_L1 9223372036854778808) 9223372036854778808 0 = some (.inl ()) :=
  iter_look 8 (fun i hi => by
    obtain ⟨x, hx⟩ := numsP_at hi
    unfold numsP at hx
    obtain ⟨h, v, q1, q2, q3, q4⟩ := new_both x
    unfold m_ropewalklaw10_PatternNumbers_L1
    rw [if_pos (by simpa using hi), hx, bindO_pure, q1, bindO_pure]
    simp only
    rw [bindO_pure, q2, bindO_pure]
    simp only
    rw [envSame_self (by omega) q3 q4, bindO_pure, if_neg (by simp), gd_pos (by omega)]) (by unfold m_ropewalklaw10_PatternNumbers_L1; rw [if_neg (by simp)]) (by omega)
theorem pnum_some (z : Int) : m_ropewalklaw10_num 9223372036854778808 z = some () := rfl
theorem pnumC6_is (i : Nat) (x : Int) (a b c : V) : m_ropewalklaw10_PatternNumbers_C6 9223372036854778808 i x a b c = some false := by
  unfold m_ropewalklaw10_PatternNumbers_C6
  rw [pnum_some, bindO_pure, pm_at, bindO_pure, if_neg (by simp), gd_pos (by omega), pm_at, bindO_pure, if_neg (by simp), bindO_pure, bindO_pure, pm_at, bindO_pure, if_neg (by simp), gd_pos (by omega), pm_at, bindO_pure]
  rfl
theorem div_is {k : Nat} (h : k < 25) : 0 ≤ IntKind.wrap .i64 (Int.tdiv ((k : Nat) : Int) 5) ∧ (IntKind.wrap .i64 (Int.tdiv ((k : Nat) : Int) 5)).toNat < 5 := by
  have e : Int.tdiv ((k : Nat) : Int) 5 = ((k / 5 : Nat) : Int) := by
    rw [Int.tdiv_eq_ediv_of_nonneg (by omega)]; omega
  rw [e, IntWalk.i64_in _ (by omega)]
  omega
theorem mod_is {k : Nat} (h : k < 25) : 0 ≤ Int.tmod ((k : Nat) : Int) 5 ∧ (Int.tmod ((k : Nat) : Int) 5).toNat < 5 := by
  have e : Int.tmod ((k : Nat) : Int) 5 = ((k % 5 : Nat) : Int) := by
    rw [Int.tmod_eq_emod_of_nonneg (by omega)]; omega
  rw [e]
  omega
theorem pnumL4_is {i : Nat} (hi : i < 8) (j : Nat) : iter (m_ropewalklaw10_PatternNumbers_L4 9223372036854778808 i j) 9223372036854778808 0 = some (.inl ()) := by
  obtain ⟨x, hx⟩ := numsP_at hi
  unfold numsP at hx
  refine iter_end 25 _ (fun k hk => ?_) ?_ (by omega)
  · obtain ⟨d1, d2⟩ := div_is hk
    obtain ⟨e1, e2⟩ := mod_is hk
    obtain ⟨a, ha⟩ := valsP_at d2
    obtain ⟨b, hb⟩ := valsP_at e2
    unfold valsP at ha hb
    unfold m_ropewalklaw10_PatternNumbers_L4
    rw [if_pos (by simpa using hk), hx, bindO_pure, gd_pos d1, ha, bindO_pure, gd_pos e1, hb, bindO_pure, pnum_some, bindO_pure, gd_pos e1, bindO_pure, pnumC6_is, bindO_pure, if_neg (by simp), gd_pos (by omega)]
  · unfold m_ropewalklaw10_PatternNumbers_L4
    rw [if_neg (by simp)]
theorem pnumL3_is (j : Nat) : iter (m_ropewalklaw10_PatternNumbers_L3 9223372036854778808 j) 9223372036854778808 0 = some (.inl ()) := by
  refine iter_end 8 _ (fun i hi => ?_) ?_ (by omega)
  · unfold m_ropewalklaw10_PatternNumbers_L3
    rw [if_pos (by simpa using hi), pnumL4_is hi, bindS_inl, gd_pos (by omega)]
  · unfold m_ropewalklaw10_PatternNumbers_L3
    rw [if_neg (by simp)]
theorem pnumL2_is : iter (m_ropewalklaw10_PatternNumbers_L2 9223372036854778808) 9223372036854778808 0 = some (.inl ()) :=
  iter_look 6 (fun i hi => by
    unfold m_ropewalklaw10_PatternNumbers_L2
    rw [if_pos (by simpa using hi), pnumL3_is, bindS_inl, gd_pos (by omega)]) (by unfold m_ropewalklaw10_PatternNumbers_L2; rw [if_neg (by simp)]) (by omega)
theorem pnumC8_is (i : Nat) : m_ropewalklaw10_PatternNumbers_C8 9223372036854778808 i = some false := by
  unfold m_ropewalklaw10_PatternNumbers_C8
  rw [pm_at, bindO_pure, if_neg (by simp), pm_at, bindO_pure, if_neg (by simp), pm_at, bindO_pure]
  rfl
theorem pnumL5_is : iter (m_ropewalklaw10_PatternNumbers_L5 9223372036854778808) 9223372036854778808 0 = some (.inl ()) :=
  iter_look 5 (fun i hi => by
    unfold m_ropewalklaw10_PatternNumbers_L5
    rw [if_pos (by simpa using hi), pnumC8_is, bindO_pure, if_neg (by simp), gd_pos (by omega)]) (by unfold m_ropewalklaw10_PatternNumbers_L5; rw [if_neg (by simp)]) (by omega)
theorem psome_is : m_ropewalklaw10_PatternSome 9223372036854778808 2 0 ([] : List ArgD) 0 0 0 (⟨#[]⟩ : ByteArray) 0 0 ([] : List Api_ExprD) ([] : List Bool) ([] : List V) ([] : List FactD) = some true := by kernel_rfl
theorem patnum_arg : m_ropewalklaw10_PatternNumbers 9223372036854778808 = some true := by
  unfold m_ropewalklaw10_PatternNumbers
  rw [pnumL1_is, bindS_inl]
  repeat (first | rw [bindO_pure] | rw [pnum_some])
  rw [pnumL2_is, bindS_inl]
  repeat (first | rw [bindO_pure] | rw [pnum_some])
  rw [pnumL5_is, bindS_inl, pm_at, bindO_pure, if_pos rfl, psome_is, bindO_pure, if_pos rfl, pawake_is, bindO_pure]
end Go.Proofs.YtalbennlmcpnmaaGreat
