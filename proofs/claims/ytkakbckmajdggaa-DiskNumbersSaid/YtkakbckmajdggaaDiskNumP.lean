import Derived.Test.YtkakbckmajdggaaDiskLivesP
import Derived.Test.YtkakbckmajdggaaPlain2
namespace Go.Proofs.Ytkakbckmajdggaa
open Go.RowKit
theorem lives_ok (a : Int) (l : List Ropewalklaw17_DoD) (hok : ∀ x ∈ l, ok_Ropewalklaw17_DoD x) (hlen : l.length ≤ 60) : m_ropewalklaw17_lives 9223372036854775808 a l = some true := by
  unfold m_ropewalklaw17_lives
  rw [begin_eq]
  simp only [bindO_pure]
  obtain ⟨es', l', e, hr⟩ := goes_eq (N := 9223372036854775808) (by decide) (a := maxI a 0) hok hlen (Nat.le_refl _) (Nat.zero_le _) rel_nil (by omega)
  have e' : m_ropewalklaw17_both_goes 9223372036854775808 (maxI a 0) [] (maxI a 0) [] l 0 ((l.length : Nat) : Int) = some (true, es', l') := e
  rw [e']
  rfl
def okBs (b : List Int) : Bool := Nat.ble b.length 100 && b.all fun y => decide (0 ≤ y) && decide (y ≤ 255)
theorem okD {op n : Int} {name to_ : ByteArray} {b : List Int} (h1 : 0 ≤ op ∧ op ≤ 100) (h2 : name.size ≤ 1000) (h3 : to_.size ≤ 1000) (h4 : okBs b = true) (h5 : -9223372036854775808 ≤ n ∧ n ≤ 9223372036854775807) : ok_Ropewalklaw17_DoD ⟨op, name, to_, b, n⟩ := by
  unfold okBs at h4
  rw [Bool.and_eq_true, List.all_eq_true] at h4
  refine ⟨⟨?_, ?_⟩, ?_, ?_, ⟨?_, fun y hy => ?_⟩, ⟨?_, ?_⟩⟩
  · show (-9223372036854775808 : Int) ≤ op; omega
  · show op ≤ (9223372036854775807 : Int); omega
  · show name.size ≤ _; omega
  · show to_.size ≤ _; omega
  · have := Nat.le_of_ble_eq_true h4.1
    show b.length ≤ _; omega
  · have := h4.2 y hy
    simp only [Bool.and_eq_true, decide_eq_true_eq] at this
    exact ⟨this.1, this.2⟩
  · exact h5.1
  · exact h5.2
theorem okCons {x : Ropewalklaw17_DoD} {l : List Ropewalklaw17_DoD} (h : ok_Ropewalklaw17_DoD x) (hl : ∀ y ∈ l, ok_Ropewalklaw17_DoD y) : ∀ y ∈ x :: l, ok_Ropewalklaw17_DoD y := by
  intro y hy
  rcases List.mem_cons.1 hy with rfl | hy
  · exact h
  · exact hl y hy
theorem okNil : ∀ y ∈ ([] : List Ropewalklaw17_DoD), ok_Ropewalklaw17_DoD y := fun y hy => by cases hy
theorem wordsB_len : lit1.length = 20 := rfl
theorem wordsB_small : ∀ x ∈ lit1, x.size ≤ 31 := by
  unfold lit1
  simp only [List.mem_cons, List.not_mem_nil, or_false]
  intro x hx
  rcases hx with rfl | rfl | rfl | rfl | rfl | rfl | rfl | rfl | rfl | rfl | rfl | rfl | rfl | rfl | rfl | rfl | rfl | rfl | rfl | rfl <;> first | exact Nat.le_of_ble_eq_true rfl | (rw [ByteArray.size_append]; exact Nat.le_of_ble_eq_true rfl)
theorem wordsB_at {i : Nat} (h : i < 20) : ∃ x, lit1[i]? = some x ∧ x.size ≤ 31 := ⟨_, List.getElem?_eq_getElem (by rw [wordsB_len]; exact h), wordsB_small _ (List.getElem_mem _)⟩
theorem numL2_go {i : Nat} (hi : i < 20) : iter (m_ropewalklaw17_DiskNumbers_L2 9223372036854775808 i) 9223372036854775808 0 = some (.inl ()) := by
  obtain ⟨a, ha, ha2⟩ := wordsB_at hi
  refine iter_end 20 _ (fun k hk => ?_) ?_ (by omega)
  · obtain ⟨b, hb, hb2⟩ := wordsB_at hk
    unfold m_ropewalklaw17_DiskNumbers_L2
    rw [if_pos (by rw [wordsB_len]; simpa using hk)]
    simp only [ha, hb, bindO_pure]
    rw [gd_pos (by omega), lives_ok _ (lit5 _ _ _ _ _ _ _ _ _) (okCons (okD (by omega) (by omega) (by decide) rfl (by omega)) (okCons (okD (by omega) (by omega) (by decide) rfl (by omega)) (okCons (okD (by omega) (by omega) (by decide) rfl (by omega)) (okCons (okD (by omega) (by omega) (by omega) rfl (by omega)) (okCons (okD (by omega) (by omega) (by decide) rfl (by omega)) (okCons (okD (by omega) (by decide) (by decide) rfl (by omega)) (okCons (okD (by omega) (by omega) (by decide) rfl (by omega)) okNil))))))) (Nat.le_of_ble_eq_true rfl), bindO_pure, if_neg (by simp), gd_pos (by omega)]
  · unfold m_ropewalklaw17_DiskNumbers_L2
    rw [if_neg (by rw [wordsB_len]; simp)]
theorem numL4_go {r : Int} : iter (m_ropewalklaw17_DiskNumbers_L4 9223372036854775808 r) 9223372036854775808 (-1) = some (.inl ()) := by
  obtain ⟨o, h1, h2⟩ := iter_inv (f := m_ropewalklaw17_DiskNumbers_L4 9223372036854775808 r) (fun i => -1 ≤ i ∧ i ≤ 5) (fun i => (5 - i).toNat) (fun o => o = .inl ()) (fun i hi => by
    unfold m_ropewalklaw17_DiskNumbers_L4
    by_cases h : i < 5
    · left
      refine ⟨i + 1, ?_, ⟨by omega, by omega⟩, by omega⟩
      rw [if_pos (by simpa using h), lives_ok _ (lit7 _) (okCons (okD (by omega) (by decide) (by decide) rfl (by omega)) (okCons (okD (by omega) (by decide) (by decide) rfl (by omega)) (okCons (okD (by omega) (by decide) (by decide) rfl (by omega)) (okCons (okD (by omega) (by decide) (by decide) rfl (by omega)) (okCons (okD (by omega) (by decide) (by decide) rfl (by omega)) (okCons (okD (by omega) (by decide) (by decide) rfl (by omega)) (okCons (okD (by omega) (by decide) (by decide) rfl (by omega)) (okCons (okD (by omega) (by decide) (by decide) rfl (by omega)) (okCons (okD (by omega) (by decide) (by decide) rfl (by omega)) (okCons (okD (by omega) (by decide) (by decide) rfl (by omega)) (okCons (okD (by omega) (by decide) (by decide) rfl (by omega)) okNil))))))))))) (Nat.le_of_ble_eq_true rfl), bindO_pure, if_neg (by simp), gd_pos (by omega)]
    · right
      exact ⟨_, by rw [if_neg (by simpa using h)], rfl⟩) 9223372036854775808 (-1) ⟨by omega, by omega⟩ (by omega)
  rw [h1, h2]
theorem numL3_go : iter (m_ropewalklaw17_DiskNumbers_L3 9223372036854775808) 9223372036854775808 (-1) = some (.inl ()) := by
  obtain ⟨o, h1, h2⟩ := iter_inv (f := m_ropewalklaw17_DiskNumbers_L3 9223372036854775808) (fun i => -1 ≤ i ∧ i ≤ 9) (fun i => (9 - i).toNat) (fun o => o = .inl ()) (fun i hi => by
    unfold m_ropewalklaw17_DiskNumbers_L3
    by_cases h : i < 9
    · left
      refine ⟨i + 1, ?_, ⟨by omega, by omega⟩, by omega⟩
      rw [if_pos (by simpa using h), numL4_go, bindS_inl, gd_pos (by omega)]
    · right
      exact ⟨_, by rw [if_neg (by simpa using h)], rfl⟩) 9223372036854775808 (-1) ⟨by omega, by omega⟩ (by omega)
  rw [h1, h2]
theorem largeC5_is {k : Nat} (h : k < 2) : m_ropewalklaw17_large_C5 9223372036854775808 k = some false := by
  have key : ∀ (i : Nat), i < 2 → ∃ x, ([-9223372036854775808, 9223372036854775807] : List Int)[i]? = some x ∧ -9223372036854775808 ≤ x ∧ x ≤ 9223372036854775807 := by
    intro i hi
    match i, hi with
    | 0, _ => exact ⟨_, rfl, by omega, by omega⟩
    | 1, _ => exact ⟨_, rfl, by omega, by omega⟩
  obtain ⟨a, ha, ha2⟩ := key k h
  obtain ⟨b, hb, hb2⟩ := key (1 - (k : Int)).toNat (by omega)
  unfold m_ropewalklaw17_large_C5
  rw [ha, bindO_pure, gd_pos (by omega), gd_pos (by omega), hb]
  simp only [bindO_pure]
  rw [lives_ok _ (lit8 _ _) (okCons (okD (by omega) (by decide) (by decide) rfl (by omega)) (okCons (okD (by omega) (by decide) (by decide) rfl (by omega)) (okCons (okD (by omega) (by decide) (by decide) rfl (by omega)) (okCons (okD (by omega) (by decide) (by decide) rfl (by omega)) okNil)))) (Nat.le_of_ble_eq_true rfl), bindO_pure, if_neg (by simp), lives_ok _ _ (okCons (okD (by omega) (by decide) (by decide) rfl (by omega)) (okCons (okD (by omega) (by decide) (by decide) rfl (by omega)) okNil)) (Nat.le_of_ble_eq_true rfl), bindO_pure]
  rfl
section large
variable {Z : List Int} (hZ : Z.length = 4194304)
include hZ
theorem lg1 : m_disk_Disk_Append 9223372036854775808 (maxI 1099511627776 0) ([] : List (ByteArray × Disk_rowsD)) tA (Z ++ [0]) = some (3, []) := by
  rw [append_eq (by omega) (by simp [keysE]) (by simp [usedE, hZ]) (by simp [rowE, mlook, hZ])]
  have h1 : appC (maxI 1099511627776 0) [] tA (Z ++ [0]) = 3 := by
    unfold appC
    rw [if_neg (by decide), if_pos (by simp [rowE, mlook, hZ])]
  unfold appE
  rw [h1]; rfl
theorem lg2 : m_disk_Disk_Append 9223372036854775808 (maxI 1099511627776 0) ([] : List (ByteArray × Disk_rowsD)) tA Z = some (0, [(tA, ⟨[], Z⟩)]) := by
  rw [append_eq (by omega) (by simp [keysE]) (by simp [usedE, hZ]) (by simp [rowE, mlook, hZ])]
  have h1 : appC (maxI 1099511627776 0) [] tA Z = 0 := by
    unfold appC
    rw [if_neg (by decide), if_neg (by simp [rowE, mlook, hZ]), if_neg (by simp [usedE, hZ, maxI])]
  unfold appE
  rw [h1, if_pos rfl]
  simp [rowE, mlook, mputP, mins]
theorem lg3 : m_disk_Disk_Append 9223372036854775808 (maxI 1099511627776 0) [(tA, ⟨[], Z⟩)] tA (Z.take 1) = some (3, [(tA, ⟨[], Z⟩)]) := by
  have ht : (Z.take 1).length = 1 := by rw [List.length_take]; omega
  rw [append_eq (by omega) (by simp [keysE]) (by simp [usedE, sizeR, hZ]) (by simp [rowE, mlook, hZ])]
  have h1 : appC (maxI 1099511627776 0) [(tA, ⟨[], Z⟩)] tA (Z.take 1) = 3 := by
    unfold appC
    rw [if_neg (by decide), if_pos (by simp only [rowE, mlook, if_true, Option.getD_some, List.length_append, hZ, ht]; decide)]
  unfold appE
  rw [h1]; rfl
theorem lg4 : m_disk_Disk_Append 9223372036854775808 (maxI 1099511627776 0) [(tA, ⟨[], Z⟩)] tA [] = some (0, [(tA, ⟨[], Z⟩)]) := by
  rw [append_eq (by omega) (by simp [keysE]) (by simp [usedE, sizeR, hZ]) (by simp [rowE, mlook, hZ])]
  have h1 : appC (maxI 1099511627776 0) [(tA, ⟨[], Z⟩)] tA [] = 0 := by
    unfold appC
    rw [if_neg (by decide), if_neg (by simp [rowE, mlook, hZ]), if_neg (by simp [usedE, sizeR, hZ, maxI])]
  unfold appE
  rw [h1, if_pos rfl]
  simp [rowE, mlook, mputP, mput]
theorem lg5 : m_disk_Disk_Append 9223372036854775808 (maxI 1099511627776 0) [(tA, ⟨[], Z⟩)] tB (Z.take 1) = some (0, [(tA, ⟨[], Z⟩), (tB, ⟨[], Z.take 1⟩)]) := by
  have ht : (Z.take 1).length = 1 := by rw [List.length_take]; omega
  have hne : mlook tB [(tA, (⟨[], Z⟩ : Disk_rowsD))] = none := by simp [mlook, tA, tB]
  have hr : rowE [(tA, (⟨[], Z⟩ : Disk_rowsD))] tB = ⟨[], []⟩ := by unfold rowE; rw [hne]; rfl
  rw [append_eq (by omega) (by simp [keysE]) (by simp [usedE, sizeR, hZ]) (by rw [hr, ht]; simp)]
  have h1 : appC (maxI 1099511627776 0) [(tA, ⟨[], Z⟩)] tB (Z.take 1) = 0 := by
    unfold appC
    rw [hr, if_neg (by decide), if_neg (by simp only [List.nil_append, ht]; decide), if_neg (by simp only [usedE, sizeR, List.map_cons, List.map_nil, List.sum_cons, List.sum_nil, List.length_nil, hZ, ht]; decide)]
  unfold appE
  rw [h1, if_pos rfl, hr]
  unfold mputP
  rw [hne]
  have hl : ltB tB tA = false := by rfl
  simp [mins, hl]
end large
theorem told_go : iter (m_ropewalklaw17_large_L1 9223372036854775808 3 0 3 0 0) 9223372036854775808 0 = some (.inl ()) := by kernel_rfl
theorem largeL2_go : iter (m_ropewalklaw17_large_L2 9223372036854775808) 9223372036854775808 0 = some (.inl ()) := by
  refine iter_look 2 (fun k hk => ?_) ?_ (by omega)
  · unfold m_ropewalklaw17_large_L2
    rw [if_pos (by simpa using hk), largeC5_is hk, bindO_pure, if_neg (by simp), gd_pos (by omega)]
  · unfold m_ropewalklaw17_large_L2
    rw [if_neg (by simp)]
theorem bindO_all {α β : Type} {a : α} {k : α → Option β} {r : Option β} (P : α → Prop) (h : P a) (hk : ∀ z, P z → k z = r) : bindO (some a) k = r := hk a h
theorem large_is : m_ropewalklaw17_large 9223372036854775808 = some true := by
  unfold m_ropewalklaw17_large m_disk_New
  rw [bindO_pure, gd_pos (by omega)]
  refine bindO_all (fun Z => Z.length = 4194304) List.length_replicate (fun Z hZ => ?_)
  have ht : (Z.take 1).length = 1 := by rw [List.length_take]; omega
  rw [gd_pos (by rw [hZ]; decide), show (⟨#[97]⟩ : ByteArray) = tA from rfl, show (⟨#[98]⟩ : ByteArray) = tB from rfl, lg1 hZ]
  simp only [bindO_pure]
  rw [lg2 hZ]
  simp only [bindO_pure]
  rw [gd_pos (by omega), lg3 hZ]
  simp only [bindO_pure]
  rw [lg4 hZ]
  simp only [bindO_pure]
  rw [gd_pos (by omega), lg5 hZ]
  simp only [bindO_pure]
  rw [told_go, bindS_inl, used_eq (by simp [keysE, tA, tB]) (by simp only [usedE, sizeR, List.map_cons, List.map_nil, List.sum_cons, List.sum_nil, List.length_nil, hZ, ht]; decide)]
  have hu : usedE [(tA, ⟨[], Z⟩), (tB, ⟨[], Z.take 1⟩)] = 4194305 := by simp only [usedE, sizeR, List.map_cons, List.map_nil, List.sum_cons, List.sum_nil, List.length_nil, hZ, ht]; rfl
  rw [hu]
  simp only [bindO_pure]
  rw [if_neg (by simp)]
  simp only [bindO_pure]
  rw [if_neg (by simp), largeL2_go]
  rfl
theorem disknum_arg : m_ropewalklaw17_DiskNumbers 9223372036854775808 = some true := by
  unfold m_ropewalklaw17_DiskNumbers
  rw [gd_pos (Nat.le_of_ble_eq_true rfl), iter_look 20 (fun i hi => by
    unfold m_ropewalklaw17_DiskNumbers_L1
    rw [if_pos (by rw [wordsB_len]; simpa using hi), numL2_go hi, bindS_inl, gd_pos (by omega)]) (by unfold m_ropewalklaw17_DiskNumbers_L1; rw [if_neg (by rw [wordsB_len]; simp)]) (by omega), bindS_inl, numL3_go, bindS_inl, large_is, bindO_pure, if_pos rfl, awake_ok (by decide)]
  rfl
end Go.Proofs.Ytkakbckmajdggaa
