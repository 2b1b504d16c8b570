import Derived.Test.YtegkmbkbaenkcaaXT
namespace Go.Proofs.Ytegkmbkbaenkcaa
open Go.RowKit
noncomputable def m_net_New (N : Nat) : Option (Unit) :=
 some ()
noncomputable def m_ropewalkkit_Pick (N : Nat) (a0 : Int) (a1 : Int) : Option (Int) :=
 if (decide (a1 < 1)) = true then (
  some 0
 ) else (
  gd (a1 ≠ 0) <|
  bindO (
   if (decide ((Int.tmod a0 a1) < 0)) = true then (
    gd (-9223372036854775808 ≤ (Int.tmod a0 a1) + a1 ∧ (Int.tmod a0 a1) + a1 ≤ 9223372036854775807) <|
    some ((Int.tmod a0 a1) + a1)
   ) else (
    some (Int.tmod a0 a1)
   )
  ) fun j_1_0 =>
  some j_1_0
 )
noncomputable def m_net_Net_all (N : Nat) (e0 : List ((Int × Int) × List (List Int))) : Option (Unit) :=
 some ()
noncomputable def m_net_bags_at (N : Nat) (e0 : List ((Int × Int) × List (List Int))) (a1 : Int) (a2 : Int) (a3 : Int) : Option (Nat) :=
 bindO (
  if (decide (a3 < 0)) = true then (
   some true
  ) else (
   gd (-9223372036854775808 ≤ a1 ∧ a1 ≤ 9223372036854775807) <|
   gd (-9223372036854775808 ≤ a2 ∧ a2 ≤ 9223372036854775807) <|
   bindO (some ((mlook (a1, a2) e0).getD [])) fun l17 =>
   some (decide (a3 ≥ ((l17.length : Nat) : Int)))
  )
 ) fun j_1_10 =>
 if j_1_10 = true then (
  some 6
 ) else (
  some 0
 )
noncomputable def m_net_bags_take (N : Nat) (e0 : List ((Int × Int) × List (List Int))) (a1 : Int) (a2 : Int) (a3 : Int) : Option ((List Int) × Nat × (List ((Int × Int) × List (List Int)))) :=
 bindO (m_net_bags_at N e0 a1 a2 a3) fun v13 =>
 if (v13 != 0) = true then (
  some ([], v13, e0)
 ) else (
  gd (-9223372036854775808 ≤ a1 ∧ a1 ≤ 9223372036854775807) <|
  gd (-9223372036854775808 ≤ a2 ∧ a2 ≤ 9223372036854775807) <|
  bindO (some ((mlook (a1, a2) e0).getD [])) fun l19 =>
  gd (0 ≤ a3) <|
  bindO (l19[a3.toNat]?) fun x21 =>
  gd (-9223372036854775808 ≤ a3 + 1 ∧ a3 + 1 ≤ 9223372036854775807) <|
  gd (0 ≤ a3) <|
  gd (a3.toNat < l19.length) <|
  bindO (
   if (((l19.take a3.toNat ++ l19.drop (a3.toNat + 1)).length) == 0) = true then (
    some (mdel (a1, a2) (mput (a1, a2) (l19.take a3.toNat ++ l19.drop (a3.toNat + 1)) e0))
   ) else (
    some (mput (a1, a2) (l19.take a3.toNat ++ l19.drop (a3.toNat + 1)) e0)
   )
  ) fun j_1_r0_m =>
  some (x21, 0, j_1_r0_m)
 )
noncomputable def m_net_Net_Take (N : Nat) (e0 : List ((Int × Int) × List (List Int))) (a1 : Int) (a2 : Int) (a3 : Int) : Option ((List Int) × Nat × (List ((Int × Int) × List (List Int)))) :=
 bindO (m_net_Net_all N e0) fun _ =>
 bindO (m_net_bags_take N e0 a1 a2 a3) fun (v16_0, v16_1, v16_2) =>
 some (v16_0, v16_1, v16_2)
noncomputable def m_ropewalkkit_SameBytes_L1 (N : Nat) (l0 : List Int) (l1 : List Int) : Nat → Option (Nat ⊕ (Unit ⊕ Bool)) := fun u1_5 =>
 if (decide (u1_5 < l0.length)) = true then (
  bindO (l0[u1_5]?) fun x19 =>
  bindO (l1[u1_5]?) fun x23 =>
  if (x19 != x23) = true then (
   some (.inr (.inr false))
  ) else (
   gd (u1_5 + 1 ≤ 9223372036854775807) <|
   some (.inl (u1_5 + 1))
  )
 ) else (
  some (.inr (.inl ()))
 )
noncomputable def m_ropewalkkit_SameBytes (N : Nat) (l0 : List Int) (l1 : List Int) : Option (Bool) :=
 if (l0.length != l1.length) = true then (
  some false
 ) else (
  bindS (
   iter (m_ropewalkkit_SameBytes_L1 N l0 l1) N 0
  ) fun _ =>
  some true
 )
noncomputable def m_net_bags_put (N : Nat) (e0 : List ((Int × Int) × List (List Int))) (a1 : Int) (a2 : Int) (l3 : List Int) : Option (Nat × (List ((Int × Int) × List (List Int)))) :=
 if (decide (1048576 < l3.length)) = true then (
  some (3, e0)
 ) else (
  gd (-9223372036854775808 ≤ a1 ∧ a1 ≤ 9223372036854775807) <|
  gd (-9223372036854775808 ≤ a2 ∧ a2 ≤ 9223372036854775807) <|
  bindO (some ((mlook (a1, a2) e0).getD [])) fun l17 =>
  if (decide (64 ≤ l17.length)) = true then (
   some (5, e0)
  ) else (
   gd (l3.length ≤ 140737488355328) <|
   bindO (some ((mlook (a1, a2) e0).getD [])) fun l26 =>
   gd (l26.length + [l3].length ≤ 5864062014805) <|
   some (0, mput (a1, a2) (l26 ++ [l3]) e0)
  )
 )
noncomputable def m_net_Net_Double (N : Nat) (e0 : List ((Int × Int) × List (List Int))) (a1 : Int) (a2 : Int) (a3 : Int) : Option (Nat × (List ((Int × Int) × List (List Int)))) :=
 bindO (m_net_Net_all N e0) fun _ =>
 bindO (m_net_bags_at N e0 a1 a2 a3) fun v18 =>
 if (v18 != 0) = true then (
  some (v18, e0)
 ) else (
  bindO (m_net_Net_all N e0) fun _ =>
  bindO (m_net_Net_all N e0) fun _ =>
  gd (-9223372036854775808 ≤ a1 ∧ a1 ≤ 9223372036854775807) <|
  gd (-9223372036854775808 ≤ a2 ∧ a2 ≤ 9223372036854775807) <|
  bindO (some ((mlook (a1, a2) e0).getD [])) fun l28 =>
  gd (0 ≤ a3) <|
  bindO (l28[a3.toNat]?) fun x30 =>
  bindO (m_net_bags_put N e0 a1 a2 x30) fun (v32_0, v32_1) =>
  some (v32_0, v32_1)
 )
noncomputable def m_ropewalkref20_Net_Count_C2 (N : Nat) (l0 : List Ropewalkref20_packetD) (u1_8 : Nat) (a1 : Int) (a2 : Int) (u1_7 : Nat) : Option (Nat) :=
 bindO (
  bindO (l0[u1_8]?) fun x23 =>
  if (x23.from_ == a1) = true then (
   bindO (l0[u1_8]?) fun x34 =>
   some (x34.to_ == a2)
  ) else (
   some false
  )
 ) fun j_3_39 =>
 if j_3_39 = true then (
  gd (u1_7 + 1 ≤ 9223372036854775807) <|
  some (u1_7 + 1)
 ) else (
  some u1_7
 )
noncomputable def m_ropewalkref20_Net_Count_L1 (N : Nat) (l0 : List Ropewalkref20_packetD) (a1 : Int) (a2 : Int) : (Nat × Nat) → Option ((Nat × Nat) ⊕ Nat) := fun (u1_8, u1_7) =>
 if (decide (u1_8 < l0.length)) = true then (
  bindO (m_ropewalkref20_Net_Count_C2 N l0 u1_8 a1 a2 u1_7
  ) fun j_2_7 =>
  gd (u1_8 + 1 ≤ 9223372036854775807) <|
  some (.inl (u1_8 + 1, j_2_7))
 ) else (
  some (.inr u1_7)
 )
noncomputable def m_ropewalkref20_Net_Count (N : Nat) (l0 : List Ropewalkref20_packetD) (a1 : Int) (a2 : Int) : Option (Nat) :=
 bindO (
  iter (m_ropewalkref20_Net_Count_L1 N l0 a1 a2) N (0, 0)
 ) fun j_1_7 =>
 some j_1_7
noncomputable def m_ropewalkref20_Net_Send (N : Nat) (l0 : List Ropewalkref20_packetD) (a1 : Int) (a2 : Int) (l3 : List Int) : Option (Nat × (List Ropewalkref20_packetD)) :=
 if (decide (1048576 < l3.length)) = true then (
  some (3, l0)
 ) else (
  bindO (m_ropewalkref20_Net_Count N l0 a1 a2) fun v15 =>
  if (decide (64 ≤ v15)) = true then (
   some (5, l0)
  ) else (
   gd (([] : List Int).length + l3.length ≤ 140737488355328) <|
   gd (l0.length + ([(⟨a1, a2, l3⟩ : Ropewalkref20_packetD)]).length ≤ 3518437208883) <|
   some (0, (l0 ++ ([(⟨a1, a2, l3⟩ : Ropewalkref20_packetD)])))
  )
 )
noncomputable def m_net_Net_Send (N : Nat) (e0 : List ((Int × Int) × List (List Int))) (a1 : Int) (a2 : Int) (l3 : List Int) : Option (Nat × (List ((Int × Int) × List (List Int)))) :=
 bindO (m_net_Net_all N e0) fun _ =>
 bindO (m_net_bags_put N e0 a1 a2 l3) fun (v15_0, v15_1) =>
 some (v15_0, v15_1)
noncomputable def m_net_bags_Count (N : Nat) (e0 : List ((Int × Int) × List (List Int))) (a1 : Int) (a2 : Int) : Option (Nat) :=
 gd (-9223372036854775808 ≤ a1 ∧ a1 ≤ 9223372036854775807) <|
 gd (-9223372036854775808 ≤ a2 ∧ a2 ≤ 9223372036854775807) <|
 bindO (some ((mlook (a1, a2) e0).getD [])) fun l11 =>
 some l11.length
noncomputable def m_net_Net_Count (N : Nat) (e0 : List ((Int × Int) × List (List Int))) (a1 : Int) (a2 : Int) : Option (Nat) :=
 bindO (m_net_Net_all N e0) fun _ =>
 bindO (m_net_bags_Count N e0 a1 a2) fun v11 =>
 some v11
noncomputable def m_cmp_isNaN_int (N : Nat) (a0 : Int) : Option (Unit) :=
 some ()
noncomputable def m_cmp_Compare_int (N : Nat) (a0 : Int) (a1 : Int) : Option (Int) :=
 bindO (m_cmp_isNaN_int N a0) fun _ =>
 bindO (m_cmp_isNaN_int N a1) fun _ =>
 if (a0 != a0) = true then (
  if (a1 != a1) = true then (
   some 0
  ) else (
   some (-1)
  )
 ) else (
  if (a1 != a1) = true then (
   some 1
  ) else (
   if (decide (a0 < a1)) = true then (
    some (-1)
   ) else (
    if (decide (a0 > a1)) = true then (
     some 1
    ) else (
     some 0
    )
   )
  )
 )
noncomputable def m_cmp_Or_int_L1 (N : Nat) (l0 : List Int) : Nat → Option (Nat ⊕ (Unit ⊕ Int)) := fun u1_8 =>
 if (decide (u1_8 < l0.length)) = true then (
  bindO (l0[u1_8]?) fun x10 =>
  if (x10 != 0) = true then (
   some (.inr (.inr x10))
  ) else (
   gd (u1_8 + 1 ≤ 9223372036854775807) <|
   some (.inl (u1_8 + 1))
  )
 ) else (
  some (.inr (.inl ()))
 )
noncomputable def m_cmp_Or_int (N : Nat) (l0 : List Int) : Option (Int) :=
 bindS (
  iter (m_cmp_Or_int_L1 N l0) N 0
 ) fun _ =>
 some 0
noncomputable def m_net_bags_Links_1 (N : Nat) (a0 : Int) (a1 : Int) (a2 : Int) (a3 : Int) : Option (Int) :=
 bindO (m_cmp_Compare_int N a0 a2) fun v9 =>
 bindO (m_cmp_Compare_int N a1 a3) fun v14 =>
 bindO (m_cmp_Or_int N [v9, v14]) fun v16 =>
 some v16
noncomputable def m_net_Net_Links (N : Nat) (e0 : List ((Int × Int) × List (List Int))) : Option (List (Int × Int)) :=
 bindO (m_net_Net_all N e0) fun _ =>
 gd (e0.length ≤ 8796093022208) <|
 bindO (sortM (fun x_ y_ => m_net_bags_Links_1 N x_.1 x_.2 y_.1 y_.2) (List.map (fun x : (Int × Int) × List (List Int) => x.1) e0)) fun v5 =>
 some v5
noncomputable def m_ropewalklaw20_links_L1 (N : Nat) (l0 : List (Int × Int)) (l1 : List (Int × Int)) : Nat → Option (Nat ⊕ (Unit ⊕ Bool)) := fun u1_5 =>
 if (decide (u1_5 < l0.length)) = true then (
  bindO (l0[u1_5]?) fun x19 =>
  bindO (l1[u1_5]?) fun x23 =>
  if (!((x19.1 == x23.1) && (x19.2 == x23.2))) = true then (
   some (.inr (.inr false))
  ) else (
   gd (u1_5 + 1 ≤ 9223372036854775807) <|
   some (.inl (u1_5 + 1))
  )
 ) else (
  some (.inr (.inl ()))
 )
noncomputable def m_ropewalklaw20_links (N : Nat) (l0 : List (Int × Int)) (l1 : List (Int × Int)) : Option (Bool) :=
 if (l0.length != l1.length) = true then (
  some false
 ) else (
  bindS (
   iter (m_ropewalklaw20_links_L1 N l0 l1) N 0
  ) fun _ =>
  some true
 )
noncomputable def m_ropewalklaw20_awake_C1 (N : Nat) : Option ((List ((Int × Int) × List (List Int))) × Bool) :=
 bindO (m_net_Net_Send N ([] : List ((Int × Int) × List (List Int))) 1 2 [120]) fun (v13_0, v13_1) =>
 if (v13_0 == 0) = true then (
  bindO (m_net_Net_Send N v13_1 1 2 [121]) fun (v19_0, v19_1) =>
  if (v19_0 == 0) = true then (
   bindO (m_net_Net_Count N v19_1 1 2) fun v24 =>
   if (v24 == 2) = true then (
    bindO (m_net_Net_Count N v19_1 2 1) fun v29 =>
    if (v29 == 0) = true then (
     bindO (m_net_Net_Links N v19_1) fun v34 =>
     bindO (m_ropewalklaw20_links N v34 [(1, 2)]) fun v37 =>
     if v37 = true then (
      bindO (m_net_Net_Double N v19_1 1 2 0) fun (v41_0, v41_1) =>
      some (v41_1, v41_0 == 0)
     ) else (
      some (v19_1, false)
     )
    ) else (
     some (v19_1, false)
    )
   ) else (
    some (v19_1, false)
   )
  ) else (
   some (v19_1, false)
  )
 ) else (
  some (v13_1, false)
 )
noncomputable def m_ropewalklaw20_awake_C2 (N : Nat) (j_1_2 : Bool) (v46_1 : Nat) (v51_1 : Nat) (v56_1 : Nat) (v46_0 : List Int) (v51_0 : List Int) (v56_2 : List ((Int × Int) × List (List Int))) : Option (Bool) :=
 if j_1_2 = true then (
  if (v46_1 == 0) = true then (
   if (v51_1 == 0) = true then (
    if (v56_1 == 6) = true then (
     if ((strOfNums v46_0).toList == (⟨#[120]⟩ : ByteArray).toList) = true then (
      if ((strOfNums v51_0).toList == (⟨#[120]⟩ : ByteArray).toList) = true then (
       bindO (m_net_Net_Count N v56_2 1 2) fun v84 =>
       some (v84 == 1)
      ) else (
       some false
      )
     ) else (
      some false
     )
    ) else (
     some false
    )
   ) else (
    some false
   )
  ) else (
   some false
  )
 ) else (
  some false
 )
noncomputable def m_ropewalklaw20_awake (N : Nat) : Option (Bool) :=
 bindO (m_net_New N) fun _ =>
 bindO (m_ropewalklaw20_awake_C1 N
 ) fun (j_1_1_f0_m, j_1_2) =>
 bindO (m_net_Net_Take N j_1_1_f0_m 1 2 0) fun (v46_0, v46_1, v46_2) =>
 bindO (m_net_Net_Take N v46_2 1 2 1) fun (v51_0, v51_1, v51_2) =>
 bindO (m_net_Net_Take N v51_2 1 2 1) fun (v56_0, v56_1, v56_2) =>
 bindO (m_ropewalklaw20_awake_C2 N j_1_2 v46_1 v51_1 v56_1 v46_0 v51_0 v56_2
 ) fun j_2_0 =>
 some j_2_0
noncomputable def m_ropewalklaw20_place_L1 (N : Nat) (l0 : List (List Int)) (l1 : List Int) : Nat → Option (Nat ⊕ (Unit ⊕ Int)) := fun u1_5 =>
 if (decide (u1_5 < l0.length)) = true then (
  bindO (l0[u1_5]?) fun x14 =>
  bindO (m_ropewalkkit_SameBytes N x14 l1) fun v17 =>
  if v17 = true then (
   some (.inr (.inr ((u1_5 : Nat) : Int)))
  ) else (
   gd (u1_5 + 1 ≤ 9223372036854775807) <|
   some (.inl (u1_5 + 1))
  )
 ) else (
  some (.inr (.inl ()))
 )
noncomputable def m_ropewalklaw20_place (N : Nat) (l0 : List (List Int)) (l1 : List Int) : Option (Int) :=
 bindS (
  iter (m_ropewalklaw20_place_L1 N l0 l1) N 0
 ) fun _ =>
 some (-1)
noncomputable def m_ropewalklaw20_peeked_L1 (N : Nat) (a3 : Int) (a1 : Int) (a2 : Int) : (Nat × (List (List Int)) × (List ((Int × Int) × List (List Int)))) → Option ((Nat × (List (List Int)) × (List ((Int × Int) × List (List Int)))) ⊕ ((List ((Int × Int) × List (List Int))) × (List (List Int)))) := fun (u1_10, u1_9_l, u1_0_f0_m) =>
 bindO (
  if (decide (u1_10 < 64)) = true then (
   some (decide (a3 ≥ 0))
  ) else (
   some false
  )
 ) fun j_2_19 =>
 if j_2_19 = true then (
  bindO (m_net_Net_Take N u1_0_f0_m a1 a2 a3) fun (v27_0, v27_1, v27_2) =>
  if (v27_1 != 0) = true then (
   some (.inr (v27_2, u1_9_l))
  ) else (
   gd (u1_9_l.length + [v27_0].length ≤ 5864062014805) <|
   gd (u1_10 + 1 ≤ 9223372036854775807) <|
   some (.inl (u1_10 + 1, u1_9_l ++ [v27_0], v27_2))
  )
 ) else (
  some (.inr (u1_0_f0_m, u1_9_l))
 )
noncomputable def m_ropewalklaw20_peeked_L2 (N : Nat) (j_1_9_l : List (List Int)) (a1 : Int) (a2 : Int) : (Nat × (List ((Int × Int) × List (List Int)))) → Option ((Nat × (List ((Int × Int) × List (List Int)))) ⊕ (List ((Int × Int) × List (List Int)))) := fun (u2_13, u2_0_f0_m) =>
 if (decide (u2_13 < j_1_9_l.length)) = true then (
  bindO (j_1_9_l[u2_13]?) fun x47 =>
  bindO (m_net_Net_Send N u2_0_f0_m a1 a2 x47) fun (v49_0, v49_1) =>
  gd (u2_13 + 1 ≤ 9223372036854775807) <|
  some (.inl (u2_13 + 1, v49_1))
 ) else (
  some (.inr u2_0_f0_m)
 )
noncomputable def m_ropewalklaw20_peeked (N : Nat) (e0 : List ((Int × Int) × List (List Int))) (a1 : Int) (a2 : Int) (a3 : Int) : Option ((List Int) × (List ((Int × Int) × List (List Int)))) :=
 bindO (
  iter (m_ropewalklaw20_peeked_L1 N a3 a1 a2) N (0, [], e0)
 ) fun (j_1_0_f0_m, j_1_9_l) =>
 bindO (
  iter (m_ropewalklaw20_peeked_L2 N j_1_9_l a1 a2) N (0, j_1_0_f0_m)
 ) fun j_3_r0_f0_m =>
 if (j_1_9_l.length == 0) = true then (
  some ([], j_3_r0_f0_m)
 ) else (
  bindO (j_1_9_l[0]?) fun x54 =>
  some (x54, j_3_r0_f0_m)
 )
noncomputable def m_ropewalkkit_CopyBytes (N : Nat) (l0 : List Int) : Option (Unit) :=
 gd (([] : List Int).length + l0.length ≤ 140737488355328) <|
 some ()
noncomputable def m_ropewalklaw20_NetSent_C8 (N : Nat) (v137_1 : List ((Int × Int) × List (List Int))) (v36 : Int) (v39 : Int) (x32 : Ropewalklaw20_DoD) (j_4_10 : Bool) (u1_4_l : List (List (List Int))) : Option ((List ((Int × Int) × List (List Int))) × Bool) :=
 bindO (m_net_Net_Double N v137_1 v36 v39 x32.at_) fun (v143_0, v143_1) =>
 if j_4_10 = true then (
  gd (0 ≤ (4 * v36) + v39) <|
  gd (((4 * v36) + v39).toNat < 16) <|
  bindO (u1_4_l[((4 * v36) + v39).toNat]?) fun xe6 =>
  some (v143_1, (v143_0 == 0) != (decide (xe6.length < 64)))
 ) else (
  some (v143_1, (v143_0 == 0) != false)
 )
noncomputable def m_ropewalklaw20_NetSent_C5 (N : Nat) (x32 : Ropewalklaw20_DoD) (u1_3_f0_m : List ((Int × Int) × List (List Int))) (v36 : Int) (v39 : Int) (u1_4_l : List (List (List Int))) (j_4_10 : Bool) : Option (((List (List (List Int))) × (List ((Int × Int) × List (List Int)))) ⊕ (((List (List (List Int))) × (List ((Int × Int) × List (List Int)))) ⊕ ((Nat × (List (List (List Int))) × (List ((Int × Int) × List (List Int)))) ⊕ (Unit ⊕ Bool)))) :=
 bindO (m_ropewalkkit_Pick N x32.op 6) fun v62 =>
 bindO (
  if (v62 == 3) = true then (
   some (v62 == 3)
  ) else (
   some (v62 == 5)
  )
 ) fun j_6_85 =>
 if j_6_85 = true then (
  bindO (m_net_Net_Take N u1_3_f0_m v36 v39 x32.at_) fun (v94_0, v94_1, v94_2) =>
  gd (0 ≤ (4 * v36) + v39) <|
  gd (((4 * v36) + v39).toNat < 16) <|
  bindO (u1_4_l[((4 * v36) + v39).toNat]?) fun xe6 =>
  bindO (m_ropewalklaw20_place N xe6 v94_0) fun v101 =>
  bindO (
   if ((v94_1 == 0) != j_4_10) = true then (
    some true
   ) else (
    if j_4_10 = true then (
     some (decide (v101 < 0))
    ) else (
     some false
    )
   )
  ) fun j_7_112 =>
  if j_7_112 = true then (
   some (.inr (.inr (.inr (.inr false))))
  ) else (
   if j_4_10 = true then (
    gd (0 ≤ (4 * v36) + v39) <|
    gd (((4 * v36) + v39).toNat < 16) <|
    bindO (u1_4_l[((4 * v36) + v39).toNat]?) fun xe6 =>
    gd (0 ≤ v101) <|
    gd (v101.toNat ≤ xe6.length) <|
    gd (([] : List (List Int)).length + (xe6.take v101.toNat).length ≤ 5864062014805) <|
    gd (0 ≤ (4 * v36) + v39) <|
    gd (((4 * v36) + v39).toNat < 16) <|
    gd (-9223372036854775808 ≤ v101 + 1 ∧ v101 + 1 ≤ 9223372036854775807) <|
    gd (0 ≤ v101 + 1) <|
    gd ((v101 + 1).toNat ≤ xe6.length) <|
    gd ((([] : List (List Int)) ++ (xe6.take v101.toNat)).length + (xe6.drop ((v101 + 1).toNat)).length ≤ 5864062014805) <|
    gd (0 ≤ (4 * v36) + v39) <|
    gd (((4 * v36) + v39).toNat < 16) <|
    some (.inl ((u1_4_l.set (((4 * v36) + v39).toNat) ((([] : List (List Int)) ++ (xe6.take v101.toNat)) ++ (xe6.drop ((v101 + 1).toNat)))), v94_2))
   ) else (
    some (.inl (u1_4_l, v94_2))
   )
  )
 ) else (
  if (v62 == 4) = true then (
   bindO (m_ropewalklaw20_peeked N u1_3_f0_m v36 v39 x32.at_) fun (v137_0, v137_1) =>
   bindO (m_ropewalklaw20_NetSent_C8 N v137_1 v36 v39 x32 j_4_10 u1_4_l
   ) fun (j_8_3_f0_m, j_8_153) =>
   if j_8_153 = true then (
    some (.inr (.inr (.inr (.inr false))))
   ) else (
    bindO (
     if j_4_10 = true then (
      gd (0 ≤ (4 * v36) + v39) <|
      gd (((4 * v36) + v39).toNat < 16) <|
      bindO (u1_4_l[((4 * v36) + v39).toNat]?) fun xe6 =>
      some (decide (xe6.length < 64))
     ) else (
      some false
     )
    ) fun j_9_161 =>
    if j_9_161 = true then (
     gd (0 ≤ (4 * v36) + v39) <|
     gd (((4 * v36) + v39).toNat < 16) <|
     bindO (u1_4_l[((4 * v36) + v39).toNat]?) fun xe6 =>
     gd (xe6.length + [v137_0].length ≤ 5864062014805) <|
     gd (0 ≤ (4 * v36) + v39) <|
     gd (((4 * v36) + v39).toNat < 16) <|
     some (.inl (u1_4_l.set (((4 * v36) + v39).toNat) (xe6 ++ [v137_0]), j_8_3_f0_m))
    ) else (
     some (.inl (u1_4_l, j_8_3_f0_m))
    )
   )
  ) else (
   bindO (m_net_Net_Send N u1_3_f0_m v36 v39 x32.b) fun (v68_0, v68_1) =>
   if (v68_0 == 0) = true then (
    gd (0 ≤ (4 * v36) + v39) <|
    gd (((4 * v36) + v39).toNat < 16) <|
    bindO (u1_4_l[((4 * v36) + v39).toNat]?) fun xe6 =>
    bindO (m_ropewalkkit_CopyBytes N x32.b) fun _ =>
    gd (xe6.length + [x32.b].length ≤ 5864062014805) <|
    gd (0 ≤ (4 * v36) + v39) <|
    gd (((4 * v36) + v39).toNat < 16) <|
    some (.inl (u1_4_l.set (((4 * v36) + v39).toNat) (xe6 ++ [x32.b]), v68_1))
   ) else (
    gd (0 ≤ (4 * v36) + v39) <|
    gd (((4 * v36) + v39).toNat < 16) <|
    bindO (u1_4_l[((4 * v36) + v39).toNat]?) fun xe6 =>
    if (decide (xe6.length < 64)) = true then (
     some (.inr (.inr (.inr (.inr false))))
    ) else (
     some (.inl (u1_4_l, v68_1))
    )
   )
  )
 )
noncomputable def m_ropewalklaw20_NetSent_L2 (N : Nat) (j_5_3_f0_m : List ((Int × Int) × List (List Int))) (j_5_4_l : List (List (List Int))) : Nat → Option (Nat ⊕ (((List (List (List Int))) × (List ((Int × Int) × List (List Int)))) ⊕ ((Nat × (List (List (List Int))) × (List ((Int × Int) × List (List Int)))) ⊕ (Unit ⊕ Bool)))) := fun u2_15 =>
 if (decide (u2_15 < 16)) = true then (
  bindO (m_net_Net_Count N j_5_3_f0_m (IntKind.wrap .i64 (Int.tdiv ((u2_15 : Nat) : Int) 4)) (Int.tmod ((u2_15 : Nat) : Int) 4)) fun v179 =>
  gd (u2_15 < 16) <|
  bindO (j_5_4_l[u2_15]?) fun xe8 =>
  if (v179 != xe8.length) = true then (
   some (.inr (.inr (.inr (.inr false))))
  ) else (
   gd (u2_15 + 1 ≤ 9223372036854775807) <|
   some (.inl (u2_15 + 1))
  )
 ) else (
  some (.inr (.inl (j_5_4_l, j_5_3_f0_m)))
 )
noncomputable def m_ropewalklaw20_NetSent_C3 (N : Nat) (j_1_0_l : List Ropewalklaw20_DoD) (u1_5 : Nat) (u1_4_l : List (List (List Int))) (u1_3_f0_m : List ((Int × Int) × List (List Int))) : Option (((List (List (List Int))) × (List ((Int × Int) × List (List Int)))) ⊕ ((Nat × (List (List (List Int))) × (List ((Int × Int) × List (List Int)))) ⊕ (Unit ⊕ Bool))) :=
 bindO (j_1_0_l[u1_5]?) fun x32 =>
 bindO (m_ropewalkkit_Pick N x32.from_ 4) fun v36 =>
 bindO (m_ropewalkkit_Pick N x32.to_ 4) fun v39 =>
 gd (-9223372036854775808 ≤ 4 * v36 ∧ 4 * v36 ≤ 9223372036854775807) <|
 gd (-9223372036854775808 ≤ (4 * v36) + v39 ∧ (4 * v36) + v39 ≤ 9223372036854775807) <|
 if (decide (1000 < x32.b.length)) = true then (
  some (.inr (.inr (.inr true)))
 ) else (
  bindO (
   if (decide (x32.at_ ≥ 0)) = true then (
    gd (0 ≤ (4 * v36) + v39) <|
    gd (((4 * v36) + v39).toNat < 16) <|
    bindO (u1_4_l[((4 * v36) + v39).toNat]?) fun xe6 =>
    some (decide (x32.at_ < ((xe6.length : Nat) : Int)))
   ) else (
    some false
   )
  ) fun j_4_10 =>
  bindS (m_ropewalklaw20_NetSent_C5 N x32 u1_3_f0_m v36 v39 u1_4_l j_4_10
  ) fun (j_5_4_l, j_5_3_f0_m) =>
  iter (m_ropewalklaw20_NetSent_L2 N j_5_3_f0_m j_5_4_l) N 0
 )
noncomputable def m_ropewalklaw20_NetSent_L1 (N : Nat) (j_1_0_l : List Ropewalklaw20_DoD) : (Nat × (List (List (List Int))) × (List ((Int × Int) × List (List Int)))) → Option ((Nat × (List (List (List Int))) × (List ((Int × Int) × List (List Int)))) ⊕ (Unit ⊕ Bool)) := fun (u1_5, u1_4_l, u1_3_f0_m) =>
 if (decide (u1_5 < j_1_0_l.length)) = true then (
  bindS (m_ropewalklaw20_NetSent_C3 N j_1_0_l u1_5 u1_4_l u1_3_f0_m
  ) fun (j_3_4_l, j_3_3_f0_m) =>
  gd (u1_5 + 1 ≤ 9223372036854775807) <|
  some (.inl (u1_5 + 1, j_3_4_l, j_3_3_f0_m))
 ) else (
  some (.inr (.inl ()))
 )
noncomputable def m_ropewalklaw20_NetSent (N : Nat) (l0 : List Ropewalklaw20_DoD) : Option (Bool) :=
 bindO (m_ropewalklaw20_awake N) fun v16 =>
 if (!v16) = true then (
  some false
 ) else (
  bindO (
   if (decide (200 < l0.length)) = true then (
    gd (200 ≤ l0.length) <|
    some (l0.take 200)
   ) else (
    some l0
   )
  ) fun j_1_0_l =>
  bindO (m_net_New N) fun _ =>
  bindS (
   iter (m_ropewalklaw20_NetSent_L1 N j_1_0_l) N (0, [[], [], [], [], [], [], [], [], [], [], [], [], [], [], [], []], ([] : List ((Int × Int) × List (List Int))))
  ) fun _ =>
  some true
 )
end Go.Proofs.Ytegkmbkbaenkcaa
