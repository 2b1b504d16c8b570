import Derived.Test.YtegkmbkbaenkcaaXT
namespace Go.Proofs.Ytegkmbkbaenkcaa
open Go.RowKit
noncomputable def m_net_New (N : Nat) : Option (Unit) :=
 some ()
noncomputable def m_ropewalkref20_New (N : Nat) : Option (Unit) :=
 some ()
noncomputable def m_ropewalkkit_Pick (N : Nat) (a0 : Int) (a1 : Int) : Option (Int) :=
 if (decide (a1 < 1)) = true then (
  some 0
 ) else (
  gd (a1 ≠ 0) <|
  bindO (
   if (decide ((Int.tmod a0 a1) < 0)) = true then (
    gd (-9223372036854775808 ≤ (Int.tmod a0 a1) + a1 ∧ (Int.tmod a0 a1) + a1 ≤ 9223372036854775807) <|
    some ((Int.tmod a0 a1) + a1)
   ) else (
    some (Int.tmod a0 a1)
   )
  ) fun j_1_0 =>
  some j_1_0
 )
noncomputable def m_net_Net_all (N : Nat) (e0 : List ((Int × Int) × List (List Int))) : Option (Unit) :=
 some ()
noncomputable def m_net_bags_at (N : Nat) (e0 : List ((Int × Int) × List (List Int))) (a1 : Int) (a2 : Int) (a3 : Int) : Option (Nat) :=
 bindO (
  if (decide (a3 < 0)) = true then (
   some true
  ) else (
   gd (-9223372036854775808 ≤ a1 ∧ a1 ≤ 9223372036854775807) <|
   gd (-9223372036854775808 ≤ a2 ∧ a2 ≤ 9223372036854775807) <|
   bindO (some ((mlook (a1, a2) e0).getD [])) fun l17 =>
   some (decide (a3 ≥ ((l17.length : Nat) : Int)))
  )
 ) fun j_1_10 =>
 if j_1_10 = true then (
  some 6
 ) else (
  some 0
 )
noncomputable def m_net_bags_take (N : Nat) (e0 : List ((Int × Int) × List (List Int))) (a1 : Int) (a2 : Int) (a3 : Int) : Option ((List Int) × Nat × (List ((Int × Int) × List (List Int)))) :=
 bindO (m_net_bags_at N e0 a1 a2 a3) fun v13 =>
 if (v13 != 0) = true then (
  some ([], v13, e0)
 ) else (
  gd (-9223372036854775808 ≤ a1 ∧ a1 ≤ 9223372036854775807) <|
  gd (-9223372036854775808 ≤ a2 ∧ a2 ≤ 9223372036854775807) <|
  bindO (some ((mlook (a1, a2) e0).getD [])) fun l19 =>
  gd (0 ≤ a3) <|
  bindO (l19[a3.toNat]?) fun x21 =>
  gd (-9223372036854775808 ≤ a3 + 1 ∧ a3 + 1 ≤ 9223372036854775807) <|
  gd (0 ≤ a3) <|
  gd (a3.toNat < l19.length) <|
  bindO (
   if (((l19.take a3.toNat ++ l19.drop (a3.toNat + 1)).length) == 0) = true then (
    some (mdel (a1, a2) (mput (a1, a2) (l19.take a3.toNat ++ l19.drop (a3.toNat + 1)) e0))
   ) else (
    some (mput (a1, a2) (l19.take a3.toNat ++ l19.drop (a3.toNat + 1)) e0)
   )
  ) fun j_1_r0_m =>
  some (x21, 0, j_1_r0_m)
 )
noncomputable def m_net_Net_Take (N : Nat) (e0 : List ((Int × Int) × List (List Int))) (a1 : Int) (a2 : Int) (a3 : Int) : Option ((List Int) × Nat × (List ((Int × Int) × List (List Int)))) :=
 bindO (m_net_Net_all N e0) fun _ =>
 bindO (m_net_bags_take N e0 a1 a2 a3) fun (v16_0, v16_1, v16_2) =>
 some (v16_0, v16_1, v16_2)
noncomputable def m_ropewalkref20_Net_place_C3 (N : Nat) (l0 : List Ropewalkref20_packetD) (u1_9 : Nat) (a1 : Int) (a2 : Int) (u1_3 : Int) : Option (Int ⊕ ((Nat × Int) ⊕ (Unit ⊕ Int))) :=
 bindO (
  bindO (l0[u1_9]?) fun x28 =>
  if (x28.from_ == a1) = true then (
   bindO (l0[u1_9]?) fun x39 =>
   some (x39.to_ == a2)
  ) else (
   some false
  )
 ) fun j_4_44 =>
 if j_4_44 = true then (
  if (u1_3 == 0) = true then (
   some (.inr (.inr (.inr ((u1_9 : Nat) : Int))))
  ) else (
   gd (-9223372036854775808 ≤ u1_3 - 1 ∧ u1_3 - 1 ≤ 9223372036854775807) <|
   some (.inl (u1_3 - 1))
  )
 ) else (
  some (.inl u1_3)
 )
noncomputable def m_ropewalkref20_Net_place_L1 (N : Nat) (l0 : List Ropewalkref20_packetD) (a1 : Int) (a2 : Int) : (Nat × Int) → Option ((Nat × Int) ⊕ (Unit ⊕ Int)) := fun (u1_9, u1_3) =>
 bindO (
  if (decide (u1_9 < l0.length)) = true then (
   some (decide (u1_3 ≥ 0))
  ) else (
   some false
  )
 ) fun j_2_20 =>
 if j_2_20 = true then (
  bindS (m_ropewalkref20_Net_place_C3 N l0 u1_9 a1 a2 u1_3
  ) fun j_3_3 =>
  gd (u1_9 + 1 ≤ 9223372036854775807) <|
  some (.inl (u1_9 + 1, j_3_3))
 ) else (
  some (.inr (.inl ()))
 )
noncomputable def m_ropewalkref20_Net_place (N : Nat) (l0 : List Ropewalkref20_packetD) (a1 : Int) (a2 : Int) (a3 : Int) : Option (Int) :=
 bindS (
  iter (m_ropewalkref20_Net_place_L1 N l0 a1 a2) N (0, a3)
 ) fun _ =>
 some (-1)
noncomputable def m_ropewalkref20_Net_Take (N : Nat) (l0 : List Ropewalkref20_packetD) (a1 : Int) (a2 : Int) (a3 : Int) : Option ((List Int) × Nat × (List Ropewalkref20_packetD)) :=
 bindO (m_ropewalkref20_Net_place N l0 a1 a2 a3) fun v17 =>
 if (decide (v17 < 0)) = true then (
  some ([], 6, l0)
 ) else (
  gd (0 ≤ v17) <|
  bindO (l0[v17.toNat]?) fun x25 =>
  gd (0 ≤ v17) <|
  gd (v17.toNat ≤ l0.length) <|
  gd (([] : List Ropewalkref20_packetD).length + (l0.take v17.toNat).length ≤ 3518437208883) <|
  gd (-9223372036854775808 ≤ v17 + 1 ∧ v17 + 1 ≤ 9223372036854775807) <|
  gd (0 ≤ v17 + 1) <|
  gd ((v17 + 1).toNat ≤ l0.length) <|
  gd ((l0.take v17.toNat).length + (l0.drop ((v17 + 1).toNat)).length ≤ 3518437208883) <|
  gd (([] : List Int).length + x25.b.length ≤ 140737488355328) <|
  some (x25.b, 0, (l0.take v17.toNat) ++ (l0.drop ((v17 + 1).toNat)))
 )
noncomputable def m_ropewalkkit_SameBytes_L1 (N : Nat) (l0 : List Int) (l1 : List Int) : Nat → Option (Nat ⊕ (Unit ⊕ Bool)) := fun u1_5 =>
 if (decide (u1_5 < l0.length)) = true then (
  bindO (l0[u1_5]?) fun x19 =>
  bindO (l1[u1_5]?) fun x23 =>
  if (x19 != x23) = true then (
   some (.inr (.inr false))
  ) else (
   gd (u1_5 + 1 ≤ 9223372036854775807) <|
   some (.inl (u1_5 + 1))
  )
 ) else (
  some (.inr (.inl ()))
 )
noncomputable def m_ropewalkkit_SameBytes (N : Nat) (l0 : List Int) (l1 : List Int) : Option (Bool) :=
 if (l0.length != l1.length) = true then (
  some false
 ) else (
  bindS (
   iter (m_ropewalkkit_SameBytes_L1 N l0 l1) N 0
  ) fun _ =>
  some true
 )
noncomputable def m_net_bags_put (N : Nat) (e0 : List ((Int × Int) × List (List Int))) (a1 : Int) (a2 : Int) (l3 : List Int) : Option (Nat × (List ((Int × Int) × List (List Int)))) :=
 if (decide (1048576 < l3.length)) = true then (
  some (3, e0)
 ) else (
  gd (-9223372036854775808 ≤ a1 ∧ a1 ≤ 9223372036854775807) <|
  gd (-9223372036854775808 ≤ a2 ∧ a2 ≤ 9223372036854775807) <|
  bindO (some ((mlook (a1, a2) e0).getD [])) fun l17 =>
  if (decide (64 ≤ l17.length)) = true then (
   some (5, e0)
  ) else (
   gd (l3.length ≤ 140737488355328) <|
   bindO (some ((mlook (a1, a2) e0).getD [])) fun l26 =>
   gd (l26.length + [l3].length ≤ 5864062014805) <|
   some (0, mput (a1, a2) (l26 ++ [l3]) e0)
  )
 )
noncomputable def m_net_Net_Double (N : Nat) (e0 : List ((Int × Int) × List (List Int))) (a1 : Int) (a2 : Int) (a3 : Int) : Option (Nat × (List ((Int × Int) × List (List Int)))) :=
 bindO (m_net_Net_all N e0) fun _ =>
 bindO (m_net_bags_at N e0 a1 a2 a3) fun v18 =>
 if (v18 != 0) = true then (
  some (v18, e0)
 ) else (
  bindO (m_net_Net_all N e0) fun _ =>
  bindO (m_net_Net_all N e0) fun _ =>
  gd (-9223372036854775808 ≤ a1 ∧ a1 ≤ 9223372036854775807) <|
  gd (-9223372036854775808 ≤ a2 ∧ a2 ≤ 9223372036854775807) <|
  bindO (some ((mlook (a1, a2) e0).getD [])) fun l28 =>
  gd (0 ≤ a3) <|
  bindO (l28[a3.toNat]?) fun x30 =>
  bindO (m_net_bags_put N e0 a1 a2 x30) fun (v32_0, v32_1) =>
  some (v32_0, v32_1)
 )
noncomputable def m_ropewalkref20_Net_Count_C2 (N : Nat) (l0 : List Ropewalkref20_packetD) (u1_8 : Nat) (a1 : Int) (a2 : Int) (u1_7 : Nat) : Option (Nat) :=
 bindO (
  bindO (l0[u1_8]?) fun x23 =>
  if (x23.from_ == a1) = true then (
   bindO (l0[u1_8]?) fun x34 =>
   some (x34.to_ == a2)
  ) else (
   some false
  )
 ) fun j_3_39 =>
 if j_3_39 = true then (
  gd (u1_7 + 1 ≤ 9223372036854775807) <|
  some (u1_7 + 1)
 ) else (
  some u1_7
 )
noncomputable def m_ropewalkref20_Net_Count_L1 (N : Nat) (l0 : List Ropewalkref20_packetD) (a1 : Int) (a2 : Int) : (Nat × Nat) → Option ((Nat × Nat) ⊕ Nat) := fun (u1_8, u1_7) =>
 if (decide (u1_8 < l0.length)) = true then (
  bindO (m_ropewalkref20_Net_Count_C2 N l0 u1_8 a1 a2 u1_7
  ) fun j_2_7 =>
  gd (u1_8 + 1 ≤ 9223372036854775807) <|
  some (.inl (u1_8 + 1, j_2_7))
 ) else (
  some (.inr u1_7)
 )
noncomputable def m_ropewalkref20_Net_Count (N : Nat) (l0 : List Ropewalkref20_packetD) (a1 : Int) (a2 : Int) : Option (Nat) :=
 bindO (
  iter (m_ropewalkref20_Net_Count_L1 N l0 a1 a2) N (0, 0)
 ) fun j_1_7 =>
 some j_1_7
noncomputable def m_ropewalkref20_Net_Send (N : Nat) (l0 : List Ropewalkref20_packetD) (a1 : Int) (a2 : Int) (l3 : List Int) : Option (Nat × (List Ropewalkref20_packetD)) :=
 if (decide (1048576 < l3.length)) = true then (
  some (3, l0)
 ) else (
  bindO (m_ropewalkref20_Net_Count N l0 a1 a2) fun v15 =>
  if (decide (64 ≤ v15)) = true then (
   some (5, l0)
  ) else (
   gd (([] : List Int).length + l3.length ≤ 140737488355328) <|
   gd (l0.length + ([(⟨a1, a2, l3⟩ : Ropewalkref20_packetD)]).length ≤ 3518437208883) <|
   some (0, (l0 ++ ([(⟨a1, a2, l3⟩ : Ropewalkref20_packetD)])))
  )
 )
noncomputable def m_ropewalkref20_Net_Double (N : Nat) (l0 : List Ropewalkref20_packetD) (a1 : Int) (a2 : Int) (a3 : Int) : Option (Nat × (List Ropewalkref20_packetD)) :=
 bindO (m_ropewalkref20_Net_place N l0 a1 a2 a3) fun v14 =>
 if (decide (v14 < 0)) = true then (
  some (6, l0)
 ) else (
  gd (0 ≤ v14) <|
  bindO (l0[v14.toNat]?) fun x25 =>
  bindO (m_ropewalkref20_Net_Send N l0 a1 a2 x25.b) fun (v28_0, v28_1) =>
  some (v28_0, v28_1)
 )
noncomputable def m_net_Net_Drop (N : Nat) (e0 : List ((Int × Int) × List (List Int))) (a1 : Int) (a2 : Int) (a3 : Int) : Option (Nat × (List ((Int × Int) × List (List Int)))) :=
 bindO (m_net_Net_Take N e0 a1 a2 a3) fun (v16_0, v16_1, v16_2) =>
 some (v16_1, v16_2)
noncomputable def m_ropewalkref20_Net_Drop (N : Nat) (l0 : List Ropewalkref20_packetD) (a1 : Int) (a2 : Int) (a3 : Int) : Option (Nat × (List Ropewalkref20_packetD)) :=
 bindO (m_ropewalkref20_Net_Take N l0 a1 a2 a3) fun (v16_0, v16_1, v16_2) =>
 some (v16_1, v16_2)
noncomputable def m_net_Net_Send (N : Nat) (e0 : List ((Int × Int) × List (List Int))) (a1 : Int) (a2 : Int) (l3 : List Int) : Option (Nat × (List ((Int × Int) × List (List Int)))) :=
 bindO (m_net_Net_all N e0) fun _ =>
 bindO (m_net_bags_put N e0 a1 a2 l3) fun (v15_0, v15_1) =>
 some (v15_0, v15_1)
noncomputable def m_ropewalklaw20_step (N : Nat) (e0 : List ((Int × Int) × List (List Int))) (l1 : List Ropewalkref20_packetD) (a2 : Int) (a3 : Int) (a4 : Int) (a5 : Int) (l6 : List Int) : Option (Bool × (List ((Int × Int) × List (List Int))) × (List Ropewalkref20_packetD)) :=
 bindO (m_ropewalkkit_Pick N a2 6) fun v13 =>
 if (v13 == 3) = true then (
  bindO (m_net_Net_Take N e0 a3 a4 a5) fun (v24_0, v24_1, v24_2) =>
  bindO (m_ropewalkref20_Net_Take N l1 a3 a4 a5) fun (v35_0, v35_1, v35_2) =>
  if (v24_1 == v35_1) = true then (
   bindO (m_ropewalkkit_SameBytes N v24_0 v35_0) fun v44 =>
   some (v44, v24_2, v35_2)
  ) else (
   some (false, v24_2, v35_2)
  )
 ) else (
  if (v13 == 4) = true then (
   bindO (m_net_Net_Double N e0 a3 a4 a5) fun (v55_0, v55_1) =>
   bindO (m_ropewalkref20_Net_Double N l1 a3 a4 a5) fun (v63_0, v63_1) =>
   some (v55_0 == v63_0, v55_1, v63_1)
  ) else (
   if (v13 == 5) = true then (
    bindO (m_net_Net_Drop N e0 a3 a4 a5) fun (v74_0, v74_1) =>
    bindO (m_ropewalkref20_Net_Drop N l1 a3 a4 a5) fun (v82_0, v82_1) =>
    some (v74_0 == v82_0, v74_1, v82_1)
   ) else (
    bindO (m_net_Net_Send N e0 a3 a4 l6) fun (v91_0, v91_1) =>
    bindO (m_ropewalkref20_Net_Send N l1 a3 a4 l6) fun (v99_0, v99_1) =>
    some (v91_0 == v99_0, v91_1, v99_1)
   )
  )
 )
noncomputable def m_net_bags_Count (N : Nat) (e0 : List ((Int × Int) × List (List Int))) (a1 : Int) (a2 : Int) : Option (Nat) :=
 gd (-9223372036854775808 ≤ a1 ∧ a1 ≤ 9223372036854775807) <|
 gd (-9223372036854775808 ≤ a2 ∧ a2 ≤ 9223372036854775807) <|
 bindO (some ((mlook (a1, a2) e0).getD [])) fun l11 =>
 some l11.length
noncomputable def m_net_Net_Count (N : Nat) (e0 : List ((Int × Int) × List (List Int))) (a1 : Int) (a2 : Int) : Option (Nat) :=
 bindO (m_net_Net_all N e0) fun _ =>
 bindO (m_net_bags_Count N e0 a1 a2) fun v11 =>
 some v11
noncomputable def m_cmp_isNaN_int (N : Nat) (a0 : Int) : Option (Unit) :=
 some ()
noncomputable def m_cmp_Compare_int (N : Nat) (a0 : Int) (a1 : Int) : Option (Int) :=
 bindO (m_cmp_isNaN_int N a0) fun _ =>
 bindO (m_cmp_isNaN_int N a1) fun _ =>
 if (a0 != a0) = true then (
  if (a1 != a1) = true then (
   some 0
  ) else (
   some (-1)
  )
 ) else (
  if (a1 != a1) = true then (
   some 1
  ) else (
   if (decide (a0 < a1)) = true then (
    some (-1)
   ) else (
    if (decide (a0 > a1)) = true then (
     some 1
    ) else (
     some 0
    )
   )
  )
 )
noncomputable def m_cmp_Or_int_L1 (N : Nat) (l0 : List Int) : Nat → Option (Nat ⊕ (Unit ⊕ Int)) := fun u1_8 =>
 if (decide (u1_8 < l0.length)) = true then (
  bindO (l0[u1_8]?) fun x10 =>
  if (x10 != 0) = true then (
   some (.inr (.inr x10))
  ) else (
   gd (u1_8 + 1 ≤ 9223372036854775807) <|
   some (.inl (u1_8 + 1))
  )
 ) else (
  some (.inr (.inl ()))
 )
noncomputable def m_cmp_Or_int (N : Nat) (l0 : List Int) : Option (Int) :=
 bindS (
  iter (m_cmp_Or_int_L1 N l0) N 0
 ) fun _ =>
 some 0
noncomputable def m_net_bags_Links_1 (N : Nat) (a0 : Int) (a1 : Int) (a2 : Int) (a3 : Int) : Option (Int) :=
 bindO (m_cmp_Compare_int N a0 a2) fun v9 =>
 bindO (m_cmp_Compare_int N a1 a3) fun v14 =>
 bindO (m_cmp_Or_int N [v9, v14]) fun v16 =>
 some v16
noncomputable def m_net_Net_Links (N : Nat) (e0 : List ((Int × Int) × List (List Int))) : Option (List (Int × Int)) :=
 bindO (m_net_Net_all N e0) fun _ =>
 gd (e0.length ≤ 8796093022208) <|
 bindO (sortM (fun x_ y_ => m_net_bags_Links_1 N x_.1 x_.2 y_.1 y_.2) (List.map (fun x : (Int × Int) × List (List Int) => x.1) e0)) fun v5 =>
 some v5
noncomputable def m_ropewalkref20_Net_Links_C5 (N : Nat) (u2_6 : Nat) (u1_3_l : List (Int × Int)) (x22 : Ropewalkref20_packetD) (x30 : Ropewalkref20_packetD) : Option (Bool) :=
 if (decide (u2_6 < u1_3_l.length)) = true then (
  bindO (u1_3_l[u2_6]?) fun x41 =>
  if (decide (x41.1 < x22.from_)) = true then (
   some true
  ) else (
   bindO (u1_3_l[u2_6]?) fun x50 =>
   if (x50.1 == x22.from_) = true then (
    bindO (u1_3_l[u2_6]?) fun x59 =>
    some (decide (x59.2 < x30.to_))
   ) else (
    some false
   )
  )
 ) else (
  some false
 )
noncomputable def m_ropewalkref20_Net_Links_L2 (N : Nat) (u1_3_l : List (Int × Int)) (x22 : Ropewalkref20_packetD) (x30 : Ropewalkref20_packetD) : Nat → Option (Nat ⊕ Nat) := fun u2_6 =>
 bindO (m_ropewalkref20_Net_Links_C5 N u2_6 u1_3_l x22 x30
 ) fun j_5_67 =>
 if j_5_67 = true then (
  gd (u2_6 + 1 ≤ 9223372036854775807) <|
  some (.inl (u2_6 + 1))
 ) else (
  some (.inr u2_6)
 )
noncomputable def m_ropewalkref20_Net_Links_C2 (N : Nat) (l0 : List Ropewalkref20_packetD) (u1_4 : Nat) (u1_3_l : List (Int × Int)) : Option (List (Int × Int)) :=
 bindO (l0[u1_4]?) fun x22 =>
 bindO (l0[u1_4]?) fun x30 =>
 bindO (
  iter (m_ropewalkref20_Net_Links_L2 N u1_3_l x22 x30) N 0
 ) fun j_4_6 =>
 bindO (
  if (decide (j_4_6 < u1_3_l.length)) = true then (
   bindO (u1_3_l[j_4_6]?) fun x77 =>
   some ((x77.1 == x22.from_) && (x77.2 == x30.to_))
  ) else (
   some false
  )
 ) fun j_6_81 =>
 if j_6_81 = true then (
  some u1_3_l
 ) else (
  gd (j_4_6 ≤ u1_3_l.length) <|
  gd (([] : List (Int × Int)).length + (u1_3_l.take j_4_6).length ≤ 8796093022208) <|
  gd ((u1_3_l.take j_4_6).length + ([(x22.from_, x30.to_)]).length ≤ 8796093022208) <|
  gd (j_4_6 ≤ u1_3_l.length) <|
  gd (((u1_3_l.take j_4_6) ++ ([(x22.from_, x30.to_)])).length + (u1_3_l.drop j_4_6).length ≤ 8796093022208) <|
  some (((u1_3_l.take j_4_6) ++ ([(x22.from_, x30.to_)])) ++ (u1_3_l.drop j_4_6))
 )
noncomputable def m_ropewalkref20_Net_Links_L1 (N : Nat) (l0 : List Ropewalkref20_packetD) : (Nat × (List (Int × Int))) → Option ((Nat × (List (Int × Int))) ⊕ (List (Int × Int))) := fun (u1_4, u1_3_l) =>
 if (decide (u1_4 < l0.length)) = true then (
  bindO (m_ropewalkref20_Net_Links_C2 N l0 u1_4 u1_3_l
  ) fun j_2_3_l =>
  gd (u1_4 + 1 ≤ 9223372036854775807) <|
  some (.inl (u1_4 + 1, j_2_3_l))
 ) else (
  some (.inr u1_3_l)
 )
noncomputable def m_ropewalkref20_Net_Links (N : Nat) (l0 : List Ropewalkref20_packetD) : Option (List (Int × Int)) :=
 bindO (
  iter (m_ropewalkref20_Net_Links_L1 N l0) N (0, [])
 ) fun j_1_3_l =>
 some j_1_3_l
noncomputable def m_ropewalklaw20_links_L1 (N : Nat) (l0 : List (Int × Int)) (l1 : List (Int × Int)) : Nat → Option (Nat ⊕ (Unit ⊕ Bool)) := fun u1_5 =>
 if (decide (u1_5 < l0.length)) = true then (
  bindO (l0[u1_5]?) fun x19 =>
  bindO (l1[u1_5]?) fun x23 =>
  if (!((x19.1 == x23.1) && (x19.2 == x23.2))) = true then (
   some (.inr (.inr false))
  ) else (
   gd (u1_5 + 1 ≤ 9223372036854775807) <|
   some (.inl (u1_5 + 1))
  )
 ) else (
  some (.inr (.inl ()))
 )
noncomputable def m_ropewalklaw20_links (N : Nat) (l0 : List (Int × Int)) (l1 : List (Int × Int)) : Option (Bool) :=
 if (l0.length != l1.length) = true then (
  some false
 ) else (
  bindS (
   iter (m_ropewalklaw20_links_L1 N l0 l1) N 0
  ) fun _ =>
  some true
 )
noncomputable def m_ropewalklaw20_awake_C1 (N : Nat) : Option ((List ((Int × Int) × List (List Int))) × Bool) :=
 bindO (m_net_Net_Send N ([] : List ((Int × Int) × List (List Int))) 1 2 [120]) fun (v13_0, v13_1) =>
 if (v13_0 == 0) = true then (
  bindO (m_net_Net_Send N v13_1 1 2 [121]) fun (v19_0, v19_1) =>
  if (v19_0 == 0) = true then (
   bindO (m_net_Net_Count N v19_1 1 2) fun v24 =>
   if (v24 == 2) = true then (
    bindO (m_net_Net_Count N v19_1 2 1) fun v29 =>
    if (v29 == 0) = true then (
     bindO (m_net_Net_Links N v19_1) fun v34 =>
     bindO (m_ropewalklaw20_links N v34 [(1, 2)]) fun v37 =>
     if v37 = true then (
      bindO (m_net_Net_Double N v19_1 1 2 0) fun (v41_0, v41_1) =>
      some (v41_1, v41_0 == 0)
     ) else (
      some (v19_1, false)
     )
    ) else (
     some (v19_1, false)
    )
   ) else (
    some (v19_1, false)
   )
  ) else (
   some (v19_1, false)
  )
 ) else (
  some (v13_1, false)
 )
noncomputable def m_ropewalklaw20_awake_C2 (N : Nat) (j_1_2 : Bool) (v46_1 : Nat) (v51_1 : Nat) (v56_1 : Nat) (v46_0 : List Int) (v51_0 : List Int) (v56_2 : List ((Int × Int) × List (List Int))) : Option (Bool) :=
 if j_1_2 = true then (
  if (v46_1 == 0) = true then (
   if (v51_1 == 0) = true then (
    if (v56_1 == 6) = true then (
     if ((strOfNums v46_0).toList == (⟨#[120]⟩ : ByteArray).toList) = true then (
      if ((strOfNums v51_0).toList == (⟨#[120]⟩ : ByteArray).toList) = true then (
       bindO (m_net_Net_Count N v56_2 1 2) fun v84 =>
       some (v84 == 1)
      ) else (
       some false
      )
     ) else (
      some false
     )
    ) else (
     some false
    )
   ) else (
    some false
   )
  ) else (
   some false
  )
 ) else (
  some false
 )
noncomputable def m_ropewalklaw20_awake (N : Nat) : Option (Bool) :=
 bindO (m_net_New N) fun _ =>
 bindO (m_ropewalklaw20_awake_C1 N
 ) fun (j_1_1_f0_m, j_1_2) =>
 bindO (m_net_Net_Take N j_1_1_f0_m 1 2 0) fun (v46_0, v46_1, v46_2) =>
 bindO (m_net_Net_Take N v46_2 1 2 1) fun (v51_0, v51_1, v51_2) =>
 bindO (m_net_Net_Take N v51_2 1 2 1) fun (v56_0, v56_1, v56_2) =>
 bindO (m_ropewalklaw20_awake_C2 N j_1_2 v46_1 v51_1 v56_1 v46_0 v51_0 v56_2
 ) fun j_2_0 =>
 some j_2_0
noncomputable def m_ropewalklaw20_NetLives_C3 (N : Nat) (u1_3_f0_m : List ((Int × Int) × List (List Int))) (u1_4_f0_l : List Ropewalkref20_packetD) (x22 : Ropewalklaw20_DoD) : Option ((List Ropewalkref20_packetD) × (List ((Int × Int) × List (List Int))) × Bool) :=
 bindO (m_ropewalklaw20_step N u1_3_f0_m u1_4_f0_l x22.op x22.from_ x22.to_ x22.at_ x22.b) fun (v27_0, v27_1, v27_2) =>
 if (!v27_0) = true then (
  some (v27_2, v27_1, true)
 ) else (
  bindO (m_net_Net_Count N v27_1 x22.from_ x22.to_) fun v35 =>
  bindO (m_ropewalkref20_Net_Count N v27_2 x22.from_ x22.to_) fun v41 =>
  if (v35 != v41) = true then (
   some (v27_2, v27_1, true)
  ) else (
   bindO (m_net_Net_Count N v27_1 x22.to_ x22.from_) fun v50 =>
   bindO (m_ropewalkref20_Net_Count N v27_2 x22.to_ x22.from_) fun v56 =>
   if (v50 != v56) = true then (
    some (v27_2, v27_1, true)
   ) else (
    bindO (m_net_Net_Links N v27_1) fun v61 =>
    bindO (m_ropewalkref20_Net_Links N v27_2) fun v63 =>
    bindO (m_ropewalklaw20_links N v61 v63) fun v64 =>
    some (v27_2, v27_1, !v64)
   )
  )
 )
noncomputable def m_ropewalklaw20_NetLives_L1 (N : Nat) (j_1_0_l : List Ropewalklaw20_DoD) : (Nat × (List Ropewalkref20_packetD) × (List ((Int × Int) × List (List Int)))) → Option ((Nat × (List Ropewalkref20_packetD) × (List ((Int × Int) × List (List Int)))) ⊕ (Unit ⊕ Bool)) := fun (u1_5, u1_4_f0_l, u1_3_f0_m) =>
 if (decide (u1_5 < j_1_0_l.length)) = true then (
  bindO (j_1_0_l[u1_5]?) fun x22 =>
  bindO (m_ropewalklaw20_NetLives_C3 N u1_3_f0_m u1_4_f0_l x22
  ) fun (j_3_4_f0_l, j_3_3_f0_m, j_3_66) =>
  if j_3_66 = true then (
   some (.inr (.inr false))
  ) else (
   gd (u1_5 + 1 ≤ 9223372036854775807) <|
   some (.inl (u1_5 + 1, j_3_4_f0_l, j_3_3_f0_m))
  )
 ) else (
  some (.inr (.inl ()))
 )
noncomputable def m_ropewalklaw20_NetLives (N : Nat) (l0 : List Ropewalklaw20_DoD) : Option (Bool) :=
 bindO (
  if (decide (200 < l0.length)) = true then (
   gd (200 ≤ l0.length) <|
   some (l0.take 200)
  ) else (
   some l0
  )
 ) fun j_1_0_l =>
 bindO (m_net_New N) fun _ =>
 bindO (m_ropewalkref20_New N) fun _ =>
 bindS (
  iter (m_ropewalklaw20_NetLives_L1 N j_1_0_l) N (0, [], ([] : List ((Int × Int) × List (List Int))))
 ) fun _ =>
 bindO (m_ropewalklaw20_awake N) fun v67 =>
 some v67
end Go.Proofs.Ytegkmbkbaenkcaa
