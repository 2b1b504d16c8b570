import Derived.Test.YtegkmbkbaenkcaaXT
namespace Go.Proofs.Ytegkmbkbaenkcaa
open Go.RowKit
noncomputable def m_net_New (N : Nat) : Option (Unit) :=
 some ()
noncomputable def m_net_Net_all (N : Nat) (e0 : List ((Int × Int) × List (List Int))) : Option (Unit) :=
 some ()
noncomputable def m_net_bags_at (N : Nat) (e0 : List ((Int × Int) × List (List Int))) (a1 : Int) (a2 : Int) (a3 : Int) : Option (Nat) :=
 bindO (
  if (decide (a3 < 0)) = true then (
   some true
  ) else (
   gd (-9223372036854775808 ≤ a1 ∧ a1 ≤ 9223372036854775807) <|
   gd (-9223372036854775808 ≤ a2 ∧ a2 ≤ 9223372036854775807) <|
   bindO (some ((mlook (a1, a2) e0).getD [])) fun l17 =>
   some (decide (a3 ≥ ((l17.length : Nat) : Int)))
  )
 ) fun j_1_10 =>
 if j_1_10 = true then (
  some 6
 ) else (
  some 0
 )
noncomputable def m_net_bags_take (N : Nat) (e0 : List ((Int × Int) × List (List Int))) (a1 : Int) (a2 : Int) (a3 : Int) : Option ((List Int) × Nat × (List ((Int × Int) × List (List Int)))) :=
 bindO (m_net_bags_at N e0 a1 a2 a3) fun v13 =>
 if (v13 != 0) = true then (
  some ([], v13, e0)
 ) else (
  gd (-9223372036854775808 ≤ a1 ∧ a1 ≤ 9223372036854775807) <|
  gd (-9223372036854775808 ≤ a2 ∧ a2 ≤ 9223372036854775807) <|
  bindO (some ((mlook (a1, a2) e0).getD [])) fun l19 =>
  gd (0 ≤ a3) <|
  bindO (l19[a3.toNat]?) fun x21 =>
  gd (-9223372036854775808 ≤ a3 + 1 ∧ a3 + 1 ≤ 9223372036854775807) <|
  gd (0 ≤ a3) <|
  gd (a3.toNat < l19.length) <|
  bindO (
   if (((l19.take a3.toNat ++ l19.drop (a3.toNat + 1)).length) == 0) = true then (
    some (mdel (a1, a2) (mput (a1, a2) (l19.take a3.toNat ++ l19.drop (a3.toNat + 1)) e0))
   ) else (
    some (mput (a1, a2) (l19.take a3.toNat ++ l19.drop (a3.toNat + 1)) e0)
   )
  ) fun j_1_r0_m =>
  some (x21, 0, j_1_r0_m)
 )
noncomputable def m_net_Net_Take (N : Nat) (e0 : List ((Int × Int) × List (List Int))) (a1 : Int) (a2 : Int) (a3 : Int) : Option ((List Int) × Nat × (List ((Int × Int) × List (List Int)))) :=
 bindO (m_net_Net_all N e0) fun _ =>
 bindO (m_net_bags_take N e0 a1 a2 a3) fun (v16_0, v16_1, v16_2) =>
 some (v16_0, v16_1, v16_2)
noncomputable def m_ropewalkkit_SameBytes_L1 (N : Nat) (l0 : List Int) (l1 : List Int) : Nat → Option (Nat ⊕ (Unit ⊕ Bool)) := fun u1_5 =>
 if (decide (u1_5 < l0.length)) = true then (
  bindO (l0[u1_5]?) fun x19 =>
  bindO (l1[u1_5]?) fun x23 =>
  if (x19 != x23) = true then (
   some (.inr (.inr false))
  ) else (
   gd (u1_5 + 1 ≤ 9223372036854775807) <|
   some (.inl (u1_5 + 1))
  )
 ) else (
  some (.inr (.inl ()))
 )
noncomputable def m_ropewalkkit_SameBytes (N : Nat) (l0 : List Int) (l1 : List Int) : Option (Bool) :=
 if (l0.length != l1.length) = true then (
  some false
 ) else (
  bindS (
   iter (m_ropewalkkit_SameBytes_L1 N l0 l1) N 0
  ) fun _ =>
  some true
 )
noncomputable def m_net_bags_put (N : Nat) (e0 : List ((Int × Int) × List (List Int))) (a1 : Int) (a2 : Int) (l3 : List Int) : Option (Nat × (List ((Int × Int) × List (List Int)))) :=
 if (decide (1048576 < l3.length)) = true then (
  some (3, e0)
 ) else (
  gd (-9223372036854775808 ≤ a1 ∧ a1 ≤ 9223372036854775807) <|
  gd (-9223372036854775808 ≤ a2 ∧ a2 ≤ 9223372036854775807) <|
  bindO (some ((mlook (a1, a2) e0).getD [])) fun l17 =>
  if (decide (64 ≤ l17.length)) = true then (
   some (5, e0)
  ) else (
   gd (l3.length ≤ 140737488355328) <|
   bindO (some ((mlook (a1, a2) e0).getD [])) fun l26 =>
   gd (l26.length + [l3].length ≤ 5864062014805) <|
   some (0, mput (a1, a2) (l26 ++ [l3]) e0)
  )
 )
noncomputable def m_net_Net_Double (N : Nat) (e0 : List ((Int × Int) × List (List Int))) (a1 : Int) (a2 : Int) (a3 : Int) : Option (Nat × (List ((Int × Int) × List (List Int)))) :=
 bindO (m_net_Net_all N e0) fun _ =>
 bindO (m_net_bags_at N e0 a1 a2 a3) fun v18 =>
 if (v18 != 0) = true then (
  some (v18, e0)
 ) else (
  bindO (m_net_Net_all N e0) fun _ =>
  bindO (m_net_Net_all N e0) fun _ =>
  gd (-9223372036854775808 ≤ a1 ∧ a1 ≤ 9223372036854775807) <|
  gd (-9223372036854775808 ≤ a2 ∧ a2 ≤ 9223372036854775807) <|
  bindO (some ((mlook (a1, a2) e0).getD [])) fun l28 =>
  gd (0 ≤ a3) <|
  bindO (l28[a3.toNat]?) fun x30 =>
  bindO (m_net_bags_put N e0 a1 a2 x30) fun (v32_0, v32_1) =>
  some (v32_0, v32_1)
 )
noncomputable def m_net_Net_Drop (N : Nat) (e0 : List ((Int × Int) × List (List Int))) (a1 : Int) (a2 : Int) (a3 : Int) : Option (Nat × (List ((Int × Int) × List (List Int)))) :=
 bindO (m_net_Net_Take N e0 a1 a2 a3) fun (v16_0, v16_1, v16_2) =>
 some (v16_1, v16_2)
noncomputable def m_net_Net_Send (N : Nat) (e0 : List ((Int × Int) × List (List Int))) (a1 : Int) (a2 : Int) (l3 : List Int) : Option (Nat × (List ((Int × Int) × List (List Int)))) :=
 bindO (m_net_Net_all N e0) fun _ =>
 bindO (m_net_bags_put N e0 a1 a2 l3) fun (v15_0, v15_1) =>
 some (v15_0, v15_1)
noncomputable def m_net_bags_Count (N : Nat) (e0 : List ((Int × Int) × List (List Int))) (a1 : Int) (a2 : Int) : Option (Nat) :=
 gd (-9223372036854775808 ≤ a1 ∧ a1 ≤ 9223372036854775807) <|
 gd (-9223372036854775808 ≤ a2 ∧ a2 ≤ 9223372036854775807) <|
 bindO (some ((mlook (a1, a2) e0).getD [])) fun l11 =>
 some l11.length
noncomputable def m_net_Net_Count (N : Nat) (e0 : List ((Int × Int) × List (List Int))) (a1 : Int) (a2 : Int) : Option (Nat) :=
 bindO (m_net_Net_all N e0) fun _ =>
 bindO (m_net_bags_Count N e0 a1 a2) fun v11 =>
 some v11
noncomputable def m_cmp_isNaN_int (N : Nat) (a0 : Int) : Option (Unit) :=
 some ()
noncomputable def m_cmp_Compare_int (N : Nat) (a0 : Int) (a1 : Int) : Option (Int) :=
 bindO (m_cmp_isNaN_int N a0) fun _ =>
 bindO (m_cmp_isNaN_int N a1) fun _ =>
 if (a0 != a0) = true then (
  if (a1 != a1) = true then (
   some 0
  ) else (
   some (-1)
  )
 ) else (
  if (a1 != a1) = true then (
   some 1
  ) else (
   if (decide (a0 < a1)) = true then (
    some (-1)
   ) else (
    if (decide (a0 > a1)) = true then (
     some 1
    ) else (
     some 0
    )
   )
  )
 )
noncomputable def m_cmp_Or_int_L1 (N : Nat) (l0 : List Int) : Nat → Option (Nat ⊕ (Unit ⊕ Int)) := fun u1_8 =>
 if (decide (u1_8 < l0.length)) = true then (
  bindO (l0[u1_8]?) fun x10 =>
  if (x10 != 0) = true then (
   some (.inr (.inr x10))
  ) else (
   gd (u1_8 + 1 ≤ 9223372036854775807) <|
   some (.inl (u1_8 + 1))
  )
 ) else (
  some (.inr (.inl ()))
 )
noncomputable def m_cmp_Or_int (N : Nat) (l0 : List Int) : Option (Int) :=
 bindS (
  iter (m_cmp_Or_int_L1 N l0) N 0
 ) fun _ =>
 some 0
noncomputable def m_net_bags_Links_1 (N : Nat) (a0 : Int) (a1 : Int) (a2 : Int) (a3 : Int) : Option (Int) :=
 bindO (m_cmp_Compare_int N a0 a2) fun v9 =>
 bindO (m_cmp_Compare_int N a1 a3) fun v14 =>
 bindO (m_cmp_Or_int N [v9, v14]) fun v16 =>
 some v16
noncomputable def m_net_Net_Links (N : Nat) (e0 : List ((Int × Int) × List (List Int))) : Option (List (Int × Int)) :=
 bindO (m_net_Net_all N e0) fun _ =>
 gd (e0.length ≤ 8796093022208) <|
 bindO (sortM (fun x_ y_ => m_net_bags_Links_1 N x_.1 x_.2 y_.1 y_.2) (List.map (fun x : (Int × Int) × List (List Int) => x.1) e0)) fun v5 =>
 some v5
noncomputable def m_ropewalklaw20_links_L1 (N : Nat) (l0 : List (Int × Int)) (l1 : List (Int × Int)) : Nat → Option (Nat ⊕ (Unit ⊕ Bool)) := fun u1_5 =>
 if (decide (u1_5 < l0.length)) = true then (
  bindO (l0[u1_5]?) fun x19 =>
  bindO (l1[u1_5]?) fun x23 =>
  if (!((x19.1 == x23.1) && (x19.2 == x23.2))) = true then (
   some (.inr (.inr false))
  ) else (
   gd (u1_5 + 1 ≤ 9223372036854775807) <|
   some (.inl (u1_5 + 1))
  )
 ) else (
  some (.inr (.inl ()))
 )
noncomputable def m_ropewalklaw20_links (N : Nat) (l0 : List (Int × Int)) (l1 : List (Int × Int)) : Option (Bool) :=
 if (l0.length != l1.length) = true then (
  some false
 ) else (
  bindS (
   iter (m_ropewalklaw20_links_L1 N l0 l1) N 0
  ) fun _ =>
  some true
 )
noncomputable def m_ropewalklaw20_awake_C1 (N : Nat) : Option ((List ((Int × Int) × List (List Int))) × Bool) :=
 bindO (m_net_Net_Send N ([] : List ((Int × Int) × List (List Int))) 1 2 [120]) fun (v13_0, v13_1) =>
 if (v13_0 == 0) = true then (
  bindO (m_net_Net_Send N v13_1 1 2 [121]) fun (v19_0, v19_1) =>
  if (v19_0 == 0) = true then (
   bindO (m_net_Net_Count N v19_1 1 2) fun v24 =>
   if (v24 == 2) = true then (
    bindO (m_net_Net_Count N v19_1 2 1) fun v29 =>
    if (v29 == 0) = true then (
     bindO (m_net_Net_Links N v19_1) fun v34 =>
     bindO (m_ropewalklaw20_links N v34 [(1, 2)]) fun v37 =>
     if v37 = true then (
      bindO (m_net_Net_Double N v19_1 1 2 0) fun (v41_0, v41_1) =>
      some (v41_1, v41_0 == 0)
     ) else (
      some (v19_1, false)
     )
    ) else (
     some (v19_1, false)
    )
   ) else (
    some (v19_1, false)
   )
  ) else (
   some (v19_1, false)
  )
 ) else (
  some (v13_1, false)
 )
noncomputable def m_ropewalklaw20_awake_C2 (N : Nat) (j_1_2 : Bool) (v46_1 : Nat) (v51_1 : Nat) (v56_1 : Nat) (v46_0 : List Int) (v51_0 : List Int) (v56_2 : List ((Int × Int) × List (List Int))) : Option (Bool) :=
 if j_1_2 = true then (
  if (v46_1 == 0) = true then (
   if (v51_1 == 0) = true then (
    if (v56_1 == 6) = true then (
     if ((strOfNums v46_0).toList == (⟨#[120]⟩ : ByteArray).toList) = true then (
      if ((strOfNums v51_0).toList == (⟨#[120]⟩ : ByteArray).toList) = true then (
       bindO (m_net_Net_Count N v56_2 1 2) fun v84 =>
       some (v84 == 1)
      ) else (
       some false
      )
     ) else (
      some false
     )
    ) else (
     some false
    )
   ) else (
    some false
   )
  ) else (
   some false
  )
 ) else (
  some false
 )
noncomputable def m_ropewalklaw20_awake (N : Nat) : Option (Bool) :=
 bindO (m_net_New N) fun _ =>
 bindO (m_ropewalklaw20_awake_C1 N
 ) fun (j_1_1_f0_m, j_1_2) =>
 bindO (m_net_Net_Take N j_1_1_f0_m 1 2 0) fun (v46_0, v46_1, v46_2) =>
 bindO (m_net_Net_Take N v46_2 1 2 1) fun (v51_0, v51_1, v51_2) =>
 bindO (m_net_Net_Take N v51_2 1 2 1) fun (v56_0, v56_1, v56_2) =>
 bindO (m_ropewalklaw20_awake_C2 N j_1_2 v46_1 v51_1 v56_1 v46_0 v51_0 v56_2
 ) fun j_2_0 =>
 some j_2_0
noncomputable def m_ropewalklaw20_NetNumbers_L1 (N : Nat) : (Nat × (List ((Int × Int) × List (List Int)))) → Option ((Nat × (List ((Int × Int) × List (List Int)))) ⊕ ((List ((Int × Int) × List (List Int))) ⊕ Bool)) := fun (u1_4, u1_1_f0_m) =>
 if (decide (u1_4 < 64)) = true then (
  bindO (m_net_Net_Send N u1_1_f0_m (-9223372036854775808) 9223372036854775807 [(IntKind.wrap .u8 ((u1_4 : Nat) : Int))]) fun (v29_0, v29_1) =>
  if (v29_0 != 0) = true then (
   some (.inr (.inr false))
  ) else (
   gd (u1_4 + 1 ≤ 9223372036854775807) <|
   some (.inl (u1_4 + 1, v29_1))
  )
 ) else (
  some (.inr (.inl u1_1_f0_m))
 )
noncomputable def m_ropewalklaw20_NetNumbers_C2 (N : Nat) (j_1_1_f0_m : List ((Int × Int) × List (List Int))) : Option ((List ((Int × Int) × List (List Int))) × Bool) :=
 bindO (m_net_Net_Send N j_1_1_f0_m (-9223372036854775808) 9223372036854775807 ([] : List Int)) fun (v34_0, v34_1) =>
 if (v34_0 != 5) = true then (
  some (v34_1, true)
 ) else (
  gd (1048577 ≤ 140737488355328) <|
  bindO (some (List.replicate 1048577 (0 : Int))) fun lz40 =>
  bindO (m_net_Net_Send N v34_1 (-9223372036854775808) 9223372036854775807 lz40) fun (v41_0, v41_1) =>
  if (v41_0 != 3) = true then (
   some (v41_1, true)
  ) else (
   bindO (m_net_Net_Double N v41_1 (-9223372036854775808) 9223372036854775807 0) fun (v48_0, v48_1) =>
   if (v48_0 != 5) = true then (
    some (v48_1, true)
   ) else (
    bindO (m_net_Net_Double N v48_1 (-9223372036854775808) 9223372036854775807 64) fun (v55_0, v55_1) =>
    if (v55_0 != 6) = true then (
     some (v55_1, true)
    ) else (
     bindO (m_net_Net_Count N v55_1 (-9223372036854775808) 9223372036854775807) fun v62 =>
     some (v55_1, v62 != 64)
    )
   )
  )
 )
noncomputable def m_ropewalklaw20_NetNumbers_C3 (N : Nat) (v69_1 : Nat) (v76_1 : Nat) (v83_1 : Nat) (v89_0 : Nat) (v94_1 : Nat) (v100_0 : Nat) (v105_1 : Nat) (v83_0 : List Int) (v94_0 : List Int) (v105_0 : List Int) (v105_2 : List ((Int × Int) × List (List Int))) : Option (Bool) :=
 if (v69_1 != 6) = true then (
  some true
 ) else (
  if (v76_1 != 6) = true then (
   some true
  ) else (
   if (v83_1 != 0) = true then (
    some true
   ) else (
    if (v89_0 != 0) = true then (
     some true
    ) else (
     if (v94_1 != 0) = true then (
      some true
     ) else (
      if (v100_0 != 0) = true then (
       some true
      ) else (
       if (v105_1 != 0) = true then (
        some true
       ) else (
        bindO (m_ropewalkkit_SameBytes N v83_0 [63]) fun v137 =>
        if (!v137) = true then (
         some true
        ) else (
         bindO (m_ropewalkkit_SameBytes N v94_0 [62]) fun v143 =>
         if (!v143) = true then (
          some true
         ) else (
          bindO (m_ropewalkkit_SameBytes N v105_0 [1]) fun v149 =>
          if (!v149) = true then (
           some true
          ) else (
           bindO (m_net_Net_Drop N v105_2 (-9223372036854775808) 9223372036854775807 61) fun (v156_0, v156_1) =>
           if (v156_0 != 6) = true then (
            some true
           ) else (
            bindO (m_net_Net_Drop N v156_1 (-9223372036854775808) 9223372036854775807 (-1)) fun (v163_0, v163_1) =>
            some (v163_0 != 6)
           )
          )
         )
        )
       )
      )
     )
    )
   )
  )
 )
noncomputable def m_ropewalklaw20_NetNumbers_C4 (N : Nat) : Option ((List ((Int × Int) × List (List Int))) × Bool) :=
 gd (1048577 ≤ 140737488355328) <|
 bindO (some (List.replicate 1048577 (0 : Int))) fun lz168 =>
 bindO (m_net_Net_Send N ([] : List ((Int × Int) × List (List Int))) 1 1 lz168) fun (v169_0, v169_1) =>
 if (v169_0 != 3) = true then (
  some (v169_1, true)
 ) else (
  gd (1048576 ≤ 140737488355328) <|
  bindO (some (List.replicate 1048576 (0 : Int))) fun lz173 =>
  bindO (m_net_Net_Send N v169_1 1 1 lz173) fun (v174_0, v174_1) =>
  if (v174_0 != 0) = true then (
   some (v174_1, true)
  ) else (
   bindO (m_net_Net_Send N v174_1 1 1 ([] : List Int)) fun (v179_0, v179_1) =>
   if (v179_0 != 0) = true then (
    some (v179_1, true)
   ) else (
    bindO (m_net_Net_Send N v179_1 3 2 ([] : List Int)) fun (v184_0, v184_1) =>
    if (v184_0 != 0) = true then (
     some (v184_1, true)
    ) else (
     bindO (m_net_Net_Send N v184_1 2 3 ([] : List Int)) fun (v189_0, v189_1) =>
     if (v189_0 != 0) = true then (
      some (v189_1, true)
     ) else (
      bindO (m_net_Net_Send N v189_1 2 (-3) ([] : List Int)) fun (v194_0, v194_1) =>
      if (v194_0 != 0) = true then (
       some (v194_1, true)
      ) else (
       bindO (m_net_Net_Send N v194_1 (-1) 3 ([] : List Int)) fun (v199_0, v199_1) =>
       some (v199_1, v199_0 != 0)
      )
     )
    )
   )
  )
 )
noncomputable def m_ropewalklaw20_NetNumbers (N : Nat) : Option (Bool) :=
 bindO (m_net_New N) fun _ =>
 bindS (
  iter (m_ropewalklaw20_NetNumbers_L1 N) N (0, ([] : List ((Int × Int) × List (List Int))))
 ) fun j_1_1_f0_m =>
 bindO (m_ropewalklaw20_NetNumbers_C2 N j_1_1_f0_m
 ) fun (j_2_1_f0_m, j_2_64) =>
 if j_2_64 = true then (
  some false
 ) else (
  bindO (m_net_Net_Take N j_2_1_f0_m (-9223372036854775808) 9223372036854775807 64) fun (v69_0, v69_1, v69_2) =>
  bindO (m_net_Net_Take N v69_2 (-9223372036854775808) 9223372036854775807 (-1)) fun (v76_0, v76_1, v76_2) =>
  bindO (m_net_Net_Take N v76_2 (-9223372036854775808) 9223372036854775807 63) fun (v83_0, v83_1, v83_2) =>
  bindO (m_net_Net_Double N v83_2 (-9223372036854775808) 9223372036854775807 62) fun (v89_0, v89_1) =>
  bindO (m_net_Net_Take N v89_1 (-9223372036854775808) 9223372036854775807 63) fun (v94_0, v94_1, v94_2) =>
  bindO (m_net_Net_Drop N v94_2 (-9223372036854775808) 9223372036854775807 0) fun (v100_0, v100_1) =>
  bindO (m_net_Net_Take N v100_1 (-9223372036854775808) 9223372036854775807 0) fun (v105_0, v105_1, v105_2) =>
  bindO (m_ropewalklaw20_NetNumbers_C3 N v69_1 v76_1 v83_1 v89_0 v94_1 v100_0 v105_1 v83_0 v94_0 v105_0 v105_2
  ) fun j_3_165 =>
  if j_3_165 = true then (
   some false
  ) else (
   bindO (m_net_New N) fun _ =>
   bindO (m_ropewalklaw20_NetNumbers_C4 N
   ) fun (j_4_17_f0_m, j_4_201) =>
   if j_4_201 = true then (
    some false
   ) else (
    bindO (m_net_Net_Links N j_4_17_f0_m) fun v203 =>
    bindO (m_ropewalklaw20_links N v203 [(-1, 3), (1, 1), (2, -3), (2, 3), (3, 2)]) fun v210 =>
    if (!v210) = true then (
     some false
    ) else (
     bindO (m_net_Net_Drop N j_4_17_f0_m 3 2 0) fun (v213_0, v213_1) =>
     bindO (m_net_Net_Take N v213_1 1 1 0) fun (v215_0, v215_1, v215_2) =>
     bindO (m_net_Net_Take N v215_2 1 1 0) fun (v217_0, v217_1, v217_2) =>
     bindO (m_net_Net_Links N v217_2) fun v219 =>
     bindO (m_ropewalklaw20_links N v219 [(-1, 3), (2, -3), (2, 3)]) fun v224 =>
     if v224 = true then (
      bindO (m_ropewalklaw20_awake N) fun v228 =>
      some v228
     ) else (
      some false
     )
    )
   )
  )
 )
end Go.Proofs.Ytegkmbkbaenkcaa
