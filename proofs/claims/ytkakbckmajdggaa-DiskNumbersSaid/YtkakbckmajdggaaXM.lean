import Derived.Test.YtkakbckmajdggaaXT
namespace Go.Proofs.Ytkakbckmajdggaa
open Go.RowKit
noncomputable def lit1 : List ByteArray := [(⟨#[97]⟩ : ByteArray), (⟨#[122]⟩ : ByteArray), (⟨#[48]⟩ : ByteArray), (⟨#[57]⟩ : ByteArray), (⟨#[46]⟩ : ByteArray), (⟨#[45]⟩ : ByteArray), (⟨#[46, 46]⟩ : ByteArray), (⟨(Lib.repeatL (⟨#[113]⟩ : ByteArray).data.toList 30).toArray⟩ : ByteArray), (⟨#[]⟩ : ByteArray), (⟨#[65]⟩ : ByteArray), (⟨#[97, 32, 98]⟩ : ByteArray), (⟨#[97, 47, 98]⟩ : ByteArray), (⟨#[95]⟩ : ByteArray), (⟨#[0]⟩ : ByteArray), (⟨#[255]⟩ : ByteArray), (⟨(Lib.repeatL (⟨#[113]⟩ : ByteArray).data.toList 30).toArray⟩ : ByteArray) ++ (⟨#[113]⟩ : ByteArray), (⟨#[96]⟩ : ByteArray), (⟨#[123]⟩ : ByteArray), (⟨#[58]⟩ : ByteArray), (⟨#[97, 233]⟩ : ByteArray)]
noncomputable def lit5 (x27 : ByteArray) (x34 : ByteArray) (x39 : ByteArray) (x46 : ByteArray) (x50 : ByteArray) (x55 : ByteArray) (u1_3 : Nat) (u2_4 : Nat) (x64 : ByteArray) : List Ropewalklaw17_DoD := [(⟨0, x27, (⟨#[]⟩ : ByteArray), [120], 0⟩ : Ropewalklaw17_DoD), (⟨2, x34, (⟨#[]⟩ : ByteArray), [], 0⟩ : Ropewalklaw17_DoD), (⟨0, x39, (⟨#[]⟩ : ByteArray), [121, 122], 0⟩ : Ropewalklaw17_DoD), (⟨4, x46, x50, [], 0⟩ : Ropewalklaw17_DoD), (⟨3, x55, (⟨#[]⟩ : ByteArray), [], 0⟩ : Ropewalklaw17_DoD), (⟨6, (⟨#[]⟩ : ByteArray), (⟨#[]⟩ : ByteArray), [], (((u1_3 : Nat) : Int) - ((u2_4 : Nat) : Int))⟩ : Ropewalklaw17_DoD), (⟨5, x64, (⟨#[]⟩ : ByteArray), [], 0⟩ : Ropewalklaw17_DoD)]
noncomputable def lit7 (u4_6 : Int) : List Ropewalklaw17_DoD := [(⟨0, (⟨#[97]⟩ : ByteArray), (⟨#[]⟩ : ByteArray), [97, 98, 99], 0⟩ : Ropewalklaw17_DoD), (⟨0, (⟨#[98]⟩ : ByteArray), (⟨#[]⟩ : ByteArray), [100], 0⟩ : Ropewalklaw17_DoD), (⟨0, (⟨#[99]⟩ : ByteArray), (⟨#[]⟩ : ByteArray), [], 0⟩ : Ropewalklaw17_DoD), (⟨3, (⟨#[97]⟩ : ByteArray), (⟨#[]⟩ : ByteArray), [], u4_6⟩ : Ropewalklaw17_DoD), (⟨0, (⟨#[97]⟩ : ByteArray), (⟨#[]⟩ : ByteArray), [97, 98, 99], 0⟩ : Ropewalklaw17_DoD), (⟨5, (⟨#[98]⟩ : ByteArray), (⟨#[]⟩ : ByteArray), [], 0⟩ : Ropewalklaw17_DoD), (⟨0, (⟨#[97]⟩ : ByteArray), (⟨#[]⟩ : ByteArray), [97, 98, 99], 0⟩ : Ropewalklaw17_DoD), (⟨4, (⟨#[97]⟩ : ByteArray), (⟨#[99]⟩ : ByteArray), [], 0⟩ : Ropewalklaw17_DoD), (⟨6, (⟨#[]⟩ : ByteArray), (⟨#[]⟩ : ByteArray), [], u4_6⟩ : Ropewalklaw17_DoD), (⟨4, (⟨#[99]⟩ : ByteArray), (⟨#[99]⟩ : ByteArray), [], 0⟩ : Ropewalklaw17_DoD), (⟨5, (⟨#[97]⟩ : ByteArray), (⟨#[]⟩ : ByteArray), [], 0⟩ : Ropewalklaw17_DoD)]
noncomputable def lit8 (x66 : Int) (x71 : Int) : List Ropewalklaw17_DoD := [(⟨0, (⟨#[97]⟩ : ByteArray), (⟨#[]⟩ : ByteArray), [97, 98], 0⟩ : Ropewalklaw17_DoD), (⟨0, (⟨#[98]⟩ : ByteArray), (⟨#[]⟩ : ByteArray), [], 0⟩ : Ropewalklaw17_DoD), (⟨6, (⟨#[]⟩ : ByteArray), (⟨#[]⟩ : ByteArray), [], x66⟩ : Ropewalklaw17_DoD), (⟨3, (⟨#[98]⟩ : ByteArray), (⟨#[]⟩ : ByteArray), [], x71⟩ : Ropewalklaw17_DoD)]
noncomputable def m_disk_New (N : Nat) (a0 : Int) : Option (Unit) :=
 some ()
noncomputable def m_disk_Disk_is (N : Nat) (a0 : Int) (e1 : List (ByteArray × Disk_rowsD)) : Option (Unit) :=
 some ()
noncomputable def m_slices_Grow_byte (N : Nat) (a0 : Int) : Option (List Int) :=
 if (decide (a0 < 0)) = true then (
  none
 ) else (
  gd (-9223372036854775808 ≤ a0 - 0 ∧ a0 - 0 ≤ 9223372036854775807) <|
  if (decide ((a0 - 0) > 0)) = true then (
   gd (0 ≤ a0 - 0) <|
   gd ((a0 - 0).toNat ≤ 281474976710656) <|
   gd (0 < (a0 - 0).toNat) <|
   gd (0 ≤ ([] : List Int).length) <|
   some []
  ) else (
   some []
  )
 )
noncomputable def m_slices_Concat_byte_L1 (N : Nat) (l0 : List (List Int)) : (Nat × Nat) → Option ((Nat × Nat) ⊕ Nat) := fun (u1_11, u1_3) =>
 if (decide (u1_11 < l0.length)) = true then (
  bindO (l0[u1_11]?) fun x13 =>
  gd (u1_3 + x13.length ≤ 9223372036854775807) <|
  if (decide ((u1_3 + x13.length) < 0)) = true then (
   none
  ) else (
   gd (u1_11 + 1 ≤ 9223372036854775807) <|
   some (.inl (u1_11 + 1, u1_3 + x13.length))
  )
 ) else (
  some (.inr u1_3)
 )
noncomputable def m_slices_Concat_byte_L2 (N : Nat) (l0 : List (List Int)) (j_1_3 : Nat) : (Nat × (List Int)) → Option ((Nat × (List Int)) ⊕ (List Int)) := fun (u2_27, u2_6_l) =>
 if (decide (u2_27 < l0.length)) = true then (
  bindO (l0[u2_27]?) fun x29 =>
  gd (u2_6_l.length + x29.length ≤ j_1_3) <|
  gd (u2_27 + 1 ≤ 9223372036854775807) <|
  some (.inl (u2_27 + 1, u2_6_l ++ x29))
 ) else (
  some (.inr u2_6_l)
 )
noncomputable def m_slices_Concat_byte (N : Nat) (l0 : List (List Int)) : Option (List Int) :=
 bindO (
  iter (m_slices_Concat_byte_L1 N l0) N (0, 0)
 ) fun j_1_3 =>
 bindO (m_slices_Grow_byte N ((j_1_3 : Nat) : Int)) fun v24 =>
 bindO (
  iter (m_slices_Concat_byte_L2 N l0 j_1_3) N (0, v24)
 ) fun j_2_6_l =>
 some j_2_6_l
noncomputable def m_disk_fit_1_C1 (N : Nat) (a0 : Int) : Option (Bool) :=
 if (decide (a0 < 97)) = true then (
  if (decide (a0 < 48)) = true then (
   if (a0 != 46) = true then (
    some (a0 != 45)
   ) else (
    some false
   )
  ) else (
   if (decide (a0 > 57)) = true then (
    if (a0 != 46) = true then (
     some (a0 != 45)
    ) else (
     some false
    )
   ) else (
    some false
   )
  )
 ) else (
  if (decide (a0 > 122)) = true then (
   if (decide (a0 < 48)) = true then (
    if (a0 != 46) = true then (
     some (a0 != 45)
    ) else (
     some false
    )
   ) else (
    if (decide (a0 > 57)) = true then (
     if (a0 != 46) = true then (
      some (a0 != 45)
     ) else (
      some false
     )
    ) else (
     some false
    )
   )
  ) else (
   some false
  )
 )
noncomputable def m_disk_fit_1 (N : Nat) (a0 : Int) : Option (Bool) :=
 bindO (m_disk_fit_1_C1 N a0
 ) fun j_1_2 =>
 some j_1_2
noncomputable def m_strings_indexFunc_L1 (N : Nat) (a0 : ByteArray) (a1 : Bool) : Nat → Option (Nat ⊕ (Unit ⊕ Int)) := fun u1_10_i =>
 if decide (u1_10_i < a0.size) = true then (
 bindO (m_disk_fit_1 N (((Utf8.decode a0 u1_10_i).1 : Nat) : Int)) fun v17 =>
 if (v17 == a1) = true then (
  some (.inr (.inr ((u1_10_i : Nat) : Int)))
 ) else (
  some (.inl (u1_10_i + (Utf8.decode a0 u1_10_i).2))
 )
 ) else (
 some (.inr (.inl ()))
 )
noncomputable def m_strings_indexFunc (N : Nat) (a0 : ByteArray) (a1 : Bool) : Option (Int) :=
 bindS (
  iter (m_strings_indexFunc_L1 N a0 a1) N 0
 ) fun _ =>
 some (-1)
noncomputable def m_strings_IndexFunc (N : Nat) (a0 : ByteArray) : Option (Int) :=
 bindO (m_strings_indexFunc N a0 true) fun v7 =>
 some v7
noncomputable def m_strings_ContainsFunc (N : Nat) (a0 : ByteArray) : Option (Bool) :=
 bindO (m_strings_IndexFunc N a0) fun v7 =>
 some (decide (v7 ≥ 0))
noncomputable def m_disk_fit_C2 (N : Nat) (x10 : ByteArray) : Option (Bool) :=
 if (x10.toList == (⟨#[]⟩ : ByteArray).toList) = true then (
  some true
 ) else (
  if (decide (30 < x10.size)) = true then (
   some true
  ) else (
   bindO (m_strings_ContainsFunc N x10) fun v22 =>
   some v22
  )
 )
noncomputable def m_disk_fit_L1 (N : Nat) (l0 : List ByteArray) : Nat → Option (Nat ⊕ (Unit ⊕ Bool)) := fun u1_8 =>
 if (decide (u1_8 < l0.length)) = true then (
  bindO (l0[u1_8]?) fun x10 =>
  bindO (m_disk_fit_C2 N x10
  ) fun j_2_23 =>
  if j_2_23 = true then (
   some (.inr (.inr false))
  ) else (
   gd (u1_8 + 1 ≤ 9223372036854775807) <|
   some (.inl (u1_8 + 1))
  )
 ) else (
  some (.inr (.inl ()))
 )
noncomputable def m_disk_fit (N : Nat) (l0 : List ByteArray) : Option (Bool) :=
 bindS (
  iter (m_disk_fit_L1 N l0) N 0
 ) fun _ =>
 some true
noncomputable def m_disk_when (N : Nat) (a0 : Bool) (a1 : Int) : Option (Int) :=
 if a0 = true then (
  some a1
 ) else (
  some 0
 )
noncomputable def m_disk_rows_size (N : Nat) (l0 : List Int) (l1 : List Int) : Option (Unit) :=
 gd (l0.length + l1.length ≤ 9223372036854775807) <|
 some ()
noncomputable def m_disk_Disk_Used_L1 (N : Nat) (e1 : List (ByteArray × Disk_rowsD)) : Option ByteArray → Nat → Option (Nat ⊕ Nat) := fun kk u1_2 =>
 optE kk (
 some (.inr u1_2)
 ) (fun k13 =>
 bindO (mlook k13 e1) fun x15 =>
 bindO (m_disk_rows_size N x15.firm x15.loose) fun _ =>
 gd (u1_2 + (x15.firm.length + x15.loose.length) ≤ 9223372036854775807) <|
 some (.inl (u1_2 + (x15.firm.length + x15.loose.length)))
 )
noncomputable def m_disk_Disk_Used (N : Nat) (a0 : Int) (e1 : List (ByteArray × Disk_rowsD)) : Option (Nat) :=
 bindO (m_disk_Disk_is N a0 e1) fun _ =>
 bindO (
  ranP (m_disk_Disk_Used_L1 N e1) (List.map (fun x : ByteArray × Disk_rowsD => x.1) e1) 0
 ) fun j_1_2 =>
 some j_1_2
noncomputable def m_cmp_Or_Errno_L1 (N : Nat) (l0 : List Int) : Nat → Option (Nat ⊕ (Unit ⊕ Int)) := fun u1_8 =>
 if (decide (u1_8 < l0.length)) = true then (
  bindO (l0[u1_8]?) fun x10 =>
  if (x10 != 0) = true then (
   some (.inr (.inr x10))
  ) else (
   gd (u1_8 + 1 ≤ 9223372036854775807) <|
   some (.inl (u1_8 + 1))
  )
 ) else (
  some (.inr (.inl ()))
 )
noncomputable def m_cmp_Or_Errno (N : Nat) (l0 : List Int) : Option (Int) :=
 bindS (
  iter (m_cmp_Or_Errno_L1 N l0) N 0
 ) fun _ =>
 some 0
noncomputable def m_disk_Disk_Append (N : Nat) (a0 : Int) (e1 : List (ByteArray × Disk_rowsD)) (a2 : ByteArray) (l3 : List Int) : Option (Int × (List (ByteArray × Disk_rowsD))) :=
 bindO (m_disk_Disk_is N a0 e1) fun _ =>
 bindO (
  optE (mlook a2 e1) (
  some ([], [])
  ) (fun x20 =>
  some (x20.firm, x20.loose)
  )
 ) fun (j_1_8_f0_l, j_1_8_f1_l) =>
 bindO (m_slices_Concat_byte N [j_1_8_f1_l, l3]) fun v25 =>
 bindO (m_disk_fit N [a2]) fun v29 =>
 bindO (m_disk_when N (!v29) 2) fun v31 =>
 bindO (m_disk_rows_size N j_1_8_f0_l v25) fun _ =>
 bindO (m_disk_when N (decide (4194304 < (j_1_8_f0_l.length + v25.length))) 3) fun v35 =>
 bindO (m_disk_Disk_Used N a0 e1) fun v37 =>
 gd (v37 + l3.length ≤ 9223372036854775807) <|
 bindO (m_disk_when N (decide (((v37 + l3.length : Nat) : Int) > a0)) 5) fun v46 =>
 bindO (m_cmp_Or_Errno N [v31, v35, v46]) fun v48 =>
 bindO (
  if (v48 == 0) = true then (
   some (mputP ltB a2 (⟨j_1_8_f0_l, v25⟩ : Disk_rowsD) e1)
  ) else (
   some e1
  )
 ) fun j_2_r0_f1_m =>
 some (v48, j_2_r0_f1_m)
noncomputable def m_disk_rows_whole (N : Nat) (l0 : List Int) (l1 : List Int) : Option (List Int) :=
 bindO (m_slices_Concat_byte N [l0, l1]) fun v8 =>
 some v8
noncomputable def m_disk_Disk_Sync_1 (N : Nat) (l0 : List Int) (l1 : List Int) : Option (List Int) :=
 bindO (m_disk_rows_whole N l0 l1) fun v5 =>
 some v5
noncomputable def m_disk_Disk_turn (N : Nat) (a0 : Int) (e1 : List (ByteArray × Disk_rowsD)) (a2 : ByteArray) : Option (Nat × (List (ByteArray × Disk_rowsD))) :=
 bindO (m_disk_Disk_is N a0 e1) fun _ =>
 bindO (
  optE (mlook a2 e1) (
  some ([], [], false)
  ) (fun x23 =>
  some (x23.firm, x23.loose, true)
  )
 ) fun (j_1_8_f0_l, j_1_8_f1_l, j_1_9) =>
 if (!j_1_9) = true then (
  some (6, e1)
 ) else (
  bindO (m_disk_Disk_Sync_1 N j_1_8_f0_l j_1_8_f1_l) fun v31 =>
  some (0, (mputP ltB a2 (⟨v31, []⟩ : Disk_rowsD) e1))
 )
noncomputable def m_disk_Disk_Sync (N : Nat) (a0 : Int) (e1 : List (ByteArray × Disk_rowsD)) (a2 : ByteArray) : Option (Nat × (List (ByteArray × Disk_rowsD))) :=
 bindO (m_disk_Disk_turn N a0 e1 a2) fun (v7_0, v7_1) =>
 some (v7_0, v7_1)
noncomputable def m_disk_Disk_Crash_L1 (N : Nat) (a2 : Int) : Option ByteArray → (List (ByteArray × Disk_rowsD)) → Option ((List (ByteArray × Disk_rowsD)) ⊕ (List (ByteArray × Disk_rowsD))) := fun kk u1_14_m =>
 optE kk (
 some (.inr u1_14_m)
 ) (fun k15 =>
 bindO (mlook k15 u1_14_m) fun x17 =>
 gd (0 ≤ minI (maxI a2 0) ((x17.loose.length : Nat) : Int)) <|
 gd ((minI (maxI a2 0) ((x17.loose.length : Nat) : Int)).toNat ≤ x17.loose.length) <|
 bindO (m_slices_Concat_byte N [x17.firm, x17.loose.take ((minI (maxI a2 0) ((x17.loose.length : Nat) : Int)).toNat)]) fun v38 =>
 bindO (mlook k15 u1_14_m) fun z1011 =>
 some (.inl (mput k15 (⟨v38, []⟩ : Disk_rowsD) u1_14_m))
 )
noncomputable def m_disk_Disk_Crash (N : Nat) (a0 : Int) (e1 : List (ByteArray × Disk_rowsD)) (a2 : Int) : Option (List (ByteArray × Disk_rowsD)) :=
 bindO (m_disk_Disk_is N a0 e1) fun _ =>
 ranP (m_disk_Disk_Crash_L1 N a2) (List.map (fun x : ByteArray × Disk_rowsD => x.1) e1) e1
noncomputable def m_disk_Disk_Read_1 (N : Nat) (l0 : List Int) (l1 : List Int) (l2 : List Int) : Option (List Int) :=
 bindO (m_disk_rows_whole N l0 l1) fun v6 =>
 some v6
noncomputable def m_disk_Disk_turn_v2 (N : Nat) (a0 : Int) (e1 : List (ByteArray × Disk_rowsD)) (a2 : ByteArray) (l3 : List Int) : Option (Nat × (List (ByteArray × Disk_rowsD)) × (List Int)) :=
 bindO (m_disk_Disk_is N a0 e1) fun _ =>
 bindO (
  optE (mlook a2 e1) (
  some ([], [], false)
  ) (fun x23 =>
  some (x23.firm, x23.loose, true)
  )
 ) fun (j_1_8_f0_l, j_1_8_f1_l, j_1_9) =>
 if (!j_1_9) = true then (
  some (6, e1, l3)
 ) else (
  bindO (m_disk_Disk_Read_1 N j_1_8_f0_l j_1_8_f1_l l3) fun v31 =>
  some (0, (mputP ltB a2 (⟨j_1_8_f0_l, j_1_8_f1_l⟩ : Disk_rowsD) e1), v31)
 )
noncomputable def m_disk_Disk_Read (N : Nat) (a0 : Int) (e1 : List (ByteArray × Disk_rowsD)) (a2 : ByteArray) : Option ((List Int) × Nat × (List (ByteArray × Disk_rowsD))) :=
 bindO (m_disk_Disk_turn_v2 N a0 e1 a2 []) fun (v9_0, v9_1, v9_2) =>
 some (v9_2, v9_0, v9_1)
noncomputable def m_disk_Disk_List (N : Nat) (a0 : Int) (e1 : List (ByteArray × Disk_rowsD)) : Option (List ByteArray) :=
 bindO (m_disk_Disk_is N a0 e1) fun _ =>
 if (e1.length == 0) = true then (
  some []
 ) else (
  gd (fitKeys e1 = true) <|
  some (sortKeys e1)
 )
noncomputable def m_ropewalklaw17_awake_L1 (N : Nat) (v11_0 : Int) (v13_0 : Nat) (v17_0 : Int) (v23_1 : Nat) : Nat → Option (Nat ⊕ (Unit ⊕ Bool)) := fun u1_5 =>
 if (decide (u1_5 < ((([v11_0, (((v13_0 : Nat) : Int)), v17_0]) ++ ([(((v23_1 : Nat) : Int))])).length))) = true then (
  bindO ((([v11_0, (((v13_0 : Nat) : Int)), v17_0]) ++ ([(((v23_1 : Nat) : Int))]) : List Int)[u1_5]?) fun x38 =>
  if (x38 != 0) = true then (
   some (.inr (.inr false))
  ) else (
   gd (u1_5 + 1 ≤ 9223372036854775807) <|
   some (.inl (u1_5 + 1))
  )
 ) else (
  some (.inr (.inl ()))
 )
noncomputable def m_ropewalklaw17_awake_C2 (N : Nat) (v23_0 : List Int) (v23_2 : List (ByteArray × Disk_rowsD)) (v42 : List ByteArray) : Option (Bool) :=
 if ((strOfNums v23_0).toList == (⟨#[119, 111, 114, 100, 105]⟩ : ByteArray).toList) = true then (
  bindO (m_disk_Disk_Used N (maxI 10 0) v23_2) fun v48 =>
  if (v48 == 5) = true then (
   bindO (m_disk_Disk_Append N (maxI 10 0) v23_2 (⟨#[98]⟩ : ByteArray) [115, 105, 120, 115, 105, 120]) fun (v55_0, v55_1) =>
   if (v55_0 == 5) = true then (
    if (v42.length == 1) = true then (
     bindO (v42[0]?) fun x65 =>
     some (x65.toList == (⟨#[97]⟩ : ByteArray).toList)
    ) else (
     some false
    )
   ) else (
    some false
   )
  ) else (
   some false
  )
 ) else (
  some false
 )
noncomputable def m_ropewalklaw17_awake (N : Nat) : Option (Bool) :=
 bindO (m_disk_New N 10) fun _ =>
 bindO (m_disk_Disk_Append N (maxI 10 0) ([] : List (ByteArray × Disk_rowsD)) (⟨#[97]⟩ : ByteArray) [119, 111, 114, 100]) fun (v11_0, v11_1) =>
 bindO (m_disk_Disk_Sync N (maxI 10 0) v11_1 (⟨#[97]⟩ : ByteArray)) fun (v13_0, v13_1) =>
 bindO (m_disk_Disk_Append N (maxI 10 0) v13_1 (⟨#[97]⟩ : ByteArray) [105, 110, 103]) fun (v17_0, v17_1) =>
 bindO (m_disk_Disk_Crash N (maxI 10 0) v17_1 1) fun v20 =>
 bindO (m_disk_Disk_Read N (maxI 10 0) v20 (⟨#[97]⟩ : ByteArray)) fun (v23_0, v23_1, v23_2) =>
 gd (([v11_0, (((v13_0 : Nat) : Int)), v17_0]).length + ([(((v23_1 : Nat) : Int))]).length ≤ 17592186044416) <|
 bindS (
  iter (m_ropewalklaw17_awake_L1 N v11_0 v13_0 v17_0 v23_1) N 0
 ) fun _ =>
 bindO (m_disk_Disk_List N (maxI 10 0) v23_2) fun v42 =>
 bindO (m_ropewalklaw17_awake_C2 N v23_0 v23_2 v42
 ) fun j_2_0 =>
 some j_2_0
noncomputable def m_ropewalkkit_SameBytes_L1 (N : Nat) (l0 : List Int) (l1 : List Int) : Nat → Option (Nat ⊕ (Unit ⊕ Bool)) := fun u1_5 =>
 if (decide (u1_5 < l0.length)) = true then (
  bindO (l0[u1_5]?) fun x19 =>
  bindO (l1[u1_5]?) fun x23 =>
  if (x19 != x23) = true then (
   some (.inr (.inr false))
  ) else (
   gd (u1_5 + 1 ≤ 9223372036854775807) <|
   some (.inl (u1_5 + 1))
  )
 ) else (
  some (.inr (.inl ()))
 )
noncomputable def m_ropewalkkit_SameBytes (N : Nat) (l0 : List Int) (l1 : List Int) : Option (Bool) :=
 if (l0.length != l1.length) = true then (
  some false
 ) else (
  bindS (
   iter (m_ropewalkkit_SameBytes_L1 N l0 l1) N 0
  ) fun _ =>
  some true
 )
noncomputable def m_disk_Disk_Rename_1 (N : Nat) (l0 : List Int) (l1 : List Int) (a2 : Int) (e3 : List (ByteArray × Disk_rowsD)) (a4 : ByteArray) : Option (Unit) :=
 some ()
noncomputable def m_disk_Disk_turn_v13 (N : Nat) (a0 : Int) (e1 : List (ByteArray × Disk_rowsD)) (a2 : ByteArray) (a3 : ByteArray) : Option (Nat × (List (ByteArray × Disk_rowsD))) :=
 bindO (m_disk_Disk_is N a0 e1) fun _ =>
 bindO (
  optE (mlook a2 e1) (
  some ([], [], false)
  ) (fun x23 =>
  some (x23.firm, x23.loose, true)
  )
 ) fun (j_1_8_f0_l, j_1_8_f1_l, j_1_9) =>
 if (!j_1_9) = true then (
  some (6, e1)
 ) else (
  bindO (m_disk_Disk_Rename_1 N j_1_8_f0_l j_1_8_f1_l a0 e1 a3) fun _ =>
  some (0, (mputP ltB a2 (⟨j_1_8_f0_l, j_1_8_f1_l⟩ : Disk_rowsD) (mputP ltB a3 (⟨j_1_8_f0_l, j_1_8_f1_l⟩ : Disk_rowsD) e1)))
 )
noncomputable def m_disk_Disk_Rename_v3_C1 (N : Nat) (v21_0 : Nat) (a2 : ByteArray) (a3 : ByteArray) (v21_1 : List (ByteArray × Disk_rowsD)) : Option (List (ByteArray × Disk_rowsD)) :=
 bindO (
  if (v21_0 == 0) = true then (
   some (!(a2.toList == a3.toList))
  ) else (
   some false
  )
 ) fun j_2_28 =>
 if j_2_28 = true then (
  some (mdel a2 v21_1)
 ) else (
  some v21_1
 )
noncomputable def m_disk_Disk_Rename_v3 (N : Nat) (a0 : Int) (e1 : List (ByteArray × Disk_rowsD)) (a2 : ByteArray) (a3 : ByteArray) : Option (Nat × (List (ByteArray × Disk_rowsD))) :=
 bindO (m_disk_Disk_is N a0 e1) fun _ =>
 bindO (m_disk_fit N [a2, a3]) fun v15 =>
 if (!v15) = true then (
  some (2, e1)
 ) else (
  bindO (m_disk_Disk_turn_v13 N a0 e1 a2 a3) fun (v21_0, v21_1) =>
  bindO (m_disk_Disk_Rename_v3_C1 N v21_0 a2 a3 v21_1
  ) fun j_1_r0_f1_m =>
  some (v21_0, j_1_r0_f1_m)
 )
noncomputable def m_ropewalkkit_SameTexts_L1 (N : Nat) (l0 : List ByteArray) (l1 : List ByteArray) : Nat → Option (Nat ⊕ (Unit ⊕ Bool)) := fun u1_5 =>
 if (decide (u1_5 < l0.length)) = true then (
  bindO (l0[u1_5]?) fun x19 =>
  bindO (l1[u1_5]?) fun x23 =>
  if (!(x19.toList == x23.toList)) = true then (
   some (.inr (.inr false))
  ) else (
   gd (u1_5 + 1 ≤ 9223372036854775807) <|
   some (.inl (u1_5 + 1))
  )
 ) else (
  some (.inr (.inl ()))
 )
noncomputable def m_ropewalkkit_SameTexts (N : Nat) (l0 : List ByteArray) (l1 : List ByteArray) : Option (Bool) :=
 if (l0.length != l1.length) = true then (
  some false
 ) else (
  bindS (
   iter (m_ropewalkkit_SameTexts_L1 N l0 l1) N 0
  ) fun _ =>
  some true
 )
noncomputable def m_ropewalkkit_Pick (N : Nat) (a0 : Int) (a1 : Int) : Option (Int) :=
 if (decide (a1 < 1)) = true then (
  some 0
 ) else (
  gd (a1 ≠ 0) <|
  bindO (
   if (decide ((Int.tmod a0 a1) < 0)) = true then (
    gd (-9223372036854775808 ≤ (Int.tmod a0 a1) + a1 ∧ (Int.tmod a0 a1) + a1 ≤ 9223372036854775807) <|
    some ((Int.tmod a0 a1) + a1)
   ) else (
    some (Int.tmod a0 a1)
   )
  ) fun j_1_0 =>
  some j_1_0
 )
noncomputable def m_disk_Disk_Cut_1 (N : Nat) (l0 : List Int) (l1 : List Int) (a2 : Int) : Option ((List Int) × (List Int) × Nat) :=
 bindO (
  if (decide (a2 < 0)) = true then (
   some true
  ) else (
   bindO (m_disk_rows_size N l0 l1) fun _ =>
   some (decide (a2 > ((l0.length + l1.length : Nat) : Int)))
  )
 ) fun j_1_12 =>
 if j_1_12 = true then (
  some (l0, l1, 2)
 ) else (
  bindO (m_disk_rows_whole N l0 l1) fun v15 =>
  gd (0 ≤ a2) <|
  gd (0 ≤ a2) <|
  gd (0 ≤ a2) <|
  gd (0 ≤ a2) <|
  gd (a2.toNat ≤ a2.toNat ∧ a2.toNat ≤ v15.length) <|
  some (v15.take a2.toNat, [], 0)
 )
noncomputable def m_disk_Disk_turn_v14 (N : Nat) (a0 : Int) (e1 : List (ByteArray × Disk_rowsD)) (a2 : ByteArray) (a3 : Int) : Option (Nat × (List (ByteArray × Disk_rowsD))) :=
 bindO (m_disk_Disk_is N a0 e1) fun _ =>
 bindO (
  optE (mlook a2 e1) (
  some ([], [], false)
  ) (fun x23 =>
  some (x23.firm, x23.loose, true)
  )
 ) fun (j_1_8_f0_l, j_1_8_f1_l, j_1_9) =>
 if (!j_1_9) = true then (
  some (6, e1)
 ) else (
  bindO (m_disk_Disk_Cut_1 N j_1_8_f0_l j_1_8_f1_l a3) fun (v31_0, v31_1, v31_2) =>
  bindO (
   if (v31_2 == 0) = true then (
    some (mputP ltB a2 (⟨v31_0, v31_1⟩ : Disk_rowsD) e1)
   ) else (
    some e1
   )
  ) fun j_2_r0_f1_m =>
  some (v31_2, j_2_r0_f1_m)
 )
noncomputable def m_disk_Disk_Cut_v3 (N : Nat) (a0 : Int) (e1 : List (ByteArray × Disk_rowsD)) (a2 : ByteArray) (a3 : Int) : Option (Nat × (List (ByteArray × Disk_rowsD))) :=
 bindO (m_disk_Disk_turn_v14 N a0 e1 a2 a3) fun (v10_0, v10_1) =>
 some (v10_0, v10_1)
noncomputable def m_disk_Disk_Remove_1 (N : Nat) (l0 : List Int) (l1 : List Int) : Option (Unit) :=
 some ()
noncomputable def m_disk_Disk_turn_v15 (N : Nat) (a0 : Int) (e1 : List (ByteArray × Disk_rowsD)) (a2 : ByteArray) : Option (Nat × (List (ByteArray × Disk_rowsD))) :=
 bindO (m_disk_Disk_is N a0 e1) fun _ =>
 bindO (
  optE (mlook a2 e1) (
  some ([], [], false)
  ) (fun x23 =>
  some (x23.firm, x23.loose, true)
  )
 ) fun (j_1_8_f0_l, j_1_8_f1_l, j_1_9) =>
 if (!j_1_9) = true then (
  some (6, e1)
 ) else (
  bindO (m_disk_Disk_Remove_1 N j_1_8_f0_l j_1_8_f1_l) fun _ =>
  some (0, (mputP ltB a2 (⟨j_1_8_f0_l, j_1_8_f1_l⟩ : Disk_rowsD) e1))
 )
noncomputable def m_disk_Disk_Remove_v3 (N : Nat) (a0 : Int) (e1 : List (ByteArray × Disk_rowsD)) (a2 : ByteArray) : Option (Nat × (List (ByteArray × Disk_rowsD))) :=
 bindO (m_disk_Disk_turn_v15 N a0 e1 a2) fun (v8_0, v8_1) =>
 bindO (
  if (v8_0 == 0) = true then (
   some (mdel a2 v8_1)
  ) else (
   some v8_1
  )
 ) fun j_1_r0_f1_m =>
 some (v8_0, j_1_r0_f1_m)
noncomputable def m_ropewalkref17_New (N : Nat) (a0 : Int) : Option (Int) :=
 bindO (
  if (decide (a0 < 0)) = true then (
   some 0
  ) else (
   some a0
  )
 ) fun j_1_0 =>
 some j_1_0
noncomputable def m_ropewalklaw17_begin (N : Nat) (a0 : Int) : Option (Int) :=
 bindO (m_disk_New N a0) fun _ =>
 bindO (m_ropewalkref17_New N a0) fun v6 =>
 some v6
noncomputable def m_ropewalkref17_Disk_split_L1 (N : Nat) (l1 : List Ropewalkref17_entryD) (a2 : ByteArray) : (Nat × (List Ropewalkref17_entryD) × Bool × ByteArray × ByteArray × ByteArray) → Option ((Nat × (List Ropewalkref17_entryD) × Bool × ByteArray × ByteArray × ByteArray) ⊕ (ByteArray × ByteArray × ByteArray × Bool × (List Ropewalkref17_entryD))) := fun (u1_19, u1_9_l, u1_8, u1_7_f0, u1_7_f1, u1_7_f2) =>
 if (decide (u1_19 < l1.length)) = true then (
  bindO (
   bindO (l1[u1_19]?) fun x21 =>
   if (!(x21.name.toList == a2.toList)) = true then (
    gd (u1_9_l.length + [x21].length ≤ 2932031007402) <|
    some (u1_9_l ++ [x21], u1_8, u1_7_f0, u1_7_f1, u1_7_f2)
   ) else (
    some (u1_9_l, true, x21.name, x21.firm, x21.loose)
   )
  ) fun (j_2_9_l, j_2_8, j_2_7_f0, j_2_7_f1, j_2_7_f2) =>
  gd (u1_19 + 1 ≤ 9223372036854775807) <|
  some (.inl (u1_19 + 1, j_2_9_l, j_2_8, j_2_7_f0, j_2_7_f1, j_2_7_f2))
 ) else (
  some (.inr (u1_7_f0, u1_7_f1, u1_7_f2, u1_8, u1_9_l))
 )
noncomputable def m_ropewalkref17_Disk_split (N : Nat) (a0 : Int) (l1 : List Ropewalkref17_entryD) (a2 : ByteArray) : Option (ByteArray × ByteArray × ByteArray × (List Ropewalkref17_entryD) × Bool) :=
 bindO (
  iter (m_ropewalkref17_Disk_split_L1 N l1 a2) N (0, [], false, a2, (⟨#[]⟩ : ByteArray), (⟨#[]⟩ : ByteArray))
 ) fun (j_1_7_f0, j_1_7_f1, j_1_7_f2, j_1_8, j_1_9_l) =>
 some (j_1_7_f0, j_1_7_f1, j_1_7_f2, j_1_9_l, j_1_8)
noncomputable def m_ropewalkref17_fit_L2 (N : Nat) (a0 : ByteArray) (u1_5 : Nat) : (Nat × Nat) → Option ((Nat × Nat) ⊕ Nat) := fun (u2_6, u2_4) =>
 if (decide (u2_6 < ((⟨#[97, 98, 99, 100, 101, 102, 103, 104, 105, 106, 107, 108, 109, 110, 111, 112, 113, 114, 115, 116, 117, 118, 119, 120, 121, 122, 48, 49, 50, 51, 52, 53, 54, 55, 56, 57, 46, 45]⟩ : ByteArray).size))) = true then (
  bindO (
   bindO (a0[u1_5]?) fun x21 =>
   bindO ((⟨#[97, 98, 99, 100, 101, 102, 103, 104, 105, 106, 107, 108, 109, 110, 111, 112, 113, 114, 115, 116, 117, 118, 119, 120, 121, 122, 48, 49, 50, 51, 52, 53, 54, 55, 56, 57, 46, 45]⟩ : ByteArray)[u2_6]?) fun x24 =>
   if (x21.toNat == x24.toNat) = true then (
    gd (u2_4 + 1 ≤ 9223372036854775807) <|
    some (u2_4 + 1)
   ) else (
    some u2_4
   )
  ) fun j_3_4 =>
  gd (u2_6 + 1 ≤ 9223372036854775807) <|
  some (.inl (u2_6 + 1, j_3_4))
 ) else (
  some (.inr u2_4)
 )
noncomputable def m_ropewalkref17_fit_L1 (N : Nat) (a0 : ByteArray) : (Nat × Nat) → Option ((Nat × Nat) ⊕ Nat) := fun (u1_5, u1_4) =>
 if (decide (u1_5 < a0.size)) = true then (
  bindO (
   iter (m_ropewalkref17_fit_L2 N a0 u1_5) N (0, u1_4)
  ) fun j_2_4 =>
  gd (u1_5 + 1 ≤ 9223372036854775807) <|
  some (.inl (u1_5 + 1, j_2_4))
 ) else (
  some (.inr u1_4)
 )
noncomputable def m_ropewalkref17_fit (N : Nat) (a0 : ByteArray) : Option (Bool) :=
 bindO (
  iter (m_ropewalkref17_fit_L1 N a0) N (0, 0)
 ) fun j_1_4 =>
 if (j_1_4 == a0.size) = true then (
  if (decide (0 < j_1_4)) = true then (
   some (decide (j_1_4 ≤ 30))
  ) else (
   some false
  )
 ) else (
  some false
 )
noncomputable def m_ropewalkref17_entry_whole (N : Nat) (a0 : ByteArray) (a1 : ByteArray) (a2 : ByteArray) : Option (Unit) :=
 gd (a1.size + a2.size ≤ 9223372036854775807) <|
 some ()
noncomputable def m_ropewalkref17_Disk_Used_L1 (N : Nat) (l1 : List Ropewalkref17_entryD) : (Nat × Nat) → Option ((Nat × Nat) ⊕ Nat) := fun (u1_11, u1_3) =>
 if (decide (u1_11 < l1.length)) = true then (
  bindO (l1[u1_11]?) fun x13 =>
  bindO (m_ropewalkref17_entry_whole N x13.name x13.firm x13.loose) fun _ =>
  gd (u1_3 + ((x13.firm ++ x13.loose).size) ≤ 9223372036854775807) <|
  gd (u1_11 + 1 ≤ 9223372036854775807) <|
  some (.inl (u1_11 + 1, u1_3 + ((x13.firm ++ x13.loose).size)))
 ) else (
  some (.inr u1_3)
 )
noncomputable def m_ropewalkref17_Disk_Used (N : Nat) (a0 : Int) (l1 : List Ropewalkref17_entryD) : Option (Nat) :=
 bindO (
  iter (m_ropewalkref17_Disk_Used_L1 N l1) N (0, 0)
 ) fun j_1_3 =>
 some j_1_3
noncomputable def m_ropewalkref17_Disk_Append (N : Nat) (a0 : Int) (l1 : List Ropewalkref17_entryD) (a2 : ByteArray) (l3 : List Int) : Option (Nat × (List Ropewalkref17_entryD)) :=
 bindO (m_ropewalkref17_Disk_split N a0 l1 a2) fun (v13_0, v13_1, v13_2, v13_3, v13_4) =>
 gd (v13_2.size + (strOfNums l3).size ≤ 9223372036854775807) <|
 bindO (m_ropewalkref17_fit N a2) fun v25 =>
 if (!v25) = true then (
  some (2, l1)
 ) else (
  bindO (m_ropewalkref17_entry_whole N v13_0 v13_1 (v13_2 ++ (strOfNums l3))) fun _ =>
  if (decide (4194304 < ((v13_1 ++ (v13_2 ++ (strOfNums l3))).size))) = true then (
   some (3, l1)
  ) else (
   bindO (m_ropewalkref17_Disk_Used N a0 l1) fun v34 =>
   gd (v34 + l3.length ≤ 9223372036854775807) <|
   if (decide (((v34 + l3.length : Nat) : Int) > a0)) = true then (
    some (5, l1)
   ) else (
    gd (v13_3.length + ([(⟨v13_0, v13_1, v13_2 ++ (strOfNums l3)⟩ : Ropewalkref17_entryD)]).length ≤ 2932031007402) <|
    some (0, (v13_3 ++ ([(⟨v13_0, v13_1, v13_2 ++ (strOfNums l3)⟩ : Ropewalkref17_entryD)])))
   )
  )
 )
noncomputable def m_ropewalkref17_Disk_Sync (N : Nat) (a0 : Int) (l1 : List Ropewalkref17_entryD) (a2 : ByteArray) : Option (Nat × (List Ropewalkref17_entryD)) :=
 bindO (m_ropewalkref17_Disk_split N a0 l1 a2) fun (v11_0, v11_1, v11_2, v11_3, v11_4) =>
 if (!v11_4) = true then (
  some (6, l1)
 ) else (
  bindO (m_ropewalkref17_entry_whole N v11_0 v11_1 v11_2) fun _ =>
  gd (v11_3.length + ([(⟨a2, v11_1 ++ v11_2, (⟨#[]⟩ : ByteArray)⟩ : Ropewalkref17_entryD)]).length ≤ 2932031007402) <|
  some (0, (v11_3 ++ ([(⟨a2, v11_1 ++ v11_2, (⟨#[]⟩ : ByteArray)⟩ : Ropewalkref17_entryD)])))
 )
noncomputable def m_ropewalkref17_Disk_Cut (N : Nat) (a0 : Int) (l1 : List Ropewalkref17_entryD) (a2 : ByteArray) (a3 : Int) : Option (Nat × (List Ropewalkref17_entryD)) :=
 bindO (m_ropewalkref17_Disk_split N a0 l1 a2) fun (v14_0, v14_1, v14_2, v14_3, v14_4) =>
 bindO (m_ropewalkref17_entry_whole N v14_0 v14_1 v14_2) fun _ =>
 if (!v14_4) = true then (
  some (6, l1)
 ) else (
  bindO (
   if (decide (a3 < 0)) = true then (
    some true
   ) else (
    some (decide (a3 > (((v14_1 ++ v14_2).size : Nat) : Int)))
   )
  ) fun j_1_23 =>
  if j_1_23 = true then (
   some (2, l1)
  ) else (
   gd (0 ≤ a3) <|
   gd (a3.toNat ≤ (v14_1 ++ v14_2).size) <|
   gd (v14_3.length + ([(⟨a2, (v14_1 ++ v14_2).extract 0 a3.toNat, (⟨#[]⟩ : ByteArray)⟩ : Ropewalkref17_entryD)]).length ≤ 2932031007402) <|
   some (0, (v14_3 ++ ([(⟨a2, (v14_1 ++ v14_2).extract 0 a3.toNat, (⟨#[]⟩ : ByteArray)⟩ : Ropewalkref17_entryD)])))
  )
 )
noncomputable def m_ropewalkref17_Disk_Rename (N : Nat) (a0 : Int) (l1 : List Ropewalkref17_entryD) (a2 : ByteArray) (a3 : ByteArray) : Option (Nat × (List Ropewalkref17_entryD)) :=
 bindO (
  bindO (m_ropewalkref17_fit N a2) fun v15 =>
  if v15 = true then (
   bindO (m_ropewalkref17_fit N a3) fun v18 =>
   some (!v18)
  ) else (
   some true
  )
 ) fun j_1_20 =>
 if j_1_20 = true then (
  some (2, l1)
 ) else (
  bindO (m_ropewalkref17_Disk_split N a0 l1 a2) fun (v24_0, v24_1, v24_2, v24_3, v24_4) =>
  if (!v24_4) = true then (
   some (6, l1)
  ) else (
   bindO (m_ropewalkref17_Disk_split N 0 v24_3 a3) fun (v34_0, v34_1, v34_2, v34_3, v34_4) =>
   gd (v34_3.length + ([(⟨a3, v24_1, v24_2⟩ : Ropewalkref17_entryD)]).length ≤ 2932031007402) <|
   some (0, (v34_3 ++ ([(⟨a3, v24_1, v24_2⟩ : Ropewalkref17_entryD)])))
  )
 )
noncomputable def m_ropewalkref17_Disk_Remove (N : Nat) (a0 : Int) (l1 : List Ropewalkref17_entryD) (a2 : ByteArray) : Option (Nat × (List Ropewalkref17_entryD)) :=
 bindO (m_ropewalkref17_Disk_split N a0 l1 a2) fun (v11_0, v11_1, v11_2, v11_3, v11_4) =>
 if (!v11_4) = true then (
  some (6, l1)
 ) else (
  some (0, v11_3)
 )
noncomputable def m_ropewalkref17_Disk_Crash_L1 (N : Nat) (l1 : List Ropewalkref17_entryD) (a2 : Int) : (Nat × (List Ropewalkref17_entryD)) → Option ((Nat × (List Ropewalkref17_entryD)) ⊕ (List Ropewalkref17_entryD)) := fun (u1_13, u1_4_l) =>
 if (decide (u1_13 < l1.length)) = true then (
  bindO (l1[u1_13]?) fun x15 =>
  bindO (
   if (decide (a2 < 0)) = true then (
    some 0
   ) else (
    some a2
   )
  ) fun j_2_7 =>
  bindO (
   if (decide (j_2_7 > ((x15.loose.size : Nat) : Int))) = true then (
    some ((x15.loose.size : Nat) : Int)
   ) else (
    some j_2_7
   )
  ) fun j_3_7 =>
  gd (0 ≤ j_3_7) <|
  gd (j_3_7.toNat ≤ x15.loose.size) <|
  gd (x15.firm.size + (x15.loose.extract 0 j_3_7.toNat).size ≤ 9223372036854775807) <|
  gd (u1_4_l.length + ([(⟨x15.name, x15.firm ++ (x15.loose.extract 0 j_3_7.toNat), (⟨#[]⟩ : ByteArray)⟩ : Ropewalkref17_entryD)]).length ≤ 2932031007402) <|
  gd (u1_13 + 1 ≤ 9223372036854775807) <|
  some (.inl (u1_13 + 1, (u1_4_l ++ ([(⟨x15.name, x15.firm ++ (x15.loose.extract 0 j_3_7.toNat), (⟨#[]⟩ : ByteArray)⟩ : Ropewalkref17_entryD)]))))
 ) else (
  some (.inr u1_4_l)
 )
noncomputable def m_ropewalkref17_Disk_Crash (N : Nat) (a0 : Int) (l1 : List Ropewalkref17_entryD) (a2 : Int) : Option (List Ropewalkref17_entryD) :=
 bindO (
  iter (m_ropewalkref17_Disk_Crash_L1 N l1 a2) N (0, [])
 ) fun j_1_4_l =>
 some j_1_4_l
noncomputable def m_ropewalklaw17_both_errors (N : Nat) (a0 : Int) (e1 : List (ByteArray × Disk_rowsD)) (a2 : Int) (l3 : List Ropewalkref17_entryD) (a4 : Int) (a5 : ByteArray) (a6 : ByteArray) (l7 : List Int) (a8 : Int) : Option (Int × Nat × (List (ByteArray × Disk_rowsD)) × (List Ropewalkref17_entryD)) :=
 bindO (m_ropewalkkit_Pick N a4 7) fun v9 =>
 if (decide (v9 < 2)) = true then (
  bindO (m_disk_Disk_Append N a0 e1 a5 l7) fun (v18_0, v18_1) =>
  bindO (m_ropewalkref17_Disk_Append N a2 l3 a5 l7) fun (v25_0, v25_1) =>
  some (v18_0, v25_0, v18_1, v25_1)
 ) else (
  if (v9 == 2) = true then (
   bindO (m_disk_Disk_Sync N a0 e1 a5) fun (v32_0, v32_1) =>
   bindO (m_ropewalkref17_Disk_Sync N a2 l3 a5) fun (v37_0, v37_1) =>
   some (((v32_0 : Nat) : Int), v37_0, v32_1, v37_1)
  ) else (
   if (v9 == 3) = true then (
    bindO (m_disk_Disk_Cut_v3 N a0 e1 a5 a8) fun (v46_0, v46_1) =>
    bindO (m_ropewalkref17_Disk_Cut N a2 l3 a5 a8) fun (v53_0, v53_1) =>
    some (((v46_0 : Nat) : Int), v53_0, v46_1, v53_1)
   ) else (
    if (v9 == 4) = true then (
     bindO (m_disk_Disk_Rename_v3 N a0 e1 a5 a6) fun (v62_0, v62_1) =>
     bindO (m_ropewalkref17_Disk_Rename N a2 l3 a5 a6) fun (v69_0, v69_1) =>
     some (((v62_0 : Nat) : Int), v69_0, v62_1, v69_1)
    ) else (
     if (v9 == 5) = true then (
      bindO (m_disk_Disk_Remove_v3 N a0 e1 a5) fun (v76_0, v76_1) =>
      bindO (m_ropewalkref17_Disk_Remove N a2 l3 a5) fun (v81_0, v81_1) =>
      some (((v76_0 : Nat) : Int), v81_0, v76_1, v81_1)
     ) else (
      bindO (m_disk_Disk_Crash N a0 e1 a8) fun v86 =>
      bindO (m_ropewalkref17_Disk_Crash N a2 l3 a8) fun v91 =>
      some (0, 0, v86, v91)
     )
    )
   )
  )
 )
noncomputable def m_ropewalkref17_Disk_List_C3 (N : Nat) (l1 : List Ropewalkref17_entryD) (u2_21 : Nat) (u1_3_l : List ByteArray) (u2_4 : ByteArray) : Option (ByteArray) :=
 bindO (l1[u2_21]?) fun x23 =>
 bindO (
  if (u1_3_l.length == 0) = true then (
   some true
  ) else (
   gd (-9223372036854775808 ≤ ((u1_3_l.length : Nat) : Int) - 1 ∧ ((u1_3_l.length : Nat) : Int) - 1 ≤ 9223372036854775807) <|
   gd (0 ≤ ((u1_3_l.length : Nat) : Int) - 1) <|
   bindO (u1_3_l[(((u1_3_l.length : Nat) : Int) - 1).toNat]?) fun x35 =>
   some (!(Op.bytesLess x23.name.toList x35.toList || x23.name.toList == x35.toList))
  )
 ) fun j_4_7 =>
 bindO (
  if j_4_7 = true then (
   if (u2_4.toList == (⟨#[]⟩ : ByteArray).toList) = true then (
    some true
   ) else (
    some (Op.bytesLess x23.name.toList u2_4.toList)
   )
  ) else (
   some false
  )
 ) fun j_5_49 =>
 if j_5_49 = true then (
  some x23.name
 ) else (
  some u2_4
 )
noncomputable def m_ropewalkref17_Disk_List_L2 (N : Nat) (l1 : List Ropewalkref17_entryD) (u1_3_l : List ByteArray) : (Nat × ByteArray) → Option ((Nat × ByteArray) ⊕ ByteArray) := fun (u2_21, u2_4) =>
 if (decide (u2_21 < l1.length)) = true then (
  bindO (m_ropewalkref17_Disk_List_C3 N l1 u2_21 u1_3_l u2_4
  ) fun j_3_4 =>
  gd (u2_21 + 1 ≤ 9223372036854775807) <|
  some (.inl (u2_21 + 1, j_3_4))
 ) else (
  some (.inr u2_4)
 )
noncomputable def m_ropewalkref17_Disk_List_L1 (N : Nat) (l1 : List Ropewalkref17_entryD) : (List ByteArray) → Option ((List ByteArray) ⊕ (List ByteArray)) := fun u1_3_l =>
 if (decide (u1_3_l.length < l1.length)) = true then (
  bindO (
   iter (m_ropewalkref17_Disk_List_L2 N l1 u1_3_l) N (0, (⟨#[]⟩ : ByteArray))
  ) fun j_2_4 =>
  gd (u1_3_l.length + [j_2_4].length ≤ 8796093022208) <|
  some (.inl (u1_3_l ++ [j_2_4]))
 ) else (
  some (.inr u1_3_l)
 )
noncomputable def m_ropewalkref17_Disk_List (N : Nat) (a0 : Int) (l1 : List Ropewalkref17_entryD) : Option (List ByteArray) :=
 bindO (
  iter (m_ropewalkref17_Disk_List_L1 N l1) N []
 ) fun j_1_3_l =>
 some j_1_3_l
noncomputable def m_ropewalkref17_Disk_Read (N : Nat) (a0 : Int) (l1 : List Ropewalkref17_entryD) (a2 : ByteArray) : Option ((List Int) × Nat) :=
 bindO (m_ropewalkref17_Disk_split N a0 l1 a2) fun (v12_0, v12_1, v12_2, v12_3, v12_4) =>
 if v12_4 = true then (
  bindO (m_ropewalkref17_entry_whole N v12_0 v12_1 v12_2) fun _ =>
  gd ((v12_1 ++ v12_2).size ≤ 9223372036854775807) <|
  some (numsOfStr (v12_1 ++ v12_2), 0)
 ) else (
  some ([], 6)
 )
noncomputable def m_ropewalklaw17_both_file (N : Nat) (a0 : Int) (e1 : List (ByteArray × Disk_rowsD)) (a2 : Int) (l3 : List Ropewalkref17_entryD) (a4 : ByteArray) : Option (Bool × (List (ByteArray × Disk_rowsD))) :=
 bindO (m_disk_Disk_Read N a0 e1 a4) fun (v13_0, v13_1, v13_2) =>
 bindO (m_ropewalkref17_Disk_Read N a2 l3 a4) fun (v20_0, v20_1) =>
 if (v13_1 == v20_1) = true then (
  bindO (m_ropewalkkit_SameBytes N v13_0 v20_0) fun v29 =>
  some (v29, v13_2)
 ) else (
  some (false, v13_2)
 )
noncomputable def m_ropewalklaw17_both_agree_C1 (N : Nat) (a0 : Int) (e1 : List (ByteArray × Disk_rowsD)) (v8 : List ByteArray) (a2 : Int) (l3 : List Ropewalkref17_entryD) : Option (Bool) :=
 bindO (m_disk_Disk_List N a0 e1) fun v11 =>
 bindO (m_ropewalkkit_SameTexts N v11 v8) fun v13 =>
 if v13 = true then (
  bindO (m_disk_Disk_Used N a0 e1) fun v17 =>
  bindO (m_ropewalkref17_Disk_Used N a2 l3) fun v20 =>
  some (v17 == v20)
 ) else (
  some false
 )
noncomputable def m_ropewalklaw17_both_agree_L1 (N : Nat) (v8 : List ByteArray) (a0 : Int) (a2 : Int) (l3 : List Ropewalkref17_entryD) : (Nat × (List (ByteArray × Disk_rowsD)) × Bool) → Option ((Nat × (List (ByteArray × Disk_rowsD)) × Bool) ⊕ (Bool × (List (ByteArray × Disk_rowsD)))) := fun (u1_5, u1_1_f0_f1_m, u1_4) =>
 bindO (
  if (decide (u1_5 < v8.length)) = true then (
   some u1_4
  ) else (
   some false
  )
 ) fun j_3_29 =>
 if j_3_29 = true then (
  bindO (v8[u1_5]?) fun x35 =>
  bindO (m_ropewalklaw17_both_file N a0 u1_1_f0_f1_m a2 l3 x35) fun (v37_0, v37_1) =>
  gd (u1_5 + 1 ≤ 9223372036854775807) <|
  some (.inl (u1_5 + 1, v37_1, v37_0))
 ) else (
  some (.inr (u1_4, u1_1_f0_f1_m))
 )
noncomputable def m_ropewalklaw17_both_agree (N : Nat) (a0 : Int) (e1 : List (ByteArray × Disk_rowsD)) (a2 : Int) (l3 : List Ropewalkref17_entryD) : Option (Bool × (List (ByteArray × Disk_rowsD))) :=
 bindO (m_ropewalkref17_Disk_List N a2 l3) fun v8 =>
 bindO (m_ropewalklaw17_both_agree_C1 N a0 e1 v8 a2 l3
 ) fun j_1_4 =>
 bindO (
  iter (m_ropewalklaw17_both_agree_L1 N v8 a0 a2 l3) N (0, e1, j_1_4)
 ) fun (j_2_4, j_2_r0_f1_m) =>
 some (j_2_4, j_2_r0_f1_m)
noncomputable def m_ropewalklaw17_both_goes_C2 (N : Nat) (v24_0 : Int) (v24_1 : Nat) (v24_2 : List (ByteArray × Disk_rowsD)) (a0 : Int) (a2 : Int) (v24_3 : List Ropewalkref17_entryD) (u1_9 : Int) (l4 : List Ropewalklaw17_DoD) : Option ((List (ByteArray × Disk_rowsD)) × Bool) :=
 if (v24_0 != ((v24_1 : Nat) : Int)) = true then (
  some (v24_2, true)
 ) else (
  bindO (m_ropewalklaw17_both_agree N a0 v24_2 a2 v24_3) fun (v32_0, v32_1) =>
  if (!v32_0) = true then (
   some (v32_1, true)
  ) else (
   gd (0 ≤ u1_9) <|
   bindO (l4[u1_9.toNat]?) fun x39 =>
   bindO (m_ropewalklaw17_both_file N a0 v32_1 a2 v24_3 x39.to_) fun (v42_0, v42_1) =>
   some (v42_1, !v42_0)
  )
 )
noncomputable def m_ropewalklaw17_both_goes_L1 (N : Nat) (a6 : Int) (l4 : List Ropewalklaw17_DoD) (a0 : Int) (a2 : Int) : (Int × (List (ByteArray × Disk_rowsD)) × (List Ropewalkref17_entryD)) → Option ((Int × (List (ByteArray × Disk_rowsD)) × (List Ropewalkref17_entryD)) ⊕ (((List (ByteArray × Disk_rowsD)) × (List Ropewalkref17_entryD)) ⊕ (Bool × (List (ByteArray × Disk_rowsD)) × (List Ropewalkref17_entryD)))) := fun (u1_9, u1_4_f0_f1_m, u1_4_f1_f1_l) =>
 if (decide (u1_9 < a6)) = true then (
  gd (0 ≤ u1_9) <|
  bindO (l4[u1_9.toNat]?) fun x22 =>
  bindO (m_ropewalklaw17_both_errors N a0 u1_4_f0_f1_m a2 u1_4_f1_f1_l x22.op x22.name x22.to_ x22.b x22.n) fun (v24_0, v24_1, v24_2, v24_3) =>
  bindO (m_ropewalklaw17_both_goes_C2 N v24_0 v24_1 v24_2 a0 a2 v24_3 u1_9 l4
  ) fun (j_2_4_f0_f1_m, j_2_44) =>
  if j_2_44 = true then (
   some (.inr (.inr (false, j_2_4_f0_f1_m, v24_3)))
  ) else (
   gd (-9223372036854775808 ≤ u1_9 + 1 ∧ u1_9 + 1 ≤ 9223372036854775807) <|
   some (.inl (u1_9 + 1, j_2_4_f0_f1_m, v24_3))
  )
 ) else (
  some (.inr (.inl (u1_4_f0_f1_m, u1_4_f1_f1_l)))
 )
noncomputable def m_ropewalklaw17_both_goes (N : Nat) (a0 : Int) (e1 : List (ByteArray × Disk_rowsD)) (a2 : Int) (l3 : List Ropewalkref17_entryD) (l4 : List Ropewalklaw17_DoD) (a5 : Int) (a6 : Int) : Option (Bool × (List (ByteArray × Disk_rowsD)) × (List Ropewalkref17_entryD)) :=
 bindS (
  iter (m_ropewalklaw17_both_goes_L1 N a6 l4 a0 a2) N (a5, e1, l3)
 ) fun (j_1_r0_f1_m, j_1_r2_f1_l) =>
 some (true, j_1_r0_f1_m, j_1_r2_f1_l)
noncomputable def m_ropewalklaw17_lives (N : Nat) (a0 : Int) (l1 : List Ropewalklaw17_DoD) : Option (Bool) :=
 bindO (m_ropewalklaw17_begin N a0) fun v6 =>
 bindO (m_ropewalklaw17_both_goes N (maxI a0 0) ([] : List (ByteArray × Disk_rowsD)) v6 [] l1 0 ((l1.length : Nat) : Int)) fun (v10_0, v10_1, v10_2) =>
 some v10_0
noncomputable def m_ropewalklaw17_large_L1 (N : Nat) (v14_0 : Int) (v17_0 : Int) (v21_0 : Int) (v23_0 : Int) (v27_0 : Int) : Nat → Option (Nat ⊕ (Unit ⊕ Bool)) := fun u1_5 =>
 if (decide (u1_5 < ([v14_0, v17_0, v21_0, v23_0, v27_0].length))) = true then (
  bindO (([v14_0, v17_0, v21_0, v23_0, v27_0] : List Int)[u1_5]?) fun x38 =>
  bindO (([3, 0, 3, 0, 0] : List Int)[u1_5]?) fun x42 =>
  if (x38 != x42) = true then (
   some (.inr (.inr false))
  ) else (
   gd (u1_5 + 1 ≤ 9223372036854775807) <|
   some (.inl (u1_5 + 1))
  )
 ) else (
  some (.inr (.inl ()))
 )
noncomputable def m_ropewalklaw17_large_C5 (N : Nat) (u2_7 : Nat) : Option (Bool) :=
 bindO (([-9223372036854775808, 9223372036854775807] : List Int)[u2_7]?) fun x57 =>
 gd (-9223372036854775808 ≤ 1 - ((u2_7 : Nat) : Int) ∧ 1 - ((u2_7 : Nat) : Int) ≤ 9223372036854775807) <|
 gd (0 ≤ 1 - ((u2_7 : Nat) : Int)) <|
 bindO (([-9223372036854775808, 9223372036854775807] : List Int)[(1 - ((u2_7 : Nat) : Int)).toNat]?) fun x66 =>
 bindO (([-9223372036854775808, 9223372036854775807] : List Int)[u2_7]?) fun x71 =>
 bindO (m_ropewalklaw17_lives N x57 (lit8 x66 x71)) fun v75 =>
 if (!v75) = true then (
  some true
 ) else (
  bindO (([-9223372036854775808, 9223372036854775807] : List Int)[u2_7]?) fun x83 =>
  bindO (m_ropewalklaw17_lives N 9 [(⟨0, (⟨#[97]⟩ : ByteArray), (⟨#[]⟩ : ByteArray), [97, 98], 0⟩ : Ropewalklaw17_DoD), (⟨6, (⟨#[]⟩ : ByteArray), (⟨#[]⟩ : ByteArray), [], x83⟩ : Ropewalklaw17_DoD)]) fun v87 =>
  some (!v87)
 )
noncomputable def m_ropewalklaw17_large_L2 (N : Nat) : Nat → Option (Nat ⊕ (Unit ⊕ Bool)) := fun u2_7 =>
 if (decide (u2_7 < 2)) = true then (
  bindO (m_ropewalklaw17_large_C5 N u2_7
  ) fun j_5_89 =>
  if j_5_89 = true then (
   some (.inr (.inr false))
  ) else (
   gd (u2_7 + 1 ≤ 9223372036854775807) <|
   some (.inl (u2_7 + 1))
  )
 ) else (
  some (.inr (.inl ()))
 )
noncomputable def m_ropewalklaw17_large (N : Nat) : Option (Bool) :=
 bindO (m_disk_New N 1099511627776) fun _ =>
 gd (4194304 ≤ 140737488355328) <|
 bindO (some (List.replicate 4194304 (0 : Int))) fun lz9 =>
 gd (lz9.length + ([0] : List Int).length ≤ 140737488355328) <|
 bindO (m_disk_Disk_Append N (maxI 1099511627776 0) ([] : List (ByteArray × Disk_rowsD)) (⟨#[97]⟩ : ByteArray) (lz9 ++ [0])) fun (v14_0, v14_1) =>
 bindO (m_disk_Disk_Append N (maxI 1099511627776 0) v14_1 (⟨#[97]⟩ : ByteArray) lz9) fun (v17_0, v17_1) =>
 gd (1 ≤ lz9.length) <|
 bindO (m_disk_Disk_Append N (maxI 1099511627776 0) v17_1 (⟨#[97]⟩ : ByteArray) (lz9.take 1)) fun (v21_0, v21_1) =>
 bindO (m_disk_Disk_Append N (maxI 1099511627776 0) v21_1 (⟨#[97]⟩ : ByteArray) ([] : List Int)) fun (v23_0, v23_1) =>
 gd (1 ≤ lz9.length) <|
 bindO (m_disk_Disk_Append N (maxI 1099511627776 0) v23_1 (⟨#[98]⟩ : ByteArray) (lz9.take 1)) fun (v27_0, v27_1) =>
 bindS (
  iter (m_ropewalklaw17_large_L1 N v14_0 v17_0 v21_0 v23_0 v27_0) N 0
 ) fun _ =>
 bindO (
  bindO (m_disk_Disk_Used N (maxI 1099511627776 0) v27_1) fun v46 =>
  if (v46 != 4194305) = true then (
   some true
  ) else (
   some false
  )
 ) fun j_3_49 =>
 if j_3_49 = true then (
  some false
 ) else (
  bindS (
   iter (m_ropewalklaw17_large_L2 N) N 0
  ) fun _ =>
  some true
 )
noncomputable def m_ropewalklaw17_DiskNumbers_L2 (N : Nat) (u1_3 : Nat) : Nat → Option (Nat ⊕ (Unit ⊕ (Nat ⊕ (Unit ⊕ Bool)))) := fun u2_4 =>
 if (decide (u2_4 < lit1.length)) = true then (
  bindO (lit1[u1_3]?) fun x27 =>
  bindO (lit1[u1_3]?) fun x34 =>
  bindO (lit1[u2_4]?) fun x39 =>
  bindO (lit1[u1_3]?) fun x46 =>
  bindO (lit1[u2_4]?) fun x50 =>
  bindO (lit1[u2_4]?) fun x55 =>
  gd (-9223372036854775808 ≤ ((u1_3 : Nat) : Int) - ((u2_4 : Nat) : Int) ∧ ((u1_3 : Nat) : Int) - ((u2_4 : Nat) : Int) ≤ 9223372036854775807) <|
  bindO (lit1[u1_3]?) fun x64 =>
  bindO (m_ropewalklaw17_lives N 100 (lit5 x27 x34 x39 x46 x50 x55 u1_3 u2_4 x64)) fun v68 =>
  if (!v68) = true then (
   some (.inr (.inr (.inr (.inr false))))
  ) else (
   gd (u2_4 + 1 ≤ 9223372036854775807) <|
   some (.inl (u2_4 + 1))
  )
 ) else (
  some (.inr (.inl ()))
 )
noncomputable def m_ropewalklaw17_DiskNumbers_L1 (N : Nat) : Nat → Option (Nat ⊕ (Unit ⊕ Bool)) := fun u1_3 =>
 if (decide (u1_3 < lit1.length)) = true then (
  bindS (
   iter (m_ropewalklaw17_DiskNumbers_L2 N u1_3) N 0
  ) fun _ =>
  gd (u1_3 + 1 ≤ 9223372036854775807) <|
  some (.inl (u1_3 + 1))
 ) else (
  some (.inr (.inl ()))
 )
noncomputable def m_ropewalklaw17_DiskNumbers_L4 (N : Nat) (u3_5 : Int) : Int → Option (Int ⊕ (Unit ⊕ (Int ⊕ (Unit ⊕ Bool)))) := fun u4_6 =>
 if (decide (u4_6 < 5)) = true then (
  bindO (m_ropewalklaw17_lives N u3_5 (lit7 u4_6)) fun v98 =>
  if (!v98) = true then (
   some (.inr (.inr (.inr (.inr false))))
  ) else (
   gd (-9223372036854775808 ≤ u4_6 + 1 ∧ u4_6 + 1 ≤ 9223372036854775807) <|
   some (.inl (u4_6 + 1))
  )
 ) else (
  some (.inr (.inl ()))
 )
noncomputable def m_ropewalklaw17_DiskNumbers_L3 (N : Nat) : Int → Option (Int ⊕ (Unit ⊕ Bool)) := fun u3_5 =>
 if (decide (u3_5 < 9)) = true then (
  bindS (
   iter (m_ropewalklaw17_DiskNumbers_L4 N u3_5) N (-1)
  ) fun _ =>
  gd (-9223372036854775808 ≤ u3_5 + 1 ∧ u3_5 + 1 ≤ 9223372036854775807) <|
  some (.inl (u3_5 + 1))
 ) else (
  some (.inr (.inl ()))
 )
noncomputable def m_ropewalklaw17_DiskNumbers (N : Nat) : Option (Bool) :=
 gd ((⟨(Lib.repeatL (⟨#[113]⟩ : ByteArray).data.toList 30).toArray⟩ : ByteArray).size + (⟨#[113]⟩ : ByteArray).size ≤ 9223372036854775807) <|
 bindS (
  iter (m_ropewalklaw17_DiskNumbers_L1 N) N 0
 ) fun _ =>
 bindS (
  iter (m_ropewalklaw17_DiskNumbers_L3 N) N (-1)
 ) fun _ =>
 bindO (m_ropewalklaw17_large N) fun v100 =>
 if v100 = true then (
  bindO (m_ropewalklaw17_awake N) fun v102 =>
  some v102
 ) else (
  some false
 )
end Go.Proofs.Ytkakbckmajdggaa
