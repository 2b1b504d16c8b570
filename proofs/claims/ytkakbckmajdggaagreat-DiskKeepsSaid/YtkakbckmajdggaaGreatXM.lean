import Derived.Test.YtkakbckmajdggaaGreatXT
namespace Go.Proofs.YtkakbckmajdggaaGreat
open Go.RowKit
noncomputable def m_disk_New (N : Nat) (a0 : Int) : Option (Unit) :=
 some ()
noncomputable def m_disk_Disk_is (N : Nat) (a0 : Int) (e1 : List (ByteArray × Disk_rowsD)) : Option (Unit) :=
 some ()
noncomputable def m_slices_Grow_byte (N : Nat) (a0 : Int) : Option (List Int) :=
 if (decide (a0 < 0)) = true then (
  none
 ) else (
  gd (-9223372036854775808 ≤ a0 - 0 ∧ a0 - 0 ≤ 9223372036854775807) <|
  if (decide ((a0 - 0) > 0)) = true then (
   gd (0 ≤ a0 - 0) <|
   gd ((a0 - 0).toNat ≤ 281474976710656) <|
   gd (0 < (a0 - 0).toNat) <|
   gd (0 ≤ ([] : List Int).length) <|
   some []
  ) else (
   some []
  )
 )
noncomputable def m_slices_Concat_byte_L1 (N : Nat) (l0 : List (List Int)) : (Nat × Nat) → Option ((Nat × Nat) ⊕ Nat) := fun (u1_11, u1_3) =>
 if (decide (u1_11 < l0.length)) = true then (
  bindO (l0[u1_11]?) fun x13 =>
  gd (u1_3 + x13.length ≤ 9223372036854775807) <|
  if (decide ((u1_3 + x13.length) < 0)) = true then (
   none
  ) else (
   gd (u1_11 + 1 ≤ 9223372036854775807) <|
   some (.inl (u1_11 + 1, u1_3 + x13.length))
  )
 ) else (
  some (.inr u1_3)
 )
noncomputable def m_slices_Concat_byte_L2 (N : Nat) (l0 : List (List Int)) (j_1_3 : Nat) : (Nat × (List Int)) → Option ((Nat × (List Int)) ⊕ (List Int)) := fun (u2_27, u2_6_l) =>
 if (decide (u2_27 < l0.length)) = true then (
  bindO (l0[u2_27]?) fun x29 =>
  gd (u2_6_l.length + x29.length ≤ j_1_3) <|
  gd (u2_27 + 1 ≤ 9223372036854775807) <|
  some (.inl (u2_27 + 1, u2_6_l ++ x29))
 ) else (
  some (.inr u2_6_l)
 )
noncomputable def m_slices_Concat_byte (N : Nat) (l0 : List (List Int)) : Option (List Int) :=
 bindO (
  iter (m_slices_Concat_byte_L1 N l0) N (0, 0)
 ) fun j_1_3 =>
 bindO (m_slices_Grow_byte N ((j_1_3 : Nat) : Int)) fun v24 =>
 bindO (
  iter (m_slices_Concat_byte_L2 N l0 j_1_3) N (0, v24)
 ) fun j_2_6_l =>
 some j_2_6_l
noncomputable def m_disk_fit_1_C1 (N : Nat) (a0 : Int) : Option (Bool) :=
 if (decide (a0 < 97)) = true then (
  if (decide (a0 < 48)) = true then (
   if (a0 != 46) = true then (
    some (a0 != 45)
   ) else (
    some false
   )
  ) else (
   if (decide (a0 > 57)) = true then (
    if (a0 != 46) = true then (
     some (a0 != 45)
    ) else (
     some false
    )
   ) else (
    some false
   )
  )
 ) else (
  if (decide (a0 > 122)) = true then (
   if (decide (a0 < 48)) = true then (
    if (a0 != 46) = true then (
     some (a0 != 45)
    ) else (
     some false
    )
   ) else (
    if (decide (a0 > 57)) = true then (
     if (a0 != 46) = true then (
      some (a0 != 45)
     ) else (
      some false
     )
    ) else (
     some false
    )
   )
  ) else (
   some false
  )
 )
noncomputable def m_disk_fit_1 (N : Nat) (a0 : Int) : Option (Bool) :=
 bindO (m_disk_fit_1_C1 N a0
 ) fun j_1_2 =>
 some j_1_2
noncomputable def m_strings_indexFunc_L1 (N : Nat) (a0 : ByteArray) (a1 : Bool) : Nat → Option (Nat ⊕ (Unit ⊕ Int)) := fun u1_10_i =>
 if decide (u1_10_i < a0.size) = true then (
 bindO (m_disk_fit_1 N (((Utf8.decode a0 u1_10_i).1 : Nat) : Int)) fun v17 =>
 if (v17 == a1) = true then (
  some (.inr (.inr ((u1_10_i : Nat) : Int)))
 ) else (
  some (.inl (u1_10_i + (Utf8.decode a0 u1_10_i).2))
 )
 ) else (
 some (.inr (.inl ()))
 )
noncomputable def m_strings_indexFunc (N : Nat) (a0 : ByteArray) (a1 : Bool) : Option (Int) :=
 bindS (
  iter (m_strings_indexFunc_L1 N a0 a1) N 0
 ) fun _ =>
 some (-1)
noncomputable def m_strings_IndexFunc (N : Nat) (a0 : ByteArray) : Option (Int) :=
 bindO (m_strings_indexFunc N a0 true) fun v7 =>
 some v7
noncomputable def m_strings_ContainsFunc (N : Nat) (a0 : ByteArray) : Option (Bool) :=
 bindO (m_strings_IndexFunc N a0) fun v7 =>
 some (decide (v7 ≥ 0))
noncomputable def m_disk_fit_C2 (N : Nat) (x10 : ByteArray) : Option (Bool) :=
 if (x10.toList == (⟨#[]⟩ : ByteArray).toList) = true then (
  some true
 ) else (
  if (decide (30 < x10.size)) = true then (
   some true
  ) else (
   bindO (m_strings_ContainsFunc N x10) fun v22 =>
   some v22
  )
 )
noncomputable def m_disk_fit_L1 (N : Nat) (l0 : List ByteArray) : Nat → Option (Nat ⊕ (Unit ⊕ Bool)) := fun u1_8 =>
 if (decide (u1_8 < l0.length)) = true then (
  bindO (l0[u1_8]?) fun x10 =>
  bindO (m_disk_fit_C2 N x10
  ) fun j_2_23 =>
  if j_2_23 = true then (
   some (.inr (.inr false))
  ) else (
   gd (u1_8 + 1 ≤ 9223372036854775807) <|
   some (.inl (u1_8 + 1))
  )
 ) else (
  some (.inr (.inl ()))
 )
noncomputable def m_disk_fit (N : Nat) (l0 : List ByteArray) : Option (Bool) :=
 bindS (
  iter (m_disk_fit_L1 N l0) N 0
 ) fun _ =>
 some true
noncomputable def m_disk_when (N : Nat) (a0 : Bool) (a1 : Int) : Option (Int) :=
 if a0 = true then (
  some a1
 ) else (
  some 0
 )
noncomputable def m_disk_rows_size (N : Nat) (l0 : List Int) (l1 : List Int) : Option (Unit) :=
 gd (l0.length + l1.length ≤ 9223372036854775807) <|
 some ()
noncomputable def m_disk_Disk_Used_L1 (N : Nat) (e1 : List (ByteArray × Disk_rowsD)) : Option ByteArray → Nat → Option (Nat ⊕ Nat) := fun kk u1_2 =>
 optE kk (
 some (.inr u1_2)
 ) (fun k13 =>
 bindO (mlook k13 e1) fun x15 =>
 bindO (m_disk_rows_size N x15.firm x15.loose) fun _ =>
 gd (u1_2 + (x15.firm.length + x15.loose.length) ≤ 9223372036854775807) <|
 some (.inl (u1_2 + (x15.firm.length + x15.loose.length)))
 )
noncomputable def m_disk_Disk_Used (N : Nat) (a0 : Int) (e1 : List (ByteArray × Disk_rowsD)) : Option (Nat) :=
 bindO (m_disk_Disk_is N a0 e1) fun _ =>
 bindO (
  ranP (m_disk_Disk_Used_L1 N e1) (List.map (fun x : ByteArray × Disk_rowsD => x.1) e1) 0
 ) fun j_1_2 =>
 some j_1_2
noncomputable def m_cmp_Or_Errno_L1 (N : Nat) (l0 : List Int) : Nat → Option (Nat ⊕ (Unit ⊕ Int)) := fun u1_8 =>
 if (decide (u1_8 < l0.length)) = true then (
  bindO (l0[u1_8]?) fun x10 =>
  if (x10 != 0) = true then (
   some (.inr (.inr x10))
  ) else (
   gd (u1_8 + 1 ≤ 9223372036854775807) <|
   some (.inl (u1_8 + 1))
  )
 ) else (
  some (.inr (.inl ()))
 )
noncomputable def m_cmp_Or_Errno (N : Nat) (l0 : List Int) : Option (Int) :=
 bindS (
  iter (m_cmp_Or_Errno_L1 N l0) N 0
 ) fun _ =>
 some 0
noncomputable def m_disk_Disk_Append (N : Nat) (a0 : Int) (e1 : List (ByteArray × Disk_rowsD)) (a2 : ByteArray) (l3 : List Int) : Option (Int × (List (ByteArray × Disk_rowsD))) :=
 bindO (m_disk_Disk_is N a0 e1) fun _ =>
 bindO (
  optE (mlook a2 e1) (
  some ([], [])
  ) (fun x20 =>
  some (x20.firm, x20.loose)
  )
 ) fun (j_1_8_f0_l, j_1_8_f1_l) =>
 bindO (m_slices_Concat_byte N [j_1_8_f1_l, l3]) fun v25 =>
 bindO (m_disk_fit N [a2]) fun v29 =>
 bindO (m_disk_when N (!v29) 2) fun v31 =>
 bindO (m_disk_rows_size N j_1_8_f0_l v25) fun _ =>
 bindO (m_disk_when N (decide (4194304 < (j_1_8_f0_l.length + v25.length))) 3) fun v35 =>
 bindO (m_disk_Disk_Used N a0 e1) fun v37 =>
 gd (v37 + l3.length ≤ 9223372036854775807) <|
 bindO (m_disk_when N (decide (((v37 + l3.length : Nat) : Int) > a0)) 5) fun v46 =>
 bindO (m_cmp_Or_Errno N [v31, v35, v46]) fun v48 =>
 bindO (
  if (v48 == 0) = true then (
   some (mputP ltB a2 (⟨j_1_8_f0_l, v25⟩ : Disk_rowsD) e1)
  ) else (
   some e1
  )
 ) fun j_2_r0_f1_m =>
 some (v48, j_2_r0_f1_m)
noncomputable def m_disk_rows_whole (N : Nat) (l0 : List Int) (l1 : List Int) : Option (List Int) :=
 bindO (m_slices_Concat_byte N [l0, l1]) fun v8 =>
 some v8
noncomputable def m_disk_Disk_Sync_1 (N : Nat) (l0 : List Int) (l1 : List Int) : Option (List Int) :=
 bindO (m_disk_rows_whole N l0 l1) fun v5 =>
 some v5
noncomputable def m_disk_Disk_turn (N : Nat) (a0 : Int) (e1 : List (ByteArray × Disk_rowsD)) (a2 : ByteArray) : Option (Nat × (List (ByteArray × Disk_rowsD))) :=
 bindO (m_disk_Disk_is N a0 e1) fun _ =>
 bindO (
  optE (mlook a2 e1) (
  some ([], [], false)
  ) (fun x23 =>
  some (x23.firm, x23.loose, true)
  )
 ) fun (j_1_8_f0_l, j_1_8_f1_l, j_1_9) =>
 if (!j_1_9) = true then (
  some (6, e1)
 ) else (
  bindO (m_disk_Disk_Sync_1 N j_1_8_f0_l j_1_8_f1_l) fun v31 =>
  some (0, (mputP ltB a2 (⟨v31, []⟩ : Disk_rowsD) e1))
 )
noncomputable def m_disk_Disk_Sync (N : Nat) (a0 : Int) (e1 : List (ByteArray × Disk_rowsD)) (a2 : ByteArray) : Option (Nat × (List (ByteArray × Disk_rowsD))) :=
 bindO (m_disk_Disk_turn N a0 e1 a2) fun (v7_0, v7_1) =>
 some (v7_0, v7_1)
noncomputable def m_disk_Disk_Crash_L1 (N : Nat) (a2 : Int) : Option ByteArray → (List (ByteArray × Disk_rowsD)) → Option ((List (ByteArray × Disk_rowsD)) ⊕ (List (ByteArray × Disk_rowsD))) := fun kk u1_14_m =>
 optE kk (
 some (.inr u1_14_m)
 ) (fun k15 =>
 bindO (mlook k15 u1_14_m) fun x17 =>
 gd (0 ≤ minI (maxI a2 0) ((x17.loose.length : Nat) : Int)) <|
 gd ((minI (maxI a2 0) ((x17.loose.length : Nat) : Int)).toNat ≤ x17.loose.length) <|
 bindO (m_slices_Concat_byte N [x17.firm, x17.loose.take ((minI (maxI a2 0) ((x17.loose.length : Nat) : Int)).toNat)]) fun v38 =>
 bindO (mlook k15 u1_14_m) fun z1011 =>
 some (.inl (mput k15 (⟨v38, []⟩ : Disk_rowsD) u1_14_m))
 )
noncomputable def m_disk_Disk_Crash (N : Nat) (a0 : Int) (e1 : List (ByteArray × Disk_rowsD)) (a2 : Int) : Option (List (ByteArray × Disk_rowsD)) :=
 bindO (m_disk_Disk_is N a0 e1) fun _ =>
 ranP (m_disk_Disk_Crash_L1 N a2) (List.map (fun x : ByteArray × Disk_rowsD => x.1) e1) e1
noncomputable def m_disk_Disk_Read_1 (N : Nat) (l0 : List Int) (l1 : List Int) (l2 : List Int) : Option (List Int) :=
 bindO (m_disk_rows_whole N l0 l1) fun v6 =>
 some v6
noncomputable def m_disk_Disk_turn_v2 (N : Nat) (a0 : Int) (e1 : List (ByteArray × Disk_rowsD)) (a2 : ByteArray) (l3 : List Int) : Option (Nat × (List (ByteArray × Disk_rowsD)) × (List Int)) :=
 bindO (m_disk_Disk_is N a0 e1) fun _ =>
 bindO (
  optE (mlook a2 e1) (
  some ([], [], false)
  ) (fun x23 =>
  some (x23.firm, x23.loose, true)
  )
 ) fun (j_1_8_f0_l, j_1_8_f1_l, j_1_9) =>
 if (!j_1_9) = true then (
  some (6, e1, l3)
 ) else (
  bindO (m_disk_Disk_Read_1 N j_1_8_f0_l j_1_8_f1_l l3) fun v31 =>
  some (0, (mputP ltB a2 (⟨j_1_8_f0_l, j_1_8_f1_l⟩ : Disk_rowsD) e1), v31)
 )
noncomputable def m_disk_Disk_Read (N : Nat) (a0 : Int) (e1 : List (ByteArray × Disk_rowsD)) (a2 : ByteArray) : Option ((List Int) × Nat × (List (ByteArray × Disk_rowsD))) :=
 bindO (m_disk_Disk_turn_v2 N a0 e1 a2 []) fun (v9_0, v9_1, v9_2) =>
 some (v9_2, v9_0, v9_1)
noncomputable def m_disk_Disk_List (N : Nat) (a0 : Int) (e1 : List (ByteArray × Disk_rowsD)) : Option (List ByteArray) :=
 bindO (m_disk_Disk_is N a0 e1) fun _ =>
 if (e1.length == 0) = true then (
  some []
 ) else (
  gd (fitKeys e1 = true) <|
  some (sortKeys e1)
 )
noncomputable def m_ropewalklaw17_awake_L1 (N : Nat) (v11_0 : Int) (v13_0 : Nat) (v17_0 : Int) (v23_1 : Nat) : Nat → Option (Nat ⊕ (Unit ⊕ Bool)) := fun u1_5 =>
 if (decide (u1_5 < ((([v11_0, (((v13_0 : Nat) : Int)), v17_0]) ++ ([(((v23_1 : Nat) : Int))])).length))) = true then (
  bindO ((([v11_0, (((v13_0 : Nat) : Int)), v17_0]) ++ ([(((v23_1 : Nat) : Int))]) : List Int)[u1_5]?) fun x38 =>
  if (x38 != 0) = true then (
   some (.inr (.inr false))
  ) else (
   gd (u1_5 + 1 ≤ 9223372036854775807) <|
   some (.inl (u1_5 + 1))
  )
 ) else (
  some (.inr (.inl ()))
 )
noncomputable def m_ropewalklaw17_awake_C2 (N : Nat) (v23_0 : List Int) (v23_2 : List (ByteArray × Disk_rowsD)) (v42 : List ByteArray) : Option (Bool) :=
 if ((strOfNums v23_0).toList == (⟨#[119, 111, 114, 100, 105]⟩ : ByteArray).toList) = true then (
  bindO (m_disk_Disk_Used N (maxI 10 0) v23_2) fun v48 =>
  if (v48 == 5) = true then (
   bindO (m_disk_Disk_Append N (maxI 10 0) v23_2 (⟨#[98]⟩ : ByteArray) [115, 105, 120, 115, 105, 120]) fun (v55_0, v55_1) =>
   if (v55_0 == 5) = true then (
    if (v42.length == 1) = true then (
     bindO (v42[0]?) fun x65 =>
     some (x65.toList == (⟨#[97]⟩ : ByteArray).toList)
    ) else (
     some false
    )
   ) else (
    some false
   )
  ) else (
   some false
  )
 ) else (
  some false
 )
noncomputable def m_ropewalklaw17_awake (N : Nat) : Option (Bool) :=
 bindO (m_disk_New N 10) fun _ =>
 bindO (m_disk_Disk_Append N (maxI 10 0) ([] : List (ByteArray × Disk_rowsD)) (⟨#[97]⟩ : ByteArray) [119, 111, 114, 100]) fun (v11_0, v11_1) =>
 bindO (m_disk_Disk_Sync N (maxI 10 0) v11_1 (⟨#[97]⟩ : ByteArray)) fun (v13_0, v13_1) =>
 bindO (m_disk_Disk_Append N (maxI 10 0) v13_1 (⟨#[97]⟩ : ByteArray) [105, 110, 103]) fun (v17_0, v17_1) =>
 bindO (m_disk_Disk_Crash N (maxI 10 0) v17_1 1) fun v20 =>
 bindO (m_disk_Disk_Read N (maxI 10 0) v20 (⟨#[97]⟩ : ByteArray)) fun (v23_0, v23_1, v23_2) =>
 gd (([v11_0, (((v13_0 : Nat) : Int)), v17_0]).length + ([(((v23_1 : Nat) : Int))]).length ≤ 17592186044416) <|
 bindS (
  iter (m_ropewalklaw17_awake_L1 N v11_0 v13_0 v17_0 v23_1) N 0
 ) fun _ =>
 bindO (m_disk_Disk_List N (maxI 10 0) v23_2) fun v42 =>
 bindO (m_ropewalklaw17_awake_C2 N v23_0 v23_2 v42
 ) fun j_2_0 =>
 some j_2_0
noncomputable def m_ropewalkkit_mark (N : Nat) (a0 : Int) (a1 : Int) : Option (Unit) :=
 some ()
noncomputable def m_ropewalkkit_markByte (N : Nat) (a0 : Int) (a1 : Int) : Option (Unit) :=
 bindO (m_ropewalkkit_mark N a0 a1) fun _ =>
 some ()
noncomputable def m_ropewalkkit_LentBytes_L1 (N : Nat) : (Nat × (List Int)) → Option ((Nat × (List Int)) ⊕ (List Int)) := fun (u1_4, u1_3_l) =>
 if (decide (u1_4 < 12)) = true then (
  bindO (m_ropewalkkit_markByte N 1 ((u1_4 : Nat) : Int)) fun _ =>
  gd (u1_3_l.length + ([(IntKind.wrap .u8 (Int.fdiv (IntKind.wrap .u64 ((IntKind.wrap .u64 (IntKind.wrap .i64 ((IntKind.wrap .i64 (1000003 * (IntKind.wrap .i64 (1 + 7)))) + ((u1_4 : Nat) : Int)))) * 11400714819323198485)) (2 ^ (56))))]).length ≤ 140737488355328) <|
  gd (u1_4 + 1 ≤ 9223372036854775807) <|
  some (.inl (u1_4 + 1, (u1_3_l ++ ([(IntKind.wrap .u8 (Int.fdiv (IntKind.wrap .u64 ((IntKind.wrap .u64 (IntKind.wrap .i64 ((IntKind.wrap .i64 (1000003 * (IntKind.wrap .i64 (1 + 7)))) + ((u1_4 : Nat) : Int)))) * 11400714819323198485)) (2 ^ (56))))]))))
 ) else (
  some (.inr u1_3_l)
 )
noncomputable def m_ropewalkkit_LentBytes (N : Nat) (l0 : List Int) : Option (List Int) :=
 gd (l0.length + 12 ≤ 9223372036854775807) <|
 gd (l0.length + 12 ≤ 140737488355328) <|
 gd (([] : List Int).length + l0.length ≤ 140737488355328) <|
 bindO (
  iter (m_ropewalkkit_LentBytes_L1 N) N (0, l0)
 ) fun j_1_3_l =>
 gd (l0.length ≤ j_1_3_l.length) <|
 some j_1_3_l
noncomputable def m_disk_Disk_Append_V (N : Nat) (a0 : Int) (e1 : List (ByteArray × Disk_rowsD)) (a2 : ByteArray) (l3 : List Int) (k4 : Nat) : Option (Int × (List (ByteArray × Disk_rowsD))) :=
 bindO (m_disk_Disk_is N a0 e1) fun _ =>
 bindO (
  optE (mlook a2 e1) (
  some ([], [])
  ) (fun x20 =>
  some (x20.firm, x20.loose)
  )
 ) fun (j_1_8_f0_l, j_1_8_f1_l) =>
 gd (k4 ≤ l3.length) <|
 bindO (m_slices_Concat_byte N [j_1_8_f1_l, l3.take k4]) fun v25 =>
 bindO (m_disk_fit N [a2]) fun v29 =>
 bindO (m_disk_when N (!v29) 2) fun v31 =>
 bindO (m_disk_rows_size N j_1_8_f0_l v25) fun _ =>
 bindO (m_disk_when N (decide (4194304 < (j_1_8_f0_l.length + v25.length))) 3) fun v35 =>
 bindO (m_disk_Disk_Used N a0 e1) fun v37 =>
 gd (v37 + k4 ≤ 9223372036854775807) <|
 bindO (m_disk_when N (decide (((v37 + k4 : Nat) : Int) > a0)) 5) fun v46 =>
 bindO (m_cmp_Or_Errno N [v31, v35, v46]) fun v48 =>
 bindO (
  if (v48 == 0) = true then (
   some (mputP ltB a2 (⟨j_1_8_f0_l, v25⟩ : Disk_rowsD) e1)
  ) else (
   some e1
  )
 ) fun j_2_r0_f1_m =>
 some (v48, j_2_r0_f1_m)
noncomputable def m_ropewalkkit_KeptBytes_W_C2 (N : Nat) (u1_6 : Nat) (l2 : List Int) (l0 : List Int) : Option (Bool) :=
 if (decide (u1_6 < l2.length)) = true then (
  bindO ((l0.take (l2.length + 12))[u1_6]?) fun x30 =>
  bindO (l2[u1_6]?) fun x34 =>
  if (!(x30 == x34)) = true then (
   some true
  ) else (
   if (decide (l2.length ≤ u1_6)) = true then (
    bindO ((l0.take (l2.length + 12))[u1_6]?) fun x47 =>
    gd (-9223372036854775808 ≤ ((u1_6 : Nat) : Int) - ((l2.length : Nat) : Int) ∧ ((u1_6 : Nat) : Int) - ((l2.length : Nat) : Int) ≤ 9223372036854775807) <|
    bindO (m_ropewalkkit_markByte N 1 (((u1_6 : Nat) : Int) - ((l2.length : Nat) : Int))) fun _ =>
    some (!(x47 == (IntKind.wrap .u8 (Int.fdiv (IntKind.wrap .u64 ((IntKind.wrap .u64 (IntKind.wrap .i64 ((IntKind.wrap .i64 (1000003 * (IntKind.wrap .i64 (1 + 7)))) + (((u1_6 : Nat) : Int) - ((l2.length : Nat) : Int))))) * 11400714819323198485)) (2 ^ (56))))))
   ) else (
    some false
   )
  )
 ) else (
  if (decide (l2.length ≤ u1_6)) = true then (
   bindO ((l0.take (l2.length + 12))[u1_6]?) fun x47 =>
   gd (-9223372036854775808 ≤ ((u1_6 : Nat) : Int) - ((l2.length : Nat) : Int) ∧ ((u1_6 : Nat) : Int) - ((l2.length : Nat) : Int) ≤ 9223372036854775807) <|
   bindO (m_ropewalkkit_markByte N 1 (((u1_6 : Nat) : Int) - ((l2.length : Nat) : Int))) fun _ =>
   some (!(x47 == (IntKind.wrap .u8 (Int.fdiv (IntKind.wrap .u64 ((IntKind.wrap .u64 (IntKind.wrap .i64 ((IntKind.wrap .i64 (1000003 * (IntKind.wrap .i64 (1 + 7)))) + (((u1_6 : Nat) : Int) - ((l2.length : Nat) : Int))))) * 11400714819323198485)) (2 ^ (56))))))
  ) else (
   some false
  )
 )
noncomputable def m_ropewalkkit_KeptBytes_W_L1 (N : Nat) (l0 : List Int) (l2 : List Int) : Nat → Option (Nat ⊕ (Unit ⊕ Bool)) := fun u1_6 =>
 if (decide (u1_6 < ((l0.take (l2.length + 12)).length))) = true then (
  bindO (m_ropewalkkit_KeptBytes_W_C2 N u1_6 l2 l0
  ) fun j_2_57 =>
  if j_2_57 = true then (
   some (.inr (.inr false))
  ) else (
   gd (u1_6 + 1 ≤ 9223372036854775807) <|
   some (.inl (u1_6 + 1))
  )
 ) else (
  some (.inr (.inl ()))
 )
noncomputable def m_ropewalkkit_KeptBytes_W (N : Nat) (l0 : List Int) (k1 : Nat) (l2 : List Int) : Option (Bool) :=
 if (k1 != l2.length) = true then (
  some false
 ) else (
  gd (l2.length + 12 ≤ 9223372036854775807) <|
  gd (l2.length + 12 ≤ l0.length) <|
  bindS (
   iter (m_ropewalkkit_KeptBytes_W_L1 N l0 l2) N 0
  ) fun _ =>
  some true
 )
noncomputable def m_ropewalkkit_OverBytes_V_L1 (N : Nat) (k1 : Nat) : (Nat × (List Int)) → Option ((Nat × (List Int)) ⊕ (List Int)) := fun (u1_3, u1_2_l) =>
 if (decide (u1_3 < (k1 + 12))) = true then (
  bindO (m_ropewalkkit_markByte N 2 ((u1_3 : Nat) : Int)) fun _ =>
  bindO (u1_2_l[u1_3]?) fun x19 =>
  gd (u1_3 < k1 + 12) <|
  gd (u1_3 + 1 ≤ 9223372036854775807) <|
  some (.inl (u1_3 + 1, (u1_2_l.set u1_3 (IntKind.wrap .u8 (Int.fdiv (IntKind.wrap .u64 ((IntKind.wrap .u64 (IntKind.wrap .i64 ((IntKind.wrap .i64 (1000003 * (IntKind.wrap .i64 (2 + 7)))) + ((u1_3 : Nat) : Int)))) * 11400714819323198485)) (2 ^ (56)))))))
 ) else (
  some (.inr u1_2_l)
 )
noncomputable def m_ropewalkkit_OverBytes_V (N : Nat) (l0 : List Int) (k1 : Nat) : Option (List Int) :=
 gd (k1 + 12 ≤ 9223372036854775807) <|
 gd (k1 + 12 ≤ l0.length) <|
 iter (m_ropewalkkit_OverBytes_V_L1 N k1) N (0, l0)
noncomputable def m_ropewalkkit_SameBytes_L1 (N : Nat) (l0 : List Int) (l1 : List Int) : Nat → Option (Nat ⊕ (Unit ⊕ Bool)) := fun u1_5 =>
 if (decide (u1_5 < l0.length)) = true then (
  bindO (l0[u1_5]?) fun x19 =>
  bindO (l1[u1_5]?) fun x23 =>
  if (x19 != x23) = true then (
   some (.inr (.inr false))
  ) else (
   gd (u1_5 + 1 ≤ 9223372036854775807) <|
   some (.inl (u1_5 + 1))
  )
 ) else (
  some (.inr (.inl ()))
 )
noncomputable def m_ropewalkkit_SameBytes (N : Nat) (l0 : List Int) (l1 : List Int) : Option (Bool) :=
 if (l0.length != l1.length) = true then (
  some false
 ) else (
  bindS (
   iter (m_ropewalkkit_SameBytes_L1 N l0 l1) N 0
  ) fun _ =>
  some true
 )
noncomputable def m_ropewalkkit_markText (N : Nat) (a0 : Int) (a1 : Int) : Option (Unit) :=
 some ()
noncomputable def m_ropewalkkit_TurnBytes_v2_L1 (N : Nat) : (Nat × (List Int)) → Option ((Nat × (List Int)) ⊕ (List Int)) := fun (u1_2, u1_0_l) =>
 if (decide (u1_2 < u1_0_l.length)) = true then (
  bindO (u1_0_l[u1_2]?) fun x13 =>
  bindO (u1_0_l[u1_2]?) fun x16 =>
  gd (u1_2 + 1 ≤ 9223372036854775807) <|
  some (.inl (u1_2 + 1, u1_0_l.set u1_2 (bitsI .xor .u8 x13 255)))
 ) else (
  some (.inr u1_0_l)
 )
noncomputable def m_ropewalkkit_TurnBytes_v2 (N : Nat) (l0 : List Int) : Option (List Int) :=
 iter (m_ropewalkkit_TurnBytes_v2_L1 N) N (0, l0)
noncomputable def m_ropewalkkit_CopyBytes (N : Nat) (l0 : List Int) : Option (Unit) :=
 gd (([] : List Int).length + l0.length ≤ 140737488355328) <|
 some ()
noncomputable def m_ropewalklaw17_DiskKeeps_C2 (N : Nat) (v42_1 : Nat) (v47_1 : Nat) (v42_0 : List Int) (l0 : List Int) (v47_0 : List Int) (v51 : List ByteArray) (v53 : List ByteArray) : Option ((List Int) × Bool) :=
 if (v42_1 != v47_1) = true then (
  some (v42_0, true)
 ) else (
  bindO (m_ropewalkkit_SameBytes N v42_0 l0) fun v61 =>
  if (!v61) = true then (
   some (v42_0, true)
  ) else (
   gd ([v42_0, v47_0].length ≤ 8 ∧ ∀ y ∈ [v42_0, v47_0], y.length ≤ 10000) <|
   gd ([v51, v53].length ≤ 8 ∧ ∀ y ∈ [v51, v53], y.length ≤ 10000) <|
   some (((List.range v42_0.length).map (fun i => (z_markByte ((0 : Nat) : Int) ((i : Nat) : Int)))), false)
  )
 )
noncomputable def m_ropewalklaw17_DiskKeeps_C3 (N : Nat) (v80_0 : Int) (v83_1 : Nat) (v83_0 : List Int) (l0 : List Int) (l1 : List Int) : Option (Bool) :=
 if (v80_0 == 0) = true then (
  if (v83_1 == 0) = true then (
   bindO (m_ropewalkkit_SameBytes N v83_0 (l0 ++ l1)) fun v99 =>
   if v99 = true then (
    bindO (m_ropewalklaw17_awake N) fun v102 =>
    some v102
   ) else (
    some false
   )
  ) else (
   some false
  )
 ) else (
  some false
 )
noncomputable def m_ropewalklaw17_DiskKeeps (N : Nat) (l0 : List Int) (l1 : List Int) : Option (Bool) :=
 if (decide (10000 < (max l0.length l1.length))) = true then (
  bindO (m_ropewalklaw17_awake N) fun v23 =>
  some v23
 ) else (
  bindO (m_disk_New N 1048576) fun _ =>
  bindO (m_ropewalkkit_LentBytes N l0) fun v26 =>
  bindO (m_disk_Disk_Append_V N (maxI 1048576 0) ([] : List (ByteArray × Disk_rowsD)) (⟨#[97]⟩ : ByteArray) v26 l0.length) fun (v29_0, v29_1) =>
  bindO (
   if (v29_0 != 0) = true then (
    some true
   ) else (
    bindO (m_ropewalkkit_KeptBytes_W N v26 l0.length l0) fun v35 =>
    some (!v35)
   )
  ) fun j_1_37 =>
  if j_1_37 = true then (
   some false
  ) else (
   bindO (m_ropewalkkit_OverBytes_V N v26 l0.length) fun v39 =>
   bindO (m_disk_Disk_Read N (maxI 1048576 0) v29_1 (⟨#[97]⟩ : ByteArray)) fun (v42_0, v42_1, v42_2) =>
   bindO (m_disk_Disk_Read N (maxI 1048576 0) v42_2 (⟨#[97]⟩ : ByteArray)) fun (v47_0, v47_1, v47_2) =>
   bindO (m_disk_Disk_List N (maxI 1048576 0) v47_2) fun v51 =>
   bindO (m_disk_Disk_List N (maxI 1048576 0) v47_2) fun v53 =>
   bindO (m_ropewalklaw17_DiskKeeps_C2 N v42_1 v47_1 v42_0 l0 v47_0 v51 v53
   ) fun (j_2_8_l, j_2_75) =>
   if j_2_75 = true then (
    some false
   ) else (
    bindO (m_ropewalkkit_TurnBytes_v2 N j_2_8_l) fun v77 =>
    bindO (m_disk_Disk_Append N (maxI 1048576 0) v47_2 (⟨#[97]⟩ : ByteArray) l1) fun (v80_0, v80_1) =>
    bindO (m_disk_Disk_Read N (maxI 1048576 0) v80_1 (⟨#[97]⟩ : ByteArray)) fun (v83_0, v83_1, v83_2) =>
    bindO (m_ropewalkkit_CopyBytes N l0) fun _ =>
    gd (l0.length + l1.length ≤ 140737488355328) <|
    bindO (m_ropewalklaw17_DiskKeeps_C3 N v80_0 v83_1 v83_0 l0 l1
    ) fun j_3_4 =>
    some j_3_4
   )
  )
 )
end Go.Proofs.YtkakbckmajdggaaGreat
