/- Models, printed by a program out of the loaded code. -/
import Derived.Test.YtkakbckmajdggaaXT
namespace Go.Proofs.Ytkakbckmajdggaa
open Go.RowKit
noncomputable def m_disk_New (N : Nat) (a0 : Int) : Option (Unit) :=
 some ()
noncomputable def m_disk_Disk_is (N : Nat) (a0 : Int) (e1 : List (ByteArray × Disk_rowsD)) : Option (Unit) :=
 some ()
noncomputable def m_slices_Grow_byte_C1 (N : Nat) (a0 : Int) : Option (List Int) :=
 gd (-9223372036854775808 ≤ a0 - 0 ∧ a0 - 0 ≤ 9223372036854775807) <|
 if (decide ((a0 - 0) > 0)) = true then (
  gd (0 ≤ a0 - 0) <|
  gd ((a0 - 0).toNat ≤ 140737488355328) <|
  gd (0 < (a0 - 0).toNat) <|
  gd (0 ≤ ([] : List Int).length) <|
  some []
 ) else (
  some []
 )
noncomputable def m_slices_Grow_byte (N : Nat) (a0 : Int) : Option (List Int) :=
 if (decide (a0 < 0)) = true then (
  none
 ) else (
  bindO (m_slices_Grow_byte_C1 N a0
  ) fun j_1_0_l =>
  some j_1_0_l
 )
noncomputable def m_slices_Concat_byte_L1 (N : Nat) (l0 : List (List Int)) : (Nat × Nat) → Option ((Nat × Nat) ⊕ Nat) := fun (u1_11, u1_3) =>
 if (decide (u1_11 < l0.length)) = true then (
  bindO (l0[u1_11]?) fun x13 =>
  gd (u1_3 + x13.length ≤ 9223372036854775807) <|
  if (decide ((u1_3 + x13.length) < 0)) = true then (
   none
  ) else (
   gd (u1_11 + 1 ≤ 9223372036854775807) <|
   some (.inl (u1_11 + 1, u1_3 + x13.length))
  )
 ) else (
  some (.inr u1_3)
 )
noncomputable def m_slices_Concat_byte_L2 (N : Nat) (l0 : List (List Int)) : (Nat × (List Int)) → Option ((Nat × (List Int)) ⊕ (List Int)) := fun (u2_27, u2_6_l) =>
 if (decide (u2_27 < l0.length)) = true then (
  bindO (l0[u2_27]?) fun x29 =>
  gd (u2_6_l.length + x29.length ≤ 140737488355328) <|
  gd (u2_27 + 1 ≤ 9223372036854775807) <|
  some (.inl (u2_27 + 1, u2_6_l ++ x29))
 ) else (
  some (.inr u2_6_l)
 )
noncomputable def m_slices_Concat_byte (N : Nat) (l0 : List (List Int)) : Option (List Int) :=
 bindO (
  iter (m_slices_Concat_byte_L1 N l0) N (0, 0)
 ) fun j_1_3 =>
 bindO (m_slices_Grow_byte N ((j_1_3 : Nat) : Int)) fun v24 =>
 bindO (
  iter (m_slices_Concat_byte_L2 N l0) N (0, v24)
 ) fun j_2_6_l =>
 some j_2_6_l
noncomputable def m_disk_fit_1_C1 (N : Nat) (a0 : Int) : Option (Bool) :=
 if (decide (a0 < 97)) = true then (
  if (decide (a0 < 48)) = true then (
   if (a0 != 46) = true then (
    some (a0 != 45)
   ) else (
    some false
   )
  ) else (
   if (decide (a0 > 57)) = true then (
    if (a0 != 46) = true then (
     some (a0 != 45)
    ) else (
     some false
    )
   ) else (
    some false
   )
  )
 ) else (
  if (decide (a0 > 122)) = true then (
   if (decide (a0 < 48)) = true then (
    if (a0 != 46) = true then (
     some (a0 != 45)
    ) else (
     some false
    )
   ) else (
    if (decide (a0 > 57)) = true then (
     if (a0 != 46) = true then (
      some (a0 != 45)
     ) else (
      some false
     )
    ) else (
     some false
    )
   )
  ) else (
   some false
  )
 )
noncomputable def m_disk_fit_1 (N : Nat) (a0 : Int) : Option (Bool) :=
 bindO (m_disk_fit_1_C1 N a0
 ) fun j_1_2 =>
 some j_1_2
noncomputable def m_strings_indexFunc_L1 (N : Nat) (a0 : ByteArray) (a1 : Bool) : Nat → Option (Nat ⊕ (Unit ⊕ Int)) := fun u1_10_i =>
 if decide (u1_10_i < a0.size) = true then (
 bindO (m_disk_fit_1 N (((Utf8.decode a0 u1_10_i).1 : Nat) : Int)) fun v17 =>
 if (v17 == a1) = true then (
  some (.inr (.inr ((u1_10_i : Nat) : Int)))
 ) else (
  some (.inl (u1_10_i + (Utf8.decode a0 u1_10_i).2))
 )
 ) else (
 some (.inr (.inl ()))
 )
noncomputable def m_strings_indexFunc (N : Nat) (a0 : ByteArray) (a1 : Bool) : Option (Int) :=
 bindS (
  iter (m_strings_indexFunc_L1 N a0 a1) N 0
 ) fun _ =>
 some (-1)
noncomputable def m_strings_IndexFunc (N : Nat) (a0 : ByteArray) : Option (Int) :=
 bindO (m_strings_indexFunc N a0 true) fun v7 =>
 some v7
noncomputable def m_strings_ContainsFunc (N : Nat) (a0 : ByteArray) : Option (Bool) :=
 bindO (m_strings_IndexFunc N a0) fun v7 =>
 some (decide (v7 ≥ 0))
noncomputable def m_disk_fit_C2 (N : Nat) (x10 : ByteArray) : Option (Bool) :=
 if (x10.toList == (⟨#[]⟩ : ByteArray).toList) = true then (
  some true
 ) else (
  if (decide (30 < x10.size)) = true then (
   some true
  ) else (
   bindO (m_strings_ContainsFunc N x10) fun v22 =>
   some v22
  )
 )
noncomputable def m_disk_fit_L1 (N : Nat) (l0 : List ByteArray) : Nat → Option (Nat ⊕ (Unit ⊕ Bool)) := fun u1_8 =>
 if (decide (u1_8 < l0.length)) = true then (
  bindO (l0[u1_8]?) fun x10 =>
  bindO (m_disk_fit_C2 N x10
  ) fun j_2_23 =>
  if j_2_23 = true then (
   some (.inr (.inr false))
  ) else (
   gd (u1_8 + 1 ≤ 9223372036854775807) <|
   some (.inl (u1_8 + 1))
  )
 ) else (
  some (.inr (.inl ()))
 )
noncomputable def m_disk_fit (N : Nat) (l0 : List ByteArray) : Option (Bool) :=
 bindS (
  iter (m_disk_fit_L1 N l0) N 0
 ) fun _ =>
 some true
noncomputable def m_disk_when (N : Nat) (a0 : Bool) (a1 : Int) : Option (Int) :=
 if a0 = true then (
  some a1
 ) else (
  some 0
 )
noncomputable def m_disk_rows_size (N : Nat) (l0 : List Int) (l1 : List Int) : Option (Unit) :=
 gd (l0.length + l1.length ≤ 9223372036854775807) <|
 some ()
noncomputable def m_disk_Disk_Used_L1 (N : Nat) (e1 : List (ByteArray × Disk_rowsD)) : Option ByteArray → Nat → Option (Nat ⊕ Nat) := fun kk u1_2 =>
 optE kk (
 some (.inr u1_2)
 ) (fun k13 =>
 bindO (mlook k13 e1) fun x15 =>
 bindO (m_disk_rows_size N x15.firm x15.loose) fun _ =>
 gd (u1_2 + (x15.firm.length + x15.loose.length) ≤ 9223372036854775807) <|
 some (.inl (u1_2 + (x15.firm.length + x15.loose.length)))
 )
noncomputable def m_disk_Disk_Used (N : Nat) (a0 : Int) (e1 : List (ByteArray × Disk_rowsD)) : Option (Nat) :=
 bindO (m_disk_Disk_is N a0 e1) fun _ =>
 bindO (
  ranP (m_disk_Disk_Used_L1 N e1) (List.map (fun x : ByteArray × Disk_rowsD => x.1) e1) 0
 ) fun j_1_2 =>
 some j_1_2
noncomputable def m_cmp_Or_Errno_L1 (N : Nat) (l0 : List Int) : Nat → Option (Nat ⊕ (Unit ⊕ Int)) := fun u1_8 =>
 if (decide (u1_8 < l0.length)) = true then (
  bindO (l0[u1_8]?) fun x10 =>
  if (x10 != 0) = true then (
   some (.inr (.inr x10))
  ) else (
   gd (u1_8 + 1 ≤ 9223372036854775807) <|
   some (.inl (u1_8 + 1))
  )
 ) else (
  some (.inr (.inl ()))
 )
noncomputable def m_cmp_Or_Errno (N : Nat) (l0 : List Int) : Option (Int) :=
 bindS (
  iter (m_cmp_Or_Errno_L1 N l0) N 0
 ) fun _ =>
 some 0
noncomputable def m_disk_Disk_Append (N : Nat) (a0 : Int) (e1 : List (ByteArray × Disk_rowsD)) (a2 : ByteArray) (l3 : List Int) : Option (Int × (List (ByteArray × Disk_rowsD))) :=
 bindO (m_disk_Disk_is N a0 e1) fun _ =>
 bindO (
  optE (mlook a2 e1) (
  some ([], [])
  ) (fun x20 =>
  some (x20.firm, x20.loose)
  )
 ) fun (j_1_8_f0_l, j_1_8_f1_l) =>
 bindO (m_slices_Concat_byte N [j_1_8_f1_l, l3]) fun v25 =>
 bindO (m_disk_fit N [a2]) fun v29 =>
 bindO (m_disk_when N (!v29) 2) fun v31 =>
 bindO (m_disk_rows_size N j_1_8_f0_l v25) fun _ =>
 bindO (m_disk_when N (decide (4194304 < (j_1_8_f0_l.length + v25.length))) 3) fun v35 =>
 bindO (m_disk_Disk_Used N a0 e1) fun v37 =>
 gd (v37 + l3.length ≤ 9223372036854775807) <|
 bindO (m_disk_when N (decide (((v37 + l3.length : Nat) : Int) > a0)) 5) fun v46 =>
 bindO (m_cmp_Or_Errno N [v31, v35, v46]) fun v48 =>
 bindO (
  if (v48 == 0) = true then (
   some (mputP ltB a2 (⟨j_1_8_f0_l, v25⟩ : Disk_rowsD) e1)
  ) else (
   some e1
  )
 ) fun j_2_r0_f1_m =>
 some (v48, j_2_r0_f1_m)
noncomputable def m_disk_rows_whole (N : Nat) (l0 : List Int) (l1 : List Int) : Option (List Int) :=
 bindO (m_slices_Concat_byte N [l0, l1]) fun v8 =>
 some v8
noncomputable def m_disk_Disk_Sync_1 (N : Nat) (l0 : List Int) (l1 : List Int) : Option (List Int) :=
 bindO (m_disk_rows_whole N l0 l1) fun v5 =>
 some v5
noncomputable def m_disk_Disk_turn (N : Nat) (a0 : Int) (e1 : List (ByteArray × Disk_rowsD)) (a2 : ByteArray) : Option (Nat × (List (ByteArray × Disk_rowsD))) :=
 bindO (m_disk_Disk_is N a0 e1) fun _ =>
 bindO (
  optE (mlook a2 e1) (
  some ([], [], false)
  ) (fun x23 =>
  some (x23.firm, x23.loose, true)
  )
 ) fun (j_1_8_f0_l, j_1_8_f1_l, j_1_9) =>
 if (!j_1_9) = true then (
  some (6, e1)
 ) else (
  bindO (m_disk_Disk_Sync_1 N j_1_8_f0_l j_1_8_f1_l) fun v31 =>
  some (0, (mputP ltB a2 (⟨v31, []⟩ : Disk_rowsD) e1))
 )
noncomputable def m_disk_Disk_Sync (N : Nat) (a0 : Int) (e1 : List (ByteArray × Disk_rowsD)) (a2 : ByteArray) : Option (Nat × (List (ByteArray × Disk_rowsD))) :=
 bindO (m_disk_Disk_turn N a0 e1 a2) fun (v7_0, v7_1) =>
 some (v7_0, v7_1)
noncomputable def m_disk_Disk_Crash_L1 (N : Nat) (a2 : Int) : Option ByteArray → (List (ByteArray × Disk_rowsD)) → Option ((List (ByteArray × Disk_rowsD)) ⊕ (List (ByteArray × Disk_rowsD))) := fun kk u1_14_m =>
 optE kk (
 some (.inr u1_14_m)
 ) (fun k15 =>
 bindO (mlook k15 u1_14_m) fun x17 =>
 gd (0 ≤ minI (maxI a2 0) ((x17.loose.length : Nat) : Int)) <|
 gd ((minI (maxI a2 0) ((x17.loose.length : Nat) : Int)).toNat ≤ x17.loose.length) <|
 bindO (m_slices_Concat_byte N [x17.firm, x17.loose.take ((minI (maxI a2 0) ((x17.loose.length : Nat) : Int)).toNat)]) fun v38 =>
 bindO (mlook k15 u1_14_m) fun z1011 =>
 some (.inl (mput k15 (⟨v38, []⟩ : Disk_rowsD) u1_14_m))
 )
noncomputable def m_disk_Disk_Crash (N : Nat) (a0 : Int) (e1 : List (ByteArray × Disk_rowsD)) (a2 : Int) : Option (List (ByteArray × Disk_rowsD)) :=
 bindO (m_disk_Disk_is N a0 e1) fun _ =>
 ranP (m_disk_Disk_Crash_L1 N a2) (List.map (fun x : ByteArray × Disk_rowsD => x.1) e1) e1
noncomputable def m_disk_Disk_Read_1 (N : Nat) (l0 : List Int) (l1 : List Int) (l2 : List Int) : Option (List Int) :=
 bindO (m_disk_rows_whole N l0 l1) fun v6 =>
 some v6
noncomputable def m_disk_Disk_turn_v2 (N : Nat) (a0 : Int) (e1 : List (ByteArray × Disk_rowsD)) (a2 : ByteArray) (l3 : List Int) : Option (Unit ⊕ ((List (ByteArray × Disk_rowsD)) × (List Int))) :=
 bindO (m_disk_Disk_is N a0 e1) fun _ =>
 bindO (
  optE (mlook a2 e1) (
  some ([], [], false)
  ) (fun x23 =>
  some (x23.firm, x23.loose, true)
  )
 ) fun (j_1_8_f0_l, j_1_8_f1_l, j_1_9) =>
 if (!j_1_9) = true then (
  some (.inl ())
 ) else (
  bindO (m_disk_Disk_Read_1 N j_1_8_f0_l j_1_8_f1_l l3) fun v31 =>
  some (.inr ((mputP ltB a2 (⟨j_1_8_f0_l, j_1_8_f1_l⟩ : Disk_rowsD) e1), v31))
 )
noncomputable def m_disk_Disk_Read (N : Nat) (a0 : Int) (e1 : List (ByteArray × Disk_rowsD)) (a2 : ByteArray) : Option ((List Int) × Nat × (List (ByteArray × Disk_rowsD))) :=
 bindO (
  bindO (m_disk_Disk_turn_v2 N a0 e1 a2 []) fun
  | .inl _ => (
  some ([], 6, e1)
  )
  | .inr (v9, v9_1) => (
  some (v9_1, 0, v9)
  )
 ) fun (j_1_4_f0_l, j_1_5, j_1_r0_f1_m) =>
 some (j_1_4_f0_l, j_1_5, j_1_r0_f1_m)
noncomputable def m_disk_Disk_List (N : Nat) (a0 : Int) (e1 : List (ByteArray × Disk_rowsD)) : Option (List ByteArray) :=
 bindO (m_disk_Disk_is N a0 e1) fun _ =>
 if (e1.length == 0) = true then (
  some []
 ) else (
  gd (fitKeys e1 = true) <|
  some (sortKeys e1)
 )
noncomputable def m_ropewalklaw17_awake_L1 (N : Nat) (v11_0 : Int) (v13_0 : Nat) (v17_0 : Int) (v23_1 : Nat) : Nat → Option (Nat ⊕ (Unit ⊕ Bool)) := fun u1_5 =>
 if (decide (u1_5 < ((([v11_0, (((v13_0 : Nat) : Int)), v17_0]) ++ ([(((v23_1 : Nat) : Int))])).length))) = true then (
  bindO ((([v11_0, (((v13_0 : Nat) : Int)), v17_0]) ++ ([(((v23_1 : Nat) : Int))]) : List Int)[u1_5]?) fun x38 =>
  if (x38 != 0) = true then (
   some (.inr (.inr false))
  ) else (
   gd (u1_5 + 1 ≤ 9223372036854775807) <|
   some (.inl (u1_5 + 1))
  )
 ) else (
  some (.inr (.inl ()))
 )
noncomputable def m_ropewalklaw17_awake_C2 (N : Nat) (v23_0 : List Int) (v23_2 : List (ByteArray × Disk_rowsD)) (v42 : List ByteArray) : Option (Bool) :=
 if ((strOfNums v23_0).toList == (⟨#[119, 111, 114, 100, 105]⟩ : ByteArray).toList) = true then (
  bindO (m_disk_Disk_Used N (maxI 10 0) v23_2) fun v48 =>
  if (v48 == 5) = true then (
   bindO (m_disk_Disk_Append N (maxI 10 0) v23_2 (⟨#[98]⟩ : ByteArray) [115, 105, 120, 115, 105, 120]) fun (v55_0, v55_1) =>
   if (v55_0 == 5) = true then (
    if (v42.length == 1) = true then (
     bindO (v42[0]?) fun x65 =>
     some (x65.toList == (⟨#[97]⟩ : ByteArray).toList)
    ) else (
     some false
    )
   ) else (
    some false
   )
  ) else (
   some false
  )
 ) else (
  some false
 )
noncomputable def m_ropewalklaw17_awake (N : Nat) : Option (Bool) :=
 bindO (m_disk_New N 10) fun _ =>
 bindO (m_disk_Disk_Append N (maxI 10 0) ([] : List (ByteArray × Disk_rowsD)) (⟨#[97]⟩ : ByteArray) [119, 111, 114, 100]) fun (v11_0, v11_1) =>
 bindO (m_disk_Disk_Sync N (maxI 10 0) v11_1 (⟨#[97]⟩ : ByteArray)) fun (v13_0, v13_1) =>
 bindO (m_disk_Disk_Append N (maxI 10 0) v13_1 (⟨#[97]⟩ : ByteArray) [105, 110, 103]) fun (v17_0, v17_1) =>
 bindO (m_disk_Disk_Crash N (maxI 10 0) v17_1 1) fun v20 =>
 bindO (m_disk_Disk_Read N (maxI 10 0) v20 (⟨#[97]⟩ : ByteArray)) fun (v23_0, v23_1, v23_2) =>
 gd (([v11_0, (((v13_0 : Nat) : Int)), v17_0]).length + ([(((v23_1 : Nat) : Int))]).length ≤ 17592186044416) <|
 bindS (
  iter (m_ropewalklaw17_awake_L1 N v11_0 v13_0 v17_0 v23_1) N 0
 ) fun _ =>
 bindO (m_disk_Disk_List N (maxI 10 0) v23_2) fun v42 =>
 bindO (m_ropewalklaw17_awake_C2 N v23_0 v23_2 v42
 ) fun j_2_0 =>
 some j_2_0
noncomputable def m_disk_Disk_is_v2 (N : Nat) : Option (Unit) :=
 some ()
noncomputable def m_disk_Disk_Crash_v2 (N : Nat) (a0 : Int) : Option (Unit) :=
 bindO (m_disk_Disk_is_v2 N) fun _ =>
 some ()
noncomputable def m_disk_Disk_Append_v2 (N : Nat) (a0 : ByteArray) (l1 : List Int) : Option (Unit) :=
 bindO (m_disk_Disk_is_v2 N) fun _ =>
 some ()
noncomputable def m_disk_Disk_turn_v3 (N : Nat) (a0 : ByteArray) : Option (Unit) :=
 bindO (m_disk_Disk_is_v2 N) fun _ =>
 some ()
noncomputable def m_disk_Disk_Sync_v2 (N : Nat) (a0 : ByteArray) : Option (Unit) :=
 bindO (m_disk_Disk_turn_v3 N a0) fun _ =>
 some ()
noncomputable def m_disk_Disk_turn_v4 (N : Nat) (a0 : ByteArray) (a1 : Int) : Option (Unit) :=
 bindO (m_disk_Disk_is_v2 N) fun _ =>
 some ()
noncomputable def m_disk_Disk_Cut (N : Nat) (a0 : ByteArray) (a1 : Int) : Option (Unit) :=
 bindO (m_disk_Disk_turn_v4 N a0 a1) fun _ =>
 some ()
noncomputable def m_disk_Disk_turn_v5 (N : Nat) (a0 : ByteArray) (a1 : ByteArray) : Option (Unit) :=
 bindO (m_disk_Disk_is_v2 N) fun _ =>
 some ()
noncomputable def m_disk_Disk_Rename (N : Nat) (a0 : ByteArray) (a1 : ByteArray) : Option (Unit) :=
 bindO (m_disk_Disk_is_v2 N) fun _ =>
 bindO (m_disk_Disk_turn_v5 N a0 a1) fun _ =>
 some ()

noncomputable def m_disk_Disk_Remove (N : Nat) (a0 : ByteArray) : Option (Unit) :=
 bindO (m_disk_Disk_turn_v3 N a0) fun _ =>
 some ()
noncomputable def m_disk_Disk_turn_v7 (N : Nat) (a0 : ByteArray) (l1 : List Int) : Option (Unit) :=
 bindO (m_disk_Disk_is_v2 N) fun _ =>
 some ()
noncomputable def m_disk_Disk_Read_v2 (N : Nat) (a0 : ByteArray) : Option (Unit) :=
 bindO (m_disk_Disk_turn_v7 N a0 []) fun _ =>
 some ()
noncomputable def m_disk_Disk_List_v2 (N : Nat) : Option (Unit) :=
 bindO (m_disk_Disk_is_v2 N) fun _ =>
 some ()
noncomputable def m_disk_Disk_Used_v2 (N : Nat) : Option (Unit) :=
 bindO (m_disk_Disk_is_v2 N) fun _ =>
 some ()
noncomputable def m_disk_Disk_Copy (N : Nat) : Option (Unit) :=
 bindO (m_disk_Disk_is_v2 N) fun _ =>
 some ()
noncomputable def m_ropewalklaw17_silent_L1 (N : Nat) : Nat → Option (Nat ⊕ (Unit ⊕ Bool)) := fun u1_8 =>
 if (decide (u1_8 < ((([1, 1, 1, 1, 1]) ++ [1]).length))) = true then (
  bindO ((([1, 1, 1, 1, 1]) ++ [1] : List Int)[u1_8]?) fun x41 =>
  if (x41 != 1) = true then (
   some (.inr (.inr false))
  ) else (
   gd (u1_8 + 1 ≤ 9223372036854775807) <|
   some (.inl (u1_8 + 1))
  )
 ) else (
  some (.inr (.inl ()))
 )
noncomputable def m_ropewalklaw17_silent (N : Nat) (a0 : Int) : Option (Bool) :=
 bindO (m_disk_Disk_Crash_v2 N a0) fun _ =>
 bindO (m_disk_Disk_Append_v2 N (⟨#[97]⟩ : ByteArray) ([] : List Int)) fun _ =>
 bindO (m_disk_Disk_Sync_v2 N (⟨#[97]⟩ : ByteArray)) fun _ =>
 bindO (m_disk_Disk_Cut N (⟨#[97]⟩ : ByteArray) a0) fun _ =>
 bindO (m_disk_Disk_Rename N (⟨#[97]⟩ : ByteArray) (⟨#[98]⟩ : ByteArray)) fun _ =>
 bindO (m_disk_Disk_Remove N (⟨#[97]⟩ : ByteArray)) fun _ =>
 bindO (m_disk_Disk_Read_v2 N (⟨#[97]⟩ : ByteArray)) fun _ =>
 gd (([1, 1, 1, 1, 1]).length + [1].length ≤ 17592186044416) <|
 bindS (
  iter (m_ropewalklaw17_silent_L1 N) N 0
 ) fun _ =>
 bindO (m_disk_Disk_List_v2 N) fun _ =>
 gd (([] : List Unit).length + 0 ≤ 9223372036854775807) <|
 bindO (m_disk_Disk_Used_v2 N) fun _ =>
 gd ((([] : List Unit).length + 0) + 0 ≤ 9223372036854775807) <|
 if (((([] : List Unit).length + 0) + 0) == 0) = true then (
  bindO (m_disk_Disk_Copy N) fun _ =>
  some true
 ) else (
  some false
 )
noncomputable def m_disk_Disk_is_v3 (N : Nat) (a0 : Int) : Option (Unit) :=
 some ()
noncomputable def m_disk_Disk_Crash_v3 (N : Nat) (a0 : Int) (a1 : Int) : Option (Unit) :=
 bindO (m_disk_Disk_is_v3 N a0) fun _ =>
 some ()
noncomputable def m_disk_Disk_Append_v3 (N : Nat) (a0 : Int) (a1 : ByteArray) (l2 : List Int) : Option (Unit) :=
 bindO (m_disk_Disk_is_v3 N a0) fun _ =>
 some ()
noncomputable def m_disk_Disk_turn_v8 (N : Nat) (a0 : Int) (a1 : ByteArray) : Option (Unit) :=
 bindO (m_disk_Disk_is_v3 N a0) fun _ =>
 some ()
noncomputable def m_disk_Disk_Sync_v3 (N : Nat) (a0 : Int) (a1 : ByteArray) : Option (Unit) :=
 bindO (m_disk_Disk_turn_v8 N a0 a1) fun _ =>
 some ()
noncomputable def m_disk_Disk_turn_v9 (N : Nat) (a0 : Int) (a1 : ByteArray) (a2 : Int) : Option (Unit) :=
 bindO (m_disk_Disk_is_v3 N a0) fun _ =>
 some ()
noncomputable def m_disk_Disk_Cut_v2 (N : Nat) (a0 : Int) (a1 : ByteArray) (a2 : Int) : Option (Unit) :=
 bindO (m_disk_Disk_turn_v9 N a0 a1 a2) fun _ =>
 some ()
noncomputable def m_disk_Disk_turn_v10 (N : Nat) (a0 : Int) (a1 : ByteArray) (a2 : ByteArray) : Option (Unit) :=
 bindO (m_disk_Disk_is_v3 N a0) fun _ =>
 some ()
noncomputable def m_disk_Disk_Rename_v2 (N : Nat) (a0 : Int) (a1 : ByteArray) (a2 : ByteArray) : Option (Unit) :=
 bindO (m_disk_Disk_is_v3 N a0) fun _ =>
 bindO (m_disk_Disk_turn_v10 N a0 a1 a2) fun _ =>
 some ()

noncomputable def m_disk_Disk_Remove_v2 (N : Nat) (a0 : Int) (a1 : ByteArray) : Option (Unit) :=
 bindO (m_disk_Disk_turn_v8 N a0 a1) fun _ =>
 some ()
noncomputable def m_disk_Disk_turn_v12 (N : Nat) (a0 : Int) (a1 : ByteArray) (l2 : List Int) : Option (Unit) :=
 bindO (m_disk_Disk_is_v3 N a0) fun _ =>
 some ()
noncomputable def m_disk_Disk_Read_v3 (N : Nat) (a0 : Int) (a1 : ByteArray) : Option (Unit) :=
 bindO (m_disk_Disk_turn_v12 N a0 a1 []) fun _ =>
 some ()
noncomputable def m_disk_Disk_List_v3 (N : Nat) (a0 : Int) : Option (Unit) :=
 bindO (m_disk_Disk_is_v3 N a0) fun _ =>
 some ()
noncomputable def m_disk_Disk_Used_v3 (N : Nat) (a0 : Int) : Option (Unit) :=
 bindO (m_disk_Disk_is_v3 N a0) fun _ =>
 some ()
noncomputable def m_disk_Disk_Copy_v2 (N : Nat) (a0 : Int) : Option (Unit) :=
 bindO (m_disk_Disk_is_v3 N a0) fun _ =>
 some ()
noncomputable def m_ropewalklaw17_silent_v2_L1 (N : Nat) : Nat → Option (Nat ⊕ (Unit ⊕ Bool)) := fun u1_8 =>
 if (decide (u1_8 < ((([1, 1, 1, 1, 1]) ++ [1]).length))) = true then (
  bindO ((([1, 1, 1, 1, 1]) ++ [1] : List Int)[u1_8]?) fun x41 =>
  if (x41 != 1) = true then (
   some (.inr (.inr false))
  ) else (
   gd (u1_8 + 1 ≤ 9223372036854775807) <|
   some (.inl (u1_8 + 1))
  )
 ) else (
  some (.inr (.inl ()))
 )
noncomputable def m_ropewalklaw17_silent_v2 (N : Nat) (a0 : Int) (a1 : Int) : Option (Bool) :=
 bindO (m_disk_Disk_Crash_v3 N a0 a1) fun _ =>
 bindO (m_disk_Disk_Append_v3 N a0 (⟨#[97]⟩ : ByteArray) ([] : List Int)) fun _ =>
 bindO (m_disk_Disk_Sync_v3 N a0 (⟨#[97]⟩ : ByteArray)) fun _ =>
 bindO (m_disk_Disk_Cut_v2 N a0 (⟨#[97]⟩ : ByteArray) a1) fun _ =>
 bindO (m_disk_Disk_Rename_v2 N a0 (⟨#[97]⟩ : ByteArray) (⟨#[98]⟩ : ByteArray)) fun _ =>
 bindO (m_disk_Disk_Remove_v2 N a0 (⟨#[97]⟩ : ByteArray)) fun _ =>
 bindO (m_disk_Disk_Read_v3 N a0 (⟨#[97]⟩ : ByteArray)) fun _ =>
 gd (([1, 1, 1, 1, 1]).length + [1].length ≤ 17592186044416) <|
 bindS (
  iter (m_ropewalklaw17_silent_v2_L1 N) N 0
 ) fun _ =>
 bindO (m_disk_Disk_List_v3 N a0) fun _ =>
 gd (([] : List Unit).length + 0 ≤ 9223372036854775807) <|
 bindO (m_disk_Disk_Used_v3 N a0) fun _ =>
 gd ((([] : List Unit).length + 0) + 0 ≤ 9223372036854775807) <|
 if (((([] : List Unit).length + 0) + 0) == 0) = true then (
  bindO (m_disk_Disk_Copy_v2 N a0) fun _ =>
  some true
 ) else (
  some false
 )
noncomputable def m_ropewalklaw17_DiskNil (N : Nat) (a0 : Int) : Option (Bool) :=
 bindO (m_ropewalklaw17_awake N) fun v4 =>
 if v4 = true then (
  bindO (m_ropewalklaw17_silent N a0) fun v8 =>
  if v8 = true then (
   bindO (m_ropewalklaw17_silent_v2 N 0 a0) fun v14 =>
   some v14
  ) else (
   some false
  )
 ) else (
  some false
 )
end Go.Proofs.Ytkakbckmajdggaa
