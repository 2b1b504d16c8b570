import Derived.Test.YtgangmegcejllaaDoorXT
namespace Go.Proofs.YtgangmegcejllaaDoor
open Go.RowKit
noncomputable def m_ropewalklaw14_great_L1 (N : Nat) (l0 : List Api_TokenD) : (Nat × Nat) → Option ((Nat × Nat) ⊕ Nat) := fun (u1_4, u1_3) =>
 bindO (
  if (decide (u1_4 < l0.length)) = true then (
   some (decide (u1_3 ≤ 400))
  ) else (
   some false
  )
 ) fun j_2_14 =>
 if j_2_14 = true then (
  bindO (l0[u1_4]?) fun x20 =>
  gd (u1_3 + x20.ids.length ≤ 9223372036854775807) <|
  gd (u1_4 + 1 ≤ 9223372036854775807) <|
  some (.inl (u1_4 + 1, u1_3 + x20.ids.length))
 ) else (
  some (.inr u1_3)
 )
noncomputable def m_ropewalklaw14_great (N : Nat) (l0 : List Api_TokenD) : Option (Bool) :=
 bindO (
  iter (m_ropewalklaw14_great_L1 N l0) N (0, l0.length)
 ) fun j_1_3 =>
 some (decide (400 < j_1_3))
noncomputable def m_ropewalklaw14_of_L1 (N : Nat) (l0 : List Int) : (Nat × (List Api_RuleD)) → Option ((Nat × (List Api_RuleD)) ⊕ (List Api_RuleD)) := fun (u1_4, u1_3_f1_l) =>
 if (decide (u1_4 < l0.length)) = true then (
  bindO (l0[u1_4]?) fun x15 =>
  gd (u1_3_f1_l.length + ([(⟨(⟨#[]⟩ : ByteArray), x15, 0, [], []⟩ : Api_RuleD)]).length ≤ 1759218604441) <|
  gd (u1_4 + 1 ≤ 9223372036854775807) <|
  some (.inl (u1_4 + 1, (u1_3_f1_l ++ ([(⟨(⟨#[]⟩ : ByteArray), x15, 0, [], []⟩ : Api_RuleD)]))))
 ) else (
  some (.inr u1_3_f1_l)
 )
noncomputable def m_ropewalklaw14_of (N : Nat) (l0 : List Int) : Option (List Api_RuleD) :=
 bindO (
  iter (m_ropewalklaw14_of_L1 N l0) N (0, [])
 ) fun j_1_3_f1_l =>
 some j_1_3_f1_l
noncomputable def m_ropewalkkit_SameInts_L1 (N : Nat) (l0 : List Int) (l1 : List Int) : Nat → Option (Nat ⊕ (Unit ⊕ Bool)) := fun u1_5 =>
 if (decide (u1_5 < l0.length)) = true then (
  bindO (l0[u1_5]?) fun x19 =>
  bindO (l1[u1_5]?) fun x23 =>
  if (x19 != x23) = true then (
   some (.inr (.inr false))
  ) else (
   gd (u1_5 + 1 ≤ 9223372036854775807) <|
   some (.inl (u1_5 + 1))
  )
 ) else (
  some (.inr (.inl ()))
 )
noncomputable def m_ropewalkkit_SameInts (N : Nat) (l0 : List Int) (l1 : List Int) : Option (Bool) :=
 if (l0.length != l1.length) = true then (
  some false
 ) else (
  bindS (
   iter (m_ropewalkkit_SameInts_L1 N l0 l1) N 0
  ) fun _ =>
  some true
 )
noncomputable def m_ropewalkkit_SameToken (N : Nat) (a0 : Int) (l1 : List Int) (a2 : Int) (l3 : List Int) : Option (Bool) :=
 if (a0 == a2) = true then (
  bindO (m_ropewalkkit_SameInts N l1 l3) fun v15 =>
  some v15
 ) else (
  some false
 )
noncomputable def m_agenda_by_L1 (N : Nat) (l1 : List Api_RuleD) : (Nat × (List Int)) → Option ((Nat × (List Int)) ⊕ (List Int)) := fun (u1_10, u1_3_l) =>
 if (decide (u1_10 < l1.length)) = true then (
  bindO (l1[u1_10]?) fun x12 =>
  gd (u1_3_l.length + [x12.salience].length ≤ 17592186044416) <|
  gd (u1_10 + 1 ≤ 9223372036854775807) <|
  some (.inl (u1_10 + 1, u1_3_l ++ [x12.salience]))
 ) else (
  some (.inr u1_3_l)
 )
noncomputable def m_agenda_by (N : Nat) (l0 : List Api_TypeD) (l1 : List Api_RuleD) : Option (List Int) :=
 bindO (
  iter (m_agenda_by_L1 N l1) N (0, [])
 ) fun j_1_3_l =>
 some j_1_3_l
noncomputable def m_agenda_order_of (N : Nat) (l0 : List Int) (a1 : Int) (l2 : List Int) : Option (Int) :=
 bindO (
  if (decide (a1 < 0)) = true then (
   some true
  ) else (
   some (decide (a1 ≥ ((l0.length : Nat) : Int)))
  )
 ) fun j_1_14 =>
 if j_1_14 = true then (
  some 0
 ) else (
  gd (0 ≤ a1) <|
  bindO (l0[a1.toNat]?) fun x18 =>
  some x18
 )
noncomputable def m_cmp_isNaN_int (N : Nat) (a0 : Int) : Option (Unit) :=
 some ()
noncomputable def m_cmp_Compare_int (N : Nat) (a0 : Int) (a1 : Int) : Option (Int) :=
 bindO (m_cmp_isNaN_int N a0) fun _ =>
 bindO (m_cmp_isNaN_int N a1) fun _ =>
 if (a0 != a0) = true then (
  if (a1 != a1) = true then (
   some 0
  ) else (
   some (-1)
  )
 ) else (
  if (a1 != a1) = true then (
   some 1
  ) else (
   if (decide (a0 < a1)) = true then (
    some (-1)
   ) else (
    if (decide (a0 > a1)) = true then (
     some 1
    ) else (
     some 0
    )
   )
  )
 )
noncomputable def m_agenda_falling_1 (N : Nat) (a0 : Int) (a1 : Int) : Option (Int) :=
 bindO (m_cmp_Compare_int N a1 a0) fun v7 =>
 some v7
noncomputable def m_agenda_falling (N : Nat) (l0 : List Int) : Option (List Int) :=
 gd (l0.length ≤ 17592186044416) <|
 bindO (sortM (fun x_ y_ => m_agenda_falling_1 N x_ y_) l0) fun v6 =>
 some v6
noncomputable def m_slices_Compare_int_L1 (N : Nat) (l0 : List Int) (l1 : List Int) : Nat → Option (Nat ⊕ (Unit ⊕ Int)) := fun u1_11 =>
 if (decide (u1_11 < l0.length)) = true then (
  bindO (l0[u1_11]?) fun x14 =>
  if (decide (l1.length ≤ u1_11)) = true then (
   some (.inr (.inr 1))
  ) else (
   bindO (l1[u1_11]?) fun x22 =>
   bindO (m_cmp_Compare_int N x14 x22) fun v26 =>
   if (v26 != 0) = true then (
    some (.inr (.inr v26))
   ) else (
    gd (u1_11 + 1 ≤ 9223372036854775807) <|
    some (.inl (u1_11 + 1))
   )
  )
 ) else (
  some (.inr (.inl ()))
 )
noncomputable def m_slices_Compare_int (N : Nat) (l0 : List Int) (l1 : List Int) : Option (Int) :=
 bindS (
  iter (m_slices_Compare_int_L1 N l0 l1) N 0
 ) fun _ =>
 if (decide (l0.length < l1.length)) = true then (
  some (-1)
 ) else (
  some 0
 )
noncomputable def m_cmp_Or_int_L1 (N : Nat) (l0 : List Int) : Nat → Option (Nat ⊕ (Unit ⊕ Int)) := fun u1_8 =>
 if (decide (u1_8 < l0.length)) = true then (
  bindO (l0[u1_8]?) fun x10 =>
  if (x10 != 0) = true then (
   some (.inr (.inr x10))
  ) else (
   gd (u1_8 + 1 ≤ 9223372036854775807) <|
   some (.inl (u1_8 + 1))
  )
 ) else (
  some (.inr (.inl ()))
 )
noncomputable def m_cmp_Or_int (N : Nat) (l0 : List Int) : Option (Int) :=
 bindS (
  iter (m_cmp_Or_int_L1 N l0) N 0
 ) fun _ =>
 some 0
noncomputable def m_agenda_order_compare (N : Nat) (l0 : List Int) (a1 : Int) (l2 : List Int) (a3 : Int) (l4 : List Int) : Option (Int) :=
 bindO (m_agenda_order_of N l0 a3 l4) fun v9 =>
 bindO (m_agenda_order_of N l0 a1 l2) fun v12 =>
 bindO (m_cmp_Compare_int N v9 v12) fun v13 =>
 bindO (m_agenda_falling N l4) fun v16 =>
 bindO (m_agenda_falling N l2) fun v19 =>
 bindO (m_slices_Compare_int N v16 v19) fun v20 =>
 bindO (m_cmp_Compare_int N a1 a3) fun v25 =>
 bindO (m_slices_Compare_int N l2 l4) fun v30 =>
 bindO (m_cmp_Or_int N [v13, v20, v25, v30]) fun v32 =>
 some v32
noncomputable def m_agenda_Better (N : Nat) (l0 : List Api_TypeD) (l1 : List Api_RuleD) (a2 : Int) (l3 : List Int) (a4 : Int) (l5 : List Int) : Option (Bool) :=
 bindO (m_agenda_by N l0 l1) fun v8 =>
 bindO (m_agenda_order_compare N v8 a2 l3 a4 l5) fun v11 =>
 some (decide (v11 < 0))
noncomputable def m_agenda_New (N : Nat) (l0 : List Api_TypeD) (l1 : List Api_RuleD) : Option (Unit ⊕ (List Int)) :=
 if (decide (64 < l1.length)) = true then (
  some (.inl ())
 ) else (
  bindO (m_agenda_by N l0 l1) fun v8 =>
  some (.inr v8)
 )
noncomputable def m_agenda_Agenda_known (N : Nat) : Option (Unit) :=
 some ()
noncomputable def m_agenda_Agenda_Set (N : Nat) (l0 : List Api_TokenD) : Option (Unit) :=
 bindO (m_agenda_Agenda_known N) fun _ =>
 some ()
noncomputable def m_agenda_Agenda_known_v2 (N : Nat) (l0 : List Int) (l1 : List Api_TokenD) (l2 : List Api_TokenD) (e3 : List (ByteArray × Bool)) : Option (Unit) :=
 some ()
noncomputable def m_agenda_name_L1 (N : Nat) (l1 : List Int) : (Nat × ByteArray) → Option ((Nat × ByteArray) ⊕ ByteArray) := fun (u1_12, u1_3) =>
 if (decide (u1_12 < l1.length)) = true then (
  bindO (l1[u1_12]?) fun x14 =>
  gd (-9223372036854775808 ≤ x14 ∧ x14 ≤ 9223372036854775807) <|
  gd ((⟨#[32]⟩ : ByteArray).size + (itoaF x14).size ≤ 9223372036854775807) <|
  gd (u1_3.size + ((⟨#[32]⟩ : ByteArray) ++ (itoaF x14)).size ≤ 9223372036854775807) <|
  gd (u1_12 + 1 ≤ 9223372036854775807) <|
  some (.inl (u1_12 + 1, (u1_3 ++ ((⟨#[32]⟩ : ByteArray) ++ (itoaF x14)))))
 ) else (
  some (.inr u1_3)
 )
noncomputable def m_agenda_name (N : Nat) (a0 : Int) (l1 : List Int) : Option (ByteArray) :=
 gd (-9223372036854775808 ≤ a0 ∧ a0 ≤ 9223372036854775807) <|
 bindO (
  iter (m_agenda_name_L1 N l1) N (0, itoaF a0)
 ) fun j_1_3 =>
 some j_1_3
noncomputable def m_agenda_own (N : Nat) (a0 : Int) (l1 : List Int) : Option (Unit) :=
 gd (l1.length ≤ 17592186044416) <|
 some ()
noncomputable def m_bits_Len64 (N : Nat) (a0 : Int) : Option (Int) :=
 bindO (
  if (decide (a0 ≥ 4294967296)) = true then (
   some (Int.fdiv a0 (2 ^ (32)), 32)
  ) else (
   some (a0, 0)
  )
 ) fun (j_1_0, j_1_2) =>
 bindO (
  if (decide (j_1_0 ≥ 65536)) = true then (
   gd (j_1_2 + 16 ≤ 9223372036854775807) <|
   some (Int.fdiv j_1_0 (2 ^ (16)), j_1_2 + 16)
  ) else (
   some (j_1_0, j_1_2)
  )
 ) fun (j_2_0, j_2_2) =>
 bindO (
  if (decide (j_2_0 ≥ 256)) = true then (
   gd (j_2_2 + 8 ≤ 9223372036854775807) <|
   some (Int.fdiv j_2_0 (2 ^ (8)), j_2_2 + 8)
  ) else (
   some (j_2_0, j_2_2)
  )
 ) fun (j_3_0, j_3_2) =>
 gd (0 ≤ IntKind.wrap .u8 j_3_0) <|
 bindO ((⟨#[0, 1, 2, 2, 3, 3, 3, 3, 4, 4, 4, 4, 4, 4, 4, 4, 5, 5, 5, 5, 5, 5, 5, 5, 5, 5, 5, 5, 5, 5, 5, 5, 6, 6, 6, 6, 6, 6, 6, 6, 6, 6, 6, 6, 6, 6, 6, 6, 6, 6, 6, 6, 6, 6, 6, 6, 6, 6, 6, 6, 6, 6, 6, 6, 7, 7, 7, 7, 7, 7, 7, 7, 7, 7, 7, 7, 7, 7, 7, 7, 7, 7, 7, 7, 7, 7, 7, 7, 7, 7, 7, 7, 7, 7, 7, 7, 7, 7, 7, 7, 7, 7, 7, 7, 7, 7, 7, 7, 7, 7, 7, 7, 7, 7, 7, 7, 7, 7, 7, 7, 7, 7, 7, 7, 7, 7, 7, 7, 8, 8, 8, 8, 8, 8, 8, 8, 8, 8, 8, 8, 8, 8, 8, 8, 8, 8, 8, 8, 8, 8, 8, 8, 8, 8, 8, 8, 8, 8, 8, 8, 8, 8, 8, 8, 8, 8, 8, 8, 8, 8, 8, 8, 8, 8, 8, 8, 8, 8, 8, 8, 8, 8, 8, 8, 8, 8, 8, 8, 8, 8, 8, 8, 8, 8, 8, 8, 8, 8, 8, 8, 8, 8, 8, 8, 8, 8, 8, 8, 8, 8, 8, 8, 8, 8, 8, 8, 8, 8, 8, 8, 8, 8, 8, 8, 8, 8, 8, 8, 8, 8, 8, 8, 8, 8, 8, 8, 8, 8, 8, 8, 8, 8, 8, 8, 8, 8, 8, 8, 8, 8, 8, 8, 8, 8, 8, 8]⟩ : ByteArray)[(IntKind.wrap .u8 j_3_0).toNat]?) fun x22 =>
 gd (-9223372036854775808 ≤ ((j_3_2 : Nat) : Int) + (IntKind.wrap .i64 ((x22.toNat : Nat) : Int)) ∧ ((j_3_2 : Nat) : Int) + (IntKind.wrap .i64 ((x22.toNat : Nat) : Int)) ≤ 9223372036854775807) <|
 some (((j_3_2 : Nat) : Int) + (IntKind.wrap .i64 ((x22.toNat : Nat) : Int)))
noncomputable def m_bits_Len (N : Nat) (a0 : Int) : Option (Int) :=
 bindO (m_bits_Len64 N a0) fun v7 =>
 some v7
noncomputable def m_slices_order2CmpFunc_Token (N : Nat) (l0 : List Api_TokenD) (a1 : Int) (a2 : Int) (a3 : Int) (l4 : List Int) : Option (Int × Int × Int) :=
 gd (0 ≤ a2) <|
 bindO (l0[a2.toNat]?) fun x15 =>
 gd (0 ≤ a1) <|
 bindO (l0[a1.toNat]?) fun x19 =>
 bindO (m_agenda_order_compare N l4 x15.rule x15.ids x19.rule x19.ids) fun v21 =>
 if (decide (v21 < 0)) = true then (
  gd (-9223372036854775808 ≤ a3 + 1 ∧ a3 + 1 ≤ 9223372036854775807) <|
  some (a2, a1, a3 + 1)
 ) else (
  some (a1, a2, a3)
 )
noncomputable def m_slices_medianCmpFunc_Token (N : Nat) (l0 : List Api_TokenD) (a1 : Int) (a2 : Int) (a3 : Int) (a4 : Int) (l5 : List Int) : Option (Int × Int) :=
 bindO (m_slices_order2CmpFunc_Token N l0 a1 a2 a4 l5) fun (v19_0, v19_1, v19_2) =>
 bindO (m_slices_order2CmpFunc_Token N l0 v19_1 a3 v19_2 l5) fun (v28_0, v28_1, v28_2) =>
 bindO (m_slices_order2CmpFunc_Token N l0 v19_0 v28_0 v28_2 l5) fun (v37_0, v37_1, v37_2) =>
 some (v37_1, v37_2)
noncomputable def m_slices_medianAdjacentCmpFunc_Token (N : Nat) (l0 : List Api_TokenD) (a1 : Int) (a2 : Int) (l3 : List Int) : Option (Int × Int) :=
 gd (-9223372036854775808 ≤ a1 - 1 ∧ a1 - 1 ≤ 9223372036854775807) <|
 gd (-9223372036854775808 ≤ a1 + 1 ∧ a1 + 1 ≤ 9223372036854775807) <|
 bindO (m_slices_medianCmpFunc_Token N l0 (a1 - 1) a1 (a1 + 1) a2 l3) fun (v17_0, v17_1) =>
 some (v17_0, v17_1)
noncomputable def m_slices_choosePivotCmpFunc_Token_C1 (N : Nat) (a2 : Int) (a1 : Int) (l0 : List Api_TokenD) (l3 : List Int) : Option (Int × Int) :=
 if (decide ((a2 - a1) ≥ 8)) = true then (
  bindO (
   if (decide ((a2 - a1) ≥ 50)) = true then (
    bindO (m_slices_medianAdjacentCmpFunc_Token N l0 (a1 + ((IntKind.wrap .i64 (Int.tdiv (a2 - a1) 4)) * 1)) 0 l3) fun (v40_0, v40_1) =>
    bindO (m_slices_medianAdjacentCmpFunc_Token N l0 (a1 + ((IntKind.wrap .i64 (Int.tdiv (a2 - a1) 4)) * 2)) v40_1 l3) fun (v44_0, v44_1) =>
    bindO (m_slices_medianAdjacentCmpFunc_Token N l0 (a1 + ((IntKind.wrap .i64 (Int.tdiv (a2 - a1) 4)) * 3)) v44_1 l3) fun (v48_0, v48_1) =>
    some (v48_0, v44_0, v40_0, v48_1)
   ) else (
    some (a1 + ((IntKind.wrap .i64 (Int.tdiv (a2 - a1) 4)) * 3), a1 + ((IntKind.wrap .i64 (Int.tdiv (a2 - a1) 4)) * 2), a1 + ((IntKind.wrap .i64 (Int.tdiv (a2 - a1) 4)) * 1), 0)
   )
  ) fun (j_2_14, j_2_13, j_2_12, j_2_11_f0) =>
  bindO (m_slices_medianCmpFunc_Token N l0 j_2_12 j_2_13 j_2_14 j_2_11_f0 l3) fun (v54_0, v54_1) =>
  some (v54_0, v54_1)
 ) else (
  some (a1 + ((IntKind.wrap .i64 (Int.tdiv (a2 - a1) 4)) * 2), 0)
 )
noncomputable def m_slices_choosePivotCmpFunc_Token (N : Nat) (l0 : List Api_TokenD) (a1 : Int) (a2 : Int) (l3 : List Int) : Option (Int × Nat) :=
 gd (-9223372036854775808 ≤ a2 - a1 ∧ a2 - a1 ≤ 9223372036854775807) <|
 gd (-9223372036854775808 ≤ (IntKind.wrap .i64 (Int.tdiv (a2 - a1) 4)) * 1 ∧ (IntKind.wrap .i64 (Int.tdiv (a2 - a1) 4)) * 1 ≤ 9223372036854775807) <|
 gd (-9223372036854775808 ≤ a1 + ((IntKind.wrap .i64 (Int.tdiv (a2 - a1) 4)) * 1) ∧ a1 + ((IntKind.wrap .i64 (Int.tdiv (a2 - a1) 4)) * 1) ≤ 9223372036854775807) <|
 gd (-9223372036854775808 ≤ (IntKind.wrap .i64 (Int.tdiv (a2 - a1) 4)) * 2 ∧ (IntKind.wrap .i64 (Int.tdiv (a2 - a1) 4)) * 2 ≤ 9223372036854775807) <|
 gd (-9223372036854775808 ≤ a1 + ((IntKind.wrap .i64 (Int.tdiv (a2 - a1) 4)) * 2) ∧ a1 + ((IntKind.wrap .i64 (Int.tdiv (a2 - a1) 4)) * 2) ≤ 9223372036854775807) <|
 gd (-9223372036854775808 ≤ (IntKind.wrap .i64 (Int.tdiv (a2 - a1) 4)) * 3 ∧ (IntKind.wrap .i64 (Int.tdiv (a2 - a1) 4)) * 3 ≤ 9223372036854775807) <|
 gd (-9223372036854775808 ≤ a1 + ((IntKind.wrap .i64 (Int.tdiv (a2 - a1) 4)) * 3) ∧ a1 + ((IntKind.wrap .i64 (Int.tdiv (a2 - a1) 4)) * 3) ≤ 9223372036854775807) <|
 bindO (m_slices_choosePivotCmpFunc_Token_C1 N a2 a1 l0 l3
 ) fun (j_1_13, j_1_11_f0) =>
 if (j_1_11_f0 == 0) = true then (
  some (j_1_13, 1)
 ) else (
  if (j_1_11_f0 == 12) = true then (
   some (j_1_13, 2)
  ) else (
   some (j_1_13, 0)
  )
 )
noncomputable def m_slices_insertionSortCmpFunc_Token_v2_C2 (N : Nat) (u2_9 : Int) (a1 : Int) (u2_0_l : List Api_TokenD) (l3 : List Int) : Option (Bool) :=
 if (decide (u2_9 > a1)) = true then (
  gd (0 ≤ u2_9) <|
  bindO (u2_0_l[u2_9.toNat]?) fun x25 =>
  gd (-9223372036854775808 ≤ u2_9 - 1 ∧ u2_9 - 1 ≤ 9223372036854775807) <|
  gd (0 ≤ u2_9 - 1) <|
  bindO (u2_0_l[(u2_9 - 1).toNat]?) fun x30 =>
  bindO (m_agenda_order_compare N l3 x25.rule x25.ids x30.rule x30.ids) fun v32 =>
  some (decide (v32 < 0))
 ) else (
  some false
 )
noncomputable def m_slices_insertionSortCmpFunc_Token_v2_L2 (N : Nat) (a1 : Int) (l3 : List Int) : (Int × (List Api_TokenD)) → Option ((Int × (List Api_TokenD)) ⊕ (List Api_TokenD)) := fun (u2_9, u2_0_l) =>
 bindO (m_slices_insertionSortCmpFunc_Token_v2_C2 N u2_9 a1 u2_0_l l3
 ) fun j_2_34 =>
 if j_2_34 = true then (
  gd (-9223372036854775808 ≤ u2_9 - 1 ∧ u2_9 - 1 ≤ 9223372036854775807) <|
  gd (-9223372036854775808 ≤ u2_9 - 1 ∧ u2_9 - 1 ≤ 9223372036854775807) <|
  gd (0 ≤ u2_9 - 1) <|
  bindO (u2_0_l[(u2_9 - 1).toNat]?) fun x45 =>
  gd (0 ≤ u2_9) <|
  bindO (u2_0_l[u2_9.toNat]?) fun x49 =>
  gd (0 ≤ u2_9) <|
  bindO (u2_0_l[u2_9.toNat]?) fun x51 =>
  gd (0 ≤ u2_9 - 1) <|
  bindO ((u2_0_l.set u2_9.toNat x45)[(u2_9 - 1).toNat]?) fun x52 =>
  gd (-9223372036854775808 ≤ u2_9 - 1 ∧ u2_9 - 1 ≤ 9223372036854775807) <|
  some (.inl (u2_9 - 1, (u2_0_l.set u2_9.toNat x45).set ((u2_9 - 1).toNat) x49))
 ) else (
  some (.inr u2_0_l)
 )
noncomputable def m_slices_insertionSortCmpFunc_Token_v2_L1 (N : Nat) (a2 : Int) (a1 : Int) (l3 : List Int) : (Int × (List Api_TokenD)) → Option ((Int × (List Api_TokenD)) ⊕ (List Api_TokenD)) := fun (u1_8, u1_0_l) =>
 if (decide (u1_8 < a2)) = true then (
  bindO (
   iter (m_slices_insertionSortCmpFunc_Token_v2_L2 N a1 l3) N (u1_8, u1_0_l)
  ) fun j_1_0_l =>
  gd (-9223372036854775808 ≤ u1_8 + 1 ∧ u1_8 + 1 ≤ 9223372036854775807) <|
  some (.inl (u1_8 + 1, j_1_0_l))
 ) else (
  some (.inr u1_0_l)
 )
noncomputable def m_slices_insertionSortCmpFunc_Token_v2 (N : Nat) (l0 : List Api_TokenD) (a1 : Int) (a2 : Int) (l3 : List Int) : Option (List Api_TokenD) :=
 gd (-9223372036854775808 ≤ a1 + 1 ∧ a1 + 1 ≤ 9223372036854775807) <|
 iter (m_slices_insertionSortCmpFunc_Token_v2_L1 N a2 a1 l3) N (a1 + 1, l0)
noncomputable def m_slices_siftDownCmpFunc_Token_v2_C2 (N : Nat) (u1_10 : Int) (a2 : Int) (a3 : Int) (u1_0_l : List Api_TokenD) (l4 : List Int) : Option (Bool) :=
 gd (-9223372036854775808 ≤ ((2 * u1_10) + 1) + 1 ∧ ((2 * u1_10) + 1) + 1 ≤ 9223372036854775807) <|
 if (decide ((((2 * u1_10) + 1) + 1) < a2)) = true then (
  gd (-9223372036854775808 ≤ a3 + ((2 * u1_10) + 1) ∧ a3 + ((2 * u1_10) + 1) ≤ 9223372036854775807) <|
  gd (0 ≤ a3 + ((2 * u1_10) + 1)) <|
  bindO (u1_0_l[(a3 + ((2 * u1_10) + 1)).toNat]?) fun x29 =>
  gd (-9223372036854775808 ≤ a3 + ((2 * u1_10) + 1) ∧ a3 + ((2 * u1_10) + 1) ≤ 9223372036854775807) <|
  gd (-9223372036854775808 ≤ (a3 + ((2 * u1_10) + 1)) + 1 ∧ (a3 + ((2 * u1_10) + 1)) + 1 ≤ 9223372036854775807) <|
  gd (0 ≤ (a3 + ((2 * u1_10) + 1)) + 1) <|
  bindO (u1_0_l[((a3 + ((2 * u1_10) + 1)) + 1).toNat]?) fun x36 =>
  bindO (m_agenda_order_compare N l4 x29.rule x29.ids x36.rule x36.ids) fun v38 =>
  some (decide (v38 < 0))
 ) else (
  some false
 )
noncomputable def m_slices_siftDownCmpFunc_Token_v2_L1 (N : Nat) (a2 : Int) (a3 : Int) (l4 : List Int) : (Int × (List Api_TokenD)) → Option ((Int × (List Api_TokenD)) ⊕ (List Api_TokenD)) := fun (u1_10, u1_0_l) =>
 gd (-9223372036854775808 ≤ 2 * u1_10 ∧ 2 * u1_10 ≤ 9223372036854775807) <|
 gd (-9223372036854775808 ≤ (2 * u1_10) + 1 ∧ (2 * u1_10) + 1 ≤ 9223372036854775807) <|
 if (decide (((2 * u1_10) + 1) ≥ a2)) = true then (
  some (.inr u1_0_l)
 ) else (
  bindO (
   bindO (m_slices_siftDownCmpFunc_Token_v2_C2 N u1_10 a2 a3 u1_0_l l4
   ) fun j_2_40 =>
   if j_2_40 = true then (
    gd (-9223372036854775808 ≤ ((2 * u1_10) + 1) + 1 ∧ ((2 * u1_10) + 1) + 1 ≤ 9223372036854775807) <|
    some (((2 * u1_10) + 1) + 1)
   ) else (
    some ((2 * u1_10) + 1)
   )
  ) fun j_1_11 =>
  gd (-9223372036854775808 ≤ a3 + u1_10 ∧ a3 + u1_10 ≤ 9223372036854775807) <|
  gd (0 ≤ a3 + u1_10) <|
  bindO (u1_0_l[(a3 + u1_10).toNat]?) fun x48 =>
  gd (-9223372036854775808 ≤ a3 + j_1_11 ∧ a3 + j_1_11 ≤ 9223372036854775807) <|
  gd (0 ≤ a3 + j_1_11) <|
  bindO (u1_0_l[(a3 + j_1_11).toNat]?) fun x54 =>
  bindO (m_agenda_order_compare N l4 x48.rule x48.ids x54.rule x54.ids) fun v56 =>
  if (!(decide (v56 < 0))) = true then (
   some (.inr u1_0_l)
  ) else (
   gd (-9223372036854775808 ≤ a3 + u1_10 ∧ a3 + u1_10 ≤ 9223372036854775807) <|
   gd (-9223372036854775808 ≤ a3 + j_1_11 ∧ a3 + j_1_11 ≤ 9223372036854775807) <|
   gd (-9223372036854775808 ≤ a3 + j_1_11 ∧ a3 + j_1_11 ≤ 9223372036854775807) <|
   gd (0 ≤ a3 + j_1_11) <|
   bindO (u1_0_l[(a3 + j_1_11).toNat]?) fun x71 =>
   gd (-9223372036854775808 ≤ a3 + u1_10 ∧ a3 + u1_10 ≤ 9223372036854775807) <|
   gd (0 ≤ a3 + u1_10) <|
   bindO (u1_0_l[(a3 + u1_10).toNat]?) fun x77 =>
   gd (0 ≤ a3 + u1_10) <|
   bindO (u1_0_l[(a3 + u1_10).toNat]?) fun x79 =>
   gd (0 ≤ a3 + j_1_11) <|
   bindO ((u1_0_l.set ((a3 + u1_10).toNat) x71)[(a3 + j_1_11).toNat]?) fun x80 =>
   some (.inl (j_1_11, (u1_0_l.set ((a3 + u1_10).toNat) x71).set ((a3 + j_1_11).toNat) x77))
  )
 )
noncomputable def m_slices_siftDownCmpFunc_Token_v2 (N : Nat) (l0 : List Api_TokenD) (a1 : Int) (a2 : Int) (a3 : Int) (l4 : List Int) : Option (List Api_TokenD) :=
 iter (m_slices_siftDownCmpFunc_Token_v2_L1 N a2 a3 l4) N (a1, l0)
noncomputable def m_slices_heapSortCmpFunc_Token_v2_L1 (N : Nat) (a2 : Int) (a1 : Int) (l3 : List Int) : (Int × (List Api_TokenD)) → Option ((Int × (List Api_TokenD)) ⊕ (List Api_TokenD)) := fun (u1_11, u1_0_l) =>
 if (decide (u1_11 ≥ 0)) = true then (
  bindO (m_slices_siftDownCmpFunc_Token_v2 N u1_0_l u1_11 (a2 - a1) a1 l3) fun v29 =>
  gd (-9223372036854775808 ≤ u1_11 - 1 ∧ u1_11 - 1 ≤ 9223372036854775807) <|
  some (.inl (u1_11 - 1, v29))
 ) else (
  some (.inr u1_0_l)
 )
noncomputable def m_slices_heapSortCmpFunc_Token_v2_L2 (N : Nat) (a1 : Int) (l3 : List Int) : (Int × (List Api_TokenD)) → Option ((Int × (List Api_TokenD)) ⊕ (List Api_TokenD)) := fun (u2_12, u2_0_l) =>
 if (decide (u2_12 ≥ 0)) = true then (
  gd (-9223372036854775808 ≤ a1 + u2_12 ∧ a1 + u2_12 ≤ 9223372036854775807) <|
  gd (-9223372036854775808 ≤ a1 + u2_12 ∧ a1 + u2_12 ≤ 9223372036854775807) <|
  gd (0 ≤ a1 + u2_12) <|
  bindO (u2_0_l[(a1 + u2_12).toNat]?) fun x46 =>
  gd (0 ≤ a1) <|
  bindO (u2_0_l[a1.toNat]?) fun x50 =>
  gd (0 ≤ a1) <|
  bindO (u2_0_l[a1.toNat]?) fun x52 =>
  gd (0 ≤ a1 + u2_12) <|
  bindO ((u2_0_l.set a1.toNat x46)[(a1 + u2_12).toNat]?) fun x53 =>
  bindO (m_slices_siftDownCmpFunc_Token_v2 N ((u2_0_l.set a1.toNat x46).set ((a1 + u2_12).toNat) x50) 0 u2_12 a1 l3) fun v59 =>
  gd (-9223372036854775808 ≤ u2_12 - 1 ∧ u2_12 - 1 ≤ 9223372036854775807) <|
  some (.inl (u2_12 - 1, v59))
 ) else (
  some (.inr u2_0_l)
 )
noncomputable def m_slices_heapSortCmpFunc_Token_v2 (N : Nat) (l0 : List Api_TokenD) (a1 : Int) (a2 : Int) (l3 : List Int) : Option (List Api_TokenD) :=
 gd (-9223372036854775808 ≤ a2 - a1 ∧ a2 - a1 ≤ 9223372036854775807) <|
 bindO (
  gd (-9223372036854775808 ≤ (a2 - a1) - 1 ∧ (a2 - a1) - 1 ≤ 9223372036854775807) <|
  iter (m_slices_heapSortCmpFunc_Token_v2_L1 N a2 a1 l3) N (IntKind.wrap .i64 (Int.tdiv ((a2 - a1) - 1) 2), l0)
 ) fun j_1_0_l =>
 gd (-9223372036854775808 ≤ (a2 - a1) - 1 ∧ (a2 - a1) - 1 ≤ 9223372036854775807) <|
 iter (m_slices_heapSortCmpFunc_Token_v2_L2 N a1 l3) N ((a2 - a1) - 1, j_1_0_l)
noncomputable def m_slices_reverseRangeCmpFunc_Token_v2_L1 (N : Nat) : (Int × Int × (List Api_TokenD)) → Option ((Int × Int × (List Api_TokenD)) ⊕ (List Api_TokenD)) := fun (u1_9, u1_8, u1_0_l) =>
 if (decide (u1_8 < u1_9)) = true then (
  gd (0 ≤ u1_9) <|
  bindO (u1_0_l[u1_9.toNat]?) fun x22 =>
  gd (0 ≤ u1_8) <|
  bindO (u1_0_l[u1_8.toNat]?) fun x26 =>
  gd (0 ≤ u1_8) <|
  bindO (u1_0_l[u1_8.toNat]?) fun x28 =>
  gd (0 ≤ u1_9) <|
  bindO ((u1_0_l.set u1_8.toNat x22)[u1_9.toNat]?) fun x29 =>
  gd (-9223372036854775808 ≤ u1_8 + 1 ∧ u1_8 + 1 ≤ 9223372036854775807) <|
  gd (-9223372036854775808 ≤ u1_9 - 1 ∧ u1_9 - 1 ≤ 9223372036854775807) <|
  some (.inl (u1_9 - 1, u1_8 + 1, (u1_0_l.set u1_8.toNat x22).set u1_9.toNat x26))
 ) else (
  some (.inr u1_0_l)
 )
noncomputable def m_slices_reverseRangeCmpFunc_Token_v2 (N : Nat) (l0 : List Api_TokenD) (a1 : Int) (a2 : Int) (l3 : List Int) : Option (List Api_TokenD) :=
 gd (-9223372036854775808 ≤ a2 - 1 ∧ a2 - 1 ≤ 9223372036854775807) <|
 iter (m_slices_reverseRangeCmpFunc_Token_v2_L1 N) N (a2 - 1, a1, l0)
noncomputable def m_slices_partialInsertionSortCmpFunc_Token_v2_C4 (N : Nat) (u2_9 : Int) (a2 : Int) (u1_0_l : List Api_TokenD) (l3 : List Int) : Option (Bool) :=
 if (decide (u2_9 < a2)) = true then (
  gd (0 ≤ u2_9) <|
  bindO (u1_0_l[u2_9.toNat]?) fun x26 =>
  gd (-9223372036854775808 ≤ u2_9 - 1 ∧ u2_9 - 1 ≤ 9223372036854775807) <|
  gd (0 ≤ u2_9 - 1) <|
  bindO (u1_0_l[(u2_9 - 1).toNat]?) fun x31 =>
  bindO (m_agenda_order_compare N l3 x26.rule x26.ids x31.rule x31.ids) fun v33 =>
  some (!(decide (v33 < 0)))
 ) else (
  some false
 )
noncomputable def m_slices_partialInsertionSortCmpFunc_Token_v2_L2 (N : Nat) (a2 : Int) (u1_0_l : List Api_TokenD) (l3 : List Int) : Int → Option (Int ⊕ Int) := fun u2_9 =>
 bindO (m_slices_partialInsertionSortCmpFunc_Token_v2_C4 N u2_9 a2 u1_0_l l3
 ) fun j_4_36 =>
 if j_4_36 = true then (
  gd (-9223372036854775808 ≤ u2_9 + 1 ∧ u2_9 + 1 ≤ 9223372036854775807) <|
  some (.inl (u2_9 + 1))
 ) else (
  some (.inr u2_9)
 )
noncomputable def m_slices_partialInsertionSortCmpFunc_Token_v2_L3 (N : Nat) (l3 : List Int) : (Int × (List Api_TokenD)) → Option ((Int × (List Api_TokenD)) ⊕ (List Api_TokenD)) := fun (u3_11, u3_0_l) =>
 if (decide (u3_11 ≥ 1)) = true then (
  gd (0 ≤ u3_11) <|
  bindO (u3_0_l[u3_11.toNat]?) fun x75 =>
  gd (-9223372036854775808 ≤ u3_11 - 1 ∧ u3_11 - 1 ≤ 9223372036854775807) <|
  gd (0 ≤ u3_11 - 1) <|
  bindO (u3_0_l[(u3_11 - 1).toNat]?) fun x80 =>
  bindO (m_agenda_order_compare N l3 x75.rule x75.ids x80.rule x80.ids) fun v82 =>
  if (!(decide (v82 < 0))) = true then (
   some (.inr u3_0_l)
  ) else (
   gd (-9223372036854775808 ≤ u3_11 - 1 ∧ u3_11 - 1 ≤ 9223372036854775807) <|
   gd (-9223372036854775808 ≤ u3_11 - 1 ∧ u3_11 - 1 ≤ 9223372036854775807) <|
   gd (0 ≤ u3_11 - 1) <|
   bindO (u3_0_l[(u3_11 - 1).toNat]?) fun x93 =>
   gd (0 ≤ u3_11) <|
   bindO (u3_0_l[u3_11.toNat]?) fun x97 =>
   gd (0 ≤ u3_11) <|
   bindO (u3_0_l[u3_11.toNat]?) fun x99 =>
   gd (0 ≤ u3_11 - 1) <|
   bindO ((u3_0_l.set u3_11.toNat x93)[(u3_11 - 1).toNat]?) fun x100 =>
   gd (-9223372036854775808 ≤ u3_11 - 1 ∧ u3_11 - 1 ≤ 9223372036854775807) <|
   some (.inl (u3_11 - 1, (u3_0_l.set u3_11.toNat x93).set ((u3_11 - 1).toNat) x97))
  )
 ) else (
  some (.inr u3_0_l)
 )
noncomputable def m_slices_partialInsertionSortCmpFunc_Token_v2_L4 (N : Nat) (a2 : Int) (l3 : List Int) (j_3_9 : Int) : (Int × (List Api_TokenD)) → Option ((Int × (List Api_TokenD)) ⊕ ((Int × (List Api_TokenD)) ⊕ ((Nat × Int × (List Api_TokenD)) ⊕ ((List Api_TokenD) ⊕ (Bool × (List Api_TokenD)))))) := fun (u4_12, u4_0_l) =>
 if (decide (u4_12 < a2)) = true then (
  gd (0 ≤ u4_12) <|
  bindO (u4_0_l[u4_12.toNat]?) fun x115 =>
  gd (-9223372036854775808 ≤ u4_12 - 1 ∧ u4_12 - 1 ≤ 9223372036854775807) <|
  gd (0 ≤ u4_12 - 1) <|
  bindO (u4_0_l[(u4_12 - 1).toNat]?) fun x120 =>
  bindO (m_agenda_order_compare N l3 x115.rule x115.ids x120.rule x120.ids) fun v122 =>
  if (!(decide (v122 < 0))) = true then (
   some (.inr (.inl (j_3_9, u4_0_l)))
  ) else (
   gd (-9223372036854775808 ≤ u4_12 - 1 ∧ u4_12 - 1 ≤ 9223372036854775807) <|
   gd (-9223372036854775808 ≤ u4_12 - 1 ∧ u4_12 - 1 ≤ 9223372036854775807) <|
   gd (0 ≤ u4_12 - 1) <|
   bindO (u4_0_l[(u4_12 - 1).toNat]?) fun x133 =>
   gd (0 ≤ u4_12) <|
   bindO (u4_0_l[u4_12.toNat]?) fun x137 =>
   gd (0 ≤ u4_12) <|
   bindO (u4_0_l[u4_12.toNat]?) fun x139 =>
   gd (0 ≤ u4_12 - 1) <|
   bindO ((u4_0_l.set u4_12.toNat x133)[(u4_12 - 1).toNat]?) fun x140 =>
   gd (-9223372036854775808 ≤ u4_12 + 1 ∧ u4_12 + 1 ≤ 9223372036854775807) <|
   some (.inl (u4_12 + 1, (u4_0_l.set u4_12.toNat x133).set ((u4_12 - 1).toNat) x137))
  )
 ) else (
  some (.inr (.inl (j_3_9, u4_0_l)))
 )
noncomputable def m_slices_partialInsertionSortCmpFunc_Token_v2_C2 (N : Nat) (a2 : Int) (u1_0_l : List Api_TokenD) (l3 : List Int) (u1_9 : Int) (a1 : Int) : Option ((Int × (List Api_TokenD)) ⊕ ((Nat × Int × (List Api_TokenD)) ⊕ ((List Api_TokenD) ⊕ (Bool × (List Api_TokenD))))) :=
 bindO (
  iter (m_slices_partialInsertionSortCmpFunc_Token_v2_L2 N a2 u1_0_l l3) N u1_9
 ) fun j_3_9 =>
 if (j_3_9 == a2) = true then (
  some (.inr (.inr (.inr (true, u1_0_l))))
 ) else (
  gd (-9223372036854775808 ≤ a2 - a1 ∧ a2 - a1 ≤ 9223372036854775807) <|
  if (decide ((a2 - a1) < 50)) = true then (
   some (.inr (.inr (.inr (false, u1_0_l))))
  ) else (
   gd (-9223372036854775808 ≤ j_3_9 - 1 ∧ j_3_9 - 1 ≤ 9223372036854775807) <|
   gd (-9223372036854775808 ≤ j_3_9 - 1 ∧ j_3_9 - 1 ≤ 9223372036854775807) <|
   gd (0 ≤ j_3_9 - 1) <|
   bindO (u1_0_l[(j_3_9 - 1).toNat]?) fun x54 =>
   gd (0 ≤ j_3_9) <|
   bindO (u1_0_l[j_3_9.toNat]?) fun x58 =>
   gd (0 ≤ j_3_9) <|
   bindO (u1_0_l[j_3_9.toNat]?) fun x60 =>
   gd (0 ≤ j_3_9 - 1) <|
   bindO ((u1_0_l.set j_3_9.toNat x54)[(j_3_9 - 1).toNat]?) fun x61 =>
   bindO (
    gd (-9223372036854775808 ≤ j_3_9 - a1 ∧ j_3_9 - a1 ≤ 9223372036854775807) <|
    if (decide ((j_3_9 - a1) ≥ 2)) = true then (
     gd (-9223372036854775808 ≤ j_3_9 - 1 ∧ j_3_9 - 1 ≤ 9223372036854775807) <|
     iter (m_slices_partialInsertionSortCmpFunc_Token_v2_L3 N l3) N (j_3_9 - 1, (u1_0_l.set j_3_9.toNat x54).set ((j_3_9 - 1).toNat) x58)
    ) else (
     some ((u1_0_l.set j_3_9.toNat x54).set ((j_3_9 - 1).toNat) x58)
    )
   ) fun j_6_0_l =>
   gd (-9223372036854775808 ≤ a2 - j_3_9 ∧ a2 - j_3_9 ≤ 9223372036854775807) <|
   if (decide ((a2 - j_3_9) ≥ 2)) = true then (
    gd (-9223372036854775808 ≤ j_3_9 + 1 ∧ j_3_9 + 1 ≤ 9223372036854775807) <|
    iter (m_slices_partialInsertionSortCmpFunc_Token_v2_L4 N a2 l3 j_3_9) N (j_3_9 + 1, j_6_0_l)
   ) else (
    some (.inl (j_3_9, j_6_0_l))
   )
  )
 )
noncomputable def m_slices_partialInsertionSortCmpFunc_Token_v2_L1 (N : Nat) (a2 : Int) (l3 : List Int) (a1 : Int) : (Nat × Int × (List Api_TokenD)) → Option ((Nat × Int × (List Api_TokenD)) ⊕ ((List Api_TokenD) ⊕ (Bool × (List Api_TokenD)))) := fun (u1_10, u1_9, u1_0_l) =>
 if (decide (u1_10 < 5)) = true then (
  bindS (m_slices_partialInsertionSortCmpFunc_Token_v2_C2 N a2 u1_0_l l3 u1_9 a1
  ) fun (j_2_9, j_2_0_l) =>
  gd (u1_10 + 1 ≤ 9223372036854775807) <|
  some (.inl (u1_10 + 1, j_2_9, j_2_0_l))
 ) else (
  some (.inr (.inl u1_0_l))
 )
noncomputable def m_slices_partialInsertionSortCmpFunc_Token_v2 (N : Nat) (l0 : List Api_TokenD) (a1 : Int) (a2 : Int) (l3 : List Int) : Option (Bool × (List Api_TokenD)) :=
 gd (-9223372036854775808 ≤ a1 + 1 ∧ a1 + 1 ≤ 9223372036854775807) <|
 bindS (
  iter (m_slices_partialInsertionSortCmpFunc_Token_v2_L1 N a2 l3 a1) N (0, a1 + 1, l0)
 ) fun j_1_r0_l =>
 some (false, j_1_r0_l)
noncomputable def m_slices_partitionEqualCmpFunc_Token_v2_C4 (N : Nat) (u2_11 : Int) (u1_12 : Int) (a1 : Int) (u1_0_l : List Api_TokenD) (l4 : List Int) : Option (Bool) :=
 if (decide (u2_11 ≤ u1_12)) = true then (
  gd (0 ≤ a1) <|
  bindO (u1_0_l[a1.toNat]?) fun x38 =>
  gd (0 ≤ u2_11) <|
  bindO (u1_0_l[u2_11.toNat]?) fun x42 =>
  bindO (m_agenda_order_compare N l4 x38.rule x38.ids x42.rule x42.ids) fun v44 =>
  some (!(decide (v44 < 0)))
 ) else (
  some false
 )
noncomputable def m_slices_partitionEqualCmpFunc_Token_v2_L2 (N : Nat) (u1_12 : Int) (a1 : Int) (u1_0_l : List Api_TokenD) (l4 : List Int) : Int → Option (Int ⊕ Int) := fun u2_11 =>
 bindO (m_slices_partitionEqualCmpFunc_Token_v2_C4 N u2_11 u1_12 a1 u1_0_l l4
 ) fun j_4_47 =>
 if j_4_47 = true then (
  gd (-9223372036854775808 ≤ u2_11 + 1 ∧ u2_11 + 1 ≤ 9223372036854775807) <|
  some (.inl (u2_11 + 1))
 ) else (
  some (.inr u2_11)
 )
noncomputable def m_slices_partitionEqualCmpFunc_Token_v2_C6 (N : Nat) (j_3_11 : Int) (u3_12 : Int) (a1 : Int) (u1_0_l : List Api_TokenD) (l4 : List Int) : Option (Bool) :=
 if (decide (j_3_11 ≤ u3_12)) = true then (
  gd (0 ≤ a1) <|
  bindO (u1_0_l[a1.toNat]?) fun x57 =>
  gd (0 ≤ u3_12) <|
  bindO (u1_0_l[u3_12.toNat]?) fun x61 =>
  bindO (m_agenda_order_compare N l4 x57.rule x57.ids x61.rule x61.ids) fun v63 =>
  some (decide (v63 < 0))
 ) else (
  some false
 )
noncomputable def m_slices_partitionEqualCmpFunc_Token_v2_L3 (N : Nat) (j_3_11 : Int) (a1 : Int) (u1_0_l : List Api_TokenD) (l4 : List Int) : Int → Option (Int ⊕ Int) := fun u3_12 =>
 bindO (m_slices_partitionEqualCmpFunc_Token_v2_C6 N j_3_11 u3_12 a1 u1_0_l l4
 ) fun j_6_65 =>
 if j_6_65 = true then (
  gd (-9223372036854775808 ≤ u3_12 - 1 ∧ u3_12 - 1 ≤ 9223372036854775807) <|
  some (.inl (u3_12 - 1))
 ) else (
  some (.inr u3_12)
 )
noncomputable def m_slices_partitionEqualCmpFunc_Token_v2_L1 (N : Nat) (a1 : Int) (l4 : List Int) : (Int × Int × (List Api_TokenD)) → Option ((Int × Int × (List Api_TokenD)) ⊕ (Int × (List Api_TokenD))) := fun (u1_12, u1_11, u1_0_l) =>
 bindO (
  iter (m_slices_partitionEqualCmpFunc_Token_v2_L2 N u1_12 a1 u1_0_l l4) N u1_11
 ) fun j_3_11 =>
 bindO (
  iter (m_slices_partitionEqualCmpFunc_Token_v2_L3 N j_3_11 a1 u1_0_l l4) N u1_12
 ) fun j_5_12 =>
 if (decide (j_3_11 > j_5_12)) = true then (
  some (.inr (j_3_11, u1_0_l))
 ) else (
  gd (0 ≤ j_5_12) <|
  bindO (u1_0_l[j_5_12.toNat]?) fun x77 =>
  gd (0 ≤ j_3_11) <|
  bindO (u1_0_l[j_3_11.toNat]?) fun x81 =>
  gd (0 ≤ j_3_11) <|
  bindO (u1_0_l[j_3_11.toNat]?) fun x83 =>
  gd (0 ≤ j_5_12) <|
  bindO ((u1_0_l.set j_3_11.toNat x77)[j_5_12.toNat]?) fun x84 =>
  gd (-9223372036854775808 ≤ j_3_11 + 1 ∧ j_3_11 + 1 ≤ 9223372036854775807) <|
  gd (-9223372036854775808 ≤ j_5_12 - 1 ∧ j_5_12 - 1 ≤ 9223372036854775807) <|
  some (.inl (j_5_12 - 1, j_3_11 + 1, (u1_0_l.set j_3_11.toNat x77).set j_5_12.toNat x81))
 )
noncomputable def m_slices_partitionEqualCmpFunc_Token_v2 (N : Nat) (l0 : List Api_TokenD) (a1 : Int) (a2 : Int) (a3 : Int) (l4 : List Int) : Option (Int × (List Api_TokenD)) :=
 gd (0 ≤ a3) <|
 bindO (l0[a3.toNat]?) fun x19 =>
 gd (0 ≤ a1) <|
 bindO (l0[a1.toNat]?) fun x23 =>
 gd (0 ≤ a1) <|
 bindO (l0[a1.toNat]?) fun x25 =>
 gd (0 ≤ a3) <|
 bindO ((l0.set a1.toNat x19)[a3.toNat]?) fun x26 =>
 gd (-9223372036854775808 ≤ a1 + 1 ∧ a1 + 1 ≤ 9223372036854775807) <|
 gd (-9223372036854775808 ≤ a2 - 1 ∧ a2 - 1 ≤ 9223372036854775807) <|
 bindO (
  iter (m_slices_partitionEqualCmpFunc_Token_v2_L1 N a1 l4) N (a2 - 1, a1 + 1, (l0.set a1.toNat x19).set a3.toNat x23)
 ) fun (j_2_11, j_2_r0_l) =>
 some (j_2_11, j_2_r0_l)
noncomputable def m_slices_partitionCmpFunc_Token_v2_C3 (N : Nat) (u1_12 : Int) (a2 : Int) (l0 : List Api_TokenD) (a1 : Int) (x20 : Api_TokenD) (a3 : Int) (x24 : Api_TokenD) (l4 : List Int) : Option (Bool) :=
 if (decide (u1_12 ≤ (a2 - 1))) = true then (
  gd (0 ≤ u1_12) <|
  bindO (((l0.set a1.toNat x20).set a3.toNat x24)[u1_12.toNat]?) fun x39 =>
  gd (0 ≤ a1) <|
  bindO (((l0.set a1.toNat x20).set a3.toNat x24)[a1.toNat]?) fun x43 =>
  bindO (m_agenda_order_compare N l4 x39.rule x39.ids x43.rule x43.ids) fun v45 =>
  some (decide (v45 < 0))
 ) else (
  some false
 )
noncomputable def m_slices_partitionCmpFunc_Token_v2_L1 (N : Nat) (a2 : Int) (l0 : List Api_TokenD) (a1 : Int) (x20 : Api_TokenD) (a3 : Int) (x24 : Api_TokenD) (l4 : List Int) : Int → Option (Int ⊕ Int) := fun u1_12 =>
 bindO (m_slices_partitionCmpFunc_Token_v2_C3 N u1_12 a2 l0 a1 x20 a3 x24 l4
 ) fun j_3_47 =>
 if j_3_47 = true then (
  gd (-9223372036854775808 ≤ u1_12 + 1 ∧ u1_12 + 1 ≤ 9223372036854775807) <|
  some (.inl (u1_12 + 1))
 ) else (
  some (.inr u1_12)
 )
noncomputable def m_slices_partitionCmpFunc_Token_v2_C5 (N : Nat) (j_2_12 : Int) (u2_13 : Int) (l0 : List Api_TokenD) (a1 : Int) (x20 : Api_TokenD) (a3 : Int) (x24 : Api_TokenD) (l4 : List Int) : Option (Bool) :=
 if (decide (j_2_12 ≤ u2_13)) = true then (
  gd (0 ≤ u2_13) <|
  bindO (((l0.set a1.toNat x20).set a3.toNat x24)[u2_13.toNat]?) fun x57 =>
  gd (0 ≤ a1) <|
  bindO (((l0.set a1.toNat x20).set a3.toNat x24)[a1.toNat]?) fun x61 =>
  bindO (m_agenda_order_compare N l4 x57.rule x57.ids x61.rule x61.ids) fun v63 =>
  some (!(decide (v63 < 0)))
 ) else (
  some false
 )
noncomputable def m_slices_partitionCmpFunc_Token_v2_L2 (N : Nat) (j_2_12 : Int) (l0 : List Api_TokenD) (a1 : Int) (x20 : Api_TokenD) (a3 : Int) (x24 : Api_TokenD) (l4 : List Int) : Int → Option (Int ⊕ Int) := fun u2_13 =>
 bindO (m_slices_partitionCmpFunc_Token_v2_C5 N j_2_12 u2_13 l0 a1 x20 a3 x24 l4
 ) fun j_5_66 =>
 if j_5_66 = true then (
  gd (-9223372036854775808 ≤ u2_13 - 1 ∧ u2_13 - 1 ≤ 9223372036854775807) <|
  some (.inl (u2_13 - 1))
 ) else (
  some (.inr u2_13)
 )
noncomputable def m_slices_partitionCmpFunc_Token_v2_C10 (N : Nat) (u4_12 : Int) (u3_13 : Int) (u3_0_l : List Api_TokenD) (a1 : Int) (l4 : List Int) : Option (Bool) :=
 if (decide (u4_12 ≤ u3_13)) = true then (
  gd (0 ≤ u4_12) <|
  bindO (u3_0_l[u4_12.toNat]?) fun x112 =>
  gd (0 ≤ a1) <|
  bindO (u3_0_l[a1.toNat]?) fun x116 =>
  bindO (m_agenda_order_compare N l4 x112.rule x112.ids x116.rule x116.ids) fun v118 =>
  some (decide (v118 < 0))
 ) else (
  some false
 )
noncomputable def m_slices_partitionCmpFunc_Token_v2_L4 (N : Nat) (u3_13 : Int) (u3_0_l : List Api_TokenD) (a1 : Int) (l4 : List Int) : Int → Option (Int ⊕ Int) := fun u4_12 =>
 bindO (m_slices_partitionCmpFunc_Token_v2_C10 N u4_12 u3_13 u3_0_l a1 l4
 ) fun j_10_120 =>
 if j_10_120 = true then (
  gd (-9223372036854775808 ≤ u4_12 + 1 ∧ u4_12 + 1 ≤ 9223372036854775807) <|
  some (.inl (u4_12 + 1))
 ) else (
  some (.inr u4_12)
 )
noncomputable def m_slices_partitionCmpFunc_Token_v2_C12 (N : Nat) (j_9_12 : Int) (u5_13 : Int) (u3_0_l : List Api_TokenD) (a1 : Int) (l4 : List Int) : Option (Bool) :=
 if (decide (j_9_12 ≤ u5_13)) = true then (
  gd (0 ≤ u5_13) <|
  bindO (u3_0_l[u5_13.toNat]?) fun x130 =>
  gd (0 ≤ a1) <|
  bindO (u3_0_l[a1.toNat]?) fun x134 =>
  bindO (m_agenda_order_compare N l4 x130.rule x130.ids x134.rule x134.ids) fun v136 =>
  some (!(decide (v136 < 0)))
 ) else (
  some false
 )
noncomputable def m_slices_partitionCmpFunc_Token_v2_L5 (N : Nat) (j_9_12 : Int) (u3_0_l : List Api_TokenD) (a1 : Int) (l4 : List Int) : Int → Option (Int ⊕ Int) := fun u5_13 =>
 bindO (m_slices_partitionCmpFunc_Token_v2_C12 N j_9_12 u5_13 u3_0_l a1 l4
 ) fun j_12_139 =>
 if j_12_139 = true then (
  gd (-9223372036854775808 ≤ u5_13 - 1 ∧ u5_13 - 1 ≤ 9223372036854775807) <|
  some (.inl (u5_13 - 1))
 ) else (
  some (.inr u5_13)
 )
noncomputable def m_slices_partitionCmpFunc_Token_v2_L3 (N : Nat) (a1 : Int) (l4 : List Int) : (Int × Int × (List Api_TokenD)) → Option ((Int × Int × (List Api_TokenD)) ⊕ (Int × (List Api_TokenD))) := fun (u3_13, u3_12, u3_0_l) =>
 bindO (
  iter (m_slices_partitionCmpFunc_Token_v2_L4 N u3_13 u3_0_l a1 l4) N u3_12
 ) fun j_9_12 =>
 bindO (
  iter (m_slices_partitionCmpFunc_Token_v2_L5 N j_9_12 u3_0_l a1 l4) N u3_13
 ) fun j_11_13 =>
 if (decide (j_9_12 > j_11_13)) = true then (
  some (.inr (j_11_13, u3_0_l))
 ) else (
  gd (0 ≤ j_11_13) <|
  bindO (u3_0_l[j_11_13.toNat]?) fun x151 =>
  gd (0 ≤ j_9_12) <|
  bindO (u3_0_l[j_9_12.toNat]?) fun x155 =>
  gd (0 ≤ j_9_12) <|
  bindO (u3_0_l[j_9_12.toNat]?) fun x157 =>
  gd (0 ≤ j_11_13) <|
  bindO ((u3_0_l.set j_9_12.toNat x151)[j_11_13.toNat]?) fun x158 =>
  gd (-9223372036854775808 ≤ j_9_12 + 1 ∧ j_9_12 + 1 ≤ 9223372036854775807) <|
  gd (-9223372036854775808 ≤ j_11_13 - 1 ∧ j_11_13 - 1 ≤ 9223372036854775807) <|
  some (.inl (j_11_13 - 1, j_9_12 + 1, (u3_0_l.set j_9_12.toNat x151).set j_11_13.toNat x155))
 )
noncomputable def m_slices_partitionCmpFunc_Token_v2 (N : Nat) (l0 : List Api_TokenD) (a1 : Int) (a2 : Int) (a3 : Int) (l4 : List Int) : Option (Int × Bool × (List Api_TokenD)) :=
 gd (0 ≤ a3) <|
 bindO (l0[a3.toNat]?) fun x20 =>
 gd (0 ≤ a1) <|
 bindO (l0[a1.toNat]?) fun x24 =>
 gd (0 ≤ a1) <|
 bindO (l0[a1.toNat]?) fun x26 =>
 gd (0 ≤ a3) <|
 bindO ((l0.set a1.toNat x20)[a3.toNat]?) fun x27 =>
 gd (-9223372036854775808 ≤ a1 + 1 ∧ a1 + 1 ≤ 9223372036854775807) <|
 gd (-9223372036854775808 ≤ a2 - 1 ∧ a2 - 1 ≤ 9223372036854775807) <|
 bindO (
  iter (m_slices_partitionCmpFunc_Token_v2_L1 N a2 l0 a1 x20 a3 x24 l4) N (a1 + 1)
 ) fun j_2_12 =>
 bindO (
  iter (m_slices_partitionCmpFunc_Token_v2_L2 N j_2_12 l0 a1 x20 a3 x24 l4) N (a2 - 1)
 ) fun j_4_13 =>
 if (decide (j_2_12 > j_4_13)) = true then (
  gd (0 ≤ a1) <|
  bindO (((l0.set a1.toNat x20).set a3.toNat x24)[a1.toNat]?) fun x78 =>
  gd (0 ≤ j_4_13) <|
  bindO (((l0.set a1.toNat x20).set a3.toNat x24)[j_4_13.toNat]?) fun x82 =>
  gd (0 ≤ j_4_13) <|
  bindO (((l0.set a1.toNat x20).set a3.toNat x24)[j_4_13.toNat]?) fun x84 =>
  gd (0 ≤ a1) <|
  bindO ((((l0.set a1.toNat x20).set a3.toNat x24).set j_4_13.toNat x78)[a1.toNat]?) fun x85 =>
  some (j_4_13, true, (((l0.set a1.toNat x20).set a3.toNat x24).set j_4_13.toNat x78).set a1.toNat x82)
 ) else (
  gd (0 ≤ j_4_13) <|
  bindO (((l0.set a1.toNat x20).set a3.toNat x24)[j_4_13.toNat]?) fun x93 =>
  gd (0 ≤ j_2_12) <|
  bindO (((l0.set a1.toNat x20).set a3.toNat x24)[j_2_12.toNat]?) fun x97 =>
  gd (0 ≤ j_2_12) <|
  bindO (((l0.set a1.toNat x20).set a3.toNat x24)[j_2_12.toNat]?) fun x99 =>
  gd (0 ≤ j_4_13) <|
  bindO ((((l0.set a1.toNat x20).set a3.toNat x24).set j_2_12.toNat x93)[j_4_13.toNat]?) fun x100 =>
  gd (-9223372036854775808 ≤ j_2_12 + 1 ∧ j_2_12 + 1 ≤ 9223372036854775807) <|
  gd (-9223372036854775808 ≤ j_4_13 - 1 ∧ j_4_13 - 1 ≤ 9223372036854775807) <|
  bindO (
   iter (m_slices_partitionCmpFunc_Token_v2_L3 N a1 l4) N (j_4_13 - 1, j_2_12 + 1, (((l0.set a1.toNat x20).set a3.toNat x24).set j_2_12.toNat x93).set j_4_13.toNat x97)
  ) fun (j_8_13, j_8_0_l) =>
  gd (0 ≤ a1) <|
  bindO (j_8_0_l[a1.toNat]?) fun x169 =>
  gd (0 ≤ j_8_13) <|
  bindO (j_8_0_l[j_8_13.toNat]?) fun x173 =>
  gd (0 ≤ j_8_13) <|
  bindO (j_8_0_l[j_8_13.toNat]?) fun x175 =>
  gd (0 ≤ a1) <|
  bindO ((j_8_0_l.set j_8_13.toNat x169)[a1.toNat]?) fun x176 =>
  some (j_8_13, false, (j_8_0_l.set j_8_13.toNat x169).set a1.toNat x173)
 )
noncomputable def m_slices_nextPowerOfTwo (N : Nat) (a0 : Int) : Option (Int) :=
 bindO (m_bits_Len N (IntKind.wrap .u64 a0)) fun v5 =>
 gd (0 ≤ v5) <|
 some (IntKind.wrap .u64 (1 * 2 ^ (min (v5).toNat 64)))
noncomputable def m_slices_xorshift_Next (N : Nat) (a0 : Int) : Option (Unit) :=
 some ()
noncomputable def m_slices_breakPatternsCmpFunc_Token_v2_L1 (N : Nat) (a2 : Int) (a1 : Int) (v21 : Int) : (Int × Int × (List Api_TokenD)) → Option ((Int × Int × (List Api_TokenD)) ⊕ (List Api_TokenD)) := fun (u1_11, u1_9_f0, u1_0_l) =>
 gd (-9223372036854775808 ≤ (IntKind.wrap .i64 (Int.tdiv (a2 - a1) 4)) * 2 ∧ (IntKind.wrap .i64 (Int.tdiv (a2 - a1) 4)) * 2 ≤ 9223372036854775807) <|
 gd (-9223372036854775808 ≤ a1 + ((IntKind.wrap .i64 (Int.tdiv (a2 - a1) 4)) * 2) ∧ a1 + ((IntKind.wrap .i64 (Int.tdiv (a2 - a1) 4)) * 2) ≤ 9223372036854775807) <|
 gd (-9223372036854775808 ≤ (a1 + ((IntKind.wrap .i64 (Int.tdiv (a2 - a1) 4)) * 2)) + 1 ∧ (a1 + ((IntKind.wrap .i64 (Int.tdiv (a2 - a1) 4)) * 2)) + 1 ≤ 9223372036854775807) <|
 if (decide (u1_11 ≤ ((a1 + ((IntKind.wrap .i64 (Int.tdiv (a2 - a1) 4)) * 2)) + 1))) = true then (
  bindO (m_slices_xorshift_Next N u1_9_f0) fun _ =>
  bindO (
   if (decide ((IntKind.wrap .i64 (bitsI .and .u64 (bitsI .xor .u64 (bitsI .xor .u64 (bitsI .xor .u64 u1_9_f0 (IntKind.wrap .u64 (u1_9_f0 * 2 ^ (13)))) (Int.fdiv (bitsI .xor .u64 u1_9_f0 (IntKind.wrap .u64 (u1_9_f0 * 2 ^ (13)))) (2 ^ (7)))) (IntKind.wrap .u64 ((bitsI .xor .u64 (bitsI .xor .u64 u1_9_f0 (IntKind.wrap .u64 (u1_9_f0 * 2 ^ (13)))) (Int.fdiv (bitsI .xor .u64 u1_9_f0 (IntKind.wrap .u64 (u1_9_f0 * 2 ^ (13)))) (2 ^ (7)))) * 2 ^ (17)))) (IntKind.wrap .u64 (v21 - 1)))) ≥ (a2 - a1))) = true then (
    gd (-9223372036854775808 ≤ (IntKind.wrap .i64 (bitsI .and .u64 (bitsI .xor .u64 (bitsI .xor .u64 (bitsI .xor .u64 u1_9_f0 (IntKind.wrap .u64 (u1_9_f0 * 2 ^ (13)))) (Int.fdiv (bitsI .xor .u64 u1_9_f0 (IntKind.wrap .u64 (u1_9_f0 * 2 ^ (13)))) (2 ^ (7)))) (IntKind.wrap .u64 ((bitsI .xor .u64 (bitsI .xor .u64 u1_9_f0 (IntKind.wrap .u64 (u1_9_f0 * 2 ^ (13)))) (Int.fdiv (bitsI .xor .u64 u1_9_f0 (IntKind.wrap .u64 (u1_9_f0 * 2 ^ (13)))) (2 ^ (7)))) * 2 ^ (17)))) (IntKind.wrap .u64 (v21 - 1)))) - (a2 - a1) ∧ (IntKind.wrap .i64 (bitsI .and .u64 (bitsI .xor .u64 (bitsI .xor .u64 (bitsI .xor .u64 u1_9_f0 (IntKind.wrap .u64 (u1_9_f0 * 2 ^ (13)))) (Int.fdiv (bitsI .xor .u64 u1_9_f0 (IntKind.wrap .u64 (u1_9_f0 * 2 ^ (13)))) (2 ^ (7)))) (IntKind.wrap .u64 ((bitsI .xor .u64 (bitsI .xor .u64 u1_9_f0 (IntKind.wrap .u64 (u1_9_f0 * 2 ^ (13)))) (Int.fdiv (bitsI .xor .u64 u1_9_f0 (IntKind.wrap .u64 (u1_9_f0 * 2 ^ (13)))) (2 ^ (7)))) * 2 ^ (17)))) (IntKind.wrap .u64 (v21 - 1)))) - (a2 - a1) ≤ 9223372036854775807) <|
    some ((IntKind.wrap .i64 (bitsI .and .u64 (bitsI .xor .u64 (bitsI .xor .u64 (bitsI .xor .u64 u1_9_f0 (IntKind.wrap .u64 (u1_9_f0 * 2 ^ (13)))) (Int.fdiv (bitsI .xor .u64 u1_9_f0 (IntKind.wrap .u64 (u1_9_f0 * 2 ^ (13)))) (2 ^ (7)))) (IntKind.wrap .u64 ((bitsI .xor .u64 (bitsI .xor .u64 u1_9_f0 (IntKind.wrap .u64 (u1_9_f0 * 2 ^ (13)))) (Int.fdiv (bitsI .xor .u64 u1_9_f0 (IntKind.wrap .u64 (u1_9_f0 * 2 ^ (13)))) (2 ^ (7)))) * 2 ^ (17)))) (IntKind.wrap .u64 (v21 - 1)))) - (a2 - a1))
   ) else (
    some (IntKind.wrap .i64 (bitsI .and .u64 (bitsI .xor .u64 (bitsI .xor .u64 (bitsI .xor .u64 u1_9_f0 (IntKind.wrap .u64 (u1_9_f0 * 2 ^ (13)))) (Int.fdiv (bitsI .xor .u64 u1_9_f0 (IntKind.wrap .u64 (u1_9_f0 * 2 ^ (13)))) (2 ^ (7)))) (IntKind.wrap .u64 ((bitsI .xor .u64 (bitsI .xor .u64 u1_9_f0 (IntKind.wrap .u64 (u1_9_f0 * 2 ^ (13)))) (Int.fdiv (bitsI .xor .u64 u1_9_f0 (IntKind.wrap .u64 (u1_9_f0 * 2 ^ (13)))) (2 ^ (7)))) * 2 ^ (17)))) (IntKind.wrap .u64 (v21 - 1))))
   )
  ) fun j_1_12 =>
  gd (-9223372036854775808 ≤ a1 + j_1_12 ∧ a1 + j_1_12 ≤ 9223372036854775807) <|
  gd (-9223372036854775808 ≤ a1 + j_1_12 ∧ a1 + j_1_12 ≤ 9223372036854775807) <|
  gd (0 ≤ a1 + j_1_12) <|
  bindO (u1_0_l[(a1 + j_1_12).toNat]?) fun x59 =>
  gd (0 ≤ u1_11) <|
  bindO (u1_0_l[u1_11.toNat]?) fun x63 =>
  gd (0 ≤ u1_11) <|
  bindO (u1_0_l[u1_11.toNat]?) fun x65 =>
  gd (0 ≤ a1 + j_1_12) <|
  bindO ((u1_0_l.set u1_11.toNat x59)[(a1 + j_1_12).toNat]?) fun x66 =>
  gd (-9223372036854775808 ≤ u1_11 + 1 ∧ u1_11 + 1 ≤ 9223372036854775807) <|
  some (.inl (u1_11 + 1, bitsI .xor .u64 (bitsI .xor .u64 (bitsI .xor .u64 u1_9_f0 (IntKind.wrap .u64 (u1_9_f0 * 2 ^ (13)))) (Int.fdiv (bitsI .xor .u64 u1_9_f0 (IntKind.wrap .u64 (u1_9_f0 * 2 ^ (13)))) (2 ^ (7)))) (IntKind.wrap .u64 ((bitsI .xor .u64 (bitsI .xor .u64 u1_9_f0 (IntKind.wrap .u64 (u1_9_f0 * 2 ^ (13)))) (Int.fdiv (bitsI .xor .u64 u1_9_f0 (IntKind.wrap .u64 (u1_9_f0 * 2 ^ (13)))) (2 ^ (7)))) * 2 ^ (17))), (u1_0_l.set u1_11.toNat x59).set ((a1 + j_1_12).toNat) x63))
 ) else (
  some (.inr u1_0_l)
 )
noncomputable def m_slices_breakPatternsCmpFunc_Token_v2 (N : Nat) (l0 : List Api_TokenD) (a1 : Int) (a2 : Int) (l3 : List Int) : Option (List Api_TokenD) :=
 gd (-9223372036854775808 ≤ a2 - a1 ∧ a2 - a1 ≤ 9223372036854775807) <|
 if (decide ((a2 - a1) ≥ 8)) = true then (
  bindO (m_slices_nextPowerOfTwo N (a2 - a1)) fun v21 =>
  gd (-9223372036854775808 ≤ (IntKind.wrap .i64 (Int.tdiv (a2 - a1) 4)) * 2 ∧ (IntKind.wrap .i64 (Int.tdiv (a2 - a1) 4)) * 2 ≤ 9223372036854775807) <|
  gd (-9223372036854775808 ≤ a1 + ((IntKind.wrap .i64 (Int.tdiv (a2 - a1) 4)) * 2) ∧ a1 + ((IntKind.wrap .i64 (Int.tdiv (a2 - a1) 4)) * 2) ≤ 9223372036854775807) <|
  gd (-9223372036854775808 ≤ (a1 + ((IntKind.wrap .i64 (Int.tdiv (a2 - a1) 4)) * 2)) - 1 ∧ (a1 + ((IntKind.wrap .i64 (Int.tdiv (a2 - a1) 4)) * 2)) - 1 ≤ 9223372036854775807) <|
  iter (m_slices_breakPatternsCmpFunc_Token_v2_L1 N a2 a1 v21) N ((a1 + ((IntKind.wrap .i64 (Int.tdiv (a2 - a1) 4)) * 2)) - 1, IntKind.wrap .u64 (a2 - a1), l0)
 ) else (
  some l0
 )
noncomputable def m_slices_pdqsortCmpFunc_Token_v2_C2 (N : Nat) (v52_1 : Nat) (j_1_0_l : List Api_TokenD) (u1_1 : Int) (u1_2 : Int) (u1_4_c0_l : List Int) (v52_0 : Int) : Option (Nat × Int × (List Api_TokenD)) :=
 if (v52_1 == 2) = true then (
  bindO (m_slices_reverseRangeCmpFunc_Token_v2 N j_1_0_l u1_1 u1_2 u1_4_c0_l) fun v61 =>
  gd (-9223372036854775808 ≤ u1_2 - 1 ∧ u1_2 - 1 ≤ 9223372036854775807) <|
  gd (-9223372036854775808 ≤ v52_0 - u1_1 ∧ v52_0 - u1_1 ≤ 9223372036854775807) <|
  gd (-9223372036854775808 ≤ (u1_2 - 1) - (v52_0 - u1_1) ∧ (u1_2 - 1) - (v52_0 - u1_1) ≤ 9223372036854775807) <|
  some (1, (u1_2 - 1) - (v52_0 - u1_1), v61)
 ) else (
  some (v52_1, v52_0, j_1_0_l)
 )
noncomputable def m_slices_pdqsortCmpFunc_Token_v2_C3 (N : Nat) (u1_10 : Bool) (u1_11 : Bool) (j_2_14 : Nat) (j_2_0_l : List Api_TokenD) (u1_1 : Int) (u1_2 : Int) (u1_4_c0_l : List Int) : Option ((List Api_TokenD) ⊕ ((Bool × Bool × (List Api_TokenD) × Int × Int × Int × (List Int)) ⊕ ((List Api_TokenD) × (List Int)))) :=
 bindO (
  if u1_10 = true then (
   if u1_11 = true then (
    some (j_2_14 == 1)
   ) else (
    some false
   )
  ) else (
   some false
  )
 ) fun j_4_75 =>
 if j_4_75 = true then (
  bindO (m_slices_partialInsertionSortCmpFunc_Token_v2 N j_2_0_l u1_1 u1_2 u1_4_c0_l) fun (v80_0, v80_1) =>
  if v80_0 = true then (
   some (.inr (.inr (v80_1, u1_4_c0_l)))
  ) else (
   some (.inl v80_1)
  )
 ) else (
  some (.inl j_2_0_l)
 )
noncomputable def m_slices_pdqsortCmpFunc_Token_v2_C5 (N : Nat) (u1_1 : Int) (j_3_0_l : List Api_TokenD) (j_2_13 : Int) (u1_4_c0_l : List Int) : Option (Bool) :=
 if (decide (u1_1 > 0)) = true then (
  gd (-9223372036854775808 ≤ u1_1 - 1 ∧ u1_1 - 1 ≤ 9223372036854775807) <|
  gd (0 ≤ u1_1 - 1) <|
  bindO (j_3_0_l[(u1_1 - 1).toNat]?) fun x88 =>
  gd (0 ≤ j_2_13) <|
  bindO (j_3_0_l[j_2_13.toNat]?) fun x92 =>
  bindO (m_agenda_order_compare N u1_4_c0_l x88.rule x88.ids x92.rule x92.ids) fun v94 =>
  some (!(decide (v94 < 0)))
 ) else (
  some false
 )
noncomputable def m_slices_pdqsortCmpFunc_Token_v2_L1 (N : Nat) (rc : (List Api_TokenD) → Int → Int → Int → (List Int) → Option ((List Api_TokenD) × (List Int))) : (Bool × Bool × (List Api_TokenD) × Int × Int × Int × (List Int)) → Option ((Bool × Bool × (List Api_TokenD) × Int × Int × Int × (List Int)) ⊕ ((List Api_TokenD) × (List Int))) := fun (u1_11, u1_10, u1_0_l, u1_1, u1_2, u1_3, u1_4_c0_l) =>
 gd (-9223372036854775808 ≤ u1_2 - u1_1 ∧ u1_2 - u1_1 ≤ 9223372036854775807) <|
 if (decide ((u1_2 - u1_1) ≤ 12)) = true then (
  bindO (m_slices_insertionSortCmpFunc_Token_v2 N u1_0_l u1_1 u1_2 u1_4_c0_l) fun v30 =>
  some (.inr (v30, u1_4_c0_l))
 ) else (
  if (u1_3 == 0) = true then (
   bindO (m_slices_heapSortCmpFunc_Token_v2 N u1_0_l u1_1 u1_2 u1_4_c0_l) fun v37 =>
   some (.inr (v37, u1_4_c0_l))
  ) else (
   bindO (
    if (!u1_10) = true then (
     bindO (m_slices_breakPatternsCmpFunc_Token_v2 N u1_0_l u1_1 u1_2 u1_4_c0_l) fun v44 =>
     gd (-9223372036854775808 ≤ u1_3 - 1 ∧ u1_3 - 1 ≤ 9223372036854775807) <|
     some (v44, u1_3 - 1)
    ) else (
     some (u1_0_l, u1_3)
    )
   ) fun (j_1_0_l, j_1_3) =>
   bindO (m_slices_choosePivotCmpFunc_Token N j_1_0_l u1_1 u1_2 u1_4_c0_l) fun (v52_0, v52_1) =>
   bindO (m_slices_pdqsortCmpFunc_Token_v2_C2 N v52_1 j_1_0_l u1_1 u1_2 u1_4_c0_l v52_0
   ) fun (j_2_14, j_2_13, j_2_0_l) =>
   bindS (m_slices_pdqsortCmpFunc_Token_v2_C3 N u1_10 u1_11 j_2_14 j_2_0_l u1_1 u1_2 u1_4_c0_l
   ) fun j_3_0_l =>
   bindO (m_slices_pdqsortCmpFunc_Token_v2_C5 N u1_1 j_3_0_l j_2_13 u1_4_c0_l
   ) fun j_5_97 =>
   if j_5_97 = true then (
    bindO (m_slices_partitionEqualCmpFunc_Token_v2 N j_3_0_l u1_1 u1_2 j_2_13 u1_4_c0_l) fun (v103_0, v103_1) =>
    some (.inl (u1_11, u1_10, v103_1, v103_0, u1_2, j_1_3, u1_4_c0_l))
   ) else (
    bindO (m_slices_partitionCmpFunc_Token_v2 N j_3_0_l u1_1 u1_2 j_2_13 u1_4_c0_l) fun (v111_0, v111_1, v111_2) =>
    gd (-9223372036854775808 ≤ v111_0 - u1_1 ∧ v111_0 - u1_1 ≤ 9223372036854775807) <|
    gd (-9223372036854775808 ≤ u1_2 - v111_0 ∧ u1_2 - v111_0 ≤ 9223372036854775807) <|
    if (decide ((v111_0 - u1_1) < (u1_2 - v111_0))) = true then (
     bindO (rc v111_2 u1_1 v111_0 j_1_3 u1_4_c0_l) fun (v134_0, v134_1) =>
     gd (v134_0.length = v111_2.length) <|
     gd (-9223372036854775808 ≤ v111_0 + 1 ∧ v111_0 + 1 ≤ 9223372036854775807) <|
     some (.inl (v111_1, decide ((v111_0 - u1_1) ≥ (IntKind.wrap .i64 (Int.tdiv (u1_2 - u1_1) 8))), v134_0, v111_0 + 1, u1_2, j_1_3, v134_1))
    ) else (
     gd (-9223372036854775808 ≤ v111_0 + 1 ∧ v111_0 + 1 ≤ 9223372036854775807) <|
     bindO (rc v111_2 (v111_0 + 1) u1_2 j_1_3 u1_4_c0_l) fun (v146_0, v146_1) =>
     gd (v146_0.length = v111_2.length) <|
     some (.inl (v111_1, decide ((u1_2 - v111_0) ≥ (IntKind.wrap .i64 (Int.tdiv (u1_2 - u1_1) 8))), v146_0, u1_1, v111_0, j_1_3, v146_1))
    )
   )
  )
 )
noncomputable def m_slices_pdqsortCmpFunc_Token_v2_b (N : Nat) (rc : (List Api_TokenD) → Int → Int → Int → (List Int) → Option ((List Api_TokenD) × (List Int))) (l0 : List Api_TokenD) (a1 : Int) (a2 : Int) (a3 : Int) (l4 : List Int) : Option ((List Api_TokenD) × (List Int)) :=
 iter (m_slices_pdqsortCmpFunc_Token_v2_L1 N rc) N (true, true, l0, a1, a2, a3, l4)
noncomputable def m_slices_pdqsortCmpFunc_Token_v2 : Nat → (List Api_TokenD) → Int → Int → Int → (List Int) → Option ((List Api_TokenD) × (List Int))
 | 0 => fun _ => fun _ => fun _ => fun _ => fun _ => none
 | N + 1 => m_slices_pdqsortCmpFunc_Token_v2_b N (m_slices_pdqsortCmpFunc_Token_v2 N)
noncomputable def m_slices_SortFunc_Token_v2 (N : Nat) (l0 : List Api_TokenD) (l1 : List Int) : Option ((List Api_TokenD) × (List Int)) :=
 bindO (m_bits_Len N (IntKind.wrap .u64 ((l0.length : Nat) : Int))) fun v11 =>
 bindO (m_slices_pdqsortCmpFunc_Token_v2 N l0 0 ((l0.length : Nat) : Int) v11 l1) fun (v13_0, v13_1) =>
 gd (v13_0.length = l0.length) <|
 some (v13_0, v13_1)
noncomputable def m_agenda_Agenda_Set_v2_C2 (N : Nat) (x20 : Api_TokenD) (l0 : List Int) (u1_5_m : List (ByteArray × Bool)) : Option (Bool) :=
 if (decide (x20.rule < 0)) = true then (
  some true
 ) else (
  if (decide (x20.rule ≥ ((l0.length : Nat) : Int))) = true then (
   some true
  ) else (
   bindO (m_agenda_name N x20.rule x20.ids) fun v38 =>
   optE (mlook v38 u1_5_m) (
   some false
   ) (fun x39 =>
   some x39
   )
  )
 )
noncomputable def m_agenda_Agenda_Set_v2_L1 (N : Nat) (l4 : List Api_TokenD) (l0 : List Int) (l1 : List Api_TokenD) (l2 : List Api_TokenD) (e3 : List (ByteArray × Bool)) : (Nat × (List (ByteArray × Bool))) → Option ((Nat × (List (ByteArray × Bool))) ⊕ (Unit ⊕ (Nat × (List Int) × (List Api_TokenD) × (List Api_TokenD) × (List (ByteArray × Bool))))) := fun (u1_18, u1_5_m) =>
 if (decide (u1_18 < l4.length)) = true then (
  bindO (l4[u1_18]?) fun x20 =>
  bindO (m_agenda_Agenda_Set_v2_C2 N x20 l0 u1_5_m
  ) fun j_2_40 =>
  if j_2_40 = true then (
   some (.inr (.inr (4, l0, l1, l2, e3)))
  ) else (
   bindO (m_agenda_name N x20.rule x20.ids) fun v43 =>
   gd (u1_18 + 1 ≤ 9223372036854775807) <|
   some (.inl (u1_18 + 1, mputP ltB v43 true u1_5_m))
  )
 ) else (
  some (.inr (.inl ()))
 )
noncomputable def m_agenda_Agenda_Set_v2_C4 (N : Nat) (l4 : List Api_TokenD) (u2_54 : Nat) (e3 : List (ByteArray × Bool)) (u2_0_f2_l : List Api_TokenD) (u2_8_m : List (ByteArray × Bool)) (u2_0_f1_l : List Api_TokenD) : Option ((List (ByteArray × Bool)) × (List Api_TokenD) × (List Api_TokenD)) :=
 bindO (l4[u2_54]?) fun x56 =>
 bindO (m_agenda_name N x56.rule x56.ids) fun v59 =>
 bindO (
  optE (mlook v59 e3) (
  some false
  ) (fun x65 =>
  some x65
  )
 ) fun j_5_65 =>
 if j_5_65 = true then (
  bindO (m_agenda_own N x56.rule x56.ids) fun _ =>
  gd (u2_0_f2_l.length + [x56].length ≤ 4398046511104) <|
  some (mputP ltB v59 true u2_8_m, u2_0_f1_l, u2_0_f2_l ++ [x56])
 ) else (
  bindO (m_agenda_own N x56.rule x56.ids) fun _ =>
  gd (u2_0_f1_l.length + [x56].length ≤ 4398046511104) <|
  some (u2_8_m, u2_0_f1_l ++ [x56], u2_0_f2_l)
 )
noncomputable def m_agenda_Agenda_Set_v2_L2 (N : Nat) (l4 : List Api_TokenD) (e3 : List (ByteArray × Bool)) : (Nat × (List (ByteArray × Bool)) × (List Api_TokenD) × (List Api_TokenD)) → Option ((Nat × (List (ByteArray × Bool)) × (List Api_TokenD) × (List Api_TokenD)) ⊕ ((List (ByteArray × Bool)) × (List Api_TokenD) × (List Api_TokenD))) := fun (u2_54, u2_8_m, u2_0_f1_l, u2_0_f2_l) =>
 if (decide (u2_54 < l4.length)) = true then (
  bindO (m_agenda_Agenda_Set_v2_C4 N l4 u2_54 e3 u2_0_f2_l u2_8_m u2_0_f1_l
  ) fun (j_4_8_m, j_4_0_f1_l, j_4_0_f2_l) =>
  gd (u2_54 + 1 ≤ 9223372036854775807) <|
  some (.inl (u2_54 + 1, j_4_8_m, j_4_0_f1_l, j_4_0_f2_l))
 ) else (
  some (.inr (u2_8_m, u2_0_f1_l, u2_0_f2_l))
 )
noncomputable def m_agenda_Agenda_Set_v2 (N : Nat) (l0 : List Int) (l1 : List Api_TokenD) (l2 : List Api_TokenD) (e3 : List (ByteArray × Bool)) (l4 : List Api_TokenD) : Option (Nat × (List Int) × (List Api_TokenD) × (List Api_TokenD) × (List (ByteArray × Bool))) :=
 bindO (m_agenda_Agenda_known_v2 N l0 l1 l2 e3) fun _ =>
 bindS (
  iter (m_agenda_Agenda_Set_v2_L1 N l4 l0 l1 l2 e3) N (0, ([] : List (ByteArray × Bool)))
 ) fun _ =>
 bindO (
  iter (m_agenda_Agenda_Set_v2_L2 N l4 e3) N (0, ([] : List (ByteArray × Bool)), [], [])
 ) fun (j_3_8_m, j_3_0_f1_l, j_3_0_f2_l) =>
 bindO (m_slices_SortFunc_Token_v2 N j_3_0_f1_l l0) fun (v104_0, v104_1) =>
 gd (v104_0.length = j_3_0_f1_l.length) <|
 bindO (m_slices_SortFunc_Token_v2 N j_3_0_f2_l v104_1) fun (v114_0, v114_1) =>
 gd (v114_0.length = j_3_0_f2_l.length) <|
 some (0, v114_1, v104_0, v114_0, j_3_8_m)
noncomputable def m_agenda_Agenda_Next (N : Nat) (l0 : List Int) (l1 : List Api_TokenD) (l2 : List Api_TokenD) (e3 : List (ByteArray × Bool)) : Option (Int × (List Int) × Bool) :=
 bindO (m_agenda_Agenda_known_v2 N l0 l1 l2 e3) fun _ =>
 if (l1.length == 0) = true then (
  some (0, [], false)
 ) else (
  bindO (l1[0]?) fun x20 =>
  bindO (m_agenda_own N x20.rule x20.ids) fun _ =>
  some (x20.rule, x20.ids, true)
 )
noncomputable def m_agenda_Agenda_Fire_1 (N : Nat) (a0 : Int) (l1 : List Int) (l2 : List Int) (l3 : List Api_TokenD) (l4 : List Api_TokenD) (e5 : List (ByteArray × Bool)) (a6 : Int) (l7 : List Int) : Option (Bool) :=
 bindO (m_agenda_order_compare N l2 a6 l7 a0 l1) fun v11 =>
 some (v11 == 0)
noncomputable def m_slices_IndexFunc_Token_L1 (N : Nat) (l0 : List Api_TokenD) (l1 : List Int) (l2 : List Api_TokenD) (e3 : List (ByteArray × Bool)) (a4 : Int) (l5 : List Int) : Nat → Option (Nat ⊕ (Unit ⊕ Int)) := fun u1_8 =>
 if (decide (u1_8 < l0.length)) = true then (
  bindO (l0[u1_8]?) fun x14 =>
  bindO (m_agenda_Agenda_Fire_1 N x14.rule x14.ids l1 l0 l2 e3 a4 l5) fun v16 =>
  if v16 = true then (
   some (.inr (.inr ((u1_8 : Nat) : Int)))
  ) else (
   gd (u1_8 + 1 ≤ 9223372036854775807) <|
   some (.inl (u1_8 + 1))
  )
 ) else (
  some (.inr (.inl ()))
 )
noncomputable def m_slices_IndexFunc_Token (N : Nat) (l0 : List Api_TokenD) (l1 : List Int) (l2 : List Api_TokenD) (e3 : List (ByteArray × Bool)) (a4 : Int) (l5 : List Int) : Option (Int) :=
 bindS (
  iter (m_slices_IndexFunc_Token_L1 N l0 l1 l2 e3 a4 l5) N 0
 ) fun _ =>
 some (-1)
noncomputable def m_agenda_Agenda_Fire (N : Nat) (l0 : List Int) (l1 : List Api_TokenD) (l2 : List Api_TokenD) (e3 : List (ByteArray × Bool)) (a4 : Int) (l5 : List Int) : Option (Nat × (List Int) × (List Api_TokenD) × (List Api_TokenD) × (List (ByteArray × Bool))) :=
 bindO (m_agenda_Agenda_known_v2 N l0 l1 l2 e3) fun _ =>
 bindO (m_slices_IndexFunc_Token N l1 l0 l2 e3 a4 l5) fun v14 =>
 if (decide (v14 < 0)) = true then (
  some (6, l0, l1, l2, e3)
 ) else (
  gd (-9223372036854775808 ≤ v14 + 1 ∧ v14 + 1 ≤ 9223372036854775807) <|
  gd (0 ≤ v14) <|
  gd (v14.toNat < l1.length) <|
  bindO (m_agenda_name N a4 l5) fun v33 =>
  bindO (m_agenda_own N a4 l5) fun _ =>
  gd (l2.length + ([(⟨a4, l5⟩ : Api_TokenD)]).length ≤ 4398046511104) <|
  bindO (m_slices_SortFunc_Token_v2 N (l2 ++ ([(⟨a4, l5⟩ : Api_TokenD)])) l0) fun (v54_0, v54_1) =>
  gd (v54_0.length = (l2 ++ ([(⟨a4, l5⟩ : Api_TokenD)])).length) <|
  some (0, v54_1, l1.take v14.toNat ++ l1.drop (v14.toNat + 1), v54_0, mputP ltB v33 true e3)
 )
noncomputable def m_agenda_Agenda_Fired_L1 (N : Nat) (l2 : List Api_TokenD) : (Nat × (List Api_TokenD)) → Option ((Nat × (List Api_TokenD)) ⊕ (List Api_TokenD)) := fun (u1_14, u1_3_l) =>
 if (decide (u1_14 < l2.length)) = true then (
  bindO (l2[u1_14]?) fun x16 =>
  bindO (m_agenda_own N x16.rule x16.ids) fun _ =>
  gd (u1_3_l.length + [x16].length ≤ 4398046511104) <|
  gd (u1_14 + 1 ≤ 9223372036854775807) <|
  some (.inl (u1_14 + 1, u1_3_l ++ [x16]))
 ) else (
  some (.inr u1_3_l)
 )
noncomputable def m_agenda_Agenda_Fired (N : Nat) (l0 : List Int) (l1 : List Api_TokenD) (l2 : List Api_TokenD) (e3 : List (ByteArray × Bool)) : Option (List Api_TokenD) :=
 bindO (m_agenda_Agenda_known_v2 N l0 l1 l2 e3) fun _ =>
 bindO (
  iter (m_agenda_Agenda_Fired_L1 N l2) N (0, [])
 ) fun j_1_3_l =>
 some j_1_3_l
noncomputable def m_ropewalkkit_SameTokens_L1 (N : Nat) (l0 : List Api_TokenD) (l1 : List Api_TokenD) : Nat → Option (Nat ⊕ (Unit ⊕ Bool)) := fun u1_5 =>
 if (decide (u1_5 < l0.length)) = true then (
  bindO (l0[u1_5]?) fun x19 =>
  bindO (l1[u1_5]?) fun x23 =>
  bindO (m_ropewalkkit_SameToken N x19.rule x19.ids x23.rule x23.ids) fun v25 =>
  if (!v25) = true then (
   some (.inr (.inr false))
  ) else (
   gd (u1_5 + 1 ≤ 9223372036854775807) <|
   some (.inl (u1_5 + 1))
  )
 ) else (
  some (.inr (.inl ()))
 )
noncomputable def m_ropewalkkit_SameTokens (N : Nat) (l0 : List Api_TokenD) (l1 : List Api_TokenD) : Option (Bool) :=
 if (l0.length != l1.length) = true then (
  some false
 ) else (
  bindS (
   iter (m_ropewalkkit_SameTokens_L1 N l0 l1) N 0
  ) fun _ =>
  some true
 )
noncomputable def m_ropewalklaw14_AgendaOrder_C1 (N : Nat) (l0 : List Int) (l1 : List Api_TokenD) : Option (Bool) :=
 if (decide (64 < l0.length)) = true then (
  some true
 ) else (
  bindO (m_ropewalklaw14_great N l1) fun v24 =>
  if v24 = true then (
   some true
  ) else (
   some (decide (40 < l1.length))
  )
 )
noncomputable def m_ropewalklaw14_AgendaOrder_C5 (N : Nat) (v63 : Bool) (v73 : Bool) (v53 : Bool) : Option (Bool) :=
 if v63 = true then (
  if v73 = true then (
   some true
  ) else (
   if v63 = true then (
    some (v53 == true)
   ) else (
    some (v53 == v73)
   )
  )
 ) else (
  if v63 = true then (
   some (v53 == true)
  ) else (
   some (v53 == v73)
  )
 )
noncomputable def m_ropewalklaw14_AgendaOrder_C7 (N : Nat) (l1 : List Api_TokenD) (u2_7 : Nat) (u3_11 : Nat) (v32 : List Api_RuleD) (u1_6 : Nat) : Option (Bool) :=
 bindO (l1[u2_7]?) fun x98 =>
 bindO (l1[u3_11]?) fun x102 =>
 bindO (m_agenda_Better N ([] : List Api_TypeD) v32 x98.rule x98.ids x102.rule x102.ids) fun v104 =>
 if v104 = true then (
  bindO (l1[u1_6]?) fun x109 =>
  bindO (l1[u3_11]?) fun x113 =>
  bindO (m_agenda_Better N ([] : List Api_TypeD) v32 x109.rule x109.ids x113.rule x113.ids) fun v115 =>
  some (!v115)
 ) else (
  some false
 )
noncomputable def m_ropewalklaw14_AgendaOrder_L3 (N : Nat) (l1 : List Api_TokenD) (v63 : Bool) (u2_7 : Nat) (v32 : List Api_RuleD) (u1_6 : Nat) : Nat → Option (Nat ⊕ (Unit ⊕ (Nat ⊕ (Unit ⊕ (Nat ⊕ (Unit ⊕ Bool)))))) := fun u3_11 =>
 bindO (
  if (decide (u3_11 < l1.length)) = true then (
   some v63
  ) else (
   some false
  )
 ) fun j_6_92 =>
 if j_6_92 = true then (
  bindO (m_ropewalklaw14_AgendaOrder_C7 N l1 u2_7 u3_11 v32 u1_6
  ) fun j_7_117 =>
  if j_7_117 = true then (
   some (.inr (.inr (.inr (.inr (.inr (.inr false))))))
  ) else (
   gd (u3_11 + 1 ≤ 9223372036854775807) <|
   some (.inl (u3_11 + 1))
  )
 ) else (
  some (.inr (.inl ()))
 )
noncomputable def m_ropewalklaw14_AgendaOrder_C4 (N : Nat) (l1 : List Api_TokenD) (u1_6 : Nat) (u2_7 : Nat) (v32 : List Api_RuleD) : Option (Unit ⊕ (Nat ⊕ (Unit ⊕ (Nat ⊕ (Unit ⊕ Bool))))) :=
 bindO (l1[u1_6]?) fun x47 =>
 bindO (l1[u2_7]?) fun x51 =>
 bindO (m_ropewalkkit_SameToken N x47.rule x47.ids x51.rule x51.ids) fun v53 =>
 bindO (l1[u1_6]?) fun x57 =>
 bindO (l1[u2_7]?) fun x61 =>
 bindO (m_agenda_Better N ([] : List Api_TypeD) v32 x57.rule x57.ids x61.rule x61.ids) fun v63 =>
 bindO (l1[u2_7]?) fun x67 =>
 bindO (l1[u1_6]?) fun x71 =>
 bindO (m_agenda_Better N ([] : List Api_TypeD) v32 x67.rule x67.ids x71.rule x71.ids) fun v73 =>
 bindO (m_ropewalklaw14_AgendaOrder_C5 N v63 v73 v53
 ) fun j_5_85 =>
 if j_5_85 = true then (
  some (.inr (.inr (.inr (.inr (.inr false)))))
 ) else (
  iter (m_ropewalklaw14_AgendaOrder_L3 N l1 v63 u2_7 v32 u1_6) N 0
 )
noncomputable def m_ropewalklaw14_AgendaOrder_L2 (N : Nat) (l1 : List Api_TokenD) (u1_6 : Nat) (v32 : List Api_RuleD) : Nat → Option (Nat ⊕ (Unit ⊕ (Nat ⊕ (Unit ⊕ Bool)))) := fun u2_7 =>
 if (decide (u2_7 < l1.length)) = true then (
  bindS (m_ropewalklaw14_AgendaOrder_C4 N l1 u1_6 u2_7 v32
  ) fun _ =>
  gd (u2_7 + 1 ≤ 9223372036854775807) <|
  some (.inl (u2_7 + 1))
 ) else (
  some (.inr (.inl ()))
 )
noncomputable def m_ropewalklaw14_AgendaOrder_L1 (N : Nat) (l1 : List Api_TokenD) (v32 : List Api_RuleD) : Nat → Option (Nat ⊕ (Unit ⊕ Bool)) := fun u1_6 =>
 if (decide (u1_6 < l1.length)) = true then (
  bindS (
   iter (m_ropewalklaw14_AgendaOrder_L2 N l1 u1_6 v32) N 0
  ) fun _ =>
  gd (u1_6 + 1 ≤ 9223372036854775807) <|
  some (.inl (u1_6 + 1))
 ) else (
  some (.inr (.inl ()))
 )
noncomputable def m_ropewalklaw14_AgendaOrder_C10 (N : Nat) (u4_12_f0_l : List Int) (u4_12_f1_l : List Api_TokenD) (u4_12_f2_l : List Api_TokenD) (u4_12_f3_m : List (ByteArray × Bool)) (v132_0 : Int) (v132_1 : List Int) (u4_13_l : List Api_TokenD) (v32 : List Api_RuleD) : Option ((List Int) × (List Api_TokenD) × (List Api_TokenD) × (List (ByteArray × Bool)) × Bool) :=
 bindO (m_agenda_Agenda_Fire N u4_12_f0_l u4_12_f1_l u4_12_f2_l u4_12_f3_m v132_0 v132_1) fun (v139_0, v139_1, v139_2, v139_3, v139_4) =>
 if (v139_0 != 0) = true then (
  some (v139_1, v139_2, v139_3, v139_4, true)
 ) else (
  bindO (m_agenda_Agenda_Fire N v139_1 v139_2 v139_3 v139_4 v132_0 v132_1) fun (v144_0, v144_1, v144_2, v144_3, v144_4) =>
  if (v144_0 != 6) = true then (
   some (v144_1, v144_2, v144_3, v144_4, true)
  ) else (
   if (decide (0 < u4_13_l.length)) = true then (
    gd (-9223372036854775808 ≤ ((u4_13_l.length : Nat) : Int) - 1 ∧ ((u4_13_l.length : Nat) : Int) - 1 ≤ 9223372036854775807) <|
    gd (0 ≤ ((u4_13_l.length : Nat) : Int) - 1) <|
    bindO (u4_13_l[(((u4_13_l.length : Nat) : Int) - 1).toNat]?) fun x157 =>
    bindO (m_agenda_Better N ([] : List Api_TypeD) v32 x157.rule x157.ids v132_0 v132_1) fun v160 =>
    some (v144_1, v144_2, v144_3, v144_4, !v160)
   ) else (
    some (v144_1, v144_2, v144_3, v144_4, false)
   )
  )
 )
noncomputable def m_ropewalklaw14_AgendaOrder_L4 (N : Nat) (l1 : List Api_TokenD) (v32 : List Api_RuleD) : (Nat × (List Api_TokenD) × (List Int) × (List Api_TokenD) × (List Api_TokenD) × (List (ByteArray × Bool))) → Option ((Nat × (List Api_TokenD) × (List Int) × (List Api_TokenD) × (List Api_TokenD) × (List (ByteArray × Bool))) ⊕ (((List Int) × (List Api_TokenD) × (List Api_TokenD) × (List (ByteArray × Bool)) × (List Api_TokenD)) ⊕ Bool)) := fun (u4_14, u4_13_l, u4_12_f0_l, u4_12_f1_l, u4_12_f2_l, u4_12_f3_m) =>
 if (decide (u4_14 ≤ l1.length)) = true then (
  bindO (m_agenda_Agenda_Next N u4_12_f0_l u4_12_f1_l u4_12_f2_l u4_12_f3_m) fun (v132_0, v132_1, v132_2) =>
  if (!v132_2) = true then (
   some (.inr (.inl (u4_12_f0_l, u4_12_f1_l, u4_12_f2_l, u4_12_f3_m, u4_13_l)))
  ) else (
   bindO (m_ropewalklaw14_AgendaOrder_C10 N u4_12_f0_l u4_12_f1_l u4_12_f2_l u4_12_f3_m v132_0 v132_1 u4_13_l v32
   ) fun (j_10_12_f0_l, j_10_12_f1_l, j_10_12_f2_l, j_10_12_f3_m, j_10_163) =>
   if j_10_163 = true then (
    some (.inr (.inr false))
   ) else (
    gd (u4_13_l.length + ([(⟨v132_0, v132_1⟩ : Api_TokenD)]).length ≤ 4398046511104) <|
    gd (u4_14 + 1 ≤ 9223372036854775807) <|
    some (.inl (u4_14 + 1, (u4_13_l ++ [(⟨v132_0, v132_1⟩ : Api_TokenD)]), j_10_12_f0_l, j_10_12_f1_l, j_10_12_f2_l, j_10_12_f3_m))
   )
  )
 ) else (
  some (.inr (.inl (u4_12_f0_l, u4_12_f1_l, u4_12_f2_l, u4_12_f3_m, u4_13_l)))
 )
noncomputable def m_ropewalklaw14_AgendaOrder (N : Nat) (l0 : List Int) (l1 : List Api_TokenD) : Option (Bool) :=
 bindO (m_ropewalklaw14_AgendaOrder_C1 N l0 l1
 ) fun j_1_30 =>
 if j_1_30 = true then (
  some true
 ) else (
  bindO (m_ropewalklaw14_of N l0) fun v32 =>
  bindS (
   iter (m_ropewalklaw14_AgendaOrder_L1 N l1 v32) N 0
  ) fun _ =>
  bindO (m_agenda_New N ([] : List Api_TypeD) v32) fun
  | .inl _ => (
  bindO (m_agenda_Agenda_Set N l1) fun _ =>
  some true
  )
  | .inr v119 => (
  bindO (m_agenda_Agenda_Set_v2 N v119 [] [] ([] : List (ByteArray × Bool)) l1) fun (v122_0, v122_1, v122_2, v122_3, v122_4) =>
  if (v122_0 != 0) = true then (
   some true
  ) else (
   bindS (
    iter (m_ropewalklaw14_AgendaOrder_L4 N l1 v32) N (0, [], v122_1, v122_2, v122_3, v122_4)
   ) fun (j_9_12_f0_l, j_9_12_f1_l, j_9_12_f2_l, j_9_12_f3_m, j_9_13_l) =>
   if (j_9_13_l.length == l1.length) = true then (
    bindO (m_agenda_Agenda_Fired N j_9_12_f0_l j_9_12_f1_l j_9_12_f2_l j_9_12_f3_m) fun v175 =>
    bindO (m_ropewalkkit_SameTokens N v175 j_9_13_l) fun v177 =>
    some v177
   ) else (
    some false
   )
  )
  )
 )
end Go.Proofs.YtgangmegcejllaaDoor
