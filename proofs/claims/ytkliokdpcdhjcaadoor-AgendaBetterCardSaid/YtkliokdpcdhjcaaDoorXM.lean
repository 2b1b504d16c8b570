import Derived.Test.YtkliokdpcdhjcaaDoorXT
namespace Go.Proofs.YtkliokdpcdhjcaaDoor
open Go.RowKit
noncomputable def m_ropewalklaw14_great_L1 (N : Nat) (l0 : List Api_TokenD) : (Nat × Nat) → Option ((Nat × Nat) ⊕ Nat) := fun (u1_4, u1_3) =>
 bindO (
  if (decide (u1_4 < l0.length)) = true then (
   some (decide (u1_3 ≤ 400))
  ) else (
   some false
  )
 ) fun j_2_14 =>
 if j_2_14 = true then (
  bindO (l0[u1_4]?) fun x20 =>
  gd (u1_3 + x20.ids.length ≤ 9223372036854775807) <|
  gd (u1_4 + 1 ≤ 9223372036854775807) <|
  some (.inl (u1_4 + 1, u1_3 + x20.ids.length))
 ) else (
  some (.inr u1_3)
 )
noncomputable def m_ropewalklaw14_great (N : Nat) (l0 : List Api_TokenD) : Option (Bool) :=
 bindO (
  iter (m_ropewalklaw14_great_L1 N l0) N (0, l0.length)
 ) fun j_1_3 =>
 some (decide (400 < j_1_3))
noncomputable def m_ropewalklaw14_of_L1 (N : Nat) (l0 : List Int) : (Nat × (List Api_RuleD)) → Option ((Nat × (List Api_RuleD)) ⊕ (List Api_RuleD)) := fun (u1_4, u1_3_f1_l) =>
 if (decide (u1_4 < l0.length)) = true then (
  bindO (l0[u1_4]?) fun x15 =>
  gd (u1_3_f1_l.length + ([(⟨(⟨#[]⟩ : ByteArray), x15, 0, [], []⟩ : Api_RuleD)]).length ≤ 1759218604441) <|
  gd (u1_4 + 1 ≤ 9223372036854775807) <|
  some (.inl (u1_4 + 1, (u1_3_f1_l ++ ([(⟨(⟨#[]⟩ : ByteArray), x15, 0, [], []⟩ : Api_RuleD)]))))
 ) else (
  some (.inr u1_3_f1_l)
 )
noncomputable def m_ropewalklaw14_of (N : Nat) (l0 : List Int) : Option (List Api_RuleD) :=
 bindO (
  iter (m_ropewalklaw14_of_L1 N l0) N (0, [])
 ) fun j_1_3_f1_l =>
 some j_1_3_f1_l
noncomputable def m_ropewalkkit_mark (N : Nat) (a0 : Int) (a1 : Int) : Option (Unit) :=
 some ()
noncomputable def m_ropewalkkit_LentInts_L1 (N : Nat) : (Nat × (List Int)) → Option ((Nat × (List Int)) ⊕ (List Int)) := fun (u1_4, u1_3_l) =>
 if (decide (u1_4 < 12)) = true then (
  bindO (m_ropewalkkit_mark N 1 ((u1_4 : Nat) : Int)) fun _ =>
  gd (u1_3_l.length + ([(IntKind.wrap .i64 ((IntKind.wrap .i64 (1000003 * (IntKind.wrap .i64 (1 + 7)))) + ((u1_4 : Nat) : Int)))]).length ≤ 17592186044416) <|
  gd (u1_4 + 1 ≤ 9223372036854775807) <|
  some (.inl (u1_4 + 1, (u1_3_l ++ ([(IntKind.wrap .i64 ((IntKind.wrap .i64 (1000003 * (IntKind.wrap .i64 (1 + 7)))) + ((u1_4 : Nat) : Int)))]))))
 ) else (
  some (.inr u1_3_l)
 )
noncomputable def m_ropewalkkit_LentInts (N : Nat) (l0 : List Int) : Option (List Int) :=
 gd (l0.length + 12 ≤ 9223372036854775807) <|
 gd (l0.length + 12 ≤ 17592186044416) <|
 gd (([] : List Int).length + l0.length ≤ 17592186044416) <|
 bindO (
  iter (m_ropewalkkit_LentInts_L1 N) N (0, l0)
 ) fun j_1_3_l =>
 gd (l0.length ≤ j_1_3_l.length) <|
 some j_1_3_l
noncomputable def m_ropewalkkit_LentToken (N : Nat) (a0 : Int) (l1 : List Int) : Option (List Int) :=
 bindO (m_ropewalkkit_LentInts N l1) fun v5 =>
 some v5
noncomputable def m_agenda_by_L1 (N : Nat) (l1 : List Api_RuleD) : (Nat × (List Int)) → Option ((Nat × (List Int)) ⊕ (List Int)) := fun (u1_10, u1_3_l) =>
 if (decide (u1_10 < l1.length)) = true then (
  bindO (l1[u1_10]?) fun x12 =>
  gd (u1_3_l.length + [x12.salience].length ≤ 17592186044416) <|
  gd (u1_10 + 1 ≤ 9223372036854775807) <|
  some (.inl (u1_10 + 1, u1_3_l ++ [x12.salience]))
 ) else (
  some (.inr u1_3_l)
 )
noncomputable def m_agenda_by (N : Nat) (l0 : List Api_TypeD) (l1 : List Api_RuleD) : Option (List Int) :=
 bindO (
  iter (m_agenda_by_L1 N l1) N (0, [])
 ) fun j_1_3_l =>
 some j_1_3_l
noncomputable def m_agenda_order_of (N : Nat) (l0 : List Int) (a1 : Int) (l2 : List Int) : Option (Int) :=
 bindO (
  if (decide (a1 < 0)) = true then (
   some true
  ) else (
   some (decide (a1 ≥ ((l0.length : Nat) : Int)))
  )
 ) fun j_1_14 =>
 if j_1_14 = true then (
  some 0
 ) else (
  gd (0 ≤ a1) <|
  bindO (l0[a1.toNat]?) fun x18 =>
  some x18
 )
noncomputable def m_cmp_isNaN_int (N : Nat) (a0 : Int) : Option (Unit) :=
 some ()
noncomputable def m_cmp_Compare_int (N : Nat) (a0 : Int) (a1 : Int) : Option (Int) :=
 bindO (m_cmp_isNaN_int N a0) fun _ =>
 bindO (m_cmp_isNaN_int N a1) fun _ =>
 if (a0 != a0) = true then (
  if (a1 != a1) = true then (
   some 0
  ) else (
   some (-1)
  )
 ) else (
  if (a1 != a1) = true then (
   some 1
  ) else (
   if (decide (a0 < a1)) = true then (
    some (-1)
   ) else (
    if (decide (a0 > a1)) = true then (
     some 1
    ) else (
     some 0
    )
   )
  )
 )
noncomputable def m_agenda_falling_1 (N : Nat) (a0 : Int) (a1 : Int) : Option (Int) :=
 bindO (m_cmp_Compare_int N a1 a0) fun v7 =>
 some v7
noncomputable def m_agenda_falling (N : Nat) (l0 : List Int) : Option (List Int) :=
 gd (l0.length ≤ 17592186044416) <|
 bindO (sortM (fun x_ y_ => m_agenda_falling_1 N x_ y_) l0) fun v6 =>
 some v6
noncomputable def m_slices_Compare_int_L1 (N : Nat) (l0 : List Int) (l1 : List Int) : Nat → Option (Nat ⊕ (Unit ⊕ Int)) := fun u1_11 =>
 if (decide (u1_11 < l0.length)) = true then (
  bindO (l0[u1_11]?) fun x14 =>
  if (decide (l1.length ≤ u1_11)) = true then (
   some (.inr (.inr 1))
  ) else (
   bindO (l1[u1_11]?) fun x22 =>
   bindO (m_cmp_Compare_int N x14 x22) fun v26 =>
   if (v26 != 0) = true then (
    some (.inr (.inr v26))
   ) else (
    gd (u1_11 + 1 ≤ 9223372036854775807) <|
    some (.inl (u1_11 + 1))
   )
  )
 ) else (
  some (.inr (.inl ()))
 )
noncomputable def m_slices_Compare_int (N : Nat) (l0 : List Int) (l1 : List Int) : Option (Int) :=
 bindS (
  iter (m_slices_Compare_int_L1 N l0 l1) N 0
 ) fun _ =>
 if (decide (l0.length < l1.length)) = true then (
  some (-1)
 ) else (
  some 0
 )
noncomputable def m_cmp_Or_int_L1 (N : Nat) (l0 : List Int) : Nat → Option (Nat ⊕ (Unit ⊕ Int)) := fun u1_8 =>
 if (decide (u1_8 < l0.length)) = true then (
  bindO (l0[u1_8]?) fun x10 =>
  if (x10 != 0) = true then (
   some (.inr (.inr x10))
  ) else (
   gd (u1_8 + 1 ≤ 9223372036854775807) <|
   some (.inl (u1_8 + 1))
  )
 ) else (
  some (.inr (.inl ()))
 )
noncomputable def m_cmp_Or_int (N : Nat) (l0 : List Int) : Option (Int) :=
 bindS (
  iter (m_cmp_Or_int_L1 N l0) N 0
 ) fun _ =>
 some 0
noncomputable def m_agenda_order_compare (N : Nat) (l0 : List Int) (a1 : Int) (l2 : List Int) (a3 : Int) (l4 : List Int) : Option (Int) :=
 bindO (m_agenda_order_of N l0 a3 l4) fun v9 =>
 bindO (m_agenda_order_of N l0 a1 l2) fun v12 =>
 bindO (m_cmp_Compare_int N v9 v12) fun v13 =>
 bindO (m_agenda_falling N l4) fun v16 =>
 bindO (m_agenda_falling N l2) fun v19 =>
 bindO (m_slices_Compare_int N v16 v19) fun v20 =>
 bindO (m_cmp_Compare_int N a1 a3) fun v25 =>
 bindO (m_slices_Compare_int N l2 l4) fun v30 =>
 bindO (m_cmp_Or_int N [v13, v20, v25, v30]) fun v32 =>
 some v32
noncomputable def m_agenda_Better (N : Nat) (l0 : List Api_TypeD) (l1 : List Api_RuleD) (a2 : Int) (l3 : List Int) (a4 : Int) (l5 : List Int) : Option (Bool) :=
 bindO (m_agenda_by N l0 l1) fun v8 =>
 bindO (m_agenda_order_compare N v8 a2 l3 a4 l5) fun v11 =>
 some (decide (v11 < 0))
noncomputable def m_ropewalkref14_salience (N : Nat) (l0 : List Api_TypeD) (l1 : List Api_RuleD) (a2 : Int) (l3 : List Int) : Option (Int) :=
 bindO (
  if (decide (a2 < 0)) = true then (
   some true
  ) else (
   some (decide (a2 ≥ ((l1.length : Nat) : Int)))
  )
 ) fun j_1_15 =>
 if j_1_15 = true then (
  some 0
 ) else (
  gd (0 ≤ a2) <|
  bindO (l1[a2.toNat]?) fun x20 =>
  some x20.salience
 )
noncomputable def m_ropewalkref14_falling_C3 (N : Nat) (u2_5 : Int) (u2_3_l : List Int) (l0 : List Int) (u1_4 : Nat) : Option (Bool) :=
 if (decide (u2_5 > 0)) = true then (
  gd (-9223372036854775808 ≤ u2_5 - 1 ∧ u2_5 - 1 ≤ 9223372036854775807) <|
  gd (0 ≤ u2_5 - 1) <|
  bindO (u2_3_l[(u2_5 - 1).toNat]?) fun x23 =>
  bindO (l0[u1_4]?) fun x27 =>
  some (decide (x23 < x27))
 ) else (
  some false
 )
noncomputable def m_ropewalkref14_falling_L2 (N : Nat) (l0 : List Int) (u1_4 : Nat) : ((List Int) × Int) → Option (((List Int) × Int) ⊕ ((List Int) × Int)) := fun (u2_3_l, u2_5) =>
 bindO (m_ropewalkref14_falling_C3 N u2_5 u2_3_l l0 u1_4
 ) fun j_3_30 =>
 if j_3_30 = true then (
  gd (-9223372036854775808 ≤ u2_5 - 1 ∧ u2_5 - 1 ≤ 9223372036854775807) <|
  gd (0 ≤ u2_5 - 1) <|
  bindO (u2_3_l[(u2_5 - 1).toNat]?) fun x36 =>
  gd (0 ≤ u2_5) <|
  bindO (u2_3_l[u2_5.toNat]?) fun x38 =>
  gd (-9223372036854775808 ≤ u2_5 - 1 ∧ u2_5 - 1 ≤ 9223372036854775807) <|
  some (.inl (u2_3_l.set u2_5.toNat x36, u2_5 - 1))
 ) else (
  some (.inr (u2_3_l, u2_5))
 )
noncomputable def m_ropewalkref14_falling_L1 (N : Nat) (l0 : List Int) : (Nat × (List Int)) → Option ((Nat × (List Int)) ⊕ (List Int)) := fun (u1_4, u1_3_l) =>
 if (decide (u1_4 < l0.length)) = true then (
  gd (u1_3_l.length + [0].length ≤ 17592186044416) <|
  bindO (
   iter (m_ropewalkref14_falling_L2 N l0 u1_4) N (u1_3_l ++ [0], ((u1_3_l.length : Nat) : Int))
  ) fun (j_2_3_l, j_2_5) =>
  bindO (l0[u1_4]?) fun x45 =>
  gd (0 ≤ j_2_5) <|
  bindO (j_2_3_l[j_2_5.toNat]?) fun x47 =>
  gd (u1_4 + 1 ≤ 9223372036854775807) <|
  some (.inl (u1_4 + 1, j_2_3_l.set j_2_5.toNat x45))
 ) else (
  some (.inr u1_3_l)
 )
noncomputable def m_ropewalkref14_falling (N : Nat) (l0 : List Int) : Option (List Int) :=
 bindO (
  iter (m_ropewalkref14_falling_L1 N l0) N (0, [])
 ) fun j_1_3_l =>
 some j_1_3_l
noncomputable def m_ropewalkref14_Better_L1 (N : Nat) (v27 : List Int) (v30 : List Int) : Nat → Option (Nat ⊕ (Unit ⊕ Bool)) := fun u1_11 =>
 bindO (
  if (decide (u1_11 < v27.length)) = true then (
   some (decide (u1_11 < v30.length))
  ) else (
   some false
  )
 ) fun j_2_40 =>
 if j_2_40 = true then (
  bindO (v27[u1_11]?) fun x45 =>
  bindO (v30[u1_11]?) fun x49 =>
  if (x45 != x49) = true then (
   bindO (v27[u1_11]?) fun x54 =>
   bindO (v30[u1_11]?) fun x58 =>
   some (.inr (.inr (decide (x54 > x58))))
  ) else (
   gd (u1_11 + 1 ≤ 9223372036854775807) <|
   some (.inl (u1_11 + 1))
  )
 ) else (
  some (.inr (.inl ()))
 )
noncomputable def m_ropewalkref14_Better_L2 (N : Nat) (l3 : List Int) (l5 : List Int) : Nat → Option (Nat ⊕ (Unit ⊕ Bool)) := fun u2_12 =>
 if (decide (u2_12 < l3.length)) = true then (
  bindO (l3[u2_12]?) fun x91 =>
  bindO (l5[u2_12]?) fun x96 =>
  if (x91 != x96) = true then (
   bindO (l3[u2_12]?) fun x102 =>
   bindO (l5[u2_12]?) fun x107 =>
   some (.inr (.inr (decide (x102 < x107))))
  ) else (
   gd (u2_12 + 1 ≤ 9223372036854775807) <|
   some (.inl (u2_12 + 1))
  )
 ) else (
  some (.inr (.inl ()))
 )
noncomputable def m_ropewalkref14_Better (N : Nat) (l0 : List Api_TypeD) (l1 : List Api_RuleD) (a2 : Int) (l3 : List Int) (a4 : Int) (l5 : List Int) : Option (Bool) :=
 bindO (m_ropewalkref14_salience N l0 l1 a2 l3) fun v15 =>
 bindO (m_ropewalkref14_salience N l0 l1 a4 l5) fun v18 =>
 if (v15 != v18) = true then (
  some (decide (v15 > v18))
 ) else (
  bindO (m_ropewalkref14_falling N l3) fun v27 =>
  bindO (m_ropewalkref14_falling N l5) fun v30 =>
  bindS (
   iter (m_ropewalkref14_Better_L1 N v27 v30) N 0
  ) fun _ =>
  if (v27.length != v30.length) = true then (
   some (decide (v30.length < v27.length))
  ) else (
   if (a2 != a4) = true then (
    some (decide (a2 < a4))
   ) else (
    bindS (
     iter (m_ropewalkref14_Better_L2 N l3 l5) N 0
    ) fun _ =>
    some false
   )
  )
 )
noncomputable def m_ropewalkkit_SameInts_W_L1 (N : Nat) (k1 : Nat) (l0 : List Int) (l2 : List Int) : Nat → Option (Nat ⊕ (Unit ⊕ Bool)) := fun u1_5 =>
 if (decide (u1_5 < k1)) = true then (
  gd (u1_5 < k1) <|
  bindO (l0[u1_5]?) fun x19 =>
  bindO (l2[u1_5]?) fun x23 =>
  if (x19 != x23) = true then (
   some (.inr (.inr false))
  ) else (
   gd (u1_5 + 1 ≤ 9223372036854775807) <|
   some (.inl (u1_5 + 1))
  )
 ) else (
  some (.inr (.inl ()))
 )
noncomputable def m_ropewalkkit_SameInts_W (N : Nat) (l0 : List Int) (k1 : Nat) (l2 : List Int) : Option (Bool) :=
 if (k1 != l2.length) = true then (
  some false
 ) else (
  bindS (
   iter (m_ropewalkkit_SameInts_W_L1 N k1 l0 l2) N 0
  ) fun _ =>
  some true
 )
noncomputable def m_ropewalkkit_SameToken_W (N : Nat) (a0 : Int) (l1 : List Int) (k2 : Nat) (a3 : Int) (l4 : List Int) : Option (Bool) :=
 if (a0 == a3) = true then (
  bindO (m_ropewalkkit_SameInts_W N l1 k2 l4) fun v15 =>
  some v15
 ) else (
  some false
 )
noncomputable def m_ropewalkkit_KeptInts_W_C2 (N : Nat) (u1_6 : Nat) (l2 : List Int) (l0 : List Int) : Option (Bool) :=
 if (decide (u1_6 < l2.length)) = true then (
  bindO ((l0.take (l2.length + 12))[u1_6]?) fun x30 =>
  bindO (l2[u1_6]?) fun x34 =>
  if (!(x30 == x34)) = true then (
   some true
  ) else (
   if (decide (l2.length ≤ u1_6)) = true then (
    bindO ((l0.take (l2.length + 12))[u1_6]?) fun x47 =>
    gd (-9223372036854775808 ≤ ((u1_6 : Nat) : Int) - ((l2.length : Nat) : Int) ∧ ((u1_6 : Nat) : Int) - ((l2.length : Nat) : Int) ≤ 9223372036854775807) <|
    bindO (m_ropewalkkit_mark N 1 (((u1_6 : Nat) : Int) - ((l2.length : Nat) : Int))) fun _ =>
    some (!(x47 == (IntKind.wrap .i64 ((IntKind.wrap .i64 (1000003 * (IntKind.wrap .i64 (1 + 7)))) + (((u1_6 : Nat) : Int) - ((l2.length : Nat) : Int))))))
   ) else (
    some false
   )
  )
 ) else (
  if (decide (l2.length ≤ u1_6)) = true then (
   bindO ((l0.take (l2.length + 12))[u1_6]?) fun x47 =>
   gd (-9223372036854775808 ≤ ((u1_6 : Nat) : Int) - ((l2.length : Nat) : Int) ∧ ((u1_6 : Nat) : Int) - ((l2.length : Nat) : Int) ≤ 9223372036854775807) <|
   bindO (m_ropewalkkit_mark N 1 (((u1_6 : Nat) : Int) - ((l2.length : Nat) : Int))) fun _ =>
   some (!(x47 == (IntKind.wrap .i64 ((IntKind.wrap .i64 (1000003 * (IntKind.wrap .i64 (1 + 7)))) + (((u1_6 : Nat) : Int) - ((l2.length : Nat) : Int))))))
  ) else (
   some false
  )
 )
noncomputable def m_ropewalkkit_KeptInts_W_L1 (N : Nat) (l0 : List Int) (l2 : List Int) : Nat → Option (Nat ⊕ (Unit ⊕ Bool)) := fun u1_6 =>
 if (decide (u1_6 < ((l0.take (l2.length + 12)).length))) = true then (
  bindO (m_ropewalkkit_KeptInts_W_C2 N u1_6 l2 l0
  ) fun j_2_57 =>
  if j_2_57 = true then (
   some (.inr (.inr false))
  ) else (
   gd (u1_6 + 1 ≤ 9223372036854775807) <|
   some (.inl (u1_6 + 1))
  )
 ) else (
  some (.inr (.inl ()))
 )
noncomputable def m_ropewalkkit_KeptInts_W (N : Nat) (l0 : List Int) (k1 : Nat) (l2 : List Int) : Option (Bool) :=
 if (k1 != l2.length) = true then (
  some false
 ) else (
  gd (l2.length + 12 ≤ 9223372036854775807) <|
  gd (l2.length + 12 ≤ l0.length) <|
  bindS (
   iter (m_ropewalkkit_KeptInts_W_L1 N l0 l2) N 0
  ) fun _ =>
  some true
 )
noncomputable def m_ropewalkkit_KeptToken_W (N : Nat) (a0 : Int) (l1 : List Int) (k2 : Nat) (a3 : Int) (l4 : List Int) : Option (Bool) :=
 bindO (m_ropewalkkit_SameToken_W N a0 l1 k2 a3 l4) fun v7 =>
 if v7 = true then (
  bindO (m_ropewalkkit_KeptInts_W N l1 k2 l4) fun v13 =>
  some v13
 ) else (
  some false
 )
noncomputable def m_ropewalkkit_SameTypes_L1 (N : Nat) (l0 : List Api_TypeD) (l1 : List Api_TypeD) : Nat → Option (Nat ⊕ (Unit ⊕ Bool)) := fun u1_5 =>
 if (decide (u1_5 < l0.length)) = true then (
  bindO (l0[u1_5]?) fun x19 =>
  bindO (l1[u1_5]?) fun x23 =>
  if (!((x19.name.toList == x23.name.toList) && (x19.fields == x23.fields))) = true then (
   some (.inr (.inr false))
  ) else (
   gd (u1_5 + 1 ≤ 9223372036854775807) <|
   some (.inl (u1_5 + 1))
  )
 ) else (
  some (.inr (.inl ()))
 )
noncomputable def m_ropewalkkit_SameTypes (N : Nat) (l0 : List Api_TypeD) (l1 : List Api_TypeD) : Option (Bool) :=
 if (l0.length != l1.length) = true then (
  some false
 ) else (
  bindS (
   iter (m_ropewalkkit_SameTypes_L1 N l0 l1) N 0
  ) fun _ =>
  some true
 )
noncomputable def m_ropewalkkit_SameArgs_L1 (N : Nat) (l0 : List ArgD) (l1 : List ArgD) : Nat → Option (Nat ⊕ (Unit ⊕ Bool)) := fun u1_5 =>
 if (decide (u1_5 < l0.length)) = true then (
  bindO (l0[u1_5]?) fun x19 =>
  bindO (l1[u1_5]?) fun x23 =>
  if (!decide (x19 = x23)) = true then (
   some (.inr (.inr false))
  ) else (
   gd (u1_5 + 1 ≤ 9223372036854775807) <|
   some (.inl (u1_5 + 1))
  )
 ) else (
  some (.inr (.inl ()))
 )
noncomputable def m_ropewalkkit_SameArgs (N : Nat) (l0 : List ArgD) (l1 : List ArgD) : Option (Bool) :=
 if (l0.length != l1.length) = true then (
  some false
 ) else (
  bindS (
   iter (m_ropewalkkit_SameArgs_L1 N l0 l1) N 0
  ) fun _ =>
  some true
 )
noncomputable def m_ropewalkkit_SameExprs_v2_L1 (N : Nat) (l0 : List Api_ExprD) (l1 : List Api_ExprD) (rc : Int → Int → Int → ByteArray → Int → Int → (List Api_ExprD) → Int → Int → Int → ByteArray → Int → Int → (List Api_ExprD) → Option (Bool)) : Nat → Option (Nat ⊕ (Unit ⊕ Bool)) := fun u1_5 =>
 if (decide (u1_5 < l0.length)) = true then (
  bindO (l0[u1_5]?) fun x19 =>
  bindO (l1[u1_5]?) fun x23 =>
  bindO (rc x19.kind x19.value.k x19.value.n x19.value.s x19.var x19.op x19.kids x23.kind x23.value.k x23.value.n x23.value.s x23.var x23.op x23.kids) fun v25 =>
  if (!v25) = true then (
   some (.inr (.inr false))
  ) else (
   gd (u1_5 + 1 ≤ 9223372036854775807) <|
   some (.inl (u1_5 + 1))
  )
 ) else (
  some (.inr (.inl ()))
 )
noncomputable def m_ropewalkkit_SameExprs_v2 (N : Nat) (rc : Int → Int → Int → ByteArray → Int → Int → (List Api_ExprD) → Int → Int → Int → ByteArray → Int → Int → (List Api_ExprD) → Option (Bool)) (l0 : List Api_ExprD) (l1 : List Api_ExprD) : Option (Bool) :=
 if (l0.length != l1.length) = true then (
  some false
 ) else (
  bindS (
   iter (m_ropewalkkit_SameExprs_v2_L1 N l0 l1 rc) N 0
  ) fun _ =>
  some true
 )
noncomputable def m_ropewalkkit_SameExpr_C1 (N : Nat) (a0 : Int) (a7 : Int) (a1 : Int) (a2 : Int) (a3 : ByteArray) (a8 : Int) (a9 : Int) (a10 : ByteArray) (a4 : Int) (a11 : Int) (a5 : Int) (a12 : Int) (rc : Int → Int → Int → ByteArray → Int → Int → (List Api_ExprD) → Int → Int → Int → ByteArray → Int → Int → (List Api_ExprD) → Option (Bool)) (l6 : List Api_ExprD) (l13 : List Api_ExprD) : Option (Bool) :=
 if (a0 == a7) = true then (
  if (decide ((⟨a1, a2, a3⟩ : V) = (⟨a8, a9, a10⟩ : V))) = true then (
   if (a4 == a11) = true then (
    if (a5 == a12) = true then (
     bindO (m_ropewalkkit_SameExprs_v2 N rc l6 l13) fun v36 =>
     some v36
    ) else (
     some false
    )
   ) else (
    some false
   )
  ) else (
   some false
  )
 ) else (
  some false
 )
noncomputable def m_ropewalkkit_SameExpr_b (N : Nat) (rc : Int → Int → Int → ByteArray → Int → Int → (List Api_ExprD) → Int → Int → Int → ByteArray → Int → Int → (List Api_ExprD) → Option (Bool)) (a0 : Int) (a1 : Int) (a2 : Int) (a3 : ByteArray) (a4 : Int) (a5 : Int) (l6 : List Api_ExprD) (a7 : Int) (a8 : Int) (a9 : Int) (a10 : ByteArray) (a11 : Int) (a12 : Int) (l13 : List Api_ExprD) : Option (Bool) :=
 bindO (m_ropewalkkit_SameExpr_C1 N a0 a7 a1 a2 a3 a8 a9 a10 a4 a11 a5 a12 rc l6 l13
 ) fun j_1_4 =>
 some j_1_4
noncomputable def m_ropewalkkit_SameExpr : Nat → Int → Int → Int → ByteArray → Int → Int → (List Api_ExprD) → Int → Int → Int → ByteArray → Int → Int → (List Api_ExprD) → Option (Bool)
 | 0 => fun _ => fun _ => fun _ => fun _ => fun _ => fun _ => fun _ => fun _ => fun _ => fun _ => fun _ => fun _ => fun _ => fun _ => none
 | N + 1 => m_ropewalkkit_SameExpr_b N (m_ropewalkkit_SameExpr N)
noncomputable def m_ropewalkkit_SameCond_C1 (N : Nat) (a0 : Int) (a10 : Int) (a1 : Int) (a11 : Int) (l2 : List ArgD) (l12 : List ArgD) (a3 : Int) (a4 : Int) (a5 : Int) (a6 : ByteArray) (a7 : Int) (a8 : Int) (l9 : List Api_ExprD) (a13 : Int) (a14 : Int) (a15 : Int) (a16 : ByteArray) (a17 : Int) (a18 : Int) (l19 : List Api_ExprD) : Option (Bool) :=
 if (a0 == a10) = true then (
  if (a1 == a11) = true then (
   bindO (m_ropewalkkit_SameArgs N l2 l12) fun v22 =>
   if v22 = true then (
    bindO (m_ropewalkkit_SameExpr N a3 a4 a5 a6 a7 a8 l9 a13 a14 a15 a16 a17 a18 l19) fun v29 =>
    some v29
   ) else (
    some false
   )
  ) else (
   some false
  )
 ) else (
  some false
 )
noncomputable def m_ropewalkkit_SameCond (N : Nat) (a0 : Int) (a1 : Int) (l2 : List ArgD) (a3 : Int) (a4 : Int) (a5 : Int) (a6 : ByteArray) (a7 : Int) (a8 : Int) (l9 : List Api_ExprD) (a10 : Int) (a11 : Int) (l12 : List ArgD) (a13 : Int) (a14 : Int) (a15 : Int) (a16 : ByteArray) (a17 : Int) (a18 : Int) (l19 : List Api_ExprD) : Option (Bool) :=
 bindO (m_ropewalkkit_SameCond_C1 N a0 a10 a1 a11 l2 l12 a3 a4 a5 a6 a7 a8 l9 a13 a14 a15 a16 a17 a18 l19
 ) fun j_1_4 =>
 some j_1_4
noncomputable def m_ropewalkkit_SameConds_L1 (N : Nat) (l0 : List Api_CondD) (l1 : List Api_CondD) : Nat → Option (Nat ⊕ (Unit ⊕ Bool)) := fun u1_5 =>
 if (decide (u1_5 < l0.length)) = true then (
  bindO (l0[u1_5]?) fun x19 =>
  bindO (l1[u1_5]?) fun x23 =>
  bindO (m_ropewalkkit_SameCond N x19.kind x19.type x19.args x19.test.kind x19.test.value.k x19.test.value.n x19.test.value.s x19.test.var x19.test.op x19.test.kids x23.kind x23.type x23.args x23.test.kind x23.test.value.k x23.test.value.n x23.test.value.s x23.test.var x23.test.op x23.test.kids) fun v25 =>
  if (!v25) = true then (
   some (.inr (.inr false))
  ) else (
   gd (u1_5 + 1 ≤ 9223372036854775807) <|
   some (.inl (u1_5 + 1))
  )
 ) else (
  some (.inr (.inl ()))
 )
noncomputable def m_ropewalkkit_SameConds (N : Nat) (l0 : List Api_CondD) (l1 : List Api_CondD) : Option (Bool) :=
 if (l0.length != l1.length) = true then (
  some false
 ) else (
  bindS (
   iter (m_ropewalkkit_SameConds_L1 N l0 l1) N 0
  ) fun _ =>
  some true
 )
noncomputable def m_ropewalkkit_SameExprs_L1 (N : Nat) (l0 : List Api_ExprD) (l1 : List Api_ExprD) : Nat → Option (Nat ⊕ (Unit ⊕ Bool)) := fun u1_5 =>
 if (decide (u1_5 < l0.length)) = true then (
  bindO (l0[u1_5]?) fun x19 =>
  bindO (l1[u1_5]?) fun x23 =>
  bindO (m_ropewalkkit_SameExpr N x19.kind x19.value.k x19.value.n x19.value.s x19.var x19.op x19.kids x23.kind x23.value.k x23.value.n x23.value.s x23.var x23.op x23.kids) fun v25 =>
  if (!v25) = true then (
   some (.inr (.inr false))
  ) else (
   gd (u1_5 + 1 ≤ 9223372036854775807) <|
   some (.inl (u1_5 + 1))
  )
 ) else (
  some (.inr (.inl ()))
 )
noncomputable def m_ropewalkkit_SameExprs (N : Nat) (l0 : List Api_ExprD) (l1 : List Api_ExprD) : Option (Bool) :=
 if (l0.length != l1.length) = true then (
  some false
 ) else (
  bindS (
   iter (m_ropewalkkit_SameExprs_L1 N l0 l1) N 0
  ) fun _ =>
  some true
 )
noncomputable def m_ropewalkkit_SameAct_C1 (N : Nat) (a0 : Int) (a4 : Int) (a1 : Int) (a5 : Int) (a2 : Int) (a6 : Int) (l3 : List Api_ExprD) (l7 : List Api_ExprD) : Option (Bool) :=
 if (a0 == a4) = true then (
  if (a1 == a5) = true then (
   if (a2 == a6) = true then (
    bindO (m_ropewalkkit_SameExprs N l3 l7) fun v29 =>
    some v29
   ) else (
    some false
   )
  ) else (
   some false
  )
 ) else (
  some false
 )
noncomputable def m_ropewalkkit_SameAct (N : Nat) (a0 : Int) (a1 : Int) (a2 : Int) (l3 : List Api_ExprD) (a4 : Int) (a5 : Int) (a6 : Int) (l7 : List Api_ExprD) : Option (Bool) :=
 bindO (m_ropewalkkit_SameAct_C1 N a0 a4 a1 a5 a2 a6 l3 l7
 ) fun j_1_4 =>
 some j_1_4
noncomputable def m_ropewalkkit_SameActs_L1 (N : Nat) (l0 : List Api_ActD) (l1 : List Api_ActD) : Nat → Option (Nat ⊕ (Unit ⊕ Bool)) := fun u1_5 =>
 if (decide (u1_5 < l0.length)) = true then (
  bindO (l0[u1_5]?) fun x19 =>
  bindO (l1[u1_5]?) fun x23 =>
  bindO (m_ropewalkkit_SameAct N x19.kind x19.type x19.which x19.exprs x23.kind x23.type x23.which x23.exprs) fun v25 =>
  if (!v25) = true then (
   some (.inr (.inr false))
  ) else (
   gd (u1_5 + 1 ≤ 9223372036854775807) <|
   some (.inl (u1_5 + 1))
  )
 ) else (
  some (.inr (.inl ()))
 )
noncomputable def m_ropewalkkit_SameActs (N : Nat) (l0 : List Api_ActD) (l1 : List Api_ActD) : Option (Bool) :=
 if (l0.length != l1.length) = true then (
  some false
 ) else (
  bindS (
   iter (m_ropewalkkit_SameActs_L1 N l0 l1) N 0
  ) fun _ =>
  some true
 )
noncomputable def m_ropewalkkit_SameRule_C1 (N : Nat) (a0 : ByteArray) (a5 : ByteArray) (a1 : Int) (a6 : Int) (a2 : Int) (a7 : Int) (l3 : List Api_CondD) (l8 : List Api_CondD) (l4 : List Api_ActD) (l9 : List Api_ActD) : Option (Bool) :=
 if (a0.toList == a5.toList) = true then (
  if (a1 == a6) = true then (
   if (a2 == a7) = true then (
    bindO (m_ropewalkkit_SameConds N l3 l8) fun v29 =>
    if v29 = true then (
     bindO (m_ropewalkkit_SameActs N l4 l9) fun v36 =>
     some v36
    ) else (
     some false
    )
   ) else (
    some false
   )
  ) else (
   some false
  )
 ) else (
  some false
 )
noncomputable def m_ropewalkkit_SameRule (N : Nat) (a0 : ByteArray) (a1 : Int) (a2 : Int) (l3 : List Api_CondD) (l4 : List Api_ActD) (a5 : ByteArray) (a6 : Int) (a7 : Int) (l8 : List Api_CondD) (l9 : List Api_ActD) : Option (Bool) :=
 bindO (m_ropewalkkit_SameRule_C1 N a0 a5 a1 a6 a2 a7 l3 l8 l4 l9
 ) fun j_1_4 =>
 some j_1_4
noncomputable def m_ropewalkkit_SameRuleRow_L1 (N : Nat) (l0 : List Api_RuleD) (l1 : List Api_RuleD) : Nat → Option (Nat ⊕ (Unit ⊕ Bool)) := fun u1_5 =>
 if (decide (u1_5 < l0.length)) = true then (
  bindO (l0[u1_5]?) fun x19 =>
  bindO (l1[u1_5]?) fun x23 =>
  bindO (m_ropewalkkit_SameRule N x19.name x19.salience x19.vars x19.conds x19.acts x23.name x23.salience x23.vars x23.conds x23.acts) fun v25 =>
  if (!v25) = true then (
   some (.inr (.inr false))
  ) else (
   gd (u1_5 + 1 ≤ 9223372036854775807) <|
   some (.inl (u1_5 + 1))
  )
 ) else (
  some (.inr (.inl ()))
 )
noncomputable def m_ropewalkkit_SameRuleRow (N : Nat) (l0 : List Api_RuleD) (l1 : List Api_RuleD) : Option (Bool) :=
 if (l0.length != l1.length) = true then (
  some false
 ) else (
  bindS (
   iter (m_ropewalkkit_SameRuleRow_L1 N l0 l1) N 0
  ) fun _ =>
  some true
 )
noncomputable def m_ropewalkkit_SameRules (N : Nat) (l0 : List Api_TypeD) (l1 : List Api_RuleD) (l2 : List Api_TypeD) (l3 : List Api_RuleD) : Option (Bool) :=
 bindO (m_ropewalkkit_SameTypes N l0 l2) fun v9 =>
 if v9 = true then (
  bindO (m_ropewalkkit_SameRuleRow N l1 l3) fun v15 =>
  some v15
 ) else (
  some false
 )
noncomputable def m_slices_Compare_int_v2_L1 (N : Nat) (l0 : List Int) : Nat → Option (Nat ⊕ (Unit ⊕ Int)) := fun u1_11 =>
 if (decide (u1_11 < l0.length)) = true then (
  bindO (l0[u1_11]?) fun x14 =>
  if (decide (l0.length ≤ u1_11)) = true then (
   some (.inr (.inr 1))
  ) else (
   bindO (l0[u1_11]?) fun x22 =>
   bindO (m_cmp_Compare_int N x14 x22) fun v26 =>
   if (v26 != 0) = true then (
    some (.inr (.inr v26))
   ) else (
    gd (u1_11 + 1 ≤ 9223372036854775807) <|
    some (.inl (u1_11 + 1))
   )
  )
 ) else (
  some (.inr (.inl ()))
 )
noncomputable def m_slices_Compare_int_v2 (N : Nat) (l0 : List Int) : Option (Int) :=
 bindS (
  iter (m_slices_Compare_int_v2_L1 N l0) N 0
 ) fun _ =>
 if (decide (l0.length < l0.length)) = true then (
  some (-1)
 ) else (
  some 0
 )
noncomputable def m_agenda_order_compare_v2 (N : Nat) (l0 : List Int) (a1 : Int) (l2 : List Int) (a3 : Int) : Option (Int) :=
 bindO (m_agenda_order_of N l0 a3 l2) fun v9 =>
 bindO (m_agenda_order_of N l0 a1 l2) fun v12 =>
 bindO (m_cmp_Compare_int N v9 v12) fun v13 =>
 bindO (m_agenda_falling N l2) fun v16 =>
 bindO (m_agenda_falling N l2) fun v19 =>
 bindO (m_slices_Compare_int N v16 v19) fun v20 =>
 bindO (m_cmp_Compare_int N a1 a3) fun v25 =>
 bindO (m_slices_Compare_int_v2 N l2) fun v30 =>
 bindO (m_cmp_Or_int N [v13, v20, v25, v30]) fun v32 =>
 some v32
noncomputable def m_agenda_Better_v2 (N : Nat) (l0 : List Api_TypeD) (l1 : List Api_RuleD) (a2 : Int) (l3 : List Int) (a4 : Int) : Option (Bool) :=
 bindO (m_agenda_by N l0 l1) fun v8 =>
 bindO (m_agenda_order_compare_v2 N v8 a2 l3 a4) fun v11 =>
 some (decide (v11 < 0))
noncomputable def m_ropewalklaw14_AgendaBetter_C3 (N : Nat) (l2 : List Int) (v24 : List Int) (l4 : List Int) (v26 : List Int) (v22 : List Api_RuleD) (a1 : Int) (a3 : Int) : Option (Bool) :=
 gd (l2.length ≤ v24.length) <|
 gd (l4.length ≤ v26.length) <|
 bindO (m_agenda_Better N ([] : List Api_TypeD) v22 a1 (v24.take l2.length) a3 (v26.take l4.length)) fun v30 =>
 bindO (m_ropewalkref14_Better N ([] : List Api_TypeD) v22 a1 l2 a3 l4) fun v34 =>
 if (v30 == v34) = true then (
  gd (l4.length ≤ v26.length) <|
  gd (l2.length ≤ v24.length) <|
  bindO (m_agenda_Better N ([] : List Api_TypeD) v22 a3 (v26.take l4.length) a1 (v24.take l2.length)) fun v40 =>
  bindO (m_ropewalkref14_Better N ([] : List Api_TypeD) v22 a3 l4 a1 l2) fun v44 =>
  some (v40 == v44)
 ) else (
  some false
 )
noncomputable def m_ropewalklaw14_AgendaBetter_C4 (N : Nat) (j_3_10 : Bool) (a1 : Int) (v24 : List Int) (l2 : List Int) (a3 : Int) (v26 : List Int) (l4 : List Int) (l0 : List Int) (v22 : List Api_RuleD) : Option (Bool) :=
 if j_3_10 = true then (
  bindO (m_ropewalkkit_KeptToken_W N a1 v24 l2.length a1 l2) fun v51 =>
  if v51 = true then (
   bindO (m_ropewalkkit_KeptToken_W N a3 v26 l4.length a3 l4) fun v56 =>
   if v56 = true then (
    bindO (m_ropewalklaw14_of N l0) fun v61 =>
    bindO (m_ropewalkkit_SameRules N ([] : List Api_TypeD) v22 ([] : List Api_TypeD) v61) fun v62 =>
    if v62 = true then (
     bindO (m_agenda_Better_v2 N ([] : List Api_TypeD) v22 a1 l2 a1) fun v68 =>
     if (!v68) = true then (
      some true
     ) else (
      some false
     )
    ) else (
     some false
    )
   ) else (
    some false
   )
  ) else (
   some false
  )
 ) else (
  some false
 )
noncomputable def m_ropewalklaw14_AgendaBetter (N : Nat) (l0 : List Int) (a1 : Int) (l2 : List Int) (a3 : Int) (l4 : List Int) : Option (Bool) :=
 bindO (
  if (decide (400 < l0.length)) = true then (
   some true
  ) else (
   bindO (m_ropewalklaw14_great N [(⟨a1, l2⟩ : Api_TokenD), (⟨a3, l4⟩ : Api_TokenD)]) fun v18 =>
   some v18
  )
 ) fun j_1_19 =>
 if j_1_19 = true then (
  some true
 ) else (
  bindO (m_ropewalklaw14_of N l0) fun v22 =>
  bindO (m_ropewalkkit_LentToken N a1 l2) fun v24 =>
  bindO (m_ropewalkkit_LentToken N a3 l4) fun v26 =>
  bindO (m_ropewalklaw14_AgendaBetter_C3 N l2 v24 l4 v26 v22 a1 a3
  ) fun j_3_10 =>
  bindO (m_ropewalklaw14_AgendaBetter_C4 N j_3_10 a1 v24 l2 a3 v26 l4 l0 v22
  ) fun j_4_6 =>
  some j_4_6
 )
end Go.Proofs.YtkliokdpcdhjcaaDoor
