import Derived.Test.YthmkahbkhoijbaaGreatDoorXT
namespace Go.Proofs.YthmkahbkhoijbaaGreatDoor
open Go.RowKit
def m_memory_New (N : Nat) : Option (Unit) :=
 some ()
def m_ropewalklaw11_num (N : Nat) (a0 : Int) : Option (Unit) :=
 some ()
def m_memory_Memory_known (N : Nat) (l0 : List FactD) (a1 : Int) : Option (Unit) :=
 some ()
def m_value_named_C1 (N : Nat) (a0 : ByteArray) : Option (Bool) :=
 if (!(a0.toList == (⟨#[]⟩ : ByteArray).toList)) = true then (
  if (decide (a0.size ≤ 24)) = true then (
   bindO (a0[0]?) fun x12 =>
   if (decide ((Lib.indexByte (⟨#[97, 98, 99, 100, 101, 102, 103, 104, 105, 106, 107, 108, 109, 110, 111, 112, 113, 114, 115, 116, 117, 118, 119, 120, 121, 122]⟩ : ByteArray).data.toList (((x12.toNat : Nat) : Int)).toNat.toUInt8) ≥ 0)) = true then (
    gd (a0.size ≤ 9223372036854775807) <|
    some ((⟨(Lib.trimS a0.data.toList (⟨#[97, 98, 99, 100, 101, 102, 103, 104, 105, 106, 107, 108, 109, 110, 111, 112, 113, 114, 115, 116, 117, 118, 119, 120, 121, 122, 48, 49, 50, 51, 52, 53, 54, 55, 56, 57, 95]⟩ : ByteArray).data.toList).toArray⟩ : ByteArray).toList == (⟨#[]⟩ : ByteArray).toList)
   ) else (
    some false
   )
  ) else (
   some false
  )
 ) else (
  some false
 )
def m_value_named (N : Nat) (a0 : ByteArray) : Option (Bool) :=
 bindO (m_value_named_C1 N a0
 ) fun j_1_2 =>
 some j_1_2
def m_value_Right (N : Nat) (a0 : Int) (a1 : Int) (a2 : ByteArray) : Option (Bool) :=
 if (a0 == 1) = true then (
  some (a2.toList == (⟨#[]⟩ : ByteArray).toList)
 ) else (
  if (a0 == 2) = true then (
   if (a1 == 0) = true then (
    bindO (m_value_named N a2) fun v18 =>
    some v18
   ) else (
    some false
   )
  ) else (
   some false
  )
 )
def m_memory_may_1 (N : Nat) (a0 : Int) (a1 : Int) (a2 : ByteArray) : Option (Bool) :=
 bindO (m_value_Right N a0 a1 a2) fun v4 =>
 some (!v4)
def m_slices_IndexFunc_Value_L1 (N : Nat) (l0 : List V) : Nat → Option (Nat ⊕ (Unit ⊕ Int)) := fun u1_8 =>
 if (decide (u1_8 < l0.length)) = true then (
  bindO (l0[u1_8]?) fun x14 =>
  bindO (m_memory_may_1 N x14.k x14.n x14.s) fun v16 =>
  if v16 = true then (
   some (.inr (.inr ((u1_8 : Nat) : Int)))
  ) else (
   gd (u1_8 + 1 ≤ 9223372036854775807) <|
   some (.inl (u1_8 + 1))
  )
 ) else (
  some (.inr (.inl ()))
 )
def m_slices_IndexFunc_Value (N : Nat) (l0 : List V) : Option (Int) :=
 bindS (
  iter (m_slices_IndexFunc_Value_L1 N l0) N 0
 ) fun _ =>
 some (-1)
def m_slices_ContainsFunc_Value (N : Nat) (l0 : List V) : Option (Bool) :=
 bindO (m_slices_IndexFunc_Value N l0) fun v7 =>
 some (decide (v7 ≥ 0))
def m_memory_may_C1 (N : Nat) (a0 : Int) (l1 : List V) : Option (Bool) :=
 if (decide (a0 ≥ 0)) = true then (
  if (decide (a0 < 32)) = true then (
   if (decide (l1.length ≤ 6)) = true then (
    bindO (m_slices_ContainsFunc_Value N l1) fun v18 =>
    some (!v18)
   ) else (
    some false
   )
  ) else (
   some false
  )
 ) else (
  some false
 )
def m_memory_may (N : Nat) (a0 : Int) (l1 : List V) : Option (Bool) :=
 bindO (m_memory_may_C1 N a0 l1
 ) fun j_1_4 =>
 some j_1_4
def m_memory_same_L1 (N : Nat) (l0 : List V) (l1 : List V) : Nat → Option (Nat ⊕ (Unit ⊕ Bool)) := fun u1_13 =>
 if (decide (u1_13 < l0.length)) = true then (
  bindO (l0[u1_13]?) fun x18 =>
  bindO (l1[u1_13]?) fun x22 =>
  if (!decide (x18 = x22)) = true then (
   some (.inr (.inr false))
  ) else (
   gd (u1_13 + 1 ≤ 9223372036854775807) <|
   some (.inl (u1_13 + 1))
  )
 ) else (
  some (.inr (.inl ()))
 )
def m_memory_same (N : Nat) (l0 : List V) (l1 : List V) : Option (Bool) :=
 if (l0.length != l1.length) = true then (
  some false
 ) else (
  bindS (
   iter (m_memory_same_L1 N l0 l1) N 0
  ) fun _ =>
  some true
 )
def m_memory_row_says_1 (N : Nat) (a0 : Int) (a1 : Int) (l2 : List V) (a3 : Int) (l4 : List V) : Option (Bool) :=
 if (a1 == a3) = true then (
  bindO (m_memory_same N l2 l4) fun v13 =>
  some v13
 ) else (
  some false
 )
def m_slices_IndexFunc_Fact_L1 (N : Nat) (l0 : List FactD) (a1 : Int) (l2 : List V) : Nat → Option (Nat ⊕ (Unit ⊕ Int)) := fun u1_8 =>
 if (decide (u1_8 < l0.length)) = true then (
  bindO (l0[u1_8]?) fun x14 =>
  bindO (m_memory_row_says_1 N x14.id x14.ty x14.args a1 l2) fun v16 =>
  if v16 = true then (
   some (.inr (.inr ((u1_8 : Nat) : Int)))
  ) else (
   gd (u1_8 + 1 ≤ 9223372036854775807) <|
   some (.inl (u1_8 + 1))
  )
 ) else (
  some (.inr (.inl ()))
 )
def m_slices_IndexFunc_Fact (N : Nat) (l0 : List FactD) (a1 : Int) (l2 : List V) : Option (Int) :=
 bindS (
  iter (m_slices_IndexFunc_Fact_L1 N l0 a1 l2) N 0
 ) fun _ =>
 some (-1)
def m_memory_row_says (N : Nat) (l0 : List FactD) (a1 : Int) (a2 : Int) (l3 : List V) : Option (Int) :=
 bindO (m_slices_IndexFunc_Fact N l0 a2 l3) fun v12 =>
 some v12
def m_memory_own (N : Nat) (a0 : Int) (a1 : Int) (l2 : List V) : Option (Unit) :=
 gd (l2.length ≤ 4398046511104) <|
 some ()
def m_memory_Memory_Add (N : Nat) (l0 : List FactD) (a1 : Int) (a2 : Int) (l3 : List V) : Option (Int × Nat × (List FactD) × Int) :=
 bindO (m_memory_Memory_known N l0 a1) fun _ =>
 if (!(decide (a1 > 0))) = true then (
  some (0, 1, l0, a1)
 ) else (
  bindO (m_memory_may N a2 l3) fun v16 =>
  if (!v16) = true then (
   some (0, 2, l0, a1)
  ) else (
   bindO (m_memory_row_says N l0 a1 a2 l3) fun v23 =>
   if (decide (v23 ≥ 0)) = true then (
    gd (0 ≤ v23) <|
    bindO (l0[v23.toNat]?) fun x32 =>
    some (x32.id, 7, l0, a1)
   ) else (
    bindO (
     if (decide (256 ≤ l0.length)) = true then (
      some true
     ) else (
      some (decide (a1 > 1099511627776))
     )
    ) fun j_1_48 =>
    if j_1_48 = true then (
     some (0, 5, l0, a1)
    ) else (
     bindO (m_memory_own N a1 a2 l3) fun _ =>
     gd (l0.length + ([(⟨a1, a2, l3⟩ : FactD)]).length ≤ 3518437208883) <|
     gd (-9223372036854775808 ≤ a1 + 1 ∧ a1 + 1 ≤ 9223372036854775807) <|
     gd (-9223372036854775808 ≤ (a1 + 1) - 1 ∧ (a1 + 1) - 1 ≤ 9223372036854775807) <|
     some ((a1 + 1) - 1, 0, (l0 ++ ([(⟨a1, a2, l3⟩ : FactD)])), a1 + 1)
    )
   )
  )
 )
def m_cmp_isNaN_int (N : Nat) (a0 : Int) : Option (Unit) :=
 some ()
def m_cmp_Compare_int (N : Nat) (a0 : Int) (a1 : Int) : Option (Int) :=
 bindO (m_cmp_isNaN_int N a0) fun _ =>
 bindO (m_cmp_isNaN_int N a1) fun _ =>
 if (a0 != a0) = true then (
  if (a1 != a1) = true then (
   some 0
  ) else (
   some (-1)
  )
 ) else (
  if (a1 != a1) = true then (
   some 1
  ) else (
   if (decide (a0 < a1)) = true then (
    some (-1)
   ) else (
    if (decide (a0 > a1)) = true then (
     some 1
    ) else (
     some 0
    )
   )
  )
 )
def m_memory_row_at_1 (N : Nat) (a0 : Int) (a1 : Int) (l2 : List V) (a3 : Int) : Option (Int) :=
 bindO (m_cmp_Compare_int N a0 a3) fun v8 =>
 some v8
def m_slices_BinarySearchFunc_int_L1 (N : Nat) (l0 : List FactD) (a1 : Int) : (Int × Int) → Option ((Int × Int) ⊕ Int) := fun (u1_10, u1_9) =>
 if (decide (u1_9 < u1_10)) = true then (
  gd (-9223372036854775808 ≤ u1_9 + u1_10 ∧ u1_9 + u1_10 ≤ 9223372036854775807) <|
  gd (0 ≤ IntKind.wrap .i64 (Int.fdiv (IntKind.wrap .u64 (u1_9 + u1_10)) (2 ^ (1)))) <|
  bindO (l0[(IntKind.wrap .i64 (Int.fdiv (IntKind.wrap .u64 (u1_9 + u1_10)) (2 ^ (1)))).toNat]?) fun x27 =>
  bindO (m_memory_row_at_1 N x27.id x27.ty x27.args a1) fun v30 =>
  if (decide (v30 < 0)) = true then (
   gd (-9223372036854775808 ≤ (IntKind.wrap .i64 (Int.fdiv (IntKind.wrap .u64 (u1_9 + u1_10)) (2 ^ (1)))) + 1 ∧ (IntKind.wrap .i64 (Int.fdiv (IntKind.wrap .u64 (u1_9 + u1_10)) (2 ^ (1)))) + 1 ≤ 9223372036854775807) <|
   some (.inl (u1_10, (IntKind.wrap .i64 (Int.fdiv (IntKind.wrap .u64 (u1_9 + u1_10)) (2 ^ (1)))) + 1))
  ) else (
   some (.inl (IntKind.wrap .i64 (Int.fdiv (IntKind.wrap .u64 (u1_9 + u1_10)) (2 ^ (1))), u1_9))
  )
 ) else (
  some (.inr u1_9)
 )
def m_slices_BinarySearchFunc_int (N : Nat) (l0 : List FactD) (a1 : Int) : Option (Int × Bool) :=
 bindO (
  iter (m_slices_BinarySearchFunc_int_L1 N l0 a1) N (((l0.length : Nat) : Int), 0)
 ) fun j_1_9 =>
 if (decide (j_1_9 < ((l0.length : Nat) : Int))) = true then (
  gd (0 ≤ j_1_9) <|
  bindO (l0[j_1_9.toNat]?) fun x43 =>
  bindO (m_memory_row_at_1 N x43.id x43.ty x43.args a1) fun v46 =>
  some (j_1_9, v46 == 0)
 ) else (
  some (j_1_9, false)
 )
def m_memory_row_at (N : Nat) (l0 : List FactD) (a1 : Int) (a2 : Int) : Option (Int × Bool) :=
 bindO (m_slices_BinarySearchFunc_int N l0 a2) fun (v11_0, v11_1) =>
 some (v11_0, v11_1)
def m_memory_Memory_Drop (N : Nat) (l0 : List FactD) (a1 : Int) (a2 : Int) : Option (Nat × (List FactD)) :=
 bindO (m_memory_Memory_known N l0 a1) fun _ =>
 if (!(decide (a1 > 0))) = true then (
  some (1, l0)
 ) else (
  bindO (m_memory_row_at N l0 a1 a2) fun (v15_0, v15_1) =>
  if (!v15_1) = true then (
   some (6, l0)
  ) else (
   gd (-9223372036854775808 ≤ v15_0 + 1 ∧ v15_0 + 1 ≤ 9223372036854775807) <|
   gd (0 ≤ v15_0) <|
   gd (v15_0.toNat < l0.length) <|
   some (0, l0.take v15_0.toNat ++ l0.drop (v15_0.toNat + 1))
  )
 )
def m_memory_row_all_L1 (N : Nat) (l0 : List FactD) : (Nat × (List FactD)) → Option ((Nat × (List FactD)) ⊕ (List FactD)) := fun (u1_11, u1_3_l) =>
 if (decide (u1_11 < l0.length)) = true then (
  bindO (l0[u1_11]?) fun x13 =>
  bindO (m_memory_own N x13.id x13.ty x13.args) fun _ =>
  gd (u1_3_l.length + [x13].length ≤ 3518437208883) <|
  gd (u1_11 + 1 ≤ 9223372036854775807) <|
  some (.inl (u1_11 + 1, u1_3_l ++ [x13]))
 ) else (
  some (.inr u1_3_l)
 )
def m_memory_row_all (N : Nat) (l0 : List FactD) (a1 : Int) : Option (List FactD) :=
 bindO (
  iter (m_memory_row_all_L1 N l0) N (0, [])
 ) fun j_1_3_l =>
 some j_1_3_l
def m_memory_Memory_All (N : Nat) (l0 : List FactD) (a1 : Int) : Option (List FactD) :=
 bindO (m_memory_Memory_known N l0 a1) fun _ =>
 if (!(decide (a1 > 0))) = true then (
  some []
 ) else (
  bindO (m_memory_row_all N l0 a1) fun v9 =>
  some v9
 )
def m_memory_Memory_Len (N : Nat) (l0 : List FactD) (a1 : Int) : Option (Nat) :=
 bindO (m_memory_Memory_known N l0 a1) fun _ =>
 if (!(decide (a1 > 0))) = true then (
  some 0
 ) else (
  some l0.length
 )
def m_memory_Memory_Next (N : Nat) (l0 : List FactD) (a1 : Int) : Option (Int) :=
 bindO (m_memory_Memory_known N l0 a1) fun _ =>
 if (!(decide (a1 > 0))) = true then (
  some 0
 ) else (
  some a1
 )
def m_ropewalklaw11_awake_C1 (N : Nat) (v19_0 : Int) (v19_1 : Nat) (v26_0 : Int) (v26_1 : Nat) (v33_0 : Int) (v33_1 : Nat) (v37_0 : Nat) (v42_0 : Int) (v42_1 : Nat) (v47_1 : Nat) (v47_2 : List FactD) (v47_3 : Int) (v51 : List FactD) : Option (Bool) :=
 if (v19_0 == 1) = true then (
  if (v19_1 == 0) = true then (
   if (v26_0 == 2) = true then (
    if (v26_1 == 0) = true then (
     if (v33_0 == 1) = true then (
      if (v33_1 == 7) = true then (
       if (v37_0 == 0) = true then (
        if (v42_0 == 3) = true then (
         if (v42_1 == 0) = true then (
          if (v47_1 == 2) = true then (
           bindO (m_memory_Memory_Drop N v47_2 v47_3 1) fun (v92_0, v92_1) =>
           if (v92_0 == 6) = true then (
            if (v51.length == 2) = true then (
             bindO (v51[0]?) fun x102 =>
             bindO (v51[0]?) fun x104 =>
             if (x104.id == 2) = true then (
              bindO (v51[1]?) fun x109 =>
              bindO (v51[1]?) fun x111 =>
              if (x111.id == 3) = true then (
               bindO (m_memory_Memory_Len N v92_1 v47_3) fun v116 =>
               if (v116 == 2) = true then (
                bindO (m_memory_Memory_Next N v92_1 v47_3) fun v121 =>
                some (v121 == 4)
               ) else (
                some false
               )
              ) else (
               some false
              )
             ) else (
              some false
             )
            ) else (
             some false
            )
           ) else (
            some false
           )
          ) else (
           some false
          )
         ) else (
          some false
         )
        ) else (
         some false
        )
       ) else (
        some false
       )
      ) else (
       some false
      )
     ) else (
      some false
     )
    ) else (
     some false
    )
   ) else (
    some false
   )
  ) else (
   some false
  )
 ) else (
  some false
 )
def m_ropewalklaw11_awake (N : Nat) : Option (Bool) :=
 bindO (m_memory_New N) fun _ =>
 bindO (m_ropewalklaw11_num N 5) fun _ =>
 bindO (m_memory_Memory_Add N [] 1 0 [(⟨1, 5, (⟨#[]⟩ : ByteArray)⟩ : V)]) fun (v19_0, v19_1, v19_2, v19_3) =>
 bindO (m_memory_Memory_Add N v19_2 v19_3 0 [(⟨2, 0, (⟨#[97]⟩ : ByteArray)⟩ : V)]) fun (v26_0, v26_1, v26_2, v26_3) =>
 bindO (m_ropewalklaw11_num N 5) fun _ =>
 bindO (m_memory_Memory_Add N v26_2 v26_3 0 [(⟨1, 5, (⟨#[]⟩ : ByteArray)⟩ : V)]) fun (v33_0, v33_1, v33_2, v33_3) =>
 bindO (m_memory_Memory_Drop N v33_2 v33_3 1) fun (v37_0, v37_1) =>
 bindO (m_ropewalklaw11_num N 5) fun _ =>
 bindO (m_memory_Memory_Add N v37_1 v33_3 0 [(⟨1, 5, (⟨#[]⟩ : ByteArray)⟩ : V)]) fun (v42_0, v42_1, v42_2, v42_3) =>
 bindO (m_memory_Memory_Add N v42_2 v42_3 32 ([] : List V)) fun (v47_0, v47_1, v47_2, v47_3) =>
 bindO (m_memory_Memory_All N v47_2 v47_3) fun v51 =>
 bindO (m_ropewalklaw11_awake_C1 N v19_0 v19_1 v26_0 v26_1 v33_0 v33_1 v37_0 v42_0 v42_1 v47_1 v47_2 v47_3 v51
 ) fun j_1_0 =>
 some j_1_0
def m_ropewalkref11_New (N : Nat) : Option (Unit) :=
 some ()
def m_ropewalkkit_mark (N : Nat) (a0 : Int) (a1 : Int) : Option (Unit) :=
 some ()
def m_ropewalkkit_markValue (N : Nat) (a0 : Int) (a1 : Int) : Option (Unit) :=
 bindO (m_ropewalkkit_mark N a0 a1) fun _ =>
 some ()
def m_ropewalkkit_LentValues_L1 (N : Nat) : (Nat × (List V)) → Option ((Nat × (List V)) ⊕ (List V)) := fun (u1_4, u1_3_l) =>
 if (decide (u1_4 < 12)) = true then (
  bindO (m_ropewalkkit_markValue N 1 ((u1_4 : Nat) : Int)) fun _ =>
  gd (u1_3_l.length + ([(⟨0, (IntKind.wrap .i64 ((IntKind.wrap .i64 (1000003 * (IntKind.wrap .i64 (1 + 7)))) + ((u1_4 : Nat) : Int))), (⟨#[]⟩ : ByteArray)⟩ : V)]).length ≤ 4398046511104) <|
  gd (u1_4 + 1 ≤ 9223372036854775807) <|
  some (.inl (u1_4 + 1, (u1_3_l ++ ([(⟨0, (IntKind.wrap .i64 ((IntKind.wrap .i64 (1000003 * (IntKind.wrap .i64 (1 + 7)))) + ((u1_4 : Nat) : Int))), (⟨#[]⟩ : ByteArray)⟩ : V)]))))
 ) else (
  some (.inr u1_3_l)
 )
def m_ropewalkkit_LentValues (N : Nat) (l0 : List V) : Option (List V) :=
 gd (l0.length + 12 ≤ 9223372036854775807) <|
 gd (l0.length + 12 ≤ 4398046511104) <|
 gd (([] : List V).length + l0.length ≤ 4398046511104) <|
 bindO (
  iter (m_ropewalkkit_LentValues_L1 N) N (0, l0)
 ) fun j_1_3_l =>
 gd (l0.length ≤ j_1_3_l.length) <|
 some j_1_3_l
def m_ropewalkkit_LentFact (N : Nat) (a0 : Int) (a1 : Int) (l2 : List V) : Option (List V) :=
 bindO (m_ropewalkkit_LentValues N l2) fun v5 =>
 some v5
def m_ropewalkkit_markFact (N : Nat) (a0 : Int) (a1 : Int) : Option (Unit) :=
 bindO (m_ropewalkkit_mark N a0 a1) fun _ =>
 some ()
def m_ropewalkkit_LentFacts_L1 (N : Nat) (l0 : List FactD) : (Nat × (List FactDS)) → Option ((Nat × (List FactDS)) ⊕ (List FactDS)) := fun (u1_4, u1_3_l) =>
 if (decide (u1_4 < l0.length)) = true then (
  bindO (l0[u1_4]?) fun x19 =>
  bindO (m_ropewalkkit_LentFact N x19.id x19.ty x19.args) fun v21 =>
  gd (x19.args.length ≤ v21.length) <|
  gd (u1_3_l.length + ([(⟨x19.id, x19.ty, v21.take x19.args.length, v21.drop x19.args.length⟩ : FactDS)]).length ≤ 3518437208883) <|
  gd (u1_4 + 1 ≤ 9223372036854775807) <|
  some (.inl (u1_4 + 1, (u1_3_l ++ [(⟨x19.id, x19.ty, v21.take x19.args.length, v21.drop x19.args.length⟩ : FactDS)])))
 ) else (
  some (.inr u1_3_l)
 )
def m_ropewalkkit_LentFacts_L2 (N : Nat) : (Nat × (List FactDS)) → Option ((Nat × (List FactDS)) ⊕ (List FactDS)) := fun (u2_6, u2_3_l) =>
 if (decide (u2_6 < 12)) = true then (
  bindO (m_ropewalkkit_markFact N 1 ((u2_6 : Nat) : Int)) fun _ =>
  gd (u2_3_l.length + ([(⟨(IntKind.wrap .i64 ((IntKind.wrap .i64 (1000003 * (IntKind.wrap .i64 (1 + 7)))) + ((u2_6 : Nat) : Int))), 0, ([] : List V), []⟩ : FactDS)]).length ≤ 3518437208883) <|
  gd (u2_6 + 1 ≤ 9223372036854775807) <|
  some (.inl (u2_6 + 1, (u2_3_l ++ [(⟨(IntKind.wrap .i64 ((IntKind.wrap .i64 (1000003 * (IntKind.wrap .i64 (1 + 7)))) + ((u2_6 : Nat) : Int))), 0, ([] : List V), []⟩ : FactDS)])))
 ) else (
  some (.inr u2_3_l)
 )
def m_ropewalkkit_LentFacts (N : Nat) (l0 : List FactD) : Option (List FactDS) :=
 gd (l0.length + 12 ≤ 9223372036854775807) <|
 gd (l0.length + 12 ≤ 3518437208883) <|
 bindO (
  iter (m_ropewalkkit_LentFacts_L1 N l0) N (0, [])
 ) fun j_1_3_l =>
 bindO (
  iter (m_ropewalkkit_LentFacts_L2 N) N (0, j_1_3_l)
 ) fun j_2_3_l =>
 gd (l0.length ≤ j_2_3_l.length) <|
 some j_2_3_l
def m_memory_row_says_1_V (N : Nat) (a0 : Int) (a1 : Int) (l2 : List V) (a3 : Int) (l4 : List V) (k5 : Nat) : Option (Bool) :=
 if (a1 == a3) = true then (
  gd (k5 ≤ l4.length) <|
  bindO (m_memory_same N l2 (l4.take k5)) fun v13 =>
  some v13
 ) else (
  some false
 )
def m_slices_IndexFunc_Fact_V_L1 (N : Nat) (l0 : List FactD) (a1 : Int) (l2 : List V) (k3 : Nat) : Nat → Option (Nat ⊕ (Unit ⊕ Int)) := fun u1_8 =>
 if (decide (u1_8 < l0.length)) = true then (
  bindO (l0[u1_8]?) fun x14 =>
  bindO (m_memory_row_says_1_V N x14.id x14.ty x14.args a1 l2 k3) fun v16 =>
  if v16 = true then (
   some (.inr (.inr ((u1_8 : Nat) : Int)))
  ) else (
   gd (u1_8 + 1 ≤ 9223372036854775807) <|
   some (.inl (u1_8 + 1))
  )
 ) else (
  some (.inr (.inl ()))
 )
def m_slices_IndexFunc_Fact_V (N : Nat) (l0 : List FactD) (a1 : Int) (l2 : List V) (k3 : Nat) : Option (Int) :=
 bindS (
  iter (m_slices_IndexFunc_Fact_V_L1 N l0 a1 l2 k3) N 0
 ) fun _ =>
 some (-1)
def m_memory_row_says_V (N : Nat) (l0 : List FactD) (a1 : Int) (a2 : Int) (l3 : List V) (k4 : Nat) : Option (Int) :=
 bindO (m_slices_IndexFunc_Fact_V N l0 a2 l3 k4) fun v12 =>
 some v12
def m_memory_Of_V_C3 (N : Nat) (x28 : FactDS) (u1_7 : Int) (a0 : Int) (u1_6_f0_l : List FactD) : Option (Bool) :=
 if (decide (x28.id ≤ u1_7)) = true then (
  some true
 ) else (
  if (decide (x28.id ≥ a0)) = true then (
   some true
  ) else (
   gd (x28.args.length ≤ (x28.args ++ x28.argsT).length) <|
   bindO (m_memory_may N x28.ty ((x28.args ++ x28.argsT).take x28.args.length)) fun v45 =>
   if (!v45) = true then (
    some true
   ) else (
    bindO (m_memory_row_says_V N u1_6_f0_l a0 x28.ty (x28.args ++ x28.argsT) x28.args.length) fun v56 =>
    some (decide (v56 ≥ 0))
   )
  )
 )
def m_memory_Of_V_L1 (N : Nat) (k2 : Nat) (l1 : List FactDS) (a0 : Int) : (Nat × Int × (List FactD)) → Option ((Nat × Int × (List FactD)) ⊕ ((List FactD) ⊕ (Unit ⊕ (List FactD)))) := fun (u1_26, u1_7, u1_6_f0_l) =>
 if (decide (u1_26 < k2)) = true then (
  bindO (l1[u1_26]?) fun x28 =>
  gd (u1_26 < k2) <|
  bindO (m_memory_Of_V_C3 N x28 u1_7 a0 u1_6_f0_l
  ) fun j_3_58 =>
  if j_3_58 = true then (
   some (.inr (.inr (.inl ())))
  ) else (
   gd (x28.args.length ≤ (x28.args ++ x28.argsT).length) <|
   bindO (m_memory_own N x28.id x28.ty ((x28.args ++ x28.argsT).take x28.args.length)) fun _ =>
   gd (u1_6_f0_l.length + ([(⟨x28.id, x28.ty, (x28.args ++ x28.argsT).take x28.args.length⟩ : FactD)]).length ≤ 3518437208883) <|
   gd (u1_26 + 1 ≤ 9223372036854775807) <|
   some (.inl (u1_26 + 1, x28.id, (u1_6_f0_l ++ ([(⟨x28.id, x28.ty, (x28.args ++ x28.argsT).take x28.args.length⟩ : FactD)]))))
  )
 ) else (
  some (.inr (.inl u1_6_f0_l))
 )
def m_memory_Of_V (N : Nat) (a0 : Int) (l1 : List FactDS) (k2 : Nat) : Option (Unit ⊕ (List FactD)) :=
 bindO (
  if (decide (a0 < 1)) = true then (
   some true
  ) else (
   if (decide (a0 > 1099511627777)) = true then (
    some true
   ) else (
    some (decide (256 < k2))
   )
  )
 ) fun j_1_20 =>
 if j_1_20 = true then (
  some (.inl ())
 ) else (
  bindS (
   iter (m_memory_Of_V_L1 N k2 l1 a0) N (0, 0, [])
  ) fun j_2_6_f0_l =>
  some (.inr j_2_6_f0_l)
 )
def m_ropewalkref01_Named_C3 (N : Nat) (j_2_5 : Bool) (u1_3 : Nat) (x14 : UInt8) : Option (Bool) :=
 if (!j_2_5) = true then (
  if (u1_3 == 0) = true then (
   some true
  ) else (
   if (decide (48 ≤ x14.toNat)) = true then (
    if (decide (x14.toNat ≤ 57)) = true then (
     some false
    ) else (
     some (!(x14.toNat == 95))
    )
   ) else (
    some (!(x14.toNat == 95))
   )
  )
 ) else (
  some false
 )
def m_ropewalkref01_Named_L1 (N : Nat) (a0 : ByteArray) : Nat → Option (Nat ⊕ (Unit ⊕ Bool)) := fun u1_3 =>
 if (decide (u1_3 < a0.size)) = true then (
  bindO (a0[u1_3]?) fun x14 =>
  bindO (
   if (decide (97 ≤ x14.toNat)) = true then (
    some (decide (x14.toNat ≤ 122))
   ) else (
    some false
   )
  ) fun j_2_5 =>
  bindO (m_ropewalkref01_Named_C3 N j_2_5 u1_3 x14
  ) fun j_3_39 =>
  if j_3_39 = true then (
   some (.inr (.inr false))
  ) else (
   gd (u1_3 + 1 ≤ 9223372036854775807) <|
   some (.inl (u1_3 + 1))
  )
 ) else (
  some (.inr (.inl ()))
 )
def m_ropewalkref01_Named (N : Nat) (a0 : ByteArray) : Option (Bool) :=
 bindS (
  iter (m_ropewalkref01_Named_L1 N a0) N 0
 ) fun _ =>
 if (decide (1 ≤ a0.size)) = true then (
  some (decide (a0.size ≤ 24))
 ) else (
  some false
 )
def m_ropewalkref01_Right (N : Nat) (a0 : Int) (a1 : Int) (a2 : ByteArray) : Option (Bool) :=
 if (a0 == 1) = true then (
  some (a2.toList == (⟨#[]⟩ : ByteArray).toList)
 ) else (
  if (a0 == 2) = true then (
   if (a1 == 0) = true then (
    bindO (m_ropewalkref01_Named N a2) fun v20 =>
    some v20
   ) else (
    some false
   )
  ) else (
   some false
  )
 )
def m_ropewalkref11_May_L1 (N : Nat) (l1 : List V) : Nat → Option (Nat ⊕ (Unit ⊕ Bool)) := fun u1_5 =>
 if (decide (u1_5 < l1.length)) = true then (
  bindO (l1[u1_5]?) fun x25 =>
  bindO (m_ropewalkref01_Right N x25.k x25.n x25.s) fun v27 =>
  if (!v27) = true then (
   some (.inr (.inr false))
  ) else (
   gd (u1_5 + 1 ≤ 9223372036854775807) <|
   some (.inl (u1_5 + 1))
  )
 ) else (
  some (.inr (.inl ()))
 )
def m_ropewalkref11_May (N : Nat) (a0 : Int) (l1 : List V) : Option (Bool) :=
 bindO (
  if (decide (a0 < 0)) = true then (
   some true
  ) else (
   if (decide (a0 ≥ 32)) = true then (
    some true
   ) else (
    some (decide (6 < l1.length))
   )
  )
 ) fun j_1_16 =>
 if j_1_16 = true then (
  some false
 ) else (
  bindS (
   iter (m_ropewalkref11_May_L1 N l1) N 0
  ) fun _ =>
  some true
 )
def m_ropewalkkit_SameValues_L1 (N : Nat) (l0 : List V) (l1 : List V) : Nat → Option (Nat ⊕ (Unit ⊕ Bool)) := fun u1_5 =>
 if (decide (u1_5 < l0.length)) = true then (
  bindO (l0[u1_5]?) fun x19 =>
  bindO (l1[u1_5]?) fun x23 =>
  if (!decide (x19 = x23)) = true then (
   some (.inr (.inr false))
  ) else (
   gd (u1_5 + 1 ≤ 9223372036854775807) <|
   some (.inl (u1_5 + 1))
  )
 ) else (
  some (.inr (.inl ()))
 )
def m_ropewalkkit_SameValues (N : Nat) (l0 : List V) (l1 : List V) : Option (Bool) :=
 if (l0.length != l1.length) = true then (
  some false
 ) else (
  bindS (
   iter (m_ropewalkkit_SameValues_L1 N l0 l1) N 0
  ) fun _ =>
  some true
 )
def m_ropewalkref11_place_L1 (N : Nat) (l0 : List FactD) (a1 : Int) (l2 : List V) : Nat → Option (Nat ⊕ (Unit ⊕ Int)) := fun u1_7 =>
 if (decide (u1_7 < l0.length)) = true then (
  bindO (
   bindO (l0[u1_7]?) fun x16 =>
   if (x16.ty == a1) = true then (
    bindO (l0[u1_7]?) fun x24 =>
    bindO (m_ropewalkkit_SameValues N x24.args l2) fun v28 =>
    some v28
   ) else (
    some false
   )
  ) fun j_2_29 =>
  if j_2_29 = true then (
   some (.inr (.inr ((u1_7 : Nat) : Int)))
  ) else (
   gd (u1_7 + 1 ≤ 9223372036854775807) <|
   some (.inl (u1_7 + 1))
  )
 ) else (
  some (.inr (.inl ()))
 )
def m_ropewalkref11_place (N : Nat) (l0 : List FactD) (a1 : Int) (l2 : List V) : Option (Int) :=
 bindS (
  iter (m_ropewalkref11_place_L1 N l0 a1 l2) N 0
 ) fun _ =>
 some (-1)
def m_ropewalkkit_CopyValues (N : Nat) (l0 : List V) : Option (Unit) :=
 gd (([] : List V).length + l0.length ≤ 4398046511104) <|
 some ()
def m_ropewalkkit_CopyFact (N : Nat) (a0 : Int) (a1 : Int) (l2 : List V) : Option (Unit) :=
 bindO (m_ropewalkkit_CopyValues N l2) fun _ =>
 some ()
def m_ropewalkkit_CopyFacts_L1 (N : Nat) (l0 : List FactD) : (Nat × (List FactD)) → Option ((Nat × (List FactD)) ⊕ (List FactD)) := fun (u1_4, u1_3_l) =>
 if (decide (u1_4 < l0.length)) = true then (
  bindO (l0[u1_4]?) fun x14 =>
  bindO (m_ropewalkkit_CopyFact N x14.id x14.ty x14.args) fun _ =>
  gd (u1_3_l.length + [x14].length ≤ 3518437208883) <|
  gd (u1_4 + 1 ≤ 9223372036854775807) <|
  some (.inl (u1_4 + 1, u1_3_l ++ [x14]))
 ) else (
  some (.inr u1_3_l)
 )
def m_ropewalkkit_CopyFacts (N : Nat) (l0 : List FactD) : Option (List FactD) :=
 bindO (
  iter (m_ropewalkkit_CopyFacts_L1 N l0) N (0, [])
 ) fun j_1_3_l =>
 some j_1_3_l
def m_ropewalkref11_Of_C3 (N : Nat) (l1 : List FactD) (u1_7 : Nat) (u1_6 : Int) (a0 : Int) : Option (Bool) :=
 bindO (l1[u1_7]?) fun x27 =>
 if (decide (x27.id ≤ u1_6)) = true then (
  some true
 ) else (
  bindO (l1[u1_7]?) fun x35 =>
  if (decide (x35.id ≥ a0)) = true then (
   some true
  ) else (
   bindO (l1[u1_7]?) fun x44 =>
   bindO (l1[u1_7]?) fun x49 =>
   bindO (m_ropewalkref11_May N x44.ty x49.args) fun v52 =>
   if (!v52) = true then (
    some true
   ) else (
    gd (u1_7 ≤ l1.length) <|
    bindO (l1[u1_7]?) fun x61 =>
    bindO (l1[u1_7]?) fun x66 =>
    bindO (m_ropewalkref11_place N (l1.take u1_7) x61.ty x66.args) fun v69 =>
    some (decide (v69 ≥ 0))
   )
  )
 )
def m_ropewalkref11_Of_L1 (N : Nat) (l1 : List FactD) (a0 : Int) : (Nat × Int) → Option ((Nat × Int) ⊕ (Unit ⊕ (Unit ⊕ (List FactD)))) := fun (u1_7, u1_6) =>
 if (decide (u1_7 < l1.length)) = true then (
  bindO (m_ropewalkref11_Of_C3 N l1 u1_7 u1_6 a0
  ) fun j_3_71 =>
  if j_3_71 = true then (
   some (.inr (.inr (.inl ())))
  ) else (
   bindO (l1[u1_7]?) fun x74 =>
   gd (u1_7 + 1 ≤ 9223372036854775807) <|
   some (.inl (u1_7 + 1, x74.id))
  )
 ) else (
  some (.inr (.inl ()))
 )
def m_ropewalkref11_Of (N : Nat) (a0 : Int) (l1 : List FactD) : Option (Unit ⊕ (List FactD)) :=
 bindO (
  if (decide (a0 < 1)) = true then (
   some true
  ) else (
   if (decide (a0 > 1099511627777)) = true then (
    some true
   ) else (
    some (decide (256 < l1.length))
   )
  )
 ) fun j_1_18 =>
 if j_1_18 = true then (
  some (.inl ())
 ) else (
  bindS (
   iter (m_ropewalkref11_Of_L1 N l1 a0) N (0, 0)
  ) fun _ =>
  bindO (m_ropewalkkit_CopyFacts N l1) fun v78 =>
  some (.inr v78)
 )
def m_ropewalkkit_SameValues_W_L1 (N : Nat) (k1 : Nat) (l0 : List V) (l2 : List V) : Nat → Option (Nat ⊕ (Unit ⊕ Bool)) := fun u1_5 =>
 if (decide (u1_5 < k1)) = true then (
  gd (u1_5 < k1) <|
  bindO (l0[u1_5]?) fun x19 =>
  bindO (l2[u1_5]?) fun x23 =>
  if (!decide (x19 = x23)) = true then (
   some (.inr (.inr false))
  ) else (
   gd (u1_5 + 1 ≤ 9223372036854775807) <|
   some (.inl (u1_5 + 1))
  )
 ) else (
  some (.inr (.inl ()))
 )
def m_ropewalkkit_SameValues_W (N : Nat) (l0 : List V) (k1 : Nat) (l2 : List V) : Option (Bool) :=
 if (k1 != l2.length) = true then (
  some false
 ) else (
  bindS (
   iter (m_ropewalkkit_SameValues_W_L1 N k1 l0 l2) N 0
  ) fun _ =>
  some true
 )
def m_ropewalkkit_SameFact_W (N : Nat) (a0 : Int) (a1 : Int) (l2 : List V) (k3 : Nat) (a4 : Int) (a5 : Int) (l6 : List V) : Option (Bool) :=
 if (a0 == a4) = true then (
  if (a1 == a5) = true then (
   bindO (m_ropewalkkit_SameValues_W N l2 k3 l6) fun v22 =>
   some v22
  ) else (
   some false
  )
 ) else (
  some false
 )
def m_ropewalkkit_KeptValues_W_C2 (N : Nat) (u1_6 : Nat) (l2 : List V) (l0 : List V) : Option (Bool) :=
 if (decide (u1_6 < l2.length)) = true then (
  bindO ((l0.take (l2.length + 12))[u1_6]?) fun x30 =>
  bindO (l2[u1_6]?) fun x34 =>
  if (!(decide (x30 = x34))) = true then (
   some true
  ) else (
   if (decide (l2.length ≤ u1_6)) = true then (
    bindO ((l0.take (l2.length + 12))[u1_6]?) fun x47 =>
    gd (-9223372036854775808 ≤ ((u1_6 : Nat) : Int) - ((l2.length : Nat) : Int) ∧ ((u1_6 : Nat) : Int) - ((l2.length : Nat) : Int) ≤ 9223372036854775807) <|
    bindO (m_ropewalkkit_markValue N 1 (((u1_6 : Nat) : Int) - ((l2.length : Nat) : Int))) fun _ =>
    some (!(decide (x47 = (⟨0, IntKind.wrap .i64 ((IntKind.wrap .i64 (1000003 * (IntKind.wrap .i64 (1 + 7)))) + (((u1_6 : Nat) : Int) - ((l2.length : Nat) : Int))), (⟨#[]⟩ : ByteArray)⟩ : V))))
   ) else (
    some false
   )
  )
 ) else (
  if (decide (l2.length ≤ u1_6)) = true then (
   bindO ((l0.take (l2.length + 12))[u1_6]?) fun x47 =>
   gd (-9223372036854775808 ≤ ((u1_6 : Nat) : Int) - ((l2.length : Nat) : Int) ∧ ((u1_6 : Nat) : Int) - ((l2.length : Nat) : Int) ≤ 9223372036854775807) <|
   bindO (m_ropewalkkit_markValue N 1 (((u1_6 : Nat) : Int) - ((l2.length : Nat) : Int))) fun _ =>
   some (!(decide (x47 = (⟨0, IntKind.wrap .i64 ((IntKind.wrap .i64 (1000003 * (IntKind.wrap .i64 (1 + 7)))) + (((u1_6 : Nat) : Int) - ((l2.length : Nat) : Int))), (⟨#[]⟩ : ByteArray)⟩ : V))))
  ) else (
   some false
  )
 )
def m_ropewalkkit_KeptValues_W_L1 (N : Nat) (l0 : List V) (l2 : List V) : Nat → Option (Nat ⊕ (Unit ⊕ Bool)) := fun u1_6 =>
 if (decide (u1_6 < ((l0.take (l2.length + 12)).length))) = true then (
  bindO (m_ropewalkkit_KeptValues_W_C2 N u1_6 l2 l0
  ) fun j_2_57 =>
  if j_2_57 = true then (
   some (.inr (.inr false))
  ) else (
   gd (u1_6 + 1 ≤ 9223372036854775807) <|
   some (.inl (u1_6 + 1))
  )
 ) else (
  some (.inr (.inl ()))
 )
def m_ropewalkkit_KeptValues_W (N : Nat) (l0 : List V) (k1 : Nat) (l2 : List V) : Option (Bool) :=
 if (k1 != l2.length) = true then (
  some false
 ) else (
  gd (l2.length + 12 ≤ 9223372036854775807) <|
  gd (l2.length + 12 ≤ l0.length) <|
  bindS (
   iter (m_ropewalkkit_KeptValues_W_L1 N l0 l2) N 0
  ) fun _ =>
  some true
 )
def m_ropewalkkit_KeptFact_W (N : Nat) (a0 : Int) (a1 : Int) (l2 : List V) (k3 : Nat) (a4 : Int) (a5 : Int) (l6 : List V) : Option (Bool) :=
 bindO (m_ropewalkkit_SameFact_W N a0 a1 l2 k3 a4 a5 l6) fun v7 =>
 if v7 = true then (
  bindO (m_ropewalkkit_KeptValues_W N l2 k3 l6) fun v13 =>
  some v13
 ) else (
  some false
 )
def m_ropewalkkit_KeptFacts_W_C2 (N : Nat) (u1_6 : Nat) (l2 : List FactD) (l0 : List FactDS) : Option (Bool) :=
 if (decide (u1_6 < l2.length)) = true then (
  bindO ((l0.take (l2.length + 12))[u1_6]?) fun x30 =>
  bindO (l2[u1_6]?) fun x34 =>
  bindO (m_ropewalkkit_KeptFact_W N x30.id x30.ty (x30.args ++ x30.argsT) x30.args.length x34.id x34.ty x34.args) fun v36 =>
  if (!v36) = true then (
   some true
  ) else (
   if (decide (l2.length ≤ u1_6)) = true then (
    bindO ((l0.take (l2.length + 12))[u1_6]?) fun x47 =>
    gd (-9223372036854775808 ≤ ((u1_6 : Nat) : Int) - ((l2.length : Nat) : Int) ∧ ((u1_6 : Nat) : Int) - ((l2.length : Nat) : Int) ≤ 9223372036854775807) <|
    bindO (m_ropewalkkit_markFact N 1 (((u1_6 : Nat) : Int) - ((l2.length : Nat) : Int))) fun _ =>
    bindO (m_ropewalkkit_SameFact_W N x47.id x47.ty (x47.args ++ x47.argsT) x47.args.length (IntKind.wrap .i64 ((IntKind.wrap .i64 (1000003 * (IntKind.wrap .i64 (1 + 7)))) + (((u1_6 : Nat) : Int) - ((l2.length : Nat) : Int)))) 0 ([] : List V)) fun v54 =>
    some (!v54)
   ) else (
    some false
   )
  )
 ) else (
  if (decide (l2.length ≤ u1_6)) = true then (
   bindO ((l0.take (l2.length + 12))[u1_6]?) fun x47 =>
   gd (-9223372036854775808 ≤ ((u1_6 : Nat) : Int) - ((l2.length : Nat) : Int) ∧ ((u1_6 : Nat) : Int) - ((l2.length : Nat) : Int) ≤ 9223372036854775807) <|
   bindO (m_ropewalkkit_markFact N 1 (((u1_6 : Nat) : Int) - ((l2.length : Nat) : Int))) fun _ =>
   bindO (m_ropewalkkit_SameFact_W N x47.id x47.ty (x47.args ++ x47.argsT) x47.args.length (IntKind.wrap .i64 ((IntKind.wrap .i64 (1000003 * (IntKind.wrap .i64 (1 + 7)))) + (((u1_6 : Nat) : Int) - ((l2.length : Nat) : Int)))) 0 ([] : List V)) fun v54 =>
   some (!v54)
  ) else (
   some false
  )
 )
def m_ropewalkkit_KeptFacts_W_L1 (N : Nat) (l0 : List FactDS) (l2 : List FactD) : Nat → Option (Nat ⊕ (Unit ⊕ Bool)) := fun u1_6 =>
 if (decide (u1_6 < ((l0.take (l2.length + 12)).length))) = true then (
  bindO (m_ropewalkkit_KeptFacts_W_C2 N u1_6 l2 l0
  ) fun j_2_57 =>
  if j_2_57 = true then (
   some (.inr (.inr false))
  ) else (
   gd (u1_6 + 1 ≤ 9223372036854775807) <|
   some (.inl (u1_6 + 1))
  )
 ) else (
  some (.inr (.inl ()))
 )
def m_ropewalkkit_KeptFacts_W (N : Nat) (l0 : List FactDS) (k1 : Nat) (l2 : List FactD) : Option (Bool) :=
 if (k1 != l2.length) = true then (
  some false
 ) else (
  gd (l2.length + 12 ≤ 9223372036854775807) <|
  gd (l2.length + 12 ≤ l0.length) <|
  bindS (
   iter (m_ropewalkkit_KeptFacts_W_L1 N l0 l2) N 0
  ) fun _ =>
  some true
 )
def m_ropewalkkit_OverValues_V_L1 (N : Nat) (k1 : Nat) : (Nat × (List V)) → Option ((Nat × (List V)) ⊕ (List V)) := fun (u1_3, u1_2_l) =>
 if (decide (u1_3 < (k1 + 12))) = true then (
  bindO (m_ropewalkkit_markValue N 2 ((u1_3 : Nat) : Int)) fun _ =>
  bindO (u1_2_l[u1_3]?) fun x19 =>
  gd (u1_3 < k1 + 12) <|
  gd (u1_3 + 1 ≤ 9223372036854775807) <|
  some (.inl (u1_3 + 1, (u1_2_l.set u1_3 (⟨0, (IntKind.wrap .i64 ((IntKind.wrap .i64 (1000003 * (IntKind.wrap .i64 (2 + 7)))) + ((u1_3 : Nat) : Int))), (⟨#[]⟩ : ByteArray)⟩ : V))))
 ) else (
  some (.inr u1_2_l)
 )
def m_ropewalkkit_OverValues_V (N : Nat) (l0 : List V) (k1 : Nat) : Option (List V) :=
 gd (k1 + 12 ≤ 9223372036854775807) <|
 gd (k1 + 12 ≤ l0.length) <|
 iter (m_ropewalkkit_OverValues_V_L1 N k1) N (0, l0)
def m_ropewalkkit_OverFact_V (N : Nat) (a0 : Int) (a1 : Int) (l2 : List V) (k3 : Nat) : Option (List V) :=
 bindO (m_ropewalkkit_OverValues_V N l2 k3) fun v4 =>
 some v4
def m_ropewalkkit_OverFacts_V_L1 (N : Nat) (k1 : Nat) : (Nat × (List FactDS)) → Option ((Nat × (List FactDS)) ⊕ (List FactDS)) := fun (u1_2, u1_0_l) =>
 if (decide (u1_2 < k1)) = true then (
  bindO (u1_0_l[u1_2]?) fun x13 =>
  gd (u1_2 < k1) <|
  bindO (m_ropewalkkit_OverFact_V N x13.id x13.ty (x13.args ++ x13.argsT) x13.args.length) fun v15 =>
  gd (u1_2 + 1 ≤ 9223372036854775807) <|
  some (.inl (u1_2 + 1, (u1_0_l.set u1_2 (⟨x13.id, x13.ty, v15.take x13.args.length, v15.drop x13.args.length⟩ : FactDS))))
 ) else (
  some (.inr u1_0_l)
 )
def m_ropewalkkit_OverFacts_V_L2 (N : Nat) (k1 : Nat) : (Nat × (List FactDS)) → Option ((Nat × (List FactDS)) ⊕ (List FactDS)) := fun (u2_4, u2_3_l) =>
 if (decide (u2_4 < (k1 + 12))) = true then (
  bindO (m_ropewalkkit_markFact N 2 ((u2_4 : Nat) : Int)) fun _ =>
  bindO (u2_3_l[u2_4]?) fun x31 =>
  gd (u2_4 < k1 + 12) <|
  gd (u2_4 + 1 ≤ 9223372036854775807) <|
  some (.inl (u2_4 + 1, (u2_3_l.set u2_4 (⟨(IntKind.wrap .i64 ((IntKind.wrap .i64 (1000003 * (IntKind.wrap .i64 (2 + 7)))) + ((u2_4 : Nat) : Int))), 0, ([] : List V), []⟩ : FactDS))))
 ) else (
  some (.inr u2_3_l)
 )
def m_ropewalkkit_OverFacts_V (N : Nat) (l0 : List FactDS) (k1 : Nat) : Option (List FactDS) :=
 bindO (
  iter (m_ropewalkkit_OverFacts_V_L1 N k1) N (0, l0)
 ) fun j_1_0_l =>
 gd (k1 + 12 ≤ 9223372036854775807) <|
 gd (k1 + 12 ≤ j_1_0_l.length) <|
 iter (m_ropewalkkit_OverFacts_V_L2 N k1) N (0, j_1_0_l)
def m_ropewalkkit_Pick (N : Nat) (a0 : Int) (a1 : Int) : Option (Int) :=
 if (decide (a1 < 1)) = true then (
  some 0
 ) else (
  gd (a1 ≠ 0) <|
  bindO (
   if (decide ((Int.tmod a0 a1) < 0)) = true then (
    gd (-9223372036854775808 ≤ (Int.tmod a0 a1) + a1 ∧ (Int.tmod a0 a1) + a1 ≤ 9223372036854775807) <|
    some ((Int.tmod a0 a1) + a1)
   ) else (
    some (Int.tmod a0 a1)
   )
  ) fun j_1_0 =>
  some j_1_0
 )
def m_memory_Memory_Add_V (N : Nat) (l0 : List FactD) (a1 : Int) (a2 : Int) (l3 : List V) (k4 : Nat) : Option (Int × Nat × (List FactD) × Int) :=
 bindO (m_memory_Memory_known N l0 a1) fun _ =>
 if (!(decide (a1 > 0))) = true then (
  some (0, 1, l0, a1)
 ) else (
  gd (k4 ≤ l3.length) <|
  bindO (m_memory_may N a2 (l3.take k4)) fun v16 =>
  if (!v16) = true then (
   some (0, 2, l0, a1)
  ) else (
   bindO (m_memory_row_says_V N l0 a1 a2 l3 k4) fun v23 =>
   if (decide (v23 ≥ 0)) = true then (
    gd (0 ≤ v23) <|
    bindO (l0[v23.toNat]?) fun x32 =>
    some (x32.id, 7, l0, a1)
   ) else (
    bindO (
     if (decide (256 ≤ l0.length)) = true then (
      some true
     ) else (
      some (decide (a1 > 1099511627776))
     )
    ) fun j_1_48 =>
    if j_1_48 = true then (
     some (0, 5, l0, a1)
    ) else (
     gd (k4 ≤ l3.length) <|
     bindO (m_memory_own N a1 a2 (l3.take k4)) fun _ =>
     gd (l0.length + ([(⟨a1, a2, l3.take k4⟩ : FactD)]).length ≤ 3518437208883) <|
     gd (-9223372036854775808 ≤ a1 + 1 ∧ a1 + 1 ≤ 9223372036854775807) <|
     gd (-9223372036854775808 ≤ (a1 + 1) - 1 ∧ (a1 + 1) - 1 ≤ 9223372036854775807) <|
     some ((a1 + 1) - 1, 0, (l0 ++ ([(⟨a1, a2, l3.take k4⟩ : FactD)])), a1 + 1)
    )
   )
  )
 )
def m_ropewalkref11_Memory_Add (N : Nat) (l0 : List FactD) (a1 : Int) (a2 : Int) (l3 : List V) : Option (Int × Nat × (List FactD) × Int) :=
 bindO (m_ropewalkref11_May N a2 l3) fun v11 =>
 if (!v11) = true then (
  some (0, 2, l0, a1)
 ) else (
  bindO (m_ropewalkref11_place N l0 a2 l3) fun v19 =>
  if (decide (v19 ≥ 0)) = true then (
   gd (0 ≤ v19) <|
   bindO (l0[v19.toNat]?) fun x27 =>
   some (x27.id, 7, l0, a1)
  ) else (
   bindO (
    if (decide (256 ≤ l0.length)) = true then (
     some true
    ) else (
     some (decide (a1 > 1099511627776))
    )
   ) fun j_1_42 =>
   if j_1_42 = true then (
    some (0, 5, l0, a1)
   ) else (
    bindO (m_ropewalkkit_CopyFacts N l0) fun v48 =>
    bindO (m_ropewalkkit_CopyValues N l3) fun _ =>
    gd (v48.length + ([(⟨a1, a2, l3⟩ : FactD)]).length ≤ 3518437208883) <|
    gd (-9223372036854775808 ≤ a1 + 1 ∧ a1 + 1 ≤ 9223372036854775807) <|
    gd (-9223372036854775808 ≤ (a1 + 1) - 1 ∧ (a1 + 1) - 1 ≤ 9223372036854775807) <|
    some ((a1 + 1) - 1, 0, (v48 ++ [(⟨a1, a2, l3⟩ : FactD)]), a1 + 1)
   )
  )
 )
def m_ropewalkref11_Memory_at_L1 (N : Nat) (l0 : List FactD) (a2 : Int) : Nat → Option (Nat ⊕ (Unit ⊕ Int)) := fun u1_5 =>
 if (decide (u1_5 < l0.length)) = true then (
  bindO (l0[u1_5]?) fun x20 =>
  if (x20.id == a2) = true then (
   some (.inr (.inr ((u1_5 : Nat) : Int)))
  ) else (
   gd (u1_5 + 1 ≤ 9223372036854775807) <|
   some (.inl (u1_5 + 1))
  )
 ) else (
  some (.inr (.inl ()))
 )
def m_ropewalkref11_Memory_at (N : Nat) (l0 : List FactD) (a1 : Int) (a2 : Int) : Option (Int) :=
 bindS (
  iter (m_ropewalkref11_Memory_at_L1 N l0 a2) N 0
 ) fun _ =>
 some (-1)
def m_ropewalkref11_Memory_Drop (N : Nat) (l0 : List FactD) (a1 : Int) (a2 : Int) : Option (Nat × (List FactD)) :=
 bindO (m_ropewalkref11_Memory_at N l0 a1 a2) fun v9 =>
 if (decide (v9 < 0)) = true then (
  some (6, l0)
 ) else (
  gd (0 ≤ v9) <|
  gd (v9.toNat ≤ l0.length) <|
  bindO (m_ropewalkkit_CopyFacts N (l0.take v9.toNat)) fun v18 =>
  gd (-9223372036854775808 ≤ v9 + 1 ∧ v9 + 1 ≤ 9223372036854775807) <|
  gd (0 ≤ v9 + 1) <|
  gd ((v9 + 1).toNat ≤ l0.length) <|
  gd (v18.length + (l0.drop ((v9 + 1).toNat)).length ≤ 3518437208883) <|
  some (0, v18 ++ (l0.drop ((v9 + 1).toNat)))
 )
def m_memory_Memory_Find_V (N : Nat) (l0 : List FactD) (a1 : Int) (a2 : Int) (l3 : List V) (k4 : Nat) : Option (Int × Bool) :=
 bindO (m_memory_Memory_known N l0 a1) fun _ =>
 if (!(decide (a1 > 0))) = true then (
  some (0, false)
 ) else (
  bindO (m_memory_row_says_V N l0 a1 a2 l3 k4) fun v17 =>
  if (decide (v17 < 0)) = true then (
   some (0, false)
  ) else (
   gd (0 ≤ v17) <|
   bindO (l0[v17.toNat]?) fun x26 =>
   some (x26.id, true)
  )
 )
def m_ropewalkref11_Memory_Find (N : Nat) (l0 : List FactD) (a1 : Int) (a2 : Int) (l3 : List V) : Option (Int × Bool) :=
 bindO (m_ropewalkref11_place N l0 a2 l3) fun v15 =>
 if (decide (v15 < 0)) = true then (
  some (0, false)
 ) else (
  gd (0 ≤ v15) <|
  bindO (l0[v15.toNat]?) fun x23 =>
  some (x23.id, true)
 )
def m_memory_Memory_Get (N : Nat) (l0 : List FactD) (a1 : Int) (a2 : Int) : Option (Int × Int × (List V) × Bool) :=
 bindO (m_memory_Memory_known N l0 a1) fun _ =>
 if (!(decide (a1 > 0))) = true then (
  some (0, 0, [], false)
 ) else (
  bindO (m_memory_row_at N l0 a1 a2) fun (v17_0, v17_1) =>
  if (!v17_1) = true then (
   some (0, 0, [], false)
  ) else (
   gd (0 ≤ v17_0) <|
   bindO (l0[v17_0.toNat]?) fun x29 =>
   bindO (m_memory_own N x29.id x29.ty x29.args) fun _ =>
   some (x29.id, x29.ty, x29.args, true)
  )
 )
def m_ropewalkref11_Memory_Get (N : Nat) (l0 : List FactD) (a1 : Int) (a2 : Int) : Option (Int × Int × (List V) × Bool) :=
 bindO (m_ropewalkref11_Memory_at N l0 a1 a2) fun v9 =>
 if (decide (v9 < 0)) = true then (
  some (0, 0, [], false)
 ) else (
  gd (0 ≤ v9) <|
  bindO (l0[v9.toNat]?) fun x18 =>
  some (x18.id, x18.ty, x18.args, true)
 )
def m_ropewalkkit_SameFact (N : Nat) (a0 : Int) (a1 : Int) (l2 : List V) (a3 : Int) (a4 : Int) (l5 : List V) : Option (Bool) :=
 if (a0 == a3) = true then (
  if (a1 == a4) = true then (
   bindO (m_ropewalkkit_SameValues N l2 l5) fun v22 =>
   some v22
  ) else (
   some false
  )
 ) else (
  some false
 )
def m_ropewalkkit_SameFact_n (N : Nat) (a0 : Int) (a1 : Int) (a2 : Int) (a3 : Int) : Option (Bool) :=
 if (a0 == a2) = true then (
  if (a1 == a3) = true then (
   bindO (m_ropewalkkit_SameValues N ([] : List V) ([] : List V)) fun v22 =>
   some v22
  ) else (
   some false
  )
 ) else (
  some false
 )
def m_ropewalklaw11_step_C1 (N : Nat) (a4 : Int) (l0 : List FactD) (a1 : Int) (a6 : Int) (v25 : List V) (l7 : List V) (l2 : List FactD) (a3 : Int) (a5 : Int) : Option (Bool × (List FactD) × Int × (List FactD) × Int) :=
 bindO (m_ropewalkkit_Pick N a4 6) fun v28 =>
 bindO (
  if (v28 == 0) = true then (
   some (v28 == 0)
  ) else (
   if (v28 == 1) = true then (
    some (v28 == 1)
   ) else (
    some (v28 == 2)
   )
  )
 ) fun j_2_66 =>
 if j_2_66 = true then (
  bindO (m_memory_Memory_Add_V N l0 a1 a6 v25 l7.length) fun (v75_0, v75_1, v75_2, v75_3) =>
  bindO (m_ropewalkref11_Memory_Add N l2 a3 a6 l7) fun (v84_0, v84_1, v84_2, v84_3) =>
  if (v75_0 == v84_0) = true then (
   some (v75_1 == v84_1, v75_2, v75_3, v84_2, v84_3)
  ) else (
   some (false, v75_2, v75_3, v84_2, v84_3)
  )
 ) else (
  if (v28 == 3) = true then (
   bindO (m_memory_Memory_Drop N l0 a1 a5) fun (v100_0, v100_1) =>
   bindO (m_ropewalkref11_Memory_Drop N l2 a3 a5) fun (v104_0, v104_1) =>
   some (v100_0 == v104_0, v100_1, a1, v104_1, a3)
  ) else (
   if (v28 == 4) = true then (
    bindO (m_memory_Memory_Find_V N l0 a1 a6 v25 l7.length) fun (v113_0, v113_1) =>
    bindO (m_ropewalkref11_Memory_Find N l2 a3 a6 l7) fun (v122_0, v122_1) =>
    if (v113_0 == v122_0) = true then (
     some (v113_1 == v122_1, l0, a1, l2, a3)
    ) else (
     some (false, l0, a1, l2, a3)
    )
   ) else (
    bindO (m_memory_Memory_Get N l0 a1 a5) fun (v33_0, v33_1, v33_2, v33_3) =>
    bindO (m_ropewalkref11_Memory_Get N l2 a3 a5) fun (v40_0, v40_1, v40_2, v40_3) =>
    bindO (m_memory_Memory_Get N l0 a1 a5) fun (v47_0, v47_1, v47_2, v47_3) =>
    if (v33_3 == v40_3) = true then (
     bindO (m_ropewalkkit_SameFact N v33_0 v33_1 v33_2 v40_0 v40_1 v40_2) fun v56 =>
     if v56 = true then (
      gd ([[(⟨v33_0, v33_1, v33_2⟩ : FactD)], [(⟨v47_0, v47_1, v47_2⟩ : FactD)]].length ≤ 8 ∧ ∀ y ∈ [[(⟨v33_0, v33_1, v33_2⟩ : FactD)], [(⟨v47_0, v47_1, v47_2⟩ : FactD)]], y.length ≤ 10000 ∧ ∀ u ∈ y, sz_FactD u) <|
      some (true, l0, a1, l2, a3)
     ) else (
      some (false, l0, a1, l2, a3)
     )
    ) else (
     some (false, l0, a1, l2, a3)
    )
   )
  )
 )
def m_ropewalklaw11_step (N : Nat) (l0 : List FactD) (a1 : Int) (l2 : List FactD) (a3 : Int) (a4 : Int) (a5 : Int) (a6 : Int) (l7 : List V) : Option (Bool × (List FactD) × Int × (List FactD) × Int) :=
 bindO (m_ropewalkkit_LentValues N l7) fun v25 =>
 bindO (m_ropewalklaw11_step_C1 N a4 l0 a1 a6 v25 l7 l2 a3 a5
 ) fun (j_1_8, j_1_r0_f0_l, j_1_r0_f1, j_1_r2_f0_l, j_1_r2_f1) =>
 bindO (
  if j_1_8 = true then (
   bindO (m_ropewalkkit_KeptValues_W N v25 l7.length l7) fun v138 =>
   some v138
  ) else (
   some false
  )
 ) fun j_3_8 =>
 bindO (m_ropewalkkit_OverValues_V N v25 l7.length) fun v141 =>
 some (j_3_8, j_1_r0_f0_l, j_1_r0_f1, j_1_r2_f0_l, j_1_r2_f1)
def m_ropewalkkit_SameFacts_L1 (N : Nat) (l0 : List FactD) (l1 : List FactD) : Nat → Option (Nat ⊕ (Unit ⊕ Bool)) := fun u1_5 =>
 if (decide (u1_5 < l0.length)) = true then (
  bindO (l0[u1_5]?) fun x19 =>
  bindO (l1[u1_5]?) fun x23 =>
  bindO (m_ropewalkkit_SameFact N x19.id x19.ty x19.args x23.id x23.ty x23.args) fun v25 =>
  if (!v25) = true then (
   some (.inr (.inr false))
  ) else (
   gd (u1_5 + 1 ≤ 9223372036854775807) <|
   some (.inl (u1_5 + 1))
  )
 ) else (
  some (.inr (.inl ()))
 )
def m_ropewalkkit_SameFacts (N : Nat) (l0 : List FactD) (l1 : List FactD) : Option (Bool) :=
 if (l0.length != l1.length) = true then (
  some false
 ) else (
  bindS (
   iter (m_ropewalkkit_SameFacts_L1 N l0 l1) N 0
  ) fun _ =>
  some true
 )
def m_ropewalklaw11_alike (N : Nat) (l0 : List FactD) (a1 : Int) (l2 : List FactD) (a3 : Int) : Option (Bool) :=
 bindO (m_memory_Memory_Next N l0 a1) fun v6 =>
 if (v6 == a3) = true then (
  bindO (m_memory_Memory_Len N l0 a1) fun v14 =>
  if (v14 == l2.length) = true then (
   bindO (m_memory_Memory_All N l0 a1) fun v24 =>
   bindO (m_ropewalkkit_SameFacts N v24 l2) fun v29 =>
   some v29
  ) else (
   some false
  )
 ) else (
  some false
 )
def m_ropewalklaw11_MemoryLives_L1 (N : Nat) (l1 : List FactD) : Nat → Option (Nat ⊕ (Unit ⊕ Bool)) := fun u1_9 =>
 if (decide (u1_9 < l1.length)) = true then (
  bindO (l1[u1_9]?) fun x32 =>
  if (decide (20 < x32.args.length)) = true then (
   bindO (m_ropewalklaw11_awake N) fun v37 =>
   some (.inr (.inr v37))
  ) else (
   gd (u1_9 + 1 ≤ 9223372036854775807) <|
   some (.inl (u1_9 + 1))
  )
 ) else (
  some (.inr (.inl ()))
 )
def m_ropewalklaw11_MemoryLives_C2 (N : Nat) (a2 : Bool) (l1 : List FactD) (a0 : Int) : Option (((List FactD) × Int × (List FactD) × Int) ⊕ Bool) :=
 if a2 = true then (
  bindO (m_ropewalkkit_LentFacts N l1) fun v42 =>
  bindO (m_memory_Of_V N a0 v42 l1.length) fun
  | .inl _ => (
  bindO (m_ropewalkref11_Of N a0 l1) fun
  | .inl _ => (
  bindO (
   bindO (m_ropewalkkit_KeptFacts_W N v42 l1.length l1) fun v61 =>
   if (!v61) = true then (
    some true
   ) else (
    some (false != false)
   )
  ) fun j_5_70 =>
  if j_5_70 = true then (
   some (.inr false)
  ) else (
   bindO (m_ropewalklaw11_awake N) fun v77 =>
   some (.inr v77)
  )
  )
  | .inr v52 => (
  some (.inr false)
  )
  )
  | .inr v46 => (
  bindO (m_ropewalkref11_Of N a0 l1) fun
  | .inl _ => (
  some (.inr false)
  )
  | .inr v52 => (
  bindO (
   bindO (m_ropewalkkit_KeptFacts_W N v42 l1.length l1) fun v61 =>
   if (!v61) = true then (
    some true
   ) else (
    some (true != true)
   )
  ) fun j_7_70 =>
  if j_7_70 = true then (
   some (.inr false)
  ) else (
   bindO (m_ropewalkkit_OverFacts_V N v42 l1.length) fun v79 =>
   some (.inl (v52, a0, v46, a0))
  )
  )
  )
 ) else (
  some (.inl ([], 1, [], 1))
 )
def m_ropewalklaw11_MemoryLives_L2 (N : Nat) (l3 : List Ropewalklaw11_DoD) : (Nat × (List FactD) × Int × (List FactD) × Int) → Option ((Nat × (List FactD) × Int × (List FactD) × Int) ⊕ (((List FactD) × Int × (List FactD) × Int) ⊕ Bool)) := fun (u2_17, u2_11_f0_l, u2_11_f1, u2_10_f0_l, u2_10_f1) =>
 bindO (
  if (decide (u2_17 < l3.length)) = true then (
   some (decide (u2_17 < 120))
  ) else (
   some false
  )
 ) fun j_9_89 =>
 if j_9_89 = true then (
  bindO (l3[u2_17]?) fun x94 =>
  if (decide (20 < x94.args.length)) = true then (
   bindO (m_ropewalklaw11_awake N) fun v99 =>
   some (.inr (.inr v99))
  ) else (
   bindO (
    bindO (l3[u2_17]?) fun x104 =>
    bindO (m_ropewalklaw11_step N u2_10_f0_l u2_10_f1 u2_11_f0_l u2_11_f1 x104.op x104.id x104.type x104.args) fun (v106_0, v106_1, v106_2, v106_3, v106_4) =>
    if (!v106_0) = true then (
     some (v106_3, v106_4, v106_1, v106_2, true)
    ) else (
     bindO (m_ropewalklaw11_alike N v106_1 v106_2 v106_3 v106_4) fun v111 =>
     some (v106_3, v106_4, v106_1, v106_2, !v111)
    )
   ) fun (j_10_11_f0_l, j_10_11_f1, j_10_10_f0_l, j_10_10_f1, j_10_113) =>
   if j_10_113 = true then (
    some (.inr (.inr false))
   ) else (
    gd (u2_17 + 1 ≤ 9223372036854775807) <|
    some (.inl (u2_17 + 1, j_10_11_f0_l, j_10_11_f1, j_10_10_f0_l, j_10_10_f1))
   )
  )
 ) else (
  some (.inr (.inl (u2_11_f0_l, u2_11_f1, u2_10_f0_l, u2_10_f1)))
 )
def m_ropewalklaw11_MemoryLives (N : Nat) (a0 : Int) (l1 : List FactD) (a2 : Bool) (l3 : List Ropewalklaw11_DoD) : Option (Bool) :=
 if (decide (300 < l1.length)) = true then (
  bindO (m_ropewalklaw11_awake N) fun v23 =>
  some v23
 ) else (
  bindS (
   iter (m_ropewalklaw11_MemoryLives_L1 N l1) N 0
  ) fun _ =>
  bindO (m_memory_New N) fun _ =>
  bindO (m_ropewalkref11_New N) fun _ =>
  bindS (m_ropewalklaw11_MemoryLives_C2 N a2 l1 a0
  ) fun (j_2_11_f0_l, j_2_11_f1, j_2_10_f0_l, j_2_10_f1) =>
  bindS (
   iter (m_ropewalklaw11_MemoryLives_L2 N l3) N (0, j_2_11_f0_l, j_2_11_f1, j_2_10_f0_l, j_2_10_f1)
  ) fun (j_8_11_f0_l, j_8_11_f1, j_8_10_f0_l, j_8_10_f1) =>
  bindO (m_memory_Memory_All N j_8_10_f0_l j_8_10_f1) fun v115 =>
  bindO (m_memory_Memory_All N j_8_10_f0_l j_8_10_f1) fun v117 =>
  gd ([v115, v117].length ≤ 8 ∧ ∀ y ∈ [v115, v117], y.length ≤ 10000 ∧ ∀ u ∈ y, sz_FactD u) <|
  bindO (m_ropewalklaw11_alike N j_8_10_f0_l j_8_10_f1 j_8_11_f0_l j_8_11_f1) fun v125 =>
  if v125 = true then (
   bindO (m_ropewalklaw11_awake N) fun v128 =>
   some v128
  ) else (
   some false
  )
 )
def m_ropewalklaw11_facts_L1 (N : Nat) (a1 : Int) (a0 : Int) : (Nat × (List FactD)) → Option ((Nat × (List FactD)) ⊕ (List FactD)) := fun (u1_6, u1_5_l) =>
 if (decide (((u1_6 : Nat) : Int) < a1)) = true then (
  gd (-9223372036854775808 ≤ a0 + ((u1_6 : Nat) : Int) ∧ a0 + ((u1_6 : Nat) : Int) ≤ 9223372036854775807) <|
  bindO (m_ropewalklaw11_num N ((u1_6 : Nat) : Int)) fun _ =>
  gd (u1_5_l.length + ([(⟨(a0 + ((u1_6 : Nat) : Int)), (Int.tmod ((u1_6 : Nat) : Int) 32), [(⟨1, (((u1_6 : Nat) : Int)), (⟨#[]⟩ : ByteArray)⟩ : V)]⟩ : FactD)]).length ≤ 3518437208883) <|
  gd (u1_6 + 1 ≤ 9223372036854775807) <|
  some (.inl (u1_6 + 1, (u1_5_l ++ [(⟨(a0 + ((u1_6 : Nat) : Int)), (Int.tmod ((u1_6 : Nat) : Int) 32), [(⟨1, (((u1_6 : Nat) : Int)), (⟨#[]⟩ : ByteArray)⟩ : V)]⟩ : FactD)])))
 ) else (
  some (.inr u1_5_l)
 )
def m_ropewalklaw11_facts (N : Nat) (a0 : Int) (a1 : Int) : Option (List FactD) :=
 bindO (
  iter (m_ropewalklaw11_facts_L1 N a1 a0) N (0, [])
 ) fun j_1_5_l =>
 some j_1_5_l
def m_ropewalklaw11_MemoryNumbers_C3 (N : Nat) (u1_2 : Nat) (x27 : Int) (x32 : Int) (x37 : Int) (x42 : Int) (x47 : Int) (u2_3 : Nat) : Option (Bool) :=
 bindO (([-9223372036854775808, -1, 0, 1, 2, 31, 32, 1099511627776, 1099511627777, 1099511627778, 9223372036854775807] : List Int)[u1_2]?) fun x57 =>
 bindO (m_ropewalklaw11_facts N 1 2) fun v59 =>
 bindO (m_ropewalklaw11_MemoryLives N x57 v59 true [(⟨0, 0, x27, []⟩ : Ropewalklaw11_DoD), (⟨0, 0, x32, []⟩ : Ropewalklaw11_DoD), (⟨4, 0, x37, []⟩ : Ropewalklaw11_DoD), (⟨5, x42, 0, []⟩ : Ropewalklaw11_DoD), (⟨3, x47, 0, []⟩ : Ropewalklaw11_DoD), (⟨0, 0, 1, [(⟨1, 1, (⟨#[]⟩ : ByteArray)⟩ : V)]⟩ : Ropewalklaw11_DoD), (⟨0, 0, 2, []⟩ : Ropewalklaw11_DoD)]) fun v61 =>
 if (!v61) = true then (
  some true
 ) else (
  bindO (([-9223372036854775808, -1, 0, 1, 2, 31, 32, 1099511627776, 1099511627777, 1099511627778, 9223372036854775807] : List Int)[u1_2]?) fun x66 =>
  bindO (m_ropewalklaw11_MemoryLives N x66 ([] : List FactD) true [(⟨0, 0, x27, []⟩ : Ropewalklaw11_DoD), (⟨0, 0, x32, []⟩ : Ropewalklaw11_DoD), (⟨4, 0, x37, []⟩ : Ropewalklaw11_DoD), (⟨5, x42, 0, []⟩ : Ropewalklaw11_DoD), (⟨3, x47, 0, []⟩ : Ropewalklaw11_DoD), (⟨0, 0, 1, [(⟨1, 1, (⟨#[]⟩ : ByteArray)⟩ : V)]⟩ : Ropewalklaw11_DoD), (⟨0, 0, 2, []⟩ : Ropewalklaw11_DoD)]) fun v69 =>
  if (!v69) = true then (
   some true
  ) else (
   bindO (([-9223372036854775808, -1, 0, 1, 2, 31, 32, 1099511627776, 1099511627777, 1099511627778, 9223372036854775807] : List Int)[u1_2]?) fun x75 =>
   bindO (([-9223372036854775808, -1, 0, 1, 2, 31, 32, 1099511627776, 1099511627777, 1099511627778, 9223372036854775807] : List Int)[u2_3]?) fun x79 =>
   bindO (m_ropewalklaw11_MemoryLives N x75 [(⟨x79, 0, []⟩ : FactD)] true [(⟨0, 0, x27, []⟩ : Ropewalklaw11_DoD), (⟨0, 0, x32, []⟩ : Ropewalklaw11_DoD), (⟨4, 0, x37, []⟩ : Ropewalklaw11_DoD), (⟨5, x42, 0, []⟩ : Ropewalklaw11_DoD), (⟨3, x47, 0, []⟩ : Ropewalklaw11_DoD), (⟨0, 0, 1, [(⟨1, 1, (⟨#[]⟩ : ByteArray)⟩ : V)]⟩ : Ropewalklaw11_DoD), (⟨0, 0, 2, []⟩ : Ropewalklaw11_DoD)]) fun v84 =>
   if (!v84) = true then (
    some true
   ) else (
    bindO (m_ropewalklaw11_MemoryLives N 2199023255552 ([] : List FactD) false [(⟨0, 0, x27, []⟩ : Ropewalklaw11_DoD), (⟨0, 0, x32, []⟩ : Ropewalklaw11_DoD), (⟨4, 0, x37, []⟩ : Ropewalklaw11_DoD), (⟨5, x42, 0, []⟩ : Ropewalklaw11_DoD), (⟨3, x47, 0, []⟩ : Ropewalklaw11_DoD), (⟨0, 0, 1, [(⟨1, 1, (⟨#[]⟩ : ByteArray)⟩ : V)]⟩ : Ropewalklaw11_DoD), (⟨0, 0, 2, []⟩ : Ropewalklaw11_DoD)]) fun v89 =>
    if (!v89) = true then (
     some true
    ) else (
     bindO (([-9223372036854775808, -1, 0, 1, 2, 31, 32, 1099511627776, 1099511627777, 1099511627778, 9223372036854775807] : List Int)[u1_2]?) fun x95 =>
     bindO (([-9223372036854775808, -1, 0, 1, 2, 31, 32, 1099511627776, 1099511627777, 1099511627778, 9223372036854775807] : List Int)[u2_3]?) fun x100 =>
     bindO (m_ropewalklaw11_MemoryLives N 9 [(⟨3, x95, []⟩ : FactD), (⟨x100, 1, []⟩ : FactD)] true [(⟨0, 0, x27, []⟩ : Ropewalklaw11_DoD), (⟨0, 0, x32, []⟩ : Ropewalklaw11_DoD), (⟨4, 0, x37, []⟩ : Ropewalklaw11_DoD), (⟨5, x42, 0, []⟩ : Ropewalklaw11_DoD), (⟨3, x47, 0, []⟩ : Ropewalklaw11_DoD), (⟨0, 0, 1, [(⟨1, 1, (⟨#[]⟩ : ByteArray)⟩ : V)]⟩ : Ropewalklaw11_DoD), (⟨0, 0, 2, []⟩ : Ropewalklaw11_DoD)]) fun v105 =>
     some (!v105)
    )
   )
  )
 )
def m_ropewalklaw11_MemoryNumbers_L2 (N : Nat) (u1_2 : Nat) : Nat → Option (Nat ⊕ (Unit ⊕ (Nat ⊕ (Unit ⊕ Bool)))) := fun u2_3 =>
 if (decide (u2_3 < (([-9223372036854775808, -1, 0, 1, 2, 31, 32, 1099511627776, 1099511627777, 1099511627778, 9223372036854775807]).length))) = true then (
  bindO (([-9223372036854775808, -1, 0, 1, 2, 31, 32, 1099511627776, 1099511627777, 1099511627778, 9223372036854775807] : List Int)[u2_3]?) fun x27 =>
  bindO (([-9223372036854775808, -1, 0, 1, 2, 31, 32, 1099511627776, 1099511627777, 1099511627778, 9223372036854775807] : List Int)[u2_3]?) fun x32 =>
  bindO (([-9223372036854775808, -1, 0, 1, 2, 31, 32, 1099511627776, 1099511627777, 1099511627778, 9223372036854775807] : List Int)[u2_3]?) fun x37 =>
  bindO (([-9223372036854775808, -1, 0, 1, 2, 31, 32, 1099511627776, 1099511627777, 1099511627778, 9223372036854775807] : List Int)[u1_2]?) fun x42 =>
  bindO (([-9223372036854775808, -1, 0, 1, 2, 31, 32, 1099511627776, 1099511627777, 1099511627778, 9223372036854775807] : List Int)[u2_3]?) fun x47 =>
  bindO (m_ropewalklaw11_num N 1) fun _ =>
  bindO (m_ropewalklaw11_MemoryNumbers_C3 N u1_2 x27 x32 x37 x42 x47 u2_3
  ) fun j_3_107 =>
  if j_3_107 = true then (
   some (.inr (.inr (.inr (.inr false))))
  ) else (
   gd (u2_3 + 1 ≤ 9223372036854775807) <|
   some (.inl (u2_3 + 1))
  )
 ) else (
  some (.inr (.inl ()))
 )
def m_ropewalklaw11_MemoryNumbers_L1 (N : Nat) : Nat → Option (Nat ⊕ (Unit ⊕ Bool)) := fun u1_2 =>
 if (decide (u1_2 < (([-9223372036854775808, -1, 0, 1, 2, 31, 32, 1099511627776, 1099511627777, 1099511627778, 9223372036854775807]).length))) = true then (
  bindS (
   iter (m_ropewalklaw11_MemoryNumbers_L2 N u1_2) N 0
  ) fun _ =>
  gd (u1_2 + 1 ≤ 9223372036854775807) <|
  some (.inl (u1_2 + 1))
 ) else (
  some (.inr (.inl ()))
 )
def m_ropewalklaw11_MemoryNumbers_C5 (N : Nat) (u3_7 : Nat) : Option (Bool) :=
 bindO (m_ropewalkkit_CopyFacts N [(⟨1, 1, [(⟨1, 1, (⟨#[]⟩ : ByteArray)⟩ : V), (⟨1, 2, (⟨#[]⟩ : ByteArray)⟩ : V)]⟩ : FactD), (⟨2, 1, [(⟨1, 1, (⟨#[]⟩ : ByteArray)⟩ : V)]⟩ : FactD), (⟨3, 2, [(⟨1, 1, (⟨#[]⟩ : ByteArray)⟩ : V)]⟩ : FactD), (⟨4, 1, [(⟨2, 0, (⟨#[97]⟩ : ByteArray)⟩ : V)]⟩ : FactD)]) fun v135 =>
 gd (u3_7 + 1 ≤ 9223372036854775807) <|
 gd (u3_7 ≤ u3_7 + 1 ∧ u3_7 + 1 ≤ [(⟨0, 0, (⟨#[]⟩ : ByteArray)⟩ : V), (⟨1, 0, (⟨#[97]⟩ : ByteArray)⟩ : V), (⟨2, 0, (⟨#[]⟩ : ByteArray)⟩ : V), (⟨2, 1, (⟨#[97]⟩ : ByteArray)⟩ : V), (⟨3, 1, (⟨#[]⟩ : ByteArray)⟩ : V)].length) <|
 gd (v135.length + ([(⟨5, 0, ([(⟨0, 0, (⟨#[]⟩ : ByteArray)⟩ : V), (⟨1, 0, (⟨#[97]⟩ : ByteArray)⟩ : V), (⟨2, 0, (⟨#[]⟩ : ByteArray)⟩ : V), (⟨2, 1, (⟨#[97]⟩ : ByteArray)⟩ : V), (⟨3, 1, (⟨#[]⟩ : ByteArray)⟩ : V)].take (u3_7 + 1)).drop u3_7⟩ : FactD)]).length ≤ 3518437208883) <|
 bindO (m_ropewalklaw11_MemoryLives N 9 (v135 ++ ([(⟨5, 0, ([(⟨0, 0, (⟨#[]⟩ : ByteArray)⟩ : V), (⟨1, 0, (⟨#[97]⟩ : ByteArray)⟩ : V), (⟨2, 0, (⟨#[]⟩ : ByteArray)⟩ : V), (⟨2, 1, (⟨#[97]⟩ : ByteArray)⟩ : V), (⟨3, 1, (⟨#[]⟩ : ByteArray)⟩ : V)].take (u3_7 + 1)).drop u3_7⟩ : FactD)])) true ([] : List Ropewalklaw11_DoD)) fun v144 =>
 if (!v144) = true then (
  some true
 ) else (
  gd (u3_7 + 1 ≤ 9223372036854775807) <|
  gd (u3_7 ≤ u3_7 + 1 ∧ u3_7 + 1 ≤ [(⟨0, 0, (⟨#[]⟩ : ByteArray)⟩ : V), (⟨1, 0, (⟨#[97]⟩ : ByteArray)⟩ : V), (⟨2, 0, (⟨#[]⟩ : ByteArray)⟩ : V), (⟨2, 1, (⟨#[97]⟩ : ByteArray)⟩ : V), (⟨3, 1, (⟨#[]⟩ : ByteArray)⟩ : V)].length) <|
  gd (u3_7 + 1 ≤ 9223372036854775807) <|
  gd (u3_7 ≤ u3_7 + 1 ∧ u3_7 + 1 ≤ [(⟨0, 0, (⟨#[]⟩ : ByteArray)⟩ : V), (⟨1, 0, (⟨#[97]⟩ : ByteArray)⟩ : V), (⟨2, 0, (⟨#[]⟩ : ByteArray)⟩ : V), (⟨2, 1, (⟨#[97]⟩ : ByteArray)⟩ : V), (⟨3, 1, (⟨#[]⟩ : ByteArray)⟩ : V)].length) <|
  bindO (m_ropewalklaw11_MemoryLives N 9 [(⟨1, 1, [(⟨1, 1, (⟨#[]⟩ : ByteArray)⟩ : V), (⟨1, 2, (⟨#[]⟩ : ByteArray)⟩ : V)]⟩ : FactD), (⟨2, 1, [(⟨1, 1, (⟨#[]⟩ : ByteArray)⟩ : V)]⟩ : FactD), (⟨3, 2, [(⟨1, 1, (⟨#[]⟩ : ByteArray)⟩ : V)]⟩ : FactD), (⟨4, 1, [(⟨2, 0, (⟨#[97]⟩ : ByteArray)⟩ : V)]⟩ : FactD)] true [(⟨0, 0, 0, ([(⟨0, 0, (⟨#[]⟩ : ByteArray)⟩ : V), (⟨1, 0, (⟨#[97]⟩ : ByteArray)⟩ : V), (⟨2, 0, (⟨#[]⟩ : ByteArray)⟩ : V), (⟨2, 1, (⟨#[97]⟩ : ByteArray)⟩ : V), (⟨3, 1, (⟨#[]⟩ : ByteArray)⟩ : V)].take (u3_7 + 1)).drop u3_7⟩ : Ropewalklaw11_DoD), (⟨4, 0, 0, ([(⟨0, 0, (⟨#[]⟩ : ByteArray)⟩ : V), (⟨1, 0, (⟨#[97]⟩ : ByteArray)⟩ : V), (⟨2, 0, (⟨#[]⟩ : ByteArray)⟩ : V), (⟨2, 1, (⟨#[97]⟩ : ByteArray)⟩ : V), (⟨3, 1, (⟨#[]⟩ : ByteArray)⟩ : V)].take (u3_7 + 1)).drop u3_7⟩ : Ropewalklaw11_DoD)]) fun v161 =>
  some (!v161)
 )
def m_ropewalklaw11_MemoryNumbers_L3 (N : Nat) : Nat → Option (Nat ⊕ (Unit ⊕ Bool)) := fun u3_7 =>
 if (decide (u3_7 < (([(⟨0, 0, (⟨#[]⟩ : ByteArray)⟩ : V), (⟨1, 0, (⟨#[97]⟩ : ByteArray)⟩ : V), (⟨2, 0, (⟨#[]⟩ : ByteArray)⟩ : V), (⟨2, 1, (⟨#[97]⟩ : ByteArray)⟩ : V), (⟨3, 1, (⟨#[]⟩ : ByteArray)⟩ : V)]).length))) = true then (
  bindO (m_ropewalklaw11_MemoryNumbers_C5 N u3_7
  ) fun j_5_163 =>
  if j_5_163 = true then (
   some (.inr (.inr false))
  ) else (
   gd (u3_7 + 1 ≤ 9223372036854775807) <|
   some (.inl (u3_7 + 1))
  )
 ) else (
  some (.inr (.inl ()))
 )
def m_ropewalklaw11_MemoryNumbers_C7 (N : Nat) (x170 : FactD) : Option (Bool) :=
 bindO (m_ropewalkkit_CopyFacts N [(⟨1, 1, [(⟨1, 1, (⟨#[]⟩ : ByteArray)⟩ : V), (⟨1, 2, (⟨#[]⟩ : ByteArray)⟩ : V)]⟩ : FactD), (⟨2, 1, [(⟨1, 1, (⟨#[]⟩ : ByteArray)⟩ : V)]⟩ : FactD), (⟨3, 2, [(⟨1, 1, (⟨#[]⟩ : ByteArray)⟩ : V)]⟩ : FactD), (⟨4, 1, [(⟨2, 0, (⟨#[97]⟩ : ByteArray)⟩ : V)]⟩ : FactD)]) fun v174 =>
 gd (v174.length + ([(⟨6, x170.ty, x170.args⟩ : FactD)]).length ≤ 3518437208883) <|
 bindO (m_ropewalklaw11_MemoryLives N 9 (v174 ++ ([(⟨6, x170.ty, x170.args⟩ : FactD)])) true ([] : List Ropewalklaw11_DoD)) fun v178 =>
 if (!v178) = true then (
  some true
 ) else (
  bindO (m_ropewalklaw11_MemoryLives N 9 [(⟨1, 1, [(⟨1, 1, (⟨#[]⟩ : ByteArray)⟩ : V), (⟨1, 2, (⟨#[]⟩ : ByteArray)⟩ : V)]⟩ : FactD), (⟨2, 1, [(⟨1, 1, (⟨#[]⟩ : ByteArray)⟩ : V)]⟩ : FactD), (⟨3, 2, [(⟨1, 1, (⟨#[]⟩ : ByteArray)⟩ : V)]⟩ : FactD), (⟨4, 1, [(⟨2, 0, (⟨#[97]⟩ : ByteArray)⟩ : V)]⟩ : FactD)] true [(⟨0, 0, x170.ty, x170.args⟩ : Ropewalklaw11_DoD), (⟨4, 0, x170.ty, x170.args⟩ : Ropewalklaw11_DoD)]) fun v193 =>
  some (!v193)
 )
def m_ropewalklaw11_MemoryNumbers_L4 (N : Nat) : Nat → Option (Nat ⊕ (Unit ⊕ Bool)) := fun u4_8 =>
 if (decide (u4_8 < 4)) = true then (
  bindO (([(⟨1, 1, [(⟨1, 1, (⟨#[]⟩ : ByteArray)⟩ : V), (⟨1, 2, (⟨#[]⟩ : ByteArray)⟩ : V)]⟩ : FactD), (⟨2, 1, [(⟨1, 1, (⟨#[]⟩ : ByteArray)⟩ : V)]⟩ : FactD), (⟨3, 2, [(⟨1, 1, (⟨#[]⟩ : ByteArray)⟩ : V)]⟩ : FactD), (⟨4, 1, [(⟨2, 0, (⟨#[97]⟩ : ByteArray)⟩ : V)]⟩ : FactD)])[u4_8]?) fun x170 =>
  bindO (m_ropewalklaw11_MemoryNumbers_C7 N x170
  ) fun j_7_195 =>
  if j_7_195 = true then (
   some (.inr (.inr false))
  ) else (
   gd (u4_8 + 1 ≤ 9223372036854775807) <|
   some (.inl (u4_8 + 1))
  )
 ) else (
  some (.inr (.inl ()))
 )
def m_ropewalklaw11_MemoryNumbers_C8 (N : Nat) : Option (Bool) :=
 bindO (m_ropewalklaw11_facts N 1 255) fun v218 =>
 bindO (m_ropewalklaw11_MemoryLives N 300 v218 true [(⟨0, 0, 3, []⟩ : Ropewalklaw11_DoD), (⟨3, 7, 0, []⟩ : Ropewalklaw11_DoD), (⟨0, 0, 3, []⟩ : Ropewalklaw11_DoD), (⟨0, 0, 3, [(⟨1, 1, (⟨#[]⟩ : ByteArray)⟩ : V), (⟨1, 2, (⟨#[]⟩ : ByteArray)⟩ : V), (⟨1, 3, (⟨#[]⟩ : ByteArray)⟩ : V), (⟨1, 4, (⟨#[]⟩ : ByteArray)⟩ : V), (⟨1, 5, (⟨#[]⟩ : ByteArray)⟩ : V), (⟨1, 6, (⟨#[]⟩ : ByteArray)⟩ : V)]⟩ : Ropewalklaw11_DoD)]) fun v220 =>
 if v220 = true then (
  bindO (m_ropewalklaw11_facts N 1 256) fun v222 =>
  bindO (m_ropewalklaw11_MemoryLives N 300 v222 true [(⟨0, 0, 3, []⟩ : Ropewalklaw11_DoD), (⟨3, 7, 0, []⟩ : Ropewalklaw11_DoD), (⟨0, 0, 3, []⟩ : Ropewalklaw11_DoD), (⟨0, 0, 3, [(⟨1, 1, (⟨#[]⟩ : ByteArray)⟩ : V), (⟨1, 2, (⟨#[]⟩ : ByteArray)⟩ : V), (⟨1, 3, (⟨#[]⟩ : ByteArray)⟩ : V), (⟨1, 4, (⟨#[]⟩ : ByteArray)⟩ : V), (⟨1, 5, (⟨#[]⟩ : ByteArray)⟩ : V), (⟨1, 6, (⟨#[]⟩ : ByteArray)⟩ : V)]⟩ : Ropewalklaw11_DoD)]) fun v224 =>
  if v224 = true then (
   bindO (m_ropewalklaw11_facts N 1 257) fun v227 =>
   bindO (m_ropewalklaw11_MemoryLives N 300 v227 true [(⟨0, 0, 3, []⟩ : Ropewalklaw11_DoD), (⟨3, 7, 0, []⟩ : Ropewalklaw11_DoD), (⟨0, 0, 3, []⟩ : Ropewalklaw11_DoD), (⟨0, 0, 3, [(⟨1, 1, (⟨#[]⟩ : ByteArray)⟩ : V), (⟨1, 2, (⟨#[]⟩ : ByteArray)⟩ : V), (⟨1, 3, (⟨#[]⟩ : ByteArray)⟩ : V), (⟨1, 4, (⟨#[]⟩ : ByteArray)⟩ : V), (⟨1, 5, (⟨#[]⟩ : ByteArray)⟩ : V), (⟨1, 6, (⟨#[]⟩ : ByteArray)⟩ : V)]⟩ : Ropewalklaw11_DoD)]) fun v229 =>
   if v229 = true then (
    gd (([(⟨0, 0, 3, []⟩ : Ropewalklaw11_DoD), (⟨3, 7, 0, []⟩ : Ropewalklaw11_DoD), (⟨0, 0, 3, []⟩ : Ropewalklaw11_DoD), (⟨0, 0, 3, [(⟨1, 1, (⟨#[]⟩ : ByteArray)⟩ : V), (⟨1, 2, (⟨#[]⟩ : ByteArray)⟩ : V), (⟨1, 3, (⟨#[]⟩ : ByteArray)⟩ : V), (⟨1, 4, (⟨#[]⟩ : ByteArray)⟩ : V), (⟨1, 5, (⟨#[]⟩ : ByteArray)⟩ : V), (⟨1, 6, (⟨#[]⟩ : ByteArray)⟩ : V)]⟩ : Ropewalklaw11_DoD)]).length + ([(⟨0, 0, 0, [(⟨1, 1, (⟨#[]⟩ : ByteArray)⟩ : V), (⟨1, 2, (⟨#[]⟩ : ByteArray)⟩ : V), (⟨1, 3, (⟨#[]⟩ : ByteArray)⟩ : V), (⟨1, 4, (⟨#[]⟩ : ByteArray)⟩ : V), (⟨1, 5, (⟨#[]⟩ : ByteArray)⟩ : V), (⟨1, 6, (⟨#[]⟩ : ByteArray)⟩ : V), (⟨1, 7, (⟨#[]⟩ : ByteArray)⟩ : V)]⟩ : Ropewalklaw11_DoD)]).length ≤ 2932031007402) <|
    bindO (m_ropewalklaw11_MemoryLives N 1 ([] : List FactD) true (([(⟨0, 0, 3, []⟩ : Ropewalklaw11_DoD), (⟨3, 7, 0, []⟩ : Ropewalklaw11_DoD), (⟨0, 0, 3, []⟩ : Ropewalklaw11_DoD), (⟨0, 0, 3, [(⟨1, 1, (⟨#[]⟩ : ByteArray)⟩ : V), (⟨1, 2, (⟨#[]⟩ : ByteArray)⟩ : V), (⟨1, 3, (⟨#[]⟩ : ByteArray)⟩ : V), (⟨1, 4, (⟨#[]⟩ : ByteArray)⟩ : V), (⟨1, 5, (⟨#[]⟩ : ByteArray)⟩ : V), (⟨1, 6, (⟨#[]⟩ : ByteArray)⟩ : V)]⟩ : Ropewalklaw11_DoD)]) ++ [(⟨0, 0, 0, [(⟨1, 1, (⟨#[]⟩ : ByteArray)⟩ : V), (⟨1, 2, (⟨#[]⟩ : ByteArray)⟩ : V), (⟨1, 3, (⟨#[]⟩ : ByteArray)⟩ : V), (⟨1, 4, (⟨#[]⟩ : ByteArray)⟩ : V), (⟨1, 5, (⟨#[]⟩ : ByteArray)⟩ : V), (⟨1, 6, (⟨#[]⟩ : ByteArray)⟩ : V), (⟨1, 7, (⟨#[]⟩ : ByteArray)⟩ : V)]⟩ : Ropewalklaw11_DoD)])) fun v235 =>
    if v235 = true then (
     bindO (m_ropewalklaw11_awake N) fun v238 =>
     some v238
    ) else (
     some false
    )
   ) else (
    some false
   )
  ) else (
   some false
  )
 ) else (
  some false
 )
def m_ropewalklaw11_MemoryNumbers (N : Nat) : Option (Bool) :=
 bindS (
  iter (m_ropewalklaw11_MemoryNumbers_L1 N) N 0
 ) fun _ =>
 bindO (m_ropewalklaw11_num N 1) fun _ =>
 bindO (m_ropewalklaw11_num N 2) fun _ =>
 bindO (m_ropewalklaw11_num N 1) fun _ =>
 bindO (m_ropewalklaw11_num N 1) fun _ =>
 bindS (
  iter (m_ropewalklaw11_MemoryNumbers_L3 N) N 0
 ) fun _ =>
 bindS (
  iter (m_ropewalklaw11_MemoryNumbers_L4 N) N 0
 ) fun _ =>
 bindO (m_ropewalklaw11_num N 1) fun _ =>
 bindO (m_ropewalklaw11_num N 2) fun _ =>
 bindO (m_ropewalklaw11_num N 3) fun _ =>
 bindO (m_ropewalklaw11_num N 4) fun _ =>
 bindO (m_ropewalklaw11_num N 5) fun _ =>
 bindO (m_ropewalklaw11_num N 6) fun _ =>
 bindO (m_ropewalklaw11_num N 1) fun _ =>
 bindO (m_ropewalklaw11_num N 2) fun _ =>
 bindO (m_ropewalklaw11_num N 3) fun _ =>
 bindO (m_ropewalklaw11_num N 4) fun _ =>
 bindO (m_ropewalklaw11_num N 5) fun _ =>
 bindO (m_ropewalklaw11_num N 6) fun _ =>
 bindO (m_ropewalklaw11_num N 7) fun _ =>
 bindO (m_ropewalklaw11_MemoryNumbers_C8 N
 ) fun j_8_0 =>
 some j_8_0
end Go.Proofs.YthmkahbkhoijbaaGreatDoor
