/- Models, printed by a program out of the loaded code. -/
import Derived.Test.YtdnolbmbmncefaaDoorXT
namespace Go.Proofs.YtdnolbmbmncefaaDoor
open Go.RowKit
def m_memory_New (N : Nat) : Option (Unit) :=
 some ()
def m_ropewalklaw11_num (N : Nat) (a0 : Int) : Option (Unit) :=
 some ()
def m_memory_Memory_known (N : Nat) (l0 : List FactD) (a1 : Int) : Option (Unit) :=
 some ()
def m_value_named_C1 (N : Nat) (a0 : ByteArray) : Option (Bool) :=
 if (!(a0.toList == (⟨#[]⟩ : ByteArray).toList)) = true then (
  if (decide (a0.size ≤ 24)) = true then (
   bindO (a0[0]?) fun x12 =>
   if (decide ((Lib.indexByte (⟨#[97, 98, 99, 100, 101, 102, 103, 104, 105, 106, 107, 108, 109, 110, 111, 112, 113, 114, 115, 116, 117, 118, 119, 120, 121, 122]⟩ : ByteArray).data.toList (((x12.toNat : Nat) : Int)).toNat.toUInt8) ≥ 0)) = true then (
    gd (a0.size ≤ 9223372036854775807) <|
    some ((⟨(Lib.trimS a0.data.toList (⟨#[97, 98, 99, 100, 101, 102, 103, 104, 105, 106, 107, 108, 109, 110, 111, 112, 113, 114, 115, 116, 117, 118, 119, 120, 121, 122, 48, 49, 50, 51, 52, 53, 54, 55, 56, 57, 95]⟩ : ByteArray).data.toList).toArray⟩ : ByteArray).toList == (⟨#[]⟩ : ByteArray).toList)
   ) else (
    some false
   )
  ) else (
   some false
  )
 ) else (
  some false
 )
def m_value_named (N : Nat) (a0 : ByteArray) : Option (Bool) :=
 bindO (m_value_named_C1 N a0
 ) fun j_1_2 =>
 some j_1_2
def m_value_Right (N : Nat) (a0 : Int) (a1 : Int) (a2 : ByteArray) : Option (Bool) :=
 if (a0 == 1) = true then (
  some (a2.toList == (⟨#[]⟩ : ByteArray).toList)
 ) else (
  if (a0 == 2) = true then (
   if (a1 == 0) = true then (
    bindO (m_value_named N a2) fun v18 =>
    some v18
   ) else (
    some false
   )
  ) else (
   some false
  )
 )
def m_memory_may_1 (N : Nat) (a0 : Int) (a1 : Int) (a2 : ByteArray) : Option (Bool) :=
 bindO (m_value_Right N a0 a1 a2) fun v4 =>
 some (!v4)
def m_slices_IndexFunc_Value_L1 (N : Nat) (l0 : List V) : Nat → Option (Nat ⊕ (Unit ⊕ Int)) := fun u1_8 =>
 if (decide (u1_8 < l0.length)) = true then (
  bindO (l0[u1_8]?) fun x14 =>
  bindO (m_memory_may_1 N x14.k x14.n x14.s) fun v16 =>
  if v16 = true then (
   some (.inr (.inr ((u1_8 : Nat) : Int)))
  ) else (
   gd (u1_8 + 1 ≤ 9223372036854775807) <|
   some (.inl (u1_8 + 1))
  )
 ) else (
  some (.inr (.inl ()))
 )
def m_slices_IndexFunc_Value (N : Nat) (l0 : List V) : Option (Int) :=
 bindS (
  iter (m_slices_IndexFunc_Value_L1 N l0) N 0
 ) fun _ =>
 some (-1)
def m_slices_ContainsFunc_Value (N : Nat) (l0 : List V) : Option (Bool) :=
 bindO (m_slices_IndexFunc_Value N l0) fun v7 =>
 some (decide (v7 ≥ 0))
def m_memory_may_C1 (N : Nat) (a0 : Int) (l1 : List V) : Option (Bool) :=
 if (decide (a0 ≥ 0)) = true then (
  if (decide (a0 < 32)) = true then (
   if (decide (l1.length ≤ 6)) = true then (
    bindO (m_slices_ContainsFunc_Value N l1) fun v18 =>
    some (!v18)
   ) else (
    some false
   )
  ) else (
   some false
  )
 ) else (
  some false
 )
def m_memory_may (N : Nat) (a0 : Int) (l1 : List V) : Option (Bool) :=
 bindO (m_memory_may_C1 N a0 l1
 ) fun j_1_4 =>
 some j_1_4
def m_memory_same_L1 (N : Nat) (l0 : List V) (l1 : List V) : Nat → Option (Nat ⊕ (Unit ⊕ Bool)) := fun u1_13 =>
 if (decide (u1_13 < l0.length)) = true then (
  bindO (l0[u1_13]?) fun x18 =>
  bindO (l1[u1_13]?) fun x22 =>
  if (!decide (x18 = x22)) = true then (
   some (.inr (.inr false))
  ) else (
   gd (u1_13 + 1 ≤ 9223372036854775807) <|
   some (.inl (u1_13 + 1))
  )
 ) else (
  some (.inr (.inl ()))
 )
def m_memory_same (N : Nat) (l0 : List V) (l1 : List V) : Option (Bool) :=
 if (l0.length != l1.length) = true then (
  some false
 ) else (
  bindS (
   iter (m_memory_same_L1 N l0 l1) N 0
  ) fun _ =>
  some true
 )
def m_memory_row_says_1 (N : Nat) (a0 : Int) (a1 : Int) (l2 : List V) (a3 : Int) (l4 : List V) : Option (Bool) :=
 if (a1 == a3) = true then (
  bindO (m_memory_same N l2 l4) fun v13 =>
  some v13
 ) else (
  some false
 )
def m_slices_IndexFunc_Fact_L1 (N : Nat) (l0 : List FactD) (a1 : Int) (l2 : List V) : Nat → Option (Nat ⊕ (Unit ⊕ Int)) := fun u1_8 =>
 if (decide (u1_8 < l0.length)) = true then (
  bindO (l0[u1_8]?) fun x14 =>
  bindO (m_memory_row_says_1 N x14.id x14.ty x14.args a1 l2) fun v16 =>
  if v16 = true then (
   some (.inr (.inr ((u1_8 : Nat) : Int)))
  ) else (
   gd (u1_8 + 1 ≤ 9223372036854775807) <|
   some (.inl (u1_8 + 1))
  )
 ) else (
  some (.inr (.inl ()))
 )
def m_slices_IndexFunc_Fact (N : Nat) (l0 : List FactD) (a1 : Int) (l2 : List V) : Option (Int) :=
 bindS (
  iter (m_slices_IndexFunc_Fact_L1 N l0 a1 l2) N 0
 ) fun _ =>
 some (-1)
def m_memory_row_says (N : Nat) (l0 : List FactD) (a1 : Int) (a2 : Int) (l3 : List V) : Option (Int) :=
 bindO (m_slices_IndexFunc_Fact N l0 a2 l3) fun v12 =>
 some v12

def m_memory_own (N : Nat) (a0 : Int) (a1 : Int) (l2 : List V) : Option (Unit) :=
 gd (l2.length ≤ 4398046511104) <|
 some ()
def m_memory_Memory_Add (N : Nat) (l0 : List FactD) (a1 : Int) (a2 : Int) (l3 : List V) : Option (Int × Nat × (List FactD) × Int) :=
 bindO (m_memory_Memory_known N l0 a1) fun _ =>
 if (!(decide (a1 > 0))) = true then (
  some (0, 1, l0, a1)
 ) else (
  bindO (m_memory_may N a2 l3) fun v16 =>
  if (!v16) = true then (
   some (0, 2, l0, a1)
  ) else (
   bindO (m_memory_row_says N l0 a1 a2 l3) fun v23 =>
   if (decide (v23 ≥ 0)) = true then (
    gd (0 ≤ v23) <|
    bindO (l0[v23.toNat]?) fun x32 =>
    some (x32.id, 7, l0, a1)
   ) else (
    bindO (
     if (decide (256 ≤ l0.length)) = true then (
      some true
     ) else (
      some (decide (a1 > 1099511627776))
     )
    ) fun j_1_48 =>
    if j_1_48 = true then (
     some (0, 5, l0, a1)
    ) else (
     bindO (m_memory_own N a1 a2 l3) fun _ =>
     gd (l0.length + ([(⟨a1, a2, l3⟩ : FactD)]).length ≤ 3518437208883) <|
     gd (-9223372036854775808 ≤ a1 + 1 ∧ a1 + 1 ≤ 9223372036854775807) <|
     gd (-9223372036854775808 ≤ (a1 + 1) - 1 ∧ (a1 + 1) - 1 ≤ 9223372036854775807) <|
     some ((a1 + 1) - 1, 0, (l0 ++ ([(⟨a1, a2, l3⟩ : FactD)])), a1 + 1)
    )
   )
  )
 )
def m_cmp_isNaN_int (N : Nat) (a0 : Int) : Option (Unit) :=
 some ()
def m_cmp_Compare_int (N : Nat) (a0 : Int) (a1 : Int) : Option (Int) :=
 bindO (m_cmp_isNaN_int N a0) fun _ =>
 bindO (m_cmp_isNaN_int N a1) fun _ =>
 if (a0 != a0) = true then (
  if (a1 != a1) = true then (
   some 0
  ) else (
   some (-1)
  )
 ) else (
  if (a1 != a1) = true then (
   some 1
  ) else (
   if (decide (a0 < a1)) = true then (
    some (-1)
   ) else (
    if (decide (a0 > a1)) = true then (
     some 1
    ) else (
     some 0
    )
   )
  )
 )
def m_memory_row_at_1 (N : Nat) (a0 : Int) (a1 : Int) (l2 : List V) (a3 : Int) : Option (Int) :=
 bindO (m_cmp_Compare_int N a0 a3) fun v8 =>
 some v8
def m_slices_BinarySearchFunc_int_L1 (N : Nat) (l0 : List FactD) (a1 : Int) : (Int × Int) → Option ((Int × Int) ⊕ Int) := fun (u1_10, u1_9) =>
 if (decide (u1_9 < u1_10)) = true then (
  gd (-9223372036854775808 ≤ u1_9 + u1_10 ∧ u1_9 + u1_10 ≤ 9223372036854775807) <|
  gd (0 ≤ IntKind.wrap .i64 (Int.fdiv (IntKind.wrap .u64 (u1_9 + u1_10)) (2 ^ (1)))) <|
  bindO (l0[(IntKind.wrap .i64 (Int.fdiv (IntKind.wrap .u64 (u1_9 + u1_10)) (2 ^ (1)))).toNat]?) fun x27 =>
  bindO (m_memory_row_at_1 N x27.id x27.ty x27.args a1) fun v30 =>
  if (decide (v30 < 0)) = true then (
   gd (-9223372036854775808 ≤ (IntKind.wrap .i64 (Int.fdiv (IntKind.wrap .u64 (u1_9 + u1_10)) (2 ^ (1)))) + 1 ∧ (IntKind.wrap .i64 (Int.fdiv (IntKind.wrap .u64 (u1_9 + u1_10)) (2 ^ (1)))) + 1 ≤ 9223372036854775807) <|
   some (.inl (u1_10, (IntKind.wrap .i64 (Int.fdiv (IntKind.wrap .u64 (u1_9 + u1_10)) (2 ^ (1)))) + 1))
  ) else (
   some (.inl (IntKind.wrap .i64 (Int.fdiv (IntKind.wrap .u64 (u1_9 + u1_10)) (2 ^ (1))), u1_9))
  )
 ) else (
  some (.inr u1_9)
 )
def m_slices_BinarySearchFunc_int (N : Nat) (l0 : List FactD) (a1 : Int) : Option (Int × Bool) :=
 bindO (
  iter (m_slices_BinarySearchFunc_int_L1 N l0 a1) N (((l0.length : Nat) : Int), 0)
 ) fun j_1_9 =>
 if (decide (j_1_9 < ((l0.length : Nat) : Int))) = true then (
  gd (0 ≤ j_1_9) <|
  bindO (l0[j_1_9.toNat]?) fun x43 =>
  bindO (m_memory_row_at_1 N x43.id x43.ty x43.args a1) fun v46 =>
  some (j_1_9, v46 == 0)
 ) else (
  some (j_1_9, false)
 )
def m_memory_row_at (N : Nat) (l0 : List FactD) (a1 : Int) (a2 : Int) : Option (Int × Bool) :=
 bindO (m_slices_BinarySearchFunc_int N l0 a2) fun (v11_0, v11_1) =>
 some (v11_0, v11_1)

def m_memory_Memory_Drop (N : Nat) (l0 : List FactD) (a1 : Int) (a2 : Int) : Option (Nat × (List FactD)) :=
 bindO (m_memory_Memory_known N l0 a1) fun _ =>
 if (!(decide (a1 > 0))) = true then (
  some (1, l0)
 ) else (
  bindO (m_memory_row_at N l0 a1 a2) fun (v15_0, v15_1) =>
  if (!v15_1) = true then (
   some (6, l0)
  ) else (
   gd (-9223372036854775808 ≤ v15_0 + 1 ∧ v15_0 + 1 ≤ 9223372036854775807) <|
   gd (0 ≤ v15_0) <|
   gd (v15_0.toNat < l0.length) <|
   some (0, l0.take v15_0.toNat ++ l0.drop (v15_0.toNat + 1))
  )
 )










def m_memory_row_all_L1 (N : Nat) (l0 : List FactD) : (Nat × (List FactD)) → Option ((Nat × (List FactD)) ⊕ (List FactD)) := fun (u1_11, u1_3_l) =>
 if (decide (u1_11 < l0.length)) = true then (
  bindO (l0[u1_11]?) fun x13 =>
  bindO (m_memory_own N x13.id x13.ty x13.args) fun _ =>
  gd (u1_3_l.length + [x13].length ≤ 3518437208883) <|
  gd (u1_11 + 1 ≤ 9223372036854775807) <|
  some (.inl (u1_11 + 1, u1_3_l ++ [x13]))
 ) else (
  some (.inr u1_3_l)
 )
def m_memory_row_all (N : Nat) (l0 : List FactD) (a1 : Int) : Option (List FactD) :=
 bindO (
  iter (m_memory_row_all_L1 N l0) N (0, [])
 ) fun j_1_3_l =>
 some j_1_3_l
def m_memory_Memory_All (N : Nat) (l0 : List FactD) (a1 : Int) : Option (List FactD) :=
 bindO (m_memory_Memory_known N l0 a1) fun _ =>
 if (!(decide (a1 > 0))) = true then (
  some []
 ) else (
  bindO (m_memory_row_all N l0 a1) fun v9 =>
  some v9
 )
def m_memory_Memory_Len (N : Nat) (l0 : List FactD) (a1 : Int) : Option (Nat) :=
 bindO (m_memory_Memory_known N l0 a1) fun _ =>
 if (!(decide (a1 > 0))) = true then (
  some 0
 ) else (
  some l0.length
 )
def m_memory_Memory_Next (N : Nat) (l0 : List FactD) (a1 : Int) : Option (Int) :=
 bindO (m_memory_Memory_known N l0 a1) fun _ =>
 if (!(decide (a1 > 0))) = true then (
  some 0
 ) else (
  some a1
 )
def m_ropewalklaw11_awake_C1 (N : Nat) (v19_0 : Int) (v19_1 : Nat) (v26_0 : Int) (v26_1 : Nat) (v33_0 : Int) (v33_1 : Nat) (v37_0 : Nat) (v42_0 : Int) (v42_1 : Nat) (v47_1 : Nat) (v47_2 : List FactD) (v47_3 : Int) (v51 : List FactD) : Option (Bool) :=
 if (v19_0 == 1) = true then (
  if (v19_1 == 0) = true then (
   if (v26_0 == 2) = true then (
    if (v26_1 == 0) = true then (
     if (v33_0 == 1) = true then (
      if (v33_1 == 7) = true then (
       if (v37_0 == 0) = true then (
        if (v42_0 == 3) = true then (
         if (v42_1 == 0) = true then (
          if (v47_1 == 2) = true then (
           bindO (m_memory_Memory_Drop N v47_2 v47_3 1) fun (v92_0, v92_1) =>
           if (v92_0 == 6) = true then (
            if (v51.length == 2) = true then (
             bindO (v51[0]?) fun x102 =>
             if (x102.id == 2) = true then (
              bindO (v51[1]?) fun x109 =>
              if (x109.id == 3) = true then (
               bindO (m_memory_Memory_Len N v92_1 v47_3) fun v116 =>
               if (v116 == 2) = true then (
                bindO (m_memory_Memory_Next N v92_1 v47_3) fun v121 =>
                some (v121 == 4)
               ) else (
                some false
               )
              ) else (
               some false
              )
             ) else (
              some false
             )
            ) else (
             some false
            )
           ) else (
            some false
           )
          ) else (
           some false
          )
         ) else (
          some false
         )
        ) else (
         some false
        )
       ) else (
        some false
       )
      ) else (
       some false
      )
     ) else (
      some false
     )
    ) else (
     some false
    )
   ) else (
    some false
   )
  ) else (
   some false
  )
 ) else (
  some false
 )
def m_ropewalklaw11_awake (N : Nat) : Option (Bool) :=
 bindO (m_memory_New N) fun _ =>
 bindO (m_ropewalklaw11_num N 5) fun _ =>
 bindO (m_memory_Memory_Add N [] 1 0 [(⟨1, 5, (⟨#[]⟩ : ByteArray)⟩ : V)]) fun (v19_0, v19_1, v19_2, v19_3) =>
 bindO (m_memory_Memory_Add N v19_2 v19_3 0 [(⟨2, 0, (⟨#[97]⟩ : ByteArray)⟩ : V)]) fun (v26_0, v26_1, v26_2, v26_3) =>
 bindO (m_ropewalklaw11_num N 5) fun _ =>
 bindO (m_memory_Memory_Add N v26_2 v26_3 0 [(⟨1, 5, (⟨#[]⟩ : ByteArray)⟩ : V)]) fun (v33_0, v33_1, v33_2, v33_3) =>
 bindO (m_memory_Memory_Drop N v33_2 v33_3 1) fun (v37_0, v37_1) =>
 bindO (m_ropewalklaw11_num N 5) fun _ =>
 bindO (m_memory_Memory_Add N v37_1 v33_3 0 [(⟨1, 5, (⟨#[]⟩ : ByteArray)⟩ : V)]) fun (v42_0, v42_1, v42_2, v42_3) =>
 bindO (m_memory_Memory_Add N v42_2 v42_3 32 ([] : List V)) fun (v47_0, v47_1, v47_2, v47_3) =>
 bindO (m_memory_Memory_All N v47_2 v47_3) fun v51 =>
 bindO (m_ropewalklaw11_awake_C1 N v19_0 v19_1 v26_0 v26_1 v33_0 v33_1 v37_0 v42_0 v42_1 v47_1 v47_2 v47_3 v51
 ) fun j_1_0 =>
 some j_1_0
def m_ropewalkkit_Pick (N : Nat) (a0 : Int) (a1 : Int) : Option (Int) :=
 if (decide (a1 < 1)) = true then (
  some 0
 ) else (
  gd (a1 ≠ 0) <|
  bindO (
   if (decide ((Int.tmod a0 a1) < 0)) = true then (
    gd (-9223372036854775808 ≤ (Int.tmod a0 a1) + a1 ∧ (Int.tmod a0 a1) + a1 ≤ 9223372036854775807) <|
    some ((Int.tmod a0 a1) + a1)
   ) else (
    some (Int.tmod a0 a1)
   )
  ) fun j_1_0 =>
  some j_1_0
 )
def m_ropewalklaw11_do (N : Nat) (l0 : List FactD) (a1 : Int) (a2 : Int) (a3 : Int) (a4 : Int) (l5 : List V) : Option (Int × Nat × (List FactD) × Int) :=
 bindO (m_ropewalkkit_Pick N a2 3) fun v8 =>
 if (v8 == 2) = true then (
  bindO (m_memory_Memory_Drop N l0 a1 a3) fun (v13_0, v13_1) =>
  some (0, v13_0, v13_1, a1)
 ) else (
  bindO (m_memory_Memory_Add N l0 a1 a4 l5) fun (v19_0, v19_1, v19_2, v19_3) =>
  some (v19_0, v19_1, v19_2, v19_3)
 )
def m_memory_Of_C3 (N : Nat) (x28 : FactD) (u1_7 : Int) (a0 : Int) (u1_6_f0_l : List FactD) : Option (Bool) :=
 if (decide (x28.id ≤ u1_7)) = true then (
  some true
 ) else (
  if (decide (x28.id ≥ a0)) = true then (
   some true
  ) else (
   bindO (m_memory_may N x28.ty x28.args) fun v45 =>
   if (!v45) = true then (
    some true
   ) else (
    bindO (m_memory_row_says N u1_6_f0_l a0 x28.ty x28.args) fun v56 =>
    some (decide (v56 ≥ 0))
   )
  )
 )
def m_memory_Of_L1 (N : Nat) (l1 : List FactD) (a0 : Int) : (Nat × Int × (List FactD)) → Option ((Nat × Int × (List FactD)) ⊕ ((List FactD) ⊕ (Unit ⊕ (List FactD)))) := fun (u1_26, u1_7, u1_6_f0_l) =>
 if (decide (u1_26 < l1.length)) = true then (
  bindO (l1[u1_26]?) fun x28 =>
  bindO (m_memory_Of_C3 N x28 u1_7 a0 u1_6_f0_l
  ) fun j_3_58 =>
  if j_3_58 = true then (
   some (.inr (.inr (.inl ())))
  ) else (
   bindO (m_memory_own N x28.id x28.ty x28.args) fun _ =>
   gd (u1_6_f0_l.length + [x28].length ≤ 3518437208883) <|
   gd (u1_26 + 1 ≤ 9223372036854775807) <|
   some (.inl (u1_26 + 1, x28.id, u1_6_f0_l ++ [x28]))
  )
 ) else (
  some (.inr (.inl u1_6_f0_l))
 )
def m_memory_Of (N : Nat) (a0 : Int) (l1 : List FactD) : Option (Unit ⊕ (List FactD)) :=
 bindO (
  if (decide (a0 < 1)) = true then (
   some true
  ) else (
   if (decide (a0 > 1099511627777)) = true then (
    some true
   ) else (
    some (decide (256 < l1.length))
   )
  )
 ) fun j_1_20 =>
 if j_1_20 = true then (
  some (.inl ())
 ) else (
  bindS (
   iter (m_memory_Of_L1 N l1 a0) N (0, 0, [])
  ) fun j_2_6_f0_l =>
  some (.inr j_2_6_f0_l)
 )
def m_memory_Memory_known_v2 (N : Nat) : Option (Unit) :=
 some ()
def m_memory_Memory_Drop_v2 (N : Nat) (a0 : Int) : Option (Unit) :=
 bindO (m_memory_Memory_known_v2 N) fun _ =>
 some ()
def m_memory_Memory_Add_v3 (N : Nat) (a0 : Int) (l1 : List V) : Option (Unit) :=
 bindO (m_memory_Memory_known_v2 N) fun _ =>
 some ()
def m_ropewalklaw11_do_v2 (N : Nat) (a0 : Int) (a1 : Int) (a2 : Int) (l3 : List V) : Option (Unit) :=
 bindO (m_ropewalkkit_Pick N a0 3) fun v8 =>
 if (v8 == 2) = true then (
  bindO (m_memory_Memory_Drop_v2 N a1) fun _ =>
  some ()
 ) else (
  bindO (m_memory_Memory_Add_v3 N a2 l3) fun _ =>
  some ()
 )
def m_memory_Memory_Next_v2 (N : Nat) : Option (Unit) :=
 bindO (m_memory_Memory_known_v2 N) fun _ =>
 some ()
def m_memory_Memory_All_v2 (N : Nat) : Option (Unit) :=
 bindO (m_memory_Memory_known_v2 N) fun _ =>
 some ()
def m_ropewalkkit_SameValues_L1 (N : Nat) (l0 : List V) (l1 : List V) : Nat → Option (Nat ⊕ (Unit ⊕ Bool)) := fun u1_5 =>
 if (decide (u1_5 < l0.length)) = true then (
  bindO (l0[u1_5]?) fun x19 =>
  bindO (l1[u1_5]?) fun x23 =>
  if (!decide (x19 = x23)) = true then (
   some (.inr (.inr false))
  ) else (
   gd (u1_5 + 1 ≤ 9223372036854775807) <|
   some (.inl (u1_5 + 1))
  )
 ) else (
  some (.inr (.inl ()))
 )
def m_ropewalkkit_SameValues (N : Nat) (l0 : List V) (l1 : List V) : Option (Bool) :=
 if (l0.length != l1.length) = true then (
  some false
 ) else (
  bindS (
   iter (m_ropewalkkit_SameValues_L1 N l0 l1) N 0
  ) fun _ =>
  some true
 )
def m_ropewalkkit_SameFact (N : Nat) (a0 : Int) (a1 : Int) (l2 : List V) (a3 : Int) (a4 : Int) (l5 : List V) : Option (Bool) :=
 if (a0 == a3) = true then (
  if (a1 == a4) = true then (
   bindO (m_ropewalkkit_SameValues N l2 l5) fun v22 =>
   some v22
  ) else (
   some false
  )
 ) else (
  some false
 )
def m_ropewalkkit_SameFacts_L1 (N : Nat) (l0 : List FactD) (l1 : List FactD) : Nat → Option (Nat ⊕ (Unit ⊕ Bool)) := fun u1_5 =>
 if (decide (u1_5 < l0.length)) = true then (
  bindO (l0[u1_5]?) fun x19 =>
  bindO (l1[u1_5]?) fun x23 =>
  bindO (m_ropewalkkit_SameFact N x19.id x19.ty x19.args x23.id x23.ty x23.args) fun v25 =>
  if (!v25) = true then (
   some (.inr (.inr false))
  ) else (
   gd (u1_5 + 1 ≤ 9223372036854775807) <|
   some (.inl (u1_5 + 1))
  )
 ) else (
  some (.inr (.inl ()))
 )
def m_ropewalkkit_SameFacts (N : Nat) (l0 : List FactD) (l1 : List FactD) : Option (Bool) :=
 if (l0.length != l1.length) = true then (
  some false
 ) else (
  bindS (
   iter (m_ropewalkkit_SameFacts_L1 N l0 l1) N 0
  ) fun _ =>
  some true
 )

def m_ropewalklaw11_MemoryOf_L1 (N : Nat) (l0 : List Ropewalklaw11_DoD) : (Nat × (List FactD) × Int) → Option ((Nat × (List FactD) × Int) ⊕ (((List FactD) × Int) ⊕ Bool)) := fun (u1_6, u1_5_f0_l, u1_5_f1) =>
 bindO (
  if (decide (u1_6 < l0.length)) = true then (
   some (decide (u1_6 < 120))
  ) else (
   some false
  )
 ) fun j_2_24 =>
 if j_2_24 = true then (
  bindO (l0[u1_6]?) fun x29 =>
  if (decide (20 < x29.args.length)) = true then (
   some (.inr (.inr true))
  ) else (
   bindO (l0[u1_6]?) fun x37 =>
   bindO (m_ropewalklaw11_do N u1_5_f0_l u1_5_f1 x37.op x37.id x37.type x37.args) fun (v39_0, v39_1, v39_2, v39_3) =>
   gd (u1_6 + 1 ≤ 9223372036854775807) <|
   some (.inl (u1_6 + 1, v39_2, v39_3))
  )
 ) else (
  some (.inr (.inl (u1_5_f0_l, u1_5_f1)))
 )
def m_ropewalklaw11_MemoryOf_L2 (N : Nat) (l1 : List Ropewalklaw11_DoD) : (Nat × (List FactD) × Int) → Option ((Nat × (List FactD) × Int) ⊕ (((List FactD) × Int) ⊕ Bool)) := fun (u2_9, u2_5_f0_l, u2_5_f1) =>
 bindO (
  if (decide (u2_9 < l1.length)) = true then (
   some (decide (u2_9 < 120))
  ) else (
   some false
  )
 ) fun j_5_57 =>
 if j_5_57 = true then (
  bindO (l1[u2_9]?) fun x62 =>
  if (decide (20 < x62.args.length)) = true then (
   some (.inr (.inr true))
  ) else (
   bindO (l1[u2_9]?) fun x71 =>
   bindO (m_ropewalklaw11_do N u2_5_f0_l u2_5_f1 x71.op x71.id x71.type x71.args) fun (v73_0, v73_1, v73_2, v73_3) =>
   bindO (l1[u2_9]?) fun x80 =>
   bindO (m_ropewalklaw11_do_v2 N x80.op x80.id x80.type x80.args) fun _ =>
   bindO (
    if (v73_0 != 0) = true then (
     some true
    ) else (
     some (v73_1 != 1)
    )
   ) fun j_6_92 =>
   if j_6_92 = true then (
    some (.inr (.inr false))
   ) else (
    gd (u2_9 + 1 ≤ 9223372036854775807) <|
    some (.inl (u2_9 + 1, v73_2, v73_3))
   )
  )
 ) else (
  some (.inr (.inl (u2_5_f0_l, u2_5_f1)))
 )
def m_ropewalklaw11_MemoryOf_L3 (N : Nat) (l1 : List Ropewalklaw11_DoD) : (Nat × (List FactD) × Int × (List FactD) × Int) → Option ((Nat × (List FactD) × Int × (List FactD) × Int) ⊕ (((List FactD) × Int × (List FactD) × Int) ⊕ Bool)) := fun (u3_9, u3_7_f0_l, u3_7_f1, u3_5_f0_l, u3_5_f1) =>
 bindO (
  if (decide (u3_9 < l1.length)) = true then (
   some (decide (u3_9 < 120))
  ) else (
   some false
  )
 ) fun j_8_57 =>
 if j_8_57 = true then (
  bindO (l1[u3_9]?) fun x62 =>
  if (decide (20 < x62.args.length)) = true then (
   some (.inr (.inr true))
  ) else (
   bindO (l1[u3_9]?) fun x71 =>
   bindO (m_ropewalklaw11_do N u3_5_f0_l u3_5_f1 x71.op x71.id x71.type x71.args) fun (v73_0, v73_1, v73_2, v73_3) =>
   bindO (l1[u3_9]?) fun x80 =>
   bindO (m_ropewalklaw11_do N u3_7_f0_l u3_7_f1 x80.op x80.id x80.type x80.args) fun (v82_0, v82_1, v82_2, v82_3) =>
   bindO (
    if (v73_0 != v82_0) = true then (
     some true
    ) else (
     some (v73_1 != v82_1)
    )
   ) fun j_9_92 =>
   if j_9_92 = true then (
    some (.inr (.inr false))
   ) else (
    gd (u3_9 + 1 ≤ 9223372036854775807) <|
    some (.inl (u3_9 + 1, v82_2, v82_3, v73_2, v73_3))
   )
  )
 ) else (
  some (.inr (.inl (u3_7_f0_l, u3_7_f1, u3_5_f0_l, u3_5_f1)))
 )
def m_ropewalklaw11_MemoryOf (N : Nat) (l0 : List Ropewalklaw11_DoD) (l1 : List Ropewalklaw11_DoD) : Option (Bool) :=
 bindO (m_ropewalklaw11_awake N) fun v14 =>
 if (!v14) = true then (
  some false
 ) else (
  bindO (m_memory_New N) fun _ =>
  bindS (
   iter (m_ropewalklaw11_MemoryOf_L1 N l0) N (0, [], 1)
  ) fun (j_1_5_f0_l, j_1_5_f1) =>
  bindO (m_memory_Memory_Next N j_1_5_f0_l j_1_5_f1) fun v42 =>
  bindO (m_memory_Memory_All N j_1_5_f0_l j_1_5_f1) fun v44 =>
  bindO (m_memory_Of N v42 v44) fun
  | .inl _ => (
  if (4 != 0) = true then (
   some false
  ) else (
   bindS (
    iter (m_ropewalklaw11_MemoryOf_L2 N l1) N (0, j_1_5_f0_l, j_1_5_f1)
   ) fun (j_4_5_f0_l, j_4_5_f1) =>
   bindO (m_memory_Memory_Next N j_4_5_f0_l j_4_5_f1) fun v94 =>
   bindO (m_memory_Memory_Next_v2 N) fun _ =>
   if (v94 == 0) = true then (
    bindO (m_memory_Memory_All N j_4_5_f0_l j_4_5_f1) fun v100 =>
    bindO (m_memory_Memory_All_v2 N) fun _ =>
    bindO (m_ropewalkkit_SameFacts N v100 ([] : List FactD)) fun v103 =>
    some v103
   ) else (
    some false
   )
  )
  )
  | .inr v45 => (
  if (0 != 0) = true then (
   some false
  ) else (
   bindS (
    iter (m_ropewalklaw11_MemoryOf_L3 N l1) N (0, v45, v42, j_1_5_f0_l, j_1_5_f1)
   ) fun (j_7_7_f0_l, j_7_7_f1, j_7_5_f0_l, j_7_5_f1) =>
   bindO (m_memory_Memory_Next N j_7_5_f0_l j_7_5_f1) fun v94 =>
   bindO (m_memory_Memory_Next N j_7_7_f0_l j_7_7_f1) fun v96 =>
   if (v94 == v96) = true then (
    bindO (m_memory_Memory_All N j_7_5_f0_l j_7_5_f1) fun v100 =>
    bindO (m_memory_Memory_All N j_7_7_f0_l j_7_7_f1) fun v102 =>
    bindO (m_ropewalkkit_SameFacts N v100 v102) fun v103 =>
    some v103
   ) else (
    some false
   )
  )
  )
 )
def m_ropewalkkit_CopyValues (N : Nat) (l0 : List V) : Option (Unit) :=
 gd (([] : List V).length + l0.length ≤ 4398046511104) <|
 some ()
def m_memory_Memory_Get (N : Nat) (l0 : List FactD) (a1 : Int) (a2 : Int) : Option (Int × Int × (List V) × Bool) :=
 bindO (m_memory_Memory_known N l0 a1) fun _ =>
 if (!(decide (a1 > 0))) = true then (
  some (0, 0, [], false)
 ) else (
  bindO (m_memory_row_at N l0 a1 a2) fun (v17_0, v17_1) =>
  if (!v17_1) = true then (
   some (0, 0, [], false)
  ) else (
   gd (0 ≤ v17_0) <|
   bindO (l0[v17_0.toNat]?) fun x29 =>
   bindO (m_memory_own N x29.id x29.ty x29.args) fun _ =>
   some (x29.id, x29.ty, x29.args, true)
  )
 )
def m_memory_Memory_Find (N : Nat) (l0 : List FactD) (a1 : Int) (a2 : Int) (l3 : List V) : Option (Int × Bool) :=
 bindO (m_memory_Memory_known N l0 a1) fun _ =>
 if (!(decide (a1 > 0))) = true then (
  some (0, false)
 ) else (
  bindO (m_memory_row_says N l0 a1 a2 l3) fun v17 =>
  if (decide (v17 < 0)) = true then (
   some (0, false)
  ) else (
   gd (0 ≤ v17) <|
   bindO (l0[v17.toNat]?) fun x26 =>
   some (x26.id, true)
  )
 )


def m_ropewalkkit_CopyFact (N : Nat) (a0 : Int) (a1 : Int) (l2 : List V) : Option (Unit) :=
 bindO (m_ropewalkkit_CopyValues N l2) fun _ =>
 some ()
def m_ropewalkkit_CopyFacts_L1 (N : Nat) (l0 : List FactD) : (Nat × (List FactD)) → Option ((Nat × (List FactD)) ⊕ (List FactD)) := fun (u1_4, u1_3_l) =>
 if (decide (u1_4 < l0.length)) = true then (
  bindO (l0[u1_4]?) fun x14 =>
  bindO (m_ropewalkkit_CopyFact N x14.id x14.ty x14.args) fun _ =>
  gd (u1_3_l.length + [x14].length ≤ 3518437208883) <|
  gd (u1_4 + 1 ≤ 9223372036854775807) <|
  some (.inl (u1_4 + 1, u1_3_l ++ [x14]))
 ) else (
  some (.inr u1_3_l)
 )
def m_ropewalkkit_CopyFacts (N : Nat) (l0 : List FactD) : Option (List FactD) :=
 bindO (
  iter (m_ropewalkkit_CopyFacts_L1 N l0) N (0, [])
 ) fun j_1_3_l =>
 some j_1_3_l
def m_ropewalklaw11_MemoryKeeps_C7 (N : Nat) (u1_4_l : List FactD) (u2_13 : Nat) (v73 : Int) (x34 : Ropewalklaw11_DoD) (u2_12 : Int) : Option (Int) :=
 bindO (
  bindO (u1_4_l[u2_13]?) fun x90 =>
  if (x90.ty == v73) = true then (
   bindO (u1_4_l[u2_13]?) fun x98 =>
   bindO (m_ropewalkkit_SameValues N x98.args x34.args) fun v103 =>
   some v103
  ) else (
   some false
  )
 ) fun j_8_104 =>
 if j_8_104 = true then (
  some ((u2_13 : Nat) : Int)
 ) else (
  some u2_12
 )
def m_ropewalklaw11_MemoryKeeps_L2 (N : Nat) (u1_4_l : List FactD) (v73 : Int) (x34 : Ropewalklaw11_DoD) : (Nat × Int) → Option ((Nat × Int) ⊕ Int) := fun (u2_13, u2_12) =>
 if (decide (u2_13 < u1_4_l.length)) = true then (
  bindO (m_ropewalklaw11_MemoryKeeps_C7 N u1_4_l u2_13 v73 x34 u2_12
  ) fun j_7_12 =>
  gd (u2_13 + 1 ≤ 9223372036854775807) <|
  some (.inl (u2_13 + 1, j_7_12))
 ) else (
  some (.inr u2_12)
 )
def m_ropewalklaw11_MemoryKeeps_C9 (N : Nat) (v79_1 : Nat) (j_6_12 : Int) (v79_0 : Int) (u1_5 : Int) (x34 : Ropewalklaw11_DoD) (u1_4_l : List FactD) (v73 : Int) : Option ((Int × (List FactD)) ⊕ ((Int × (List FactD) × (List FactD) × Int) ⊕ ((Nat × Int × (List FactD) × (List FactD) × Int) ⊕ (((List FactD) × Int × (List FactD)) ⊕ Bool)))) :=
 if (v79_1 == 0) = true then (
  bindO (
   if (decide (j_6_12 ≥ 0)) = true then (
    some true
   ) else (
    some (decide (v79_0 ≤ u1_5))
   )
  ) fun j_10_115 =>
  if j_10_115 = true then (
   some (.inr (.inr (.inr (.inr false))))
  ) else (
   bindO (m_ropewalkkit_CopyValues N x34.args) fun _ =>
   gd (u1_4_l.length + ([(⟨v79_0, v73, x34.args⟩ : FactD)]).length ≤ 3518437208883) <|
   some (.inl (v79_0, (u1_4_l ++ ([(⟨v79_0, v73, x34.args⟩ : FactD)]))))
  )
 ) else (
  if (v79_1 == 7) = true then (
   bindO (
    if (decide (j_6_12 < 0)) = true then (
     some true
    ) else (
     gd (0 ≤ j_6_12) <|
     bindO (u1_4_l[j_6_12.toNat]?) fun x134 =>
     some (x134.id != v79_0)
    )
   ) fun j_11_139 =>
   if j_11_139 = true then (
    some (.inr (.inr (.inr (.inr false))))
   ) else (
    some (.inl (u1_5, u1_4_l))
   )
  ) else (
   bindO (
    if (v79_1 != 2) = true then (
     some true
    ) else (
     some (decide (j_6_12 ≥ 0))
    )
   ) fun j_12_140 =>
   if j_12_140 = true then (
    some (.inr (.inr (.inr (.inr false))))
   ) else (
    some (.inl (u1_5, u1_4_l))
   )
  )
 )
def m_ropewalklaw11_MemoryKeeps_C14 (N : Nat) (v160_3 : Bool) (j_9_4_l : List FactD) (u3_14 : Nat) (v160_0 : Int) (v160_1 : Int) (v160_2 : List V) (v175_1 : Bool) (v175_0 : Int) : Option (Bool) :=
 if (!v160_3) = true then (
  some true
 ) else (
  bindO (j_9_4_l[u3_14]?) fun x184 =>
  bindO (m_ropewalkkit_SameFact N v160_0 v160_1 v160_2 x184.id x184.ty x184.args) fun v186 =>
  if (!v186) = true then (
   some true
  ) else (
   if (!v175_1) = true then (
    some true
   ) else (
    bindO (j_9_4_l[u3_14]?) fun x197 =>
    some (v175_0 != x197.id)
   )
  )
 )
def m_ropewalklaw11_MemoryKeeps_L3 (N : Nat) (j_9_4_l : List FactD) (v79_2 : List FactD) (v79_3 : Int) (j_9_5 : Int) : Nat → Option (Nat ⊕ ((Int × (List FactD) × (List FactD) × Int) ⊕ ((Nat × Int × (List FactD) × (List FactD) × Int) ⊕ (((List FactD) × Int × (List FactD)) ⊕ Bool)))) := fun u3_14 =>
 if (decide (u3_14 < j_9_4_l.length)) = true then (
  bindO (j_9_4_l[u3_14]?) fun x157 =>
  bindO (m_memory_Memory_Get N v79_2 v79_3 x157.id) fun (v160_0, v160_1, v160_2, v160_3) =>
  bindO (j_9_4_l[u3_14]?) fun x167 =>
  bindO (j_9_4_l[u3_14]?) fun x172 =>
  bindO (m_memory_Memory_Find N v79_2 v79_3 x167.ty x172.args) fun (v175_0, v175_1) =>
  bindO (m_ropewalklaw11_MemoryKeeps_C14 N v160_3 j_9_4_l u3_14 v160_0 v160_1 v160_2 v175_1 v175_0
  ) fun j_14_201 =>
  if j_14_201 = true then (
   some (.inr (.inr (.inr (.inr false))))
  ) else (
   gd (u3_14 + 1 ≤ 9223372036854775807) <|
   some (.inl (u3_14 + 1))
  )
 ) else (
  some (.inr (.inl (j_9_5, j_9_4_l, v79_2, v79_3)))
 )
def m_ropewalklaw11_MemoryKeeps_C3 (N : Nat) (l0 : List Ropewalklaw11_DoD) (u1_6 : Nat) (u1_4_l : List FactD) (u1_3_f0_l : List FactD) (u1_3_f1 : Int) (u1_5 : Int) : Option ((Int × (List FactD) × (List FactD) × Int) ⊕ ((Nat × Int × (List FactD) × (List FactD) × Int) ⊕ (((List FactD) × Int × (List FactD)) ⊕ Bool))) :=
 bindO (l0[u1_6]?) fun x34 =>
 if (decide (20 < x34.args.length)) = true then (
  some (.inr (.inr (.inr true)))
 ) else (
  bindO (
   bindO (m_ropewalkkit_Pick N x34.op 3) fun v42 =>
   if (v42 == 2) = true then (
    some (decide (0 < u1_4_l.length))
   ) else (
    some false
   )
  ) fun j_4_48 =>
  if j_4_48 = true then (
   bindO (m_ropewalkkit_Pick N x34.id ((u1_4_l.length : Nat) : Int)) fun v53 =>
   gd (0 ≤ v53) <|
   bindO (u1_4_l[v53.toNat]?) fun x57 =>
   bindO (m_memory_Memory_Drop N u1_3_f0_l u1_3_f1 x57.id) fun (v60_0, v60_1) =>
   if (v60_0 != 0) = true then (
    some (.inr (.inr (.inr false)))
   ) else (
    gd (0 ≤ v53) <|
    gd (v53.toNat ≤ u1_4_l.length) <|
    bindO (m_ropewalkkit_CopyFacts N (u1_4_l.take v53.toNat)) fun v65 =>
    gd (-9223372036854775808 ≤ v53 + 1 ∧ v53 + 1 ≤ 9223372036854775807) <|
    gd (0 ≤ v53 + 1) <|
    gd ((v53 + 1).toNat ≤ u1_4_l.length) <|
    gd (v65.length + (u1_4_l.drop ((v53 + 1).toNat)).length ≤ 3518437208883) <|
    some (.inl (u1_5, v65 ++ (u1_4_l.drop ((v53 + 1).toNat)), v60_1, u1_3_f1))
   )
  ) else (
   bindO (m_ropewalkkit_Pick N x34.type 3) fun v73 =>
   bindO (m_memory_Memory_Add N u1_3_f0_l u1_3_f1 v73 x34.args) fun (v79_0, v79_1, v79_2, v79_3) =>
   bindO (
    iter (m_ropewalklaw11_MemoryKeeps_L2 N u1_4_l v73 x34) N (0, -1)
   ) fun j_6_12 =>
   bindS (m_ropewalklaw11_MemoryKeeps_C9 N v79_1 j_6_12 v79_0 u1_5 x34 u1_4_l v73
   ) fun (j_9_5, j_9_4_l) =>
   iter (m_ropewalklaw11_MemoryKeeps_L3 N j_9_4_l v79_2 v79_3 j_9_5) N 0
  )
 )
def m_ropewalklaw11_MemoryKeeps_L1 (N : Nat) (l0 : List Ropewalklaw11_DoD) : (Nat × Int × (List FactD) × (List FactD) × Int) → Option ((Nat × Int × (List FactD) × (List FactD) × Int) ⊕ (((List FactD) × Int × (List FactD)) ⊕ Bool)) := fun (u1_6, u1_5, u1_4_l, u1_3_f0_l, u1_3_f1) =>
 bindO (
  if (decide (u1_6 < l0.length)) = true then (
   some (decide (u1_6 < 120))
  ) else (
   some false
  )
 ) fun j_2_29 =>
 if j_2_29 = true then (
  bindS (m_ropewalklaw11_MemoryKeeps_C3 N l0 u1_6 u1_4_l u1_3_f0_l u1_3_f1 u1_5
  ) fun (j_3_5, j_3_4_l, j_3_3_f0_l, j_3_3_f1) =>
  gd (u1_6 + 1 ≤ 9223372036854775807) <|
  some (.inl (u1_6 + 1, j_3_5, j_3_4_l, j_3_3_f0_l, j_3_3_f1))
 ) else (
  some (.inr (.inl (u1_3_f0_l, u1_3_f1, u1_4_l)))
 )
def m_ropewalklaw11_MemoryKeeps (N : Nat) (l0 : List Ropewalklaw11_DoD) : Option (Bool) :=
 bindO (m_ropewalklaw11_awake N) fun v19 =>
 if (!v19) = true then (
  some false
 ) else (
  bindO (m_memory_New N) fun _ =>
  bindS (
   iter (m_ropewalklaw11_MemoryKeeps_L1 N l0) N (0, 0, [], [], 1)
  ) fun (j_1_3_f0_l, j_1_3_f1, j_1_4_l) =>
  bindO (m_memory_Memory_All N j_1_3_f0_l j_1_3_f1) fun v203 =>
  bindO (m_ropewalkkit_SameFacts N v203 j_1_4_l) fun v205 =>
  if v205 = true then (
   bindO (m_memory_Memory_Len N j_1_3_f0_l j_1_3_f1) fun v208 =>
   some (v208 == j_1_4_l.length)
  ) else (
   some false
  )
 )
end Go.Proofs.YtdnolbmbmncefaaDoor
