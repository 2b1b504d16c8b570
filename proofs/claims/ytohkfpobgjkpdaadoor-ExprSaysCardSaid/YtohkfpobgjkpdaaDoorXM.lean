import Derived.Test.YtohkfpobgjkpdaaDoorXT
namespace Go.Proofs.YtohkfpobgjkpdaaDoor
open Go.RowKit
def m_ropewalklaw09_number (N : Nat) (a0 : Int) : Option (Unit) :=
 some ()
def m_ropewalklaw09_op (N : Nat) (a0 : Int) (a1 : Int) (a2 : Int) (a3 : Int) (a4 : ByteArray) (a5 : Int) (a6 : Int) (l7 : List Api_ExprD) (a8 : Int) (a9 : Int) (a10 : Int) (a11 : ByteArray) (a12 : Int) (a13 : Int) (l14 : List Api_ExprD) : Option (Unit) :=
 some ()
def m_value_named_C1 (N : Nat) (a0 : ByteArray) : Option (Bool) :=
 if (!(a0.toList == (⟨#[]⟩ : ByteArray).toList)) = true then (
  if (decide (a0.size ≤ 24)) = true then (
   bindO (a0[0]?) fun x12 =>
   if (decide ((Lib.indexByte (⟨#[97, 98, 99, 100, 101, 102, 103, 104, 105, 106, 107, 108, 109, 110, 111, 112, 113, 114, 115, 116, 117, 118, 119, 120, 121, 122]⟩ : ByteArray).data.toList (((x12.toNat : Nat) : Int)).toNat.toUInt8) ≥ 0)) = true then (
    gd (a0.size ≤ 9223372036854775807) <|
    some ((⟨(Lib.trimS a0.data.toList (⟨#[97, 98, 99, 100, 101, 102, 103, 104, 105, 106, 107, 108, 109, 110, 111, 112, 113, 114, 115, 116, 117, 118, 119, 120, 121, 122, 48, 49, 50, 51, 52, 53, 54, 55, 56, 57, 95]⟩ : ByteArray).data.toList).toArray⟩ : ByteArray).toList == (⟨#[]⟩ : ByteArray).toList)
   ) else (
    some false
   )
  ) else (
   some false
  )
 ) else (
  some false
 )
def m_value_named (N : Nat) (a0 : ByteArray) : Option (Bool) :=
 bindO (m_value_named_C1 N a0
 ) fun j_1_2 =>
 some j_1_2
def m_value_Right (N : Nat) (a0 : Int) (a1 : Int) (a2 : ByteArray) : Option (Bool) :=
 if (a0 == 1) = true then (
  some (a2.toList == (⟨#[]⟩ : ByteArray).toList)
 ) else (
  if (a0 == 2) = true then (
   if (a1 == 0) = true then (
    bindO (m_value_named N a2) fun v18 =>
    some v18
   ) else (
    some false
   )
  ) else (
   some false
  )
 )
def m_expr_sure (N : Nat) (a0 : Int) (a1 : Int) (a2 : ByteArray) : Option (Int × Int × ByteArray × Nat) :=
 bindO (m_value_Right N a0 a1 a2) fun v5 =>
 if (!v5) = true then (
  some (0, 0, (⟨#[]⟩ : ByteArray), 2)
 ) else (
  some (a0, a1, a2, 0)
 )
def m_expr_Eval_1 (N : Nat) (a0 : Int) (a1 : Int) (a2 : Int) (a3 : ByteArray) (a4 : Int) (a5 : Int) (l6 : List Api_ExprD) : Option (Int × Int × ByteArray × Nat) :=
 bindO (m_expr_sure N a1 a2 a3) fun (v5_0, v5_1, v5_2, v5_3) =>
 some (v5_0, v5_1, v5_2, v5_3)
def m_expr_Eval_2 (N : Nat) (a0 : Int) (a1 : Int) (a2 : Int) (a3 : ByteArray) (a4 : Int) (a5 : Int) (l6 : List Api_ExprD) (l7 : List V) : Option (Int × Int × ByteArray × Nat) :=
 bindO (
  if (decide (a4 < 0)) = true then (
   some true
  ) else (
   some (decide (a4 ≥ ((l7.length : Nat) : Int)))
  )
 ) fun j_1_13 =>
 if j_1_13 = true then (
  some (0, 0, (⟨#[]⟩ : ByteArray), 2)
 ) else (
  gd (0 ≤ a4) <|
  bindO (l7[a4.toNat]?) fun x18 =>
  bindO (m_expr_sure N x18.k x18.n x18.s) fun (v20_0, v20_1, v20_2, v20_3) =>
  some (v20_0, v20_1, v20_2, v20_3)
 )
def m_value_number (N : Nat) (a0 : Int) : Option (Unit) :=
 some ()
def m_value_Truth (N : Nat) (a0 : Bool) : Option (Int) :=
 if a0 = true then (
  bindO (m_value_number N 1) fun _ =>
  some 1
 ) else (
  bindO (m_value_number N 0) fun _ =>
  some 0
 )
def m_value_does (N : Nat) (a0 : Int) : Option (Unit ⊕ (Unit ⊕ (Unit ⊕ (Unit ⊕ (Unit ⊕ (Unit ⊕ (Unit ⊕ (Unit ⊕ (Unit ⊕ Unit))))))))) :=
 if (a0 == 1) = true then (
 some (.inl ())
 ) else (
 if (a0 == 2) = true then (
 some (.inr (.inl ()))
 ) else (
 if (a0 == 3) = true then (
 some (.inr (.inr (.inl ())))
 ) else (
 if (a0 == 4) = true then (
 some (.inr (.inr (.inr (.inl ()))))
 ) else (
 if (a0 == 7) = true then (
 some (.inr (.inr (.inr (.inr (.inl ())))))
 ) else (
 if (a0 == 8) = true then (
 some (.inr (.inr (.inr (.inr (.inr (.inl ()))))))
 ) else (
 if (a0 == 9) = true then (
 some (.inr (.inr (.inr (.inr (.inr (.inr (.inl ())))))))
 ) else (
 if (a0 == 10) = true then (
 some (.inr (.inr (.inr (.inr (.inr (.inr (.inr (.inl ()))))))))
 ) else (
 if (a0 == 11) = true then (
 some (.inr (.inr (.inr (.inr (.inr (.inr (.inr (.inr (.inl ())))))))))
 ) else (
 some (.inr (.inr (.inr (.inr (.inr (.inr (.inr (.inr (.inr ())))))))))
 )))))))))
def m_value_does_2 (N : Nat) (a0 : Int) (a1 : Int) : Option (Unit) :=
 some ()
def m_value_does_3 (N : Nat) (a0 : Int) (a1 : Int) : Option (Unit) :=
 some ()
def m_value_product (N : Nat) (a0 : Int) (a1 : Int) : Option (Int × Bool) :=
 bindO (
  if (decide (a0 < 0)) = true then (
   some (IntKind.wrap .u64 (0 - (IntKind.wrap .u64 a0)))
  ) else (
   some (IntKind.wrap .u64 a0)
  )
 ) fun j_1_6 =>
 bindO (
  if (decide (a1 < 0)) = true then (
   some (IntKind.wrap .u64 (0 - (IntKind.wrap .u64 a1)))
  ) else (
   some (IntKind.wrap .u64 a1)
  )
 ) fun j_2_7 =>
 gd (0 ≤ j_1_6 ∧ j_1_6 < 18446744073709551616) <|
 gd (0 ≤ j_2_7 ∧ j_2_7 < 18446744073709551616) <|
 if ((decide (a0 < 0)) != (decide (a1 < 0))) = true then (
  if (((j_1_6.toNat * j_2_7.toNat / 18446744073709551616 : Nat) : Int) == 0) = true then (
   some ((IntKind.wrap .i64 (IntKind.wrap .u64 (0 - ((j_1_6.toNat * j_2_7.toNat % 18446744073709551616 : Nat) : Int)))), (decide (((j_1_6.toNat * j_2_7.toNat % 18446744073709551616 : Nat) : Int) ≤ 9223372036854775808)))
  ) else (
   some ((IntKind.wrap .i64 (IntKind.wrap .u64 (0 - ((j_1_6.toNat * j_2_7.toNat % 18446744073709551616 : Nat) : Int)))), false)
  )
 ) else (
  if (((j_1_6.toNat * j_2_7.toNat / 18446744073709551616 : Nat) : Int) == 0) = true then (
   some ((IntKind.wrap .i64 ((j_1_6.toNat * j_2_7.toNat % 18446744073709551616 : Nat) : Int)), (decide (((j_1_6.toNat * j_2_7.toNat % 18446744073709551616 : Nat) : Int) < 9223372036854775808)))
  ) else (
   some ((IntKind.wrap .i64 ((j_1_6.toNat * j_2_7.toNat % 18446744073709551616 : Nat) : Int)), false)
  )
 )
def m_value_does_4 (N : Nat) (a0 : Int) (a1 : Int) : Option (Unit) :=
 some ()
def m_value_does_1 (N : Nat) (a0 : Bool) : Option (Int) :=
 bindO (m_value_Truth N a0) fun v5 =>
 some v5
def m_value_does_5 (N : Nat) (a0 : Int) (a1 : Int) : Option (Int) :=
 bindO (m_value_does_1 N (decide (a0 < a1))) fun v11 =>
 some v11
def m_value_does_6 (N : Nat) (a0 : Int) (a1 : Int) : Option (Int) :=
 bindO (m_value_does_1 N (decide (a0 ≤ a1))) fun v11 =>
 some v11
def m_value_does_7 (N : Nat) (a0 : Int) (a1 : Int) : Option (Int) :=
 if (a0 != 0) = true then (
  bindO (m_value_does_1 N (a1 != 0)) fun v14 =>
  some v14
 ) else (
  bindO (m_value_does_1 N false) fun v14 =>
  some v14
 )
def m_value_does_8 (N : Nat) (a0 : Int) (a1 : Int) : Option (Int) :=
 if (a0 != 0) = true then (
  bindO (m_value_does_1 N true) fun v14 =>
  some v14
 ) else (
  bindO (m_value_does_1 N (a1 != 0)) fun v14 =>
  some v14
 )
def m_value_does_9 (N : Nat) (a0 : Int) (a1 : Int) : Option (Int) :=
 bindO (m_value_does_1 N (a0 == 0)) fun v10 =>
 some v10
def m_value_Do_C1 (N : Nat) (a0 : Int) : Option (Nat) :=
 bindO (
  if (a0 == 4) = true then (
   some true
  ) else (
   some (a0 == 11)
  )
 ) fun j_2_19 =>
 if j_2_19 = true then (
  some 1
 ) else (
  some 2
 )
def m_value_Do_C5 (N : Nat) (l1 : List V) (u1_35 : Nat) (u1_7 : Bool) : Option (Bool ⊕ ((Nat × Bool) ⊕ (Bool ⊕ (Nat × Int × Nat)))) :=
 bindO (l1[u1_35]?) fun x37 =>
 bindO (m_value_Right N x37.k x37.n x37.s) fun v40 =>
 if (!v40) = true then (
  some (.inr (.inr (.inr (0, 0, 2))))
 ) else (
  if u1_7 = true then (
   some (.inl true)
  ) else (
   some (.inl (x37.k == 2))
  )
 )
def m_value_Do_L1 (N : Nat) (l1 : List V) : (Nat × Bool) → Option ((Nat × Bool) ⊕ (Bool ⊕ (Nat × Int × Nat))) := fun (u1_35, u1_7) =>
 if (decide (u1_35 < l1.length)) = true then (
  bindS (m_value_Do_C5 N l1 u1_35 u1_7
  ) fun j_5_7 =>
  gd (u1_35 + 1 ≤ 9223372036854775807) <|
  some (.inl (u1_35 + 1, j_5_7))
 ) else (
  some (.inr (.inl u1_7))
 )
def m_value_Do_C7 (N : Nat) (a0 : Int) (x51 : V) (x56 : V) : Option (Int × Bool) :=
 bindO (m_value_does N a0) fun
 | .inl _ => (
 bindO (m_value_does_2 N x51.n x56.n) fun _ =>
 some (IntKind.wrap .i64 (x51.n + x56.n), (decide ((IntKind.wrap .i64 (x51.n + x56.n)) < x51.n)) == (decide (x56.n < 0)))
 )
 | .inr (.inl _) => (
 bindO (m_value_does_3 N x51.n x56.n) fun _ =>
 some (IntKind.wrap .i64 (x51.n - x56.n), (decide ((IntKind.wrap .i64 (x51.n - x56.n)) > x51.n)) == (decide (x56.n < 0)))
 )
 | .inr (.inr (.inl _)) => (
 bindO (m_value_product N x51.n x56.n) fun (v82_0, v82_1) =>
 some (v82_0, v82_1)
 )
 | .inr (.inr (.inr (.inl _))) => (
 bindO (m_value_does_4 N x51.n x56.n) fun _ =>
 some (IntKind.wrap .i64 (0 - x51.n), x51.n != -9223372036854775808)
 )
 | .inr (.inr (.inr (.inr (.inl _)))) => (
 bindO (m_value_does_5 N x51.n x56.n) fun v82 =>
 some (v82, true)
 )
 | .inr (.inr (.inr (.inr (.inr (.inl _))))) => (
 bindO (m_value_does_6 N x51.n x56.n) fun v82 =>
 some (v82, true)
 )
 | .inr (.inr (.inr (.inr (.inr (.inr (.inl _)))))) => (
 bindO (m_value_does_7 N x51.n x56.n) fun v82 =>
 some (v82, true)
 )
 | .inr (.inr (.inr (.inr (.inr (.inr (.inr (.inl _))))))) => (
 bindO (m_value_does_8 N x51.n x56.n) fun v82 =>
 some (v82, true)
 )
 | .inr (.inr (.inr (.inr (.inr (.inr (.inr (.inr (.inl _)))))))) => (
 bindO (m_value_does_9 N x51.n x56.n) fun v82 =>
 some (v82, true)
 )
 | .inr (.inr (.inr (.inr (.inr (.inr (.inr (.inr (.inr _)))))))) => (
 none
 )
def m_value_Do (N : Nat) (a0 : Int) (l1 : List V) : Option (Nat × Int × Nat) :=
 bindO (m_value_Do_C1 N a0
 ) fun j_1_6 =>
 bindO (
  if (decide (a0 < 1)) = true then (
   some true
  ) else (
   if (decide (a0 > 11)) = true then (
    some true
   ) else (
    some (l1.length != j_1_6)
   )
  )
 ) fun j_3_31 =>
 if j_3_31 = true then (
  some (0, 0, 2)
 ) else (
  bindS (
   iter (m_value_Do_L1 N l1) N (0, false)
  ) fun j_4_7 =>
  bindO (l1[0]?) fun x51 =>
  gd (-9223372036854775808 ≤ ((j_1_6 : Nat) : Int) - 1 ∧ ((j_1_6 : Nat) : Int) - 1 ≤ 9223372036854775807) <|
  gd (0 ≤ ((j_1_6 : Nat) : Int) - 1) <|
  bindO (l1[(((j_1_6 : Nat) : Int) - 1).toNat]?) fun x56 =>
  if (a0 == 5) = true then (
   bindO (m_value_Truth N (decide (x51 = x56))) fun v64 =>
   some (1, v64, 0)
  ) else (
   if (a0 == 6) = true then (
    bindO (m_value_Truth N (!decide (x51 = x56))) fun v71 =>
    some (1, v71, 0)
   ) else (
    if j_4_7 = true then (
     some (0, 0, 301)
    ) else (
     bindO (m_value_Do_C7 N a0 x51 x56
     ) fun (j_7_12, j_7_13) =>
     if (!j_7_13) = true then (
      some (0, 0, 300)
     ) else (
      bindO (m_value_number N j_7_12) fun _ =>
      some (1, j_7_12, 0)
     )
    )
   )
  )
 )
def m_expr_All_v2_L1 (N : Nat) (l1 : List Api_ExprD) (rc : Int → Int → Int → ByteArray → Int → Int → (List Api_ExprD) → (List V) → Option (Int × Int × ByteArray × Nat)) (l0 : List V) : (Nat × (List V)) → Option ((Nat × (List V)) ⊕ ((List V) ⊕ ((List V) × Nat))) := fun (u1_13, u1_6_l) =>
 if (decide (u1_13 < l1.length)) = true then (
  bindO (l1[u1_13]?) fun x15 =>
  bindO (rc x15.kind x15.value.k x15.value.n x15.value.s x15.var x15.op x15.kids l0) fun (v20_0, v20_1, v20_2, v20_3) =>
  if (v20_3 != 0) = true then (
   some (.inr (.inr ([], v20_3)))
  ) else (
   gd (u1_6_l.length + ([(⟨v20_0, v20_1, v20_2⟩ : V)]).length ≤ 4398046511104) <|
   gd (u1_13 + 1 ≤ 9223372036854775807) <|
   some (.inl (u1_13 + 1, (u1_6_l ++ ([(⟨v20_0, v20_1, v20_2⟩ : V)]))))
  )
 ) else (
  some (.inr (.inl u1_6_l))
 )
def m_expr_All_v2 (N : Nat) (rc : Int → Int → Int → ByteArray → Int → Int → (List Api_ExprD) → (List V) → Option (Int × Int × ByteArray × Nat)) (l0 : List V) (l1 : List Api_ExprD) : Option ((List V) × Nat) :=
 bindS (
  iter (m_expr_All_v2_L1 N l1 rc l0) N (0, [])
 ) fun j_1_6_l =>
 some (j_1_6_l, 0)
def m_expr_Eval_3_v2 (N : Nat) (rc : Int → Int → Int → ByteArray → Int → Int → (List Api_ExprD) → (List V) → Option (Int × Int × ByteArray × Nat)) (l0 : List V) (a1 : Int) (a2 : Int) (a3 : Int) (a4 : ByteArray) (a5 : Int) (a6 : Int) (l7 : List Api_ExprD) : Option (Nat × Int × Nat) :=
 bindO (m_expr_All_v2 N rc l0 l7) fun (v10_0, v10_1) =>
 if (v10_1 != 0) = true then (
  some (0, 0, v10_1)
 ) else (
  bindO (m_value_Do N a6 v10_0) fun (v20_0, v20_1, v20_2) =>
  some (v20_0, v20_1, v20_2)
 )
def m_expr_Eval_b (N : Nat) (rc : Int → Int → Int → ByteArray → Int → Int → (List Api_ExprD) → (List V) → Option (Int × Int × ByteArray × Nat)) (a0 : Int) (a1 : Int) (a2 : Int) (a3 : ByteArray) (a4 : Int) (a5 : Int) (l6 : List Api_ExprD) (l7 : List V) : Option (Int × Int × ByteArray × Nat) :=
 if (a0 == 1) = true then (
 bindO (m_expr_Eval_1 N a0 a1 a2 a3 a4 a5 l6) fun (v23_0, v23_1, v23_2, v23_3) =>
 some (v23_0, v23_1, v23_2, v23_3)
 ) else (
 if (a0 == 2) = true then (
 bindO (m_expr_Eval_2 N a0 a1 a2 a3 a4 a5 l6 l7) fun (v23_0, v23_1, v23_2, v23_3) =>
 some (v23_0, v23_1, v23_2, v23_3)
 ) else (
 if (a0 == 3) = true then (
 bindO (m_expr_Eval_3_v2 N rc l7 a0 a1 a2 a3 a4 a5 l6) fun (v23_0, v23_1, v23_2) =>
 some (((v23_0 : Nat) : Int), v23_1, (⟨#[]⟩ : ByteArray), v23_2)
 ) else (
 if (!false) = true then (
  some (0, 0, (⟨#[]⟩ : ByteArray), 2)
 ) else (
  none
 )
 )))
def m_expr_Eval : Nat → Int → Int → Int → ByteArray → Int → Int → (List Api_ExprD) → (List V) → Option (Int × Int × ByteArray × Nat)
 | 0 => fun _ => fun _ => fun _ => fun _ => fun _ => fun _ => fun _ => fun _ => none
 | N + 1 => m_expr_Eval_b N (m_expr_Eval N)
def m_ropewalklaw09_awake_C2 (N : Nat) (v19_3 : Nat) (v19_1 : Int) (v19_0 : Int) (v25_3 : Nat) (v35_3 : Nat) : Option (Bool) :=
 if (v19_3 == 0) = true then (
  if (v19_1 == 41) = true then (
   if (v19_0 == 1) = true then (
    if (v25_3 == 2) = true then (
     some (v35_3 == 300)
    ) else (
     some false
    )
   ) else (
    some false
   )
  ) else (
   some false
  )
 ) else (
  some false
 )
def m_ropewalklaw09_awake (N : Nat) : Option (Bool) :=
 bindO (m_ropewalklaw09_number N 2) fun _ =>
 bindO (m_ropewalklaw09_op N 3 1 1 2 (⟨#[]⟩ : ByteArray) 0 0 ([] : List Api_ExprD) 2 0 0 (⟨#[]⟩ : ByteArray) 0 0 ([] : List Api_ExprD)) fun _ =>
 bindO (m_ropewalklaw09_number N 1) fun _ =>
 bindO (m_ropewalklaw09_op N 1 3 0 0 (⟨#[]⟩ : ByteArray) 0 3 [(⟨1, (⟨1, 2, (⟨#[]⟩ : ByteArray)⟩ : V), 0, 0, ([] : List Api_ExprD)⟩ : Api_ExprD), (⟨2, (⟨0, 0, (⟨#[]⟩ : ByteArray)⟩ : V), 0, 0, ([] : List Api_ExprD)⟩ : Api_ExprD)] 1 1 1 (⟨#[]⟩ : ByteArray) 0 0 ([] : List Api_ExprD)) fun _ =>
 bindO (m_expr_Eval N 3 0 0 (⟨#[]⟩ : ByteArray) 0 1 [(⟨3, (⟨0, 0, (⟨#[]⟩ : ByteArray)⟩ : V), 0, 3, [(⟨1, (⟨1, 2, (⟨#[]⟩ : ByteArray)⟩ : V), 0, 0, ([] : List Api_ExprD)⟩ : Api_ExprD), (⟨2, (⟨0, 0, (⟨#[]⟩ : ByteArray)⟩ : V), 0, 0, ([] : List Api_ExprD)⟩ : Api_ExprD)]⟩ : Api_ExprD), (⟨1, (⟨1, 1, (⟨#[]⟩ : ByteArray)⟩ : V), 0, 0, ([] : List Api_ExprD)⟩ : Api_ExprD)] [(⟨1, 20, (⟨#[]⟩ : ByteArray)⟩ : V)]) fun (v19_0, v19_1, v19_2, v19_3) =>
 bindO (m_expr_Eval N 2 0 0 (⟨#[]⟩ : ByteArray) 1 0 ([] : List Api_ExprD) [(⟨1, 20, (⟨#[]⟩ : ByteArray)⟩ : V)]) fun (v25_0, v25_1, v25_2, v25_3) =>
 bindO (m_ropewalklaw09_number N 9223372036854775807) fun _ =>
 bindO (m_ropewalklaw09_number N 9223372036854775807) fun _ =>
 bindO (m_ropewalklaw09_number N 1) fun _ =>
 bindO (m_ropewalklaw09_op N 1 1 1 9223372036854775807 (⟨#[]⟩ : ByteArray) 0 0 ([] : List Api_ExprD) 1 1 1 (⟨#[]⟩ : ByteArray) 0 0 ([] : List Api_ExprD)) fun _ =>
 bindO (m_ropewalklaw09_op N 7 1 1 9223372036854775807 (⟨#[]⟩ : ByteArray) 0 0 ([] : List Api_ExprD) 3 0 0 (⟨#[]⟩ : ByteArray) 0 1 [(⟨1, (⟨1, 9223372036854775807, (⟨#[]⟩ : ByteArray)⟩ : V), 0, 0, ([] : List Api_ExprD)⟩ : Api_ExprD), (⟨1, (⟨1, 1, (⟨#[]⟩ : ByteArray)⟩ : V), 0, 0, ([] : List Api_ExprD)⟩ : Api_ExprD)]) fun _ =>
 bindO (m_expr_Eval N 3 0 0 (⟨#[]⟩ : ByteArray) 0 7 [(⟨1, (⟨1, 9223372036854775807, (⟨#[]⟩ : ByteArray)⟩ : V), 0, 0, ([] : List Api_ExprD)⟩ : Api_ExprD), (⟨3, (⟨0, 0, (⟨#[]⟩ : ByteArray)⟩ : V), 0, 1, [(⟨1, (⟨1, 9223372036854775807, (⟨#[]⟩ : ByteArray)⟩ : V), 0, 0, ([] : List Api_ExprD)⟩ : Api_ExprD), (⟨1, (⟨1, 1, (⟨#[]⟩ : ByteArray)⟩ : V), 0, 0, ([] : List Api_ExprD)⟩ : Api_ExprD)]⟩ : Api_ExprD)] [(⟨1, 20, (⟨#[]⟩ : ByteArray)⟩ : V)]) fun (v35_0, v35_1, v35_2, v35_3) =>
 bindO (m_ropewalklaw09_awake_C2 N v19_3 v19_1 v19_0 v25_3 v35_3
 ) fun j_2_0 =>
 some j_2_0
def m_ropewalkkit_ExprsOf_L1 (N : Nat) (l0 : List Api_ExprD) (a1 : Int) (rc : (List Api_ExprD) → Int → Option (Int)) : (Nat × Int) → Option ((Nat × Int) ⊕ Int) := fun (u1_6, u1_5) =>
 bindO (
  if (decide (u1_6 < l0.length)) = true then (
   some (decide (u1_5 ≤ a1))
  ) else (
   some false
  )
 ) fun j_2_15 =>
 if j_2_15 = true then (
  gd (-9223372036854775808 ≤ u1_5 + 1 ∧ u1_5 + 1 ≤ 9223372036854775807) <|
  bindO (l0[u1_6]?) fun x22 =>
  gd (-9223372036854775808 ≤ a1 - u1_5 ∧ a1 - u1_5 ≤ 9223372036854775807) <|
  gd (-9223372036854775808 ≤ (a1 - u1_5) - 1 ∧ (a1 - u1_5) - 1 ≤ 9223372036854775807) <|
  bindO (rc x22.kids ((a1 - u1_5) - 1)) fun v29 =>
  gd (-9223372036854775808 ≤ (u1_5 + 1) + v29 ∧ (u1_5 + 1) + v29 ≤ 9223372036854775807) <|
  gd (u1_6 + 1 ≤ 9223372036854775807) <|
  some (.inl (u1_6 + 1, (u1_5 + 1) + v29))
 ) else (
  some (.inr u1_5)
 )
def m_ropewalkkit_ExprsOf_b (N : Nat) (rc : (List Api_ExprD) → Int → Option (Int)) (l0 : List Api_ExprD) (a1 : Int) : Option (Int) :=
 bindO (
  iter (m_ropewalkkit_ExprsOf_L1 N l0 a1 rc) N (0, 0)
 ) fun j_1_5 =>
 gd (-9223372036854775808 ≤ a1 + 1 ∧ a1 + 1 ≤ 9223372036854775807) <|
 some (minI j_1_5 (a1 + 1))
def m_ropewalkkit_ExprsOf : Nat → (List Api_ExprD) → Int → Option (Int)
 | 0 => fun _ => fun _ => none
 | N + 1 => m_ropewalkkit_ExprsOf_b N (m_ropewalkkit_ExprsOf N)
def m_ropewalklaw09_light_L1 (N : Nat) (l0 : List V) : Nat → Option (Nat ⊕ (Unit ⊕ Bool)) := fun u1_5 =>
 if (decide (u1_5 < l0.length)) = true then (
  bindO (l0[u1_5]?) fun x14 =>
  if (decide (300 < x14.s.size)) = true then (
   some (.inr (.inr false))
  ) else (
   gd (u1_5 + 1 ≤ 9223372036854775807) <|
   some (.inl (u1_5 + 1))
  )
 ) else (
  some (.inr (.inl ()))
 )
def m_ropewalklaw09_light (N : Nat) (l0 : List V) (l1 : List Api_ExprD) : Option (Bool) :=
 bindS (
  iter (m_ropewalklaw09_light_L1 N l0) N 0
 ) fun _ =>
 if (decide (l0.length ≤ 30)) = true then (
  if (decide (l1.length ≤ 30)) = true then (
   bindO (m_ropewalkkit_ExprsOf N l1 300) fun v29 =>
   some (decide (v29 ≤ 300))
  ) else (
   some false
  )
 ) else (
  some false
 )
def m_ropewalkkit_mark (N : Nat) (a0 : Int) (a1 : Int) : Option (Unit) :=
 some ()
def m_ropewalkkit_markExpr (N : Nat) (a0 : Int) (a1 : Int) : Option (Unit) :=
 bindO (m_ropewalkkit_mark N a0 a1) fun _ =>
 some ()
def m_ropewalkkit_LentExprs_v2_L1 (N : Nat) (l0 : List Api_ExprD) (rc : Int → Int → Int → ByteArray → Int → Int → (List Api_ExprD) → Option (Int × Int × Int × ByteArray × Int × Int × (List Api_ExprDS) × Nat)) : (Nat × (List Api_ExprDS)) → Option ((Nat × (List Api_ExprDS)) ⊕ (List Api_ExprDS)) := fun (u1_4, u1_3_l) =>
 if (decide (u1_4 < l0.length)) = true then (
  bindO (l0[u1_4]?) fun x19 =>
  bindO (rc x19.kind x19.value.k x19.value.n x19.value.s x19.var x19.op x19.kids) fun (v21_0, v21_1, v21_2, v21_3, v21_4, v21_5, v21_6, v21_7) =>
  gd (v21_7 ≤ v21_6.length) <|
  gd (u1_3_l.length + ([(⟨v21_0, (⟨v21_1, v21_2, v21_3⟩ : V), v21_4, v21_5, (v21_6.take v21_7), (v21_6.drop v21_7)⟩ : Api_ExprDS)]).length ≤ 1759218604441) <|
  gd (u1_4 + 1 ≤ 9223372036854775807) <|
  some (.inl (u1_4 + 1, (u1_3_l ++ ([(⟨v21_0, (⟨v21_1, v21_2, v21_3⟩ : V), v21_4, v21_5, (v21_6.take v21_7), (v21_6.drop v21_7)⟩ : Api_ExprDS)]))))
 ) else (
  some (.inr u1_3_l)
 )
def m_ropewalkkit_LentExprs_v2_L2 (N : Nat) : (Nat × (List Api_ExprDS)) → Option ((Nat × (List Api_ExprDS)) ⊕ (List Api_ExprDS)) := fun (u2_6, u2_3_l) =>
 if (decide (u2_6 < 12)) = true then (
  bindO (m_ropewalkkit_markExpr N 1 ((u2_6 : Nat) : Int)) fun _ =>
  gd (u2_3_l.length + ([(⟨0, (⟨0, 0, (⟨#[]⟩ : ByteArray)⟩ : V), (IntKind.wrap .i64 ((IntKind.wrap .i64 (1000003 * (IntKind.wrap .i64 (1 + 7)))) + ((u2_6 : Nat) : Int))), 0, ([] : List Api_ExprDS), ([] : List Api_ExprDS)⟩ : Api_ExprDS)]).length ≤ 1759218604441) <|
  gd (u2_6 + 1 ≤ 9223372036854775807) <|
  some (.inl (u2_6 + 1, (u2_3_l ++ ([(⟨0, (⟨0, 0, (⟨#[]⟩ : ByteArray)⟩ : V), (IntKind.wrap .i64 ((IntKind.wrap .i64 (1000003 * (IntKind.wrap .i64 (1 + 7)))) + ((u2_6 : Nat) : Int))), 0, ([] : List Api_ExprDS), ([] : List Api_ExprDS)⟩ : Api_ExprDS)]))))
 ) else (
  some (.inr u2_3_l)
 )
def m_ropewalkkit_LentExprs_v2 (N : Nat) (rc : Int → Int → Int → ByteArray → Int → Int → (List Api_ExprD) → Option (Int × Int × Int × ByteArray × Int × Int × (List Api_ExprDS) × Nat)) (l0 : List Api_ExprD) : Option (List Api_ExprDS) :=
 gd (l0.length + 12 ≤ 9223372036854775807) <|
 gd (l0.length + 12 ≤ 1759218604441) <|
 bindO (
  iter (m_ropewalkkit_LentExprs_v2_L1 N l0 rc) N (0, [])
 ) fun j_1_3_l =>
 bindO (
  iter (m_ropewalkkit_LentExprs_v2_L2 N) N (0, j_1_3_l)
 ) fun j_2_3_l =>
 gd (l0.length ≤ j_2_3_l.length) <|
 some j_2_3_l
def m_ropewalkkit_LentExpr_b (N : Nat) (rc : Int → Int → Int → ByteArray → Int → Int → (List Api_ExprD) → Option (Int × Int × Int × ByteArray × Int × Int × (List Api_ExprDS) × Nat)) (a0 : Int) (a1 : Int) (a2 : Int) (a3 : ByteArray) (a4 : Int) (a5 : Int) (l6 : List Api_ExprD) : Option (Int × Int × Int × ByteArray × Int × Int × (List Api_ExprDS) × Nat) :=
 bindO (m_ropewalkkit_LentExprs_v2 N rc l6) fun v5 =>
 some (a0, a1, a2, a3, a4, a5, v5, l6.length)
def m_ropewalkkit_LentExpr : Nat → Int → Int → Int → ByteArray → Int → Int → (List Api_ExprD) → Option (Int × Int × Int × ByteArray × Int × Int × (List Api_ExprDS) × Nat)
 | 0 => fun _ => fun _ => fun _ => fun _ => fun _ => fun _ => fun _ => none
 | N + 1 => m_ropewalkkit_LentExpr_b N (m_ropewalkkit_LentExpr N)
def m_ropewalkkit_markValue (N : Nat) (a0 : Int) (a1 : Int) : Option (Unit) :=
 bindO (m_ropewalkkit_mark N a0 a1) fun _ =>
 some ()
def m_ropewalkkit_LentValues_L1 (N : Nat) : (Nat × (List V)) → Option ((Nat × (List V)) ⊕ (List V)) := fun (u1_4, u1_3_l) =>
 if (decide (u1_4 < 12)) = true then (
  bindO (m_ropewalkkit_markValue N 1 ((u1_4 : Nat) : Int)) fun _ =>
  gd (u1_3_l.length + ([(⟨0, (IntKind.wrap .i64 ((IntKind.wrap .i64 (1000003 * (IntKind.wrap .i64 (1 + 7)))) + ((u1_4 : Nat) : Int))), (⟨#[]⟩ : ByteArray)⟩ : V)]).length ≤ 4398046511104) <|
  gd (u1_4 + 1 ≤ 9223372036854775807) <|
  some (.inl (u1_4 + 1, (u1_3_l ++ ([(⟨0, (IntKind.wrap .i64 ((IntKind.wrap .i64 (1000003 * (IntKind.wrap .i64 (1 + 7)))) + ((u1_4 : Nat) : Int))), (⟨#[]⟩ : ByteArray)⟩ : V)]))))
 ) else (
  some (.inr u1_3_l)
 )
def m_ropewalkkit_LentValues (N : Nat) (l0 : List V) : Option (List V) :=
 gd (l0.length + 12 ≤ 9223372036854775807) <|
 gd (l0.length + 12 ≤ 4398046511104) <|
 gd (([] : List V).length + l0.length ≤ 4398046511104) <|
 bindO (
  iter (m_ropewalkkit_LentValues_L1 N) N (0, l0)
 ) fun j_1_3_l =>
 gd (l0.length ≤ j_1_3_l.length) <|
 some j_1_3_l
def m_ropewalkref01_Named_C3 (N : Nat) (j_2_5 : Bool) (u1_3 : Nat) (x14 : UInt8) : Option (Bool) :=
 if (!j_2_5) = true then (
  if (u1_3 == 0) = true then (
   some true
  ) else (
   if (decide (48 ≤ x14.toNat)) = true then (
    if (decide (x14.toNat ≤ 57)) = true then (
     some false
    ) else (
     some (!(x14.toNat == 95))
    )
   ) else (
    some (!(x14.toNat == 95))
   )
  )
 ) else (
  some false
 )
def m_ropewalkref01_Named_L1 (N : Nat) (a0 : ByteArray) : Nat → Option (Nat ⊕ (Unit ⊕ Bool)) := fun u1_3 =>
 if (decide (u1_3 < a0.size)) = true then (
  bindO (a0[u1_3]?) fun x14 =>
  bindO (
   if (decide (97 ≤ x14.toNat)) = true then (
    some (decide (x14.toNat ≤ 122))
   ) else (
    some false
   )
  ) fun j_2_5 =>
  bindO (m_ropewalkref01_Named_C3 N j_2_5 u1_3 x14
  ) fun j_3_39 =>
  if j_3_39 = true then (
   some (.inr (.inr false))
  ) else (
   gd (u1_3 + 1 ≤ 9223372036854775807) <|
   some (.inl (u1_3 + 1))
  )
 ) else (
  some (.inr (.inl ()))
 )
def m_ropewalkref01_Named (N : Nat) (a0 : ByteArray) : Option (Bool) :=
 bindS (
  iter (m_ropewalkref01_Named_L1 N a0) N 0
 ) fun _ =>
 if (decide (1 ≤ a0.size)) = true then (
  some (decide (a0.size ≤ 24))
 ) else (
  some false
 )
def m_ropewalkref01_Right (N : Nat) (a0 : Int) (a1 : Int) (a2 : ByteArray) : Option (Bool) :=
 if (a0 == 1) = true then (
  some (a2.toList == (⟨#[]⟩ : ByteArray).toList)
 ) else (
  if (a0 == 2) = true then (
   if (a1 == 0) = true then (
    bindO (m_ropewalkref01_Named N a2) fun v20 =>
    some v20
   ) else (
    some false
   )
  ) else (
   some false
  )
 )
def m_ropewalkref01_Number (N : Nat) (a0 : Int) : Option (Unit) :=
 some ()
def m_ropewalkref01_Truth (N : Nat) (a0 : Bool) : Option (Int) :=
 if a0 = true then (
  bindO (m_ropewalkref01_Number N 1) fun _ =>
  some 1
 ) else (
  bindO (m_ropewalkref01_Number N 0) fun _ =>
  some 0
 )
def m_ropewalkref01_sum_C1 (N : Nat) (a1 : Int) (a0 : Int) : Option (Bool) :=
 if (decide (a1 > 0)) = true then (
  gd (-9223372036854775808 ≤ 9223372036854775807 - a1 ∧ 9223372036854775807 - a1 ≤ 9223372036854775807) <|
  if (decide (a0 > (9223372036854775807 - a1))) = true then (
   some true
  ) else (
   if (decide (a1 < 0)) = true then (
    gd (-9223372036854775808 ≤ -9223372036854775808 - a1 ∧ -9223372036854775808 - a1 ≤ 9223372036854775807) <|
    some (decide (a0 < (-9223372036854775808 - a1)))
   ) else (
    some false
   )
  )
 ) else (
  if (decide (a1 < 0)) = true then (
   gd (-9223372036854775808 ≤ -9223372036854775808 - a1 ∧ -9223372036854775808 - a1 ≤ 9223372036854775807) <|
   some (decide (a0 < (-9223372036854775808 - a1)))
  ) else (
   some false
  )
 )
def m_ropewalkref01_sum (N : Nat) (a0 : Int) (a1 : Int) : Option (Int × Bool) :=
 bindO (m_ropewalkref01_sum_C1 N a1 a0
 ) fun j_1_23 =>
 if j_1_23 = true then (
  some (0, false)
 ) else (
  gd (-9223372036854775808 ≤ a0 + a1 ∧ a0 + a1 ≤ 9223372036854775807) <|
  some (a0 + a1, true)
 )
def m_ropewalkref01_product (N : Nat) (a0 : Int) (a1 : Int) : Option (Int × Bool) :=
 bindO (
  if (a0 == 0) = true then (
   some true
  ) else (
   some (a1 == 0)
  )
 ) fun j_1_12 =>
 if j_1_12 = true then (
  some (0, true)
 ) else (
  if (a0 == -1) = true then (
   some (IntKind.wrap .i64 (0 - a1), a1 != -9223372036854775808)
  ) else (
   if (a1 == -1) = true then (
    some (IntKind.wrap .i64 (0 - a0), a0 != -9223372036854775808)
   ) else (
    gd (a1 ≠ 0) <|
    some (IntKind.wrap .i64 (a0 * a1), (IntKind.wrap .i64 (Int.tdiv (IntKind.wrap .i64 (a0 * a1)) a1)) == a0)
   )
  )
 )
def m_ropewalkref01_reckoned (N : Nat) (a0 : Int) (a1 : Int) (a2 : Int) : Option (Int × Bool) :=
 if (a0 == 1) = true then (
  bindO (m_ropewalkref01_sum N a1 a2) fun (v13_0, v13_1) =>
  some (v13_0, v13_1)
 ) else (
  if (a0 == 2) = true then (
   if (a2 == -9223372036854775808) = true then (
    some (IntKind.wrap .i64 (a1 - a2), decide (a1 < 0))
   ) else (
    bindO (m_ropewalkref01_sum N a1 (IntKind.wrap .i64 (0 - a2))) fun (v28_0, v28_1) =>
    some (v28_0, v28_1)
   )
  ) else (
   if (a0 == 3) = true then (
    bindO (m_ropewalkref01_product N a1 a2) fun (v35_0, v35_1) =>
    some (v35_0, v35_1)
   ) else (
    some (IntKind.wrap .i64 (0 - a1), a1 != -9223372036854775808)
   )
  )
 )
def m_ropewalkref01_Do_C1 (N : Nat) (a0 : Int) : Option (Nat) :=
 bindO (
  if (a0 == 4) = true then (
   some true
  ) else (
   some (a0 == 11)
  )
 ) fun j_2_18 =>
 if j_2_18 = true then (
  some 1
 ) else (
  some 2
 )
def m_ropewalkref01_Do_C5 (N : Nat) (l1 : List V) (u1_8 : Nat) (u1_7 : Bool) : Option (Bool ⊕ ((Nat × Bool) ⊕ (Bool ⊕ (Nat × Int × Nat)))) :=
 bindO (l1[u1_8]?) fun x40 =>
 bindO (m_ropewalkref01_Right N x40.k x40.n x40.s) fun v42 =>
 if (!v42) = true then (
  some (.inr (.inr (.inr (0, 0, 2))))
 ) else (
  if u1_7 = true then (
   some (.inl true)
  ) else (
   bindO (l1[u1_8]?) fun x49 =>
   some (.inl (x49.k == 2))
  )
 )
def m_ropewalkref01_Do_L1 (N : Nat) (l1 : List V) : (Nat × Bool) → Option ((Nat × Bool) ⊕ (Bool ⊕ (Nat × Int × Nat))) := fun (u1_8, u1_7) =>
 if (decide (u1_8 < l1.length)) = true then (
  bindS (m_ropewalkref01_Do_C5 N l1 u1_8 u1_7
  ) fun j_5_7 =>
  gd (u1_8 + 1 ≤ 9223372036854775807) <|
  some (.inl (u1_8 + 1, j_5_7))
 ) else (
  some (.inr (.inl u1_7))
 )
def m_ropewalkref01_Do (N : Nat) (a0 : Int) (l1 : List V) : Option (Nat × Int × Nat) :=
 bindO (m_ropewalkref01_Do_C1 N a0
 ) fun j_1_6 =>
 bindO (
  if (decide (a0 < 1)) = true then (
   some true
  ) else (
   if (decide (a0 > 11)) = true then (
    some true
   ) else (
    some (l1.length != j_1_6)
   )
  )
 ) fun j_3_30 =>
 if j_3_30 = true then (
  some (0, 0, 2)
 ) else (
  bindS (
   iter (m_ropewalkref01_Do_L1 N l1) N (0, false)
  ) fun j_4_7 =>
  bindO (l1[0]?) fun x55 =>
  gd (-9223372036854775808 ≤ ((l1.length : Nat) : Int) - 1 ∧ ((l1.length : Nat) : Int) - 1 ≤ 9223372036854775807) <|
  gd (0 ≤ ((l1.length : Nat) : Int) - 1) <|
  bindO (l1[(((l1.length : Nat) : Int) - 1).toNat]?) fun x61 =>
  bindO (
   if (a0 == 5) = true then (
    some true
   ) else (
    some (a0 == 6)
   )
  ) fun j_7_68 =>
  if j_7_68 = true then (
   bindO (m_ropewalkref01_Truth N ((decide (x55 = x61)) == (a0 == 5))) fun v75 =>
   some (1, v75, 0)
  ) else (
   if j_4_7 = true then (
    some (0, 0, 301)
   ) else (
    if (a0 == 7) = true then (
     bindO (m_ropewalkref01_Truth N (decide (x55.n < x61.n))) fun v86 =>
     some (1, v86, 0)
    ) else (
     if (a0 == 8) = true then (
      bindO (m_ropewalkref01_Truth N (decide (x55.n ≤ x61.n))) fun v94 =>
      some (1, v94, 0)
     ) else (
      if (a0 == 9) = true then (
       if (x55.n != 0) = true then (
        bindO (m_ropewalkref01_Truth N (x61.n != 0)) fun v105 =>
        some (1, v105, 0)
       ) else (
        bindO (m_ropewalkref01_Truth N false) fun v105 =>
        some (1, v105, 0)
       )
      ) else (
       if (a0 == 10) = true then (
        if (x55.n != 0) = true then (
         bindO (m_ropewalkref01_Truth N true) fun v116 =>
         some (1, v116, 0)
        ) else (
         bindO (m_ropewalkref01_Truth N (x61.n != 0)) fun v116 =>
         some (1, v116, 0)
        )
       ) else (
        if (a0 == 11) = true then (
         bindO (m_ropewalkref01_Truth N (x55.n == 0)) fun v122 =>
         some (1, v122, 0)
        ) else (
         bindO (m_ropewalkref01_reckoned N a0 x55.n x61.n) fun (v129_0, v129_1) =>
         if (!v129_1) = true then (
          some (0, 0, 300)
         ) else (
          bindO (m_ropewalkref01_Number N v129_0) fun _ =>
          some (1, v129_0, 0)
         )
        )
       )
      )
     )
    )
   )
  )
 )
def m_ropewalkref09_Eval_L1 (N : Nat) (l6 : List Api_ExprD) (rc : Int → Int → Int → ByteArray → Int → Int → (List Api_ExprD) → (List V) → Option (Int × Int × ByteArray × Nat)) (l7 : List V) : (Nat × (List V)) → Option ((Nat × (List V)) ⊕ ((List V) ⊕ ((Int × Int × ByteArray) ⊕ (Int × Int × ByteArray × Nat)))) := fun (u1_8, u1_7_l) =>
 if (decide (u1_8 < l6.length)) = true then (
  bindO (l6[u1_8]?) fun x48 =>
  bindO (rc x48.kind x48.value.k x48.value.n x48.value.s x48.var x48.op x48.kids l7) fun (v51_0, v51_1, v51_2, v51_3) =>
  if (v51_3 != 0) = true then (
   some (.inr (.inr (.inr (0, 0, (⟨#[]⟩ : ByteArray), v51_3))))
  ) else (
   gd (u1_7_l.length + ([(⟨v51_0, v51_1, v51_2⟩ : V)]).length ≤ 4398046511104) <|
   gd (u1_8 + 1 ≤ 9223372036854775807) <|
   some (.inl (u1_8 + 1, (u1_7_l ++ ([(⟨v51_0, v51_1, v51_2⟩ : V)]))))
  )
 ) else (
  some (.inr (.inl u1_7_l))
 )
def m_ropewalkref09_Eval_C1 (N : Nat) (a0 : Int) (a1 : Int) (a2 : Int) (a3 : ByteArray) (a4 : Int) (l7 : List V) (l6 : List Api_ExprD) (rc : Int → Int → Int → ByteArray → Int → Int → (List Api_ExprD) → (List V) → Option (Int × Int × ByteArray × Nat)) (a5 : Int) : Option ((Int × Int × ByteArray) ⊕ (Int × Int × ByteArray × Nat)) :=
 if (a0 == 1) = true then (
  some (.inl (a1, a2, a3))
 ) else (
  if (a0 == 2) = true then (
   bindO (
    if (decide (a4 ≥ 0)) = true then (
     some (decide (a4 < ((l7.length : Nat) : Int)))
    ) else (
     some false
    )
   ) fun j_2_29 =>
   if j_2_29 = true then (
    gd (0 ≤ a4) <|
    bindO (l7[a4.toNat]?) fun x33 =>
    some (.inl (x33.k, x33.n, x33.s))
   ) else (
    some (.inl (0, 0, (⟨#[]⟩ : ByteArray)))
   )
  ) else (
   if (a0 == 3) = true then (
    bindS (
     iter (m_ropewalkref09_Eval_L1 N l6 rc l7) N (0, [])
    ) fun j_3_7_l =>
    bindO (m_ropewalkref01_Do N a5 j_3_7_l) fun (v65_0, v65_1, v65_2) =>
    some (.inr (((v65_0 : Nat) : Int), v65_1, (⟨#[]⟩ : ByteArray), v65_2))
   ) else (
    some (.inl (0, 0, (⟨#[]⟩ : ByteArray)))
   )
  )
 )
def m_ropewalkref09_Eval_b (N : Nat) (rc : Int → Int → Int → ByteArray → Int → Int → (List Api_ExprD) → (List V) → Option (Int × Int × ByteArray × Nat)) (a0 : Int) (a1 : Int) (a2 : Int) (a3 : ByteArray) (a4 : Int) (a5 : Int) (l6 : List Api_ExprD) (l7 : List V) : Option (Int × Int × ByteArray × Nat) :=
 bindS (m_ropewalkref09_Eval_C1 N a0 a1 a2 a3 a4 l7 l6 rc a5
 ) fun (j_1_6_f0, j_1_6_f1, j_1_6_f2) =>
 bindO (m_ropewalkref01_Right N j_1_6_f0 j_1_6_f1 j_1_6_f2) fun v69 =>
 if (!v69) = true then (
  some (0, 0, (⟨#[]⟩ : ByteArray), 2)
 ) else (
  some (j_1_6_f0, j_1_6_f1, j_1_6_f2, 0)
 )
def m_ropewalkref09_Eval : Nat → Int → Int → Int → ByteArray → Int → Int → (List Api_ExprD) → (List V) → Option (Int × Int × ByteArray × Nat)
 | 0 => fun _ => fun _ => fun _ => fun _ => fun _ => fun _ => fun _ => fun _ => none
 | N + 1 => m_ropewalkref09_Eval_b N (m_ropewalkref09_Eval N)
def m_ropewalkkit_SameExprs_W_v2_L1 (N : Nat) (k1 : Nat) (l0 : List Api_ExprDS) (l2 : List Api_ExprD) (rc : Int → Int → Int → ByteArray → Int → Int → (List Api_ExprDS) → Nat → Int → Int → Int → ByteArray → Int → Int → (List Api_ExprD) → Option (Bool)) : Nat → Option (Nat ⊕ (Unit ⊕ Bool)) := fun u1_5 =>
 if (decide (u1_5 < k1)) = true then (
  gd (u1_5 < k1) <|
  bindO (l0[u1_5]?) fun x19 =>
  bindO (l2[u1_5]?) fun x23 =>
  bindO (rc x19.kind x19.value.k x19.value.n x19.value.s x19.var x19.op (x19.kids ++ x19.kidsT) x19.kids.length x23.kind x23.value.k x23.value.n x23.value.s x23.var x23.op x23.kids) fun v25 =>
  if (!v25) = true then (
   some (.inr (.inr false))
  ) else (
   gd (u1_5 + 1 ≤ 9223372036854775807) <|
   some (.inl (u1_5 + 1))
  )
 ) else (
  some (.inr (.inl ()))
 )
def m_ropewalkkit_SameExprs_W_v2 (N : Nat) (rc : Int → Int → Int → ByteArray → Int → Int → (List Api_ExprDS) → Nat → Int → Int → Int → ByteArray → Int → Int → (List Api_ExprD) → Option (Bool)) (l0 : List Api_ExprDS) (k1 : Nat) (l2 : List Api_ExprD) : Option (Bool) :=
 if (k1 != l2.length) = true then (
  some false
 ) else (
  bindS (
   iter (m_ropewalkkit_SameExprs_W_v2_L1 N k1 l0 l2 rc) N 0
  ) fun _ =>
  some true
 )
def m_ropewalkkit_SameExpr_W_C1 (N : Nat) (a0 : Int) (a8 : Int) (a1 : Int) (a2 : Int) (a3 : ByteArray) (a9 : Int) (a10 : Int) (a11 : ByteArray) (a4 : Int) (a12 : Int) (a5 : Int) (a13 : Int) (rc : Int → Int → Int → ByteArray → Int → Int → (List Api_ExprDS) → Nat → Int → Int → Int → ByteArray → Int → Int → (List Api_ExprD) → Option (Bool)) (l6 : List Api_ExprDS) (k7 : Nat) (l14 : List Api_ExprD) : Option (Bool) :=
 if (a0 == a8) = true then (
  if (decide ((⟨a1, a2, a3⟩ : V) = (⟨a9, a10, a11⟩ : V))) = true then (
   if (a4 == a12) = true then (
    if (a5 == a13) = true then (
     bindO (m_ropewalkkit_SameExprs_W_v2 N rc l6 k7 l14) fun v36 =>
     some v36
    ) else (
     some false
    )
   ) else (
    some false
   )
  ) else (
   some false
  )
 ) else (
  some false
 )
def m_ropewalkkit_SameExpr_W_b (N : Nat) (rc : Int → Int → Int → ByteArray → Int → Int → (List Api_ExprDS) → Nat → Int → Int → Int → ByteArray → Int → Int → (List Api_ExprD) → Option (Bool)) (a0 : Int) (a1 : Int) (a2 : Int) (a3 : ByteArray) (a4 : Int) (a5 : Int) (l6 : List Api_ExprDS) (k7 : Nat) (a8 : Int) (a9 : Int) (a10 : Int) (a11 : ByteArray) (a12 : Int) (a13 : Int) (l14 : List Api_ExprD) : Option (Bool) :=
 bindO (m_ropewalkkit_SameExpr_W_C1 N a0 a8 a1 a2 a3 a9 a10 a11 a4 a12 a5 a13 rc l6 k7 l14
 ) fun j_1_4 =>
 some j_1_4
def m_ropewalkkit_SameExpr_W : Nat → Int → Int → Int → ByteArray → Int → Int → (List Api_ExprDS) → Nat → Int → Int → Int → ByteArray → Int → Int → (List Api_ExprD) → Option (Bool)
 | 0 => fun _ => fun _ => fun _ => fun _ => fun _ => fun _ => fun _ => fun _ => fun _ => fun _ => fun _ => fun _ => fun _ => fun _ => fun _ => none
 | N + 1 => m_ropewalkkit_SameExpr_W_b N (m_ropewalkkit_SameExpr_W N)
def m_ropewalkkit_KeptExprs_W_v2_C2 (N : Nat) (u1_6 : Nat) (l2 : List Api_ExprD) (l0 : List Api_ExprDS) (rc : Int → Int → Int → ByteArray → Int → Int → (List Api_ExprDS) → Nat → Int → Int → Int → ByteArray → Int → Int → (List Api_ExprD) → Option (Bool)) : Option (Bool) :=
 if (decide (u1_6 < l2.length)) = true then (
  bindO ((l0.take (l2.length + 12))[u1_6]?) fun x30 =>
  bindO (l2[u1_6]?) fun x34 =>
  bindO (rc x30.kind x30.value.k x30.value.n x30.value.s x30.var x30.op (x30.kids ++ x30.kidsT) x30.kids.length x34.kind x34.value.k x34.value.n x34.value.s x34.var x34.op x34.kids) fun v36 =>
  if (!v36) = true then (
   some true
  ) else (
   if (decide (l2.length ≤ u1_6)) = true then (
    bindO ((l0.take (l2.length + 12))[u1_6]?) fun x47 =>
    gd (-9223372036854775808 ≤ ((u1_6 : Nat) : Int) - ((l2.length : Nat) : Int) ∧ ((u1_6 : Nat) : Int) - ((l2.length : Nat) : Int) ≤ 9223372036854775807) <|
    bindO (m_ropewalkkit_markExpr N 1 (((u1_6 : Nat) : Int) - ((l2.length : Nat) : Int))) fun _ =>
    bindO (m_ropewalkkit_SameExpr_W N x47.kind x47.value.k x47.value.n x47.value.s x47.var x47.op (x47.kids ++ x47.kidsT) x47.kids.length 0 0 0 (⟨#[]⟩ : ByteArray) (IntKind.wrap .i64 ((IntKind.wrap .i64 (1000003 * (IntKind.wrap .i64 (1 + 7)))) + (((u1_6 : Nat) : Int) - ((l2.length : Nat) : Int)))) 0 ([] : List Api_ExprD)) fun v54 =>
    some (!v54)
   ) else (
    some false
   )
  )
 ) else (
  if (decide (l2.length ≤ u1_6)) = true then (
   bindO ((l0.take (l2.length + 12))[u1_6]?) fun x47 =>
   gd (-9223372036854775808 ≤ ((u1_6 : Nat) : Int) - ((l2.length : Nat) : Int) ∧ ((u1_6 : Nat) : Int) - ((l2.length : Nat) : Int) ≤ 9223372036854775807) <|
   bindO (m_ropewalkkit_markExpr N 1 (((u1_6 : Nat) : Int) - ((l2.length : Nat) : Int))) fun _ =>
   bindO (m_ropewalkkit_SameExpr_W N x47.kind x47.value.k x47.value.n x47.value.s x47.var x47.op (x47.kids ++ x47.kidsT) x47.kids.length 0 0 0 (⟨#[]⟩ : ByteArray) (IntKind.wrap .i64 ((IntKind.wrap .i64 (1000003 * (IntKind.wrap .i64 (1 + 7)))) + (((u1_6 : Nat) : Int) - ((l2.length : Nat) : Int)))) 0 ([] : List Api_ExprD)) fun v54 =>
   some (!v54)
  ) else (
   some false
  )
 )
def m_ropewalkkit_KeptExprs_W_v2_L1 (N : Nat) (l0 : List Api_ExprDS) (l2 : List Api_ExprD) (rc : Int → Int → Int → ByteArray → Int → Int → (List Api_ExprDS) → Nat → Int → Int → Int → ByteArray → Int → Int → (List Api_ExprD) → Option (Bool)) : Nat → Option (Nat ⊕ (Unit ⊕ Bool)) := fun u1_6 =>
 if (decide (u1_6 < ((l0.take (l2.length + 12)).length))) = true then (
  bindO (m_ropewalkkit_KeptExprs_W_v2_C2 N u1_6 l2 l0 rc
  ) fun j_2_57 =>
  if j_2_57 = true then (
   some (.inr (.inr false))
  ) else (
   gd (u1_6 + 1 ≤ 9223372036854775807) <|
   some (.inl (u1_6 + 1))
  )
 ) else (
  some (.inr (.inl ()))
 )
def m_ropewalkkit_KeptExprs_W_v2 (N : Nat) (rc : Int → Int → Int → ByteArray → Int → Int → (List Api_ExprDS) → Nat → Int → Int → Int → ByteArray → Int → Int → (List Api_ExprD) → Option (Bool)) (l0 : List Api_ExprDS) (k1 : Nat) (l2 : List Api_ExprD) : Option (Bool) :=
 if (k1 != l2.length) = true then (
  some false
 ) else (
  gd (l2.length + 12 ≤ 9223372036854775807) <|
  gd (l2.length + 12 ≤ l0.length) <|
  bindS (
   iter (m_ropewalkkit_KeptExprs_W_v2_L1 N l0 l2 rc) N 0
  ) fun _ =>
  some true
 )
def m_ropewalkkit_KeptExpr_W_b (N : Nat) (rc : Int → Int → Int → ByteArray → Int → Int → (List Api_ExprDS) → Nat → Int → Int → Int → ByteArray → Int → Int → (List Api_ExprD) → Option (Bool)) (a0 : Int) (a1 : Int) (a2 : Int) (a3 : ByteArray) (a4 : Int) (a5 : Int) (l6 : List Api_ExprDS) (k7 : Nat) (a8 : Int) (a9 : Int) (a10 : Int) (a11 : ByteArray) (a12 : Int) (a13 : Int) (l14 : List Api_ExprD) : Option (Bool) :=
 bindO (m_ropewalkkit_SameExpr_W N a0 a1 a2 a3 a4 a5 l6 k7 a8 a9 a10 a11 a12 a13 l14) fun v7 =>
 if v7 = true then (
  bindO (m_ropewalkkit_KeptExprs_W_v2 N rc l6 k7 l14) fun v13 =>
  some v13
 ) else (
  some false
 )
def m_ropewalkkit_KeptExpr_W : Nat → Int → Int → Int → ByteArray → Int → Int → (List Api_ExprDS) → Nat → Int → Int → Int → ByteArray → Int → Int → (List Api_ExprD) → Option (Bool)
 | 0 => fun _ => fun _ => fun _ => fun _ => fun _ => fun _ => fun _ => fun _ => fun _ => fun _ => fun _ => fun _ => fun _ => fun _ => fun _ => none
 | N + 1 => m_ropewalkkit_KeptExpr_W_b N (m_ropewalkkit_KeptExpr_W N)
def m_ropewalkkit_KeptValues_W_C2 (N : Nat) (u1_6 : Nat) (l2 : List V) (l0 : List V) : Option (Bool) :=
 if (decide (u1_6 < l2.length)) = true then (
  bindO ((l0.take (l2.length + 12))[u1_6]?) fun x30 =>
  bindO (l2[u1_6]?) fun x34 =>
  if (!(decide (x30 = x34))) = true then (
   some true
  ) else (
   if (decide (l2.length ≤ u1_6)) = true then (
    bindO ((l0.take (l2.length + 12))[u1_6]?) fun x47 =>
    gd (-9223372036854775808 ≤ ((u1_6 : Nat) : Int) - ((l2.length : Nat) : Int) ∧ ((u1_6 : Nat) : Int) - ((l2.length : Nat) : Int) ≤ 9223372036854775807) <|
    bindO (m_ropewalkkit_markValue N 1 (((u1_6 : Nat) : Int) - ((l2.length : Nat) : Int))) fun _ =>
    some (!(decide (x47 = (⟨0, IntKind.wrap .i64 ((IntKind.wrap .i64 (1000003 * (IntKind.wrap .i64 (1 + 7)))) + (((u1_6 : Nat) : Int) - ((l2.length : Nat) : Int))), (⟨#[]⟩ : ByteArray)⟩ : V))))
   ) else (
    some false
   )
  )
 ) else (
  if (decide (l2.length ≤ u1_6)) = true then (
   bindO ((l0.take (l2.length + 12))[u1_6]?) fun x47 =>
   gd (-9223372036854775808 ≤ ((u1_6 : Nat) : Int) - ((l2.length : Nat) : Int) ∧ ((u1_6 : Nat) : Int) - ((l2.length : Nat) : Int) ≤ 9223372036854775807) <|
   bindO (m_ropewalkkit_markValue N 1 (((u1_6 : Nat) : Int) - ((l2.length : Nat) : Int))) fun _ =>
   some (!(decide (x47 = (⟨0, IntKind.wrap .i64 ((IntKind.wrap .i64 (1000003 * (IntKind.wrap .i64 (1 + 7)))) + (((u1_6 : Nat) : Int) - ((l2.length : Nat) : Int))), (⟨#[]⟩ : ByteArray)⟩ : V))))
  ) else (
   some false
  )
 )
def m_ropewalkkit_KeptValues_W_L1 (N : Nat) (l0 : List V) (l2 : List V) : Nat → Option (Nat ⊕ (Unit ⊕ Bool)) := fun u1_6 =>
 if (decide (u1_6 < ((l0.take (l2.length + 12)).length))) = true then (
  bindO (m_ropewalkkit_KeptValues_W_C2 N u1_6 l2 l0
  ) fun j_2_57 =>
  if j_2_57 = true then (
   some (.inr (.inr false))
  ) else (
   gd (u1_6 + 1 ≤ 9223372036854775807) <|
   some (.inl (u1_6 + 1))
  )
 ) else (
  some (.inr (.inl ()))
 )
def m_ropewalkkit_KeptValues_W (N : Nat) (l0 : List V) (k1 : Nat) (l2 : List V) : Option (Bool) :=
 if (k1 != l2.length) = true then (
  some false
 ) else (
  gd (l2.length + 12 ≤ 9223372036854775807) <|
  gd (l2.length + 12 ≤ l0.length) <|
  bindS (
   iter (m_ropewalkkit_KeptValues_W_L1 N l0 l2) N 0
  ) fun _ =>
  some true
 )
def m_ropewalklaw09_ExprSays_C1 (N : Nat) (v25_0 : Int) (v25_1 : Int) (v25_2 : ByteArray) (v31_0 : Int) (v31_1 : Int) (v31_2 : ByteArray) (v25_3 : Nat) (v31_3 : Nat) (v19_0 : Int) (v19_1 : Int) (v19_2 : Int) (v19_3 : ByteArray) (v19_4 : Int) (v19_5 : Int) (v19_6 : List Api_ExprDS) (v19_7 : Nat) (a0 : Int) (a1 : Int) (a2 : Int) (a3 : ByteArray) (a4 : Int) (a5 : Int) (l6 : List Api_ExprD) (v21 : List V) (l7 : List V) : Option (Bool) :=
 if (decide ((⟨v25_0, v25_1, v25_2⟩ : V) = (⟨v31_0, v31_1, v31_2⟩ : V))) = true then (
  if (v25_3 == v31_3) = true then (
   bindO (m_ropewalkkit_KeptExpr_W N v19_0 v19_1 v19_2 v19_3 v19_4 v19_5 v19_6 v19_7 a0 a1 a2 a3 a4 a5 l6) fun v45 =>
   if v45 = true then (
    bindO (m_ropewalkkit_KeptValues_W N v21 l7.length l7) fun v50 =>
    some v50
   ) else (
    some false
   )
  ) else (
   some false
  )
 ) else (
  some false
 )
def m_ropewalklaw09_ExprSays (N : Nat) (a0 : Int) (a1 : Int) (a2 : Int) (a3 : ByteArray) (a4 : Int) (a5 : Int) (l6 : List Api_ExprD) (l7 : List V) : Option (Bool) :=
 bindO (m_ropewalklaw09_awake N) fun v11 =>
 if (!v11) = true then (
  some false
 ) else (
  bindO (m_ropewalklaw09_light N l7 [(⟨a0, (⟨a1, a2, a3⟩ : V), a4, a5, l6⟩ : Api_ExprD)]) fun v16 =>
  if (!v16) = true then (
   some true
  ) else (
   bindO (m_ropewalkkit_LentExpr N a0 a1 a2 a3 a4 a5 l6) fun (v19_0, v19_1, v19_2, v19_3, v19_4, v19_5, v19_6, v19_7) =>
   bindO (m_ropewalkkit_LentValues N l7) fun v21 =>
   gd (v19_7 ≤ v19_6.length) <|
   gd (l7.length ≤ v21.length) <|
   bindO (m_expr_Eval N v19_0 v19_1 v19_2 v19_3 v19_4 v19_5 ((v19_6.map to_Api_ExprD).take v19_7) (v21.take l7.length)) fun (v25_0, v25_1, v25_2, v25_3) =>
   bindO (m_ropewalkref09_Eval N a0 a1 a2 a3 a4 a5 l6 l7) fun (v31_0, v31_1, v31_2, v31_3) =>
   bindO (m_ropewalklaw09_ExprSays_C1 N v25_0 v25_1 v25_2 v31_0 v31_1 v31_2 v25_3 v31_3 v19_0 v19_1 v19_2 v19_3 v19_4 v19_5 v19_6 v19_7 a0 a1 a2 a3 a4 a5 l6 v21 l7
   ) fun j_1_4 =>
   some j_1_4
  )
 )
end Go.Proofs.YtohkfpobgjkpdaaDoor
