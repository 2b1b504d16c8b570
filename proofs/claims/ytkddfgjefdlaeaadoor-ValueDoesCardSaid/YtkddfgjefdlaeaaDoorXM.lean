/- Models, printed by a program out of the loaded code. -/
import Derived.Test.YtkddfgjefdlaeaaDoorXT
namespace Go.Proofs.YtkddfgjefdlaeaaDoor
open Go.RowKit
def m_ropewalkref01_Number (N : Nat) (a0 : Int) : Option (Unit) :=
 some ()
def m_value_named_C1 (N : Nat) (a0 : ByteArray) : Option (Bool) :=
 if (!(a0.toList == (⟨#[]⟩ : ByteArray).toList)) = true then (
  if (decide (a0.size ≤ 24)) = true then (
   bindO (a0[0]?) fun x12 =>
   if (decide ((Lib.indexByte (⟨#[97, 98, 99, 100, 101, 102, 103, 104, 105, 106, 107, 108, 109, 110, 111, 112, 113, 114, 115, 116, 117, 118, 119, 120, 121, 122]⟩ : ByteArray).data.toList (((x12.toNat : Nat) : Int)).toNat.toUInt8) ≥ 0)) = true then (
    gd (a0.size ≤ 9223372036854775807) <|
    some ((⟨(Lib.trimS a0.data.toList (⟨#[97, 98, 99, 100, 101, 102, 103, 104, 105, 106, 107, 108, 109, 110, 111, 112, 113, 114, 115, 116, 117, 118, 119, 120, 121, 122, 48, 49, 50, 51, 52, 53, 54, 55, 56, 57, 95]⟩ : ByteArray).data.toList).toArray⟩ : ByteArray).toList == (⟨#[]⟩ : ByteArray).toList)
   ) else (
    some false
   )
  ) else (
   some false
  )
 ) else (
  some false
 )
def m_value_named (N : Nat) (a0 : ByteArray) : Option (Bool) :=
 bindO (m_value_named_C1 N a0
 ) fun j_1_2 =>
 some j_1_2
def m_value_Right (N : Nat) (a0 : Int) (a1 : Int) (a2 : ByteArray) : Option (Bool) :=
 if (a0 == 1) = true then (
  some (a2.toList == (⟨#[]⟩ : ByteArray).toList)
 ) else (
  if (a0 == 2) = true then (
   if (a1 == 0) = true then (
    bindO (m_value_named N a2) fun v18 =>
    some v18
   ) else (
    some false
   )
  ) else (
   some false
  )
 )
def m_value_number (N : Nat) (a0 : Int) : Option (Unit) :=
 some ()
def m_value_Truth (N : Nat) (a0 : Bool) : Option (Int) :=
 if a0 = true then (
  bindO (m_value_number N 1) fun _ =>
  some 1
 ) else (
  bindO (m_value_number N 0) fun _ =>
  some 0
 )
def m_value_does (N : Nat) (a0 : Int) : Option (Unit ⊕ (Unit ⊕ (Unit ⊕ (Unit ⊕ (Unit ⊕ (Unit ⊕ (Unit ⊕ (Unit ⊕ (Unit ⊕ Unit))))))))) :=
 if (a0 == 1) = true then (
 some (.inl ())
 ) else (
 if (a0 == 2) = true then (
 some (.inr (.inl ()))
 ) else (
 if (a0 == 3) = true then (
 some (.inr (.inr (.inl ())))
 ) else (
 if (a0 == 4) = true then (
 some (.inr (.inr (.inr (.inl ()))))
 ) else (
 if (a0 == 7) = true then (
 some (.inr (.inr (.inr (.inr (.inl ())))))
 ) else (
 if (a0 == 8) = true then (
 some (.inr (.inr (.inr (.inr (.inr (.inl ()))))))
 ) else (
 if (a0 == 9) = true then (
 some (.inr (.inr (.inr (.inr (.inr (.inr (.inl ())))))))
 ) else (
 if (a0 == 10) = true then (
 some (.inr (.inr (.inr (.inr (.inr (.inr (.inr (.inl ()))))))))
 ) else (
 if (a0 == 11) = true then (
 some (.inr (.inr (.inr (.inr (.inr (.inr (.inr (.inr (.inl ())))))))))
 ) else (
 some (.inr (.inr (.inr (.inr (.inr (.inr (.inr (.inr (.inr ())))))))))
 )))))))))
def m_value_does_2 (N : Nat) (a0 : Int) (a1 : Int) : Option (Unit) :=
 some ()
def m_value_does_3 (N : Nat) (a0 : Int) (a1 : Int) : Option (Unit) :=
 some ()
def m_value_product (N : Nat) (a0 : Int) (a1 : Int) : Option (Int × Bool) :=
 bindO (
  if (decide (a0 < 0)) = true then (
   some (IntKind.wrap .u64 (0 - (IntKind.wrap .u64 a0)))
  ) else (
   some (IntKind.wrap .u64 a0)
  )
 ) fun j_1_6 =>
 bindO (
  if (decide (a1 < 0)) = true then (
   some (IntKind.wrap .u64 (0 - (IntKind.wrap .u64 a1)))
  ) else (
   some (IntKind.wrap .u64 a1)
  )
 ) fun j_2_7 =>
 gd (0 ≤ j_1_6 ∧ j_1_6 < 18446744073709551616) <|
 gd (0 ≤ j_2_7 ∧ j_2_7 < 18446744073709551616) <|
 if ((decide (a0 < 0)) != (decide (a1 < 0))) = true then (
  if (((j_1_6.toNat * j_2_7.toNat / 18446744073709551616 : Nat) : Int) == 0) = true then (
   some ((IntKind.wrap .i64 (IntKind.wrap .u64 (0 - ((j_1_6.toNat * j_2_7.toNat % 18446744073709551616 : Nat) : Int)))), (decide (((j_1_6.toNat * j_2_7.toNat % 18446744073709551616 : Nat) : Int) ≤ 9223372036854775808)))
  ) else (
   some ((IntKind.wrap .i64 (IntKind.wrap .u64 (0 - ((j_1_6.toNat * j_2_7.toNat % 18446744073709551616 : Nat) : Int)))), false)
  )
 ) else (
  if (((j_1_6.toNat * j_2_7.toNat / 18446744073709551616 : Nat) : Int) == 0) = true then (
   some ((IntKind.wrap .i64 ((j_1_6.toNat * j_2_7.toNat % 18446744073709551616 : Nat) : Int)), (decide (((j_1_6.toNat * j_2_7.toNat % 18446744073709551616 : Nat) : Int) < 9223372036854775808)))
  ) else (
   some ((IntKind.wrap .i64 ((j_1_6.toNat * j_2_7.toNat % 18446744073709551616 : Nat) : Int)), false)
  )
 )
def m_value_does_4 (N : Nat) (a0 : Int) (a1 : Int) : Option (Unit) :=
 some ()
def m_value_does_1 (N : Nat) (a0 : Bool) : Option (Int) :=
 bindO (m_value_Truth N a0) fun v5 =>
 some v5
def m_value_does_5 (N : Nat) (a0 : Int) (a1 : Int) : Option (Int) :=
 bindO (m_value_does_1 N (decide (a0 < a1))) fun v11 =>
 some v11
def m_value_does_6 (N : Nat) (a0 : Int) (a1 : Int) : Option (Int) :=
 bindO (m_value_does_1 N (decide (a0 ≤ a1))) fun v11 =>
 some v11
def m_value_does_7 (N : Nat) (a0 : Int) (a1 : Int) : Option (Int) :=
 if (a0 != 0) = true then (
  bindO (m_value_does_1 N (a1 != 0)) fun v14 =>
  some v14
 ) else (
  bindO (m_value_does_1 N false) fun v14 =>
  some v14
 )
def m_value_does_8 (N : Nat) (a0 : Int) (a1 : Int) : Option (Int) :=
 if (a0 != 0) = true then (
  bindO (m_value_does_1 N true) fun v14 =>
  some v14
 ) else (
  bindO (m_value_does_1 N (a1 != 0)) fun v14 =>
  some v14
 )
def m_value_does_9 (N : Nat) (a0 : Int) (a1 : Int) : Option (Int) :=
 bindO (m_value_does_1 N (a0 == 0)) fun v10 =>
 some v10
def m_value_Do_C1 (N : Nat) (a0 : Int) : Option (Nat) :=
 bindO (
  if (a0 == 4) = true then (
   some true
  ) else (
   some (a0 == 11)
  )
 ) fun j_2_19 =>
 if j_2_19 = true then (
  some 1
 ) else (
  some 2
 )
def m_value_Do_C5 (N : Nat) (l1 : List V) (u1_35 : Nat) (u1_7 : Bool) : Option (Bool ⊕ ((Nat × Bool) ⊕ (Bool ⊕ (Nat × Int × Nat)))) :=
 bindO (l1[u1_35]?) fun x37 =>
 bindO (m_value_Right N x37.k x37.n x37.s) fun v40 =>
 if (!v40) = true then (
  some (.inr (.inr (.inr (0, 0, 2))))
 ) else (
  if u1_7 = true then (
   some (.inl true)
  ) else (
   some (.inl (x37.k == 2))
  )
 )
def m_value_Do_L1 (N : Nat) (l1 : List V) : (Nat × Bool) → Option ((Nat × Bool) ⊕ (Bool ⊕ (Nat × Int × Nat))) := fun (u1_35, u1_7) =>
 if (decide (u1_35 < l1.length)) = true then (
  bindS (m_value_Do_C5 N l1 u1_35 u1_7
  ) fun j_5_7 =>
  gd (u1_35 + 1 ≤ 9223372036854775807) <|
  some (.inl (u1_35 + 1, j_5_7))
 ) else (
  some (.inr (.inl u1_7))
 )
def m_value_Do_C7 (N : Nat) (a0 : Int) (x51 : V) (x56 : V) : Option (Int × Bool) :=
 bindO (m_value_does N a0) fun
 | .inl _ => (
 bindO (m_value_does_2 N x51.n x56.n) fun _ =>
 some (IntKind.wrap .i64 (x51.n + x56.n), (decide ((IntKind.wrap .i64 (x51.n + x56.n)) < x51.n)) == (decide (x56.n < 0)))
 )
 | .inr (.inl _) => (
 bindO (m_value_does_3 N x51.n x56.n) fun _ =>
 some (IntKind.wrap .i64 (x51.n - x56.n), (decide ((IntKind.wrap .i64 (x51.n - x56.n)) > x51.n)) == (decide (x56.n < 0)))
 )
 | .inr (.inr (.inl _)) => (
 bindO (m_value_product N x51.n x56.n) fun (v82_0, v82_1) =>
 some (v82_0, v82_1)
 )
 | .inr (.inr (.inr (.inl _))) => (
 bindO (m_value_does_4 N x51.n x56.n) fun _ =>
 some (IntKind.wrap .i64 (0 - x51.n), x51.n != -9223372036854775808)
 )
 | .inr (.inr (.inr (.inr (.inl _)))) => (
 bindO (m_value_does_5 N x51.n x56.n) fun v82 =>
 some (v82, true)
 )
 | .inr (.inr (.inr (.inr (.inr (.inl _))))) => (
 bindO (m_value_does_6 N x51.n x56.n) fun v82 =>
 some (v82, true)
 )
 | .inr (.inr (.inr (.inr (.inr (.inr (.inl _)))))) => (
 bindO (m_value_does_7 N x51.n x56.n) fun v82 =>
 some (v82, true)
 )
 | .inr (.inr (.inr (.inr (.inr (.inr (.inr (.inl _))))))) => (
 bindO (m_value_does_8 N x51.n x56.n) fun v82 =>
 some (v82, true)
 )
 | .inr (.inr (.inr (.inr (.inr (.inr (.inr (.inr (.inl _)))))))) => (
 bindO (m_value_does_9 N x51.n x56.n) fun v82 =>
 some (v82, true)
 )
 | .inr (.inr (.inr (.inr (.inr (.inr (.inr (.inr (.inr _)))))))) => (
 none
 )
def m_value_Do (N : Nat) (a0 : Int) (l1 : List V) : Option (Nat × Int × Nat) :=
 bindO (m_value_Do_C1 N a0
 ) fun j_1_6 =>
 bindO (
  if (decide (a0 < 1)) = true then (
   some true
  ) else (
   if (decide (a0 > 11)) = true then (
    some true
   ) else (
    some (l1.length != j_1_6)
   )
  )
 ) fun j_3_31 =>
 if j_3_31 = true then (
  some (0, 0, 2)
 ) else (
  bindS (
   iter (m_value_Do_L1 N l1) N (0, false)
  ) fun j_4_7 =>
  bindO (l1[0]?) fun x51 =>
  gd (-9223372036854775808 ≤ ((j_1_6 : Nat) : Int) - 1 ∧ ((j_1_6 : Nat) : Int) - 1 ≤ 9223372036854775807) <|
  gd (0 ≤ ((j_1_6 : Nat) : Int) - 1) <|
  bindO (l1[(((j_1_6 : Nat) : Int) - 1).toNat]?) fun x56 =>
  if (a0 == 5) = true then (
   bindO (m_value_Truth N (decide (x51 = x56))) fun v64 =>
   some (1, v64, 0)
  ) else (
   if (a0 == 6) = true then (
    bindO (m_value_Truth N (!decide (x51 = x56))) fun v71 =>
    some (1, v71, 0)
   ) else (
    if j_4_7 = true then (
     some (0, 0, 301)
    ) else (
     bindO (m_value_Do_C7 N a0 x51 x56
     ) fun (j_7_12, j_7_13) =>
     if (!j_7_13) = true then (
      some (0, 0, 300)
     ) else (
      bindO (m_value_number N j_7_12) fun _ =>
      some (1, j_7_12, 0)
     )
    )
   )
  )
 )
def m_value_Text (N : Nat) (a0 : Int) (a1 : Int) (a2 : ByteArray) : Option (ByteArray) :=
 bindO (m_value_Right N a0 a1 a2) fun v5 =>
 if (!v5) = true then (
  some (⟨#[]⟩ : ByteArray)
 ) else (
  if (a0 == 2) = true then (
   gd ((⟨#[39]⟩ : ByteArray).size + a2.size ≤ 9223372036854775807) <|
   some ((⟨#[39]⟩ : ByteArray) ++ a2)
  ) else (
   gd (-9223372036854775808 ≤ a1 ∧ a1 ≤ 9223372036854775807) <|
   some (itoaF a1)
  )
 )
def m_ropewalklaw01_awake_C1 (N : Nat) (v9_2 : Nat) (v9_0 : Nat) (v9_1 : Int) (v16_2 : Nat) : Option (Bool) :=
 if (v9_2 == 0) = true then (
  bindO (m_ropewalkref01_Number N 5) fun _ =>
  if (decide ((⟨((v9_0 : Nat) : Int), v9_1, (⟨#[]⟩ : ByteArray)⟩ : V) = (⟨1, 5, (⟨#[]⟩ : ByteArray)⟩ : V))) = true then (
   if (v16_2 == 300) = true then (
    bindO (m_value_Text N ((v9_0 : Nat) : Int) v9_1 (⟨#[]⟩ : ByteArray)) fun v32 =>
    some (v32.toList == (⟨#[53]⟩ : ByteArray).toList)
   ) else (
    some false
   )
  ) else (
   some false
  )
 ) else (
  some false
 )
def m_ropewalklaw01_awake (N : Nat) : Option (Bool) :=
 bindO (m_ropewalkref01_Number N 2) fun _ =>
 bindO (m_ropewalkref01_Number N 3) fun _ =>
 bindO (m_value_Do N 1 [(⟨1, 2, (⟨#[]⟩ : ByteArray)⟩ : V), (⟨1, 3, (⟨#[]⟩ : ByteArray)⟩ : V)]) fun (v9_0, v9_1, v9_2) =>
 bindO (m_ropewalkref01_Number N 9223372036854775807) fun _ =>
 bindO (m_ropewalkref01_Number N 1) fun _ =>
 bindO (m_value_Do N 1 [(⟨1, 9223372036854775807, (⟨#[]⟩ : ByteArray)⟩ : V), (⟨1, 1, (⟨#[]⟩ : ByteArray)⟩ : V)]) fun (v16_0, v16_1, v16_2) =>
 bindO (m_ropewalklaw01_awake_C1 N v9_2 v9_0 v9_1 v16_2
 ) fun j_1_0 =>
 some j_1_0
def m_ropewalklaw01_ValueLaws_C1 (N : Nat) (v35_0 : Nat) (v35_1 : Int) (v42_0 : Nat) (v42_1 : Int) (v35_2 : Nat) (v42_2 : Nat) (v49_0 : Nat) (v49_1 : Int) (v56_0 : Nat) (v56_1 : Int) (v49_2 : Nat) (v56_2 : Nat) : Option (Bool) :=
 if (!decide ((⟨((v35_0 : Nat) : Int), v35_1, (⟨#[]⟩ : ByteArray)⟩ : V) = (⟨((v42_0 : Nat) : Int), v42_1, (⟨#[]⟩ : ByteArray)⟩ : V))) = true then (
  some true
 ) else (
  if (v35_2 != v42_2) = true then (
   some true
  ) else (
   if (!decide ((⟨((v49_0 : Nat) : Int), v49_1, (⟨#[]⟩ : ByteArray)⟩ : V) = (⟨((v56_0 : Nat) : Int), v56_1, (⟨#[]⟩ : ByteArray)⟩ : V))) = true then (
    some true
   ) else (
    some (v49_2 != v56_2)
   )
  )
 )
def m_ropewalklaw01_ValueLaws_C3 (N : Nat) (v83_2 : Nat) (v83_0 : Nat) (v83_1 : Int) (a0 : Int) (v35_0 : Nat) (v35_1 : Int) : Option (Bool) :=
 if (v83_2 != 0) = true then (
  some true
 ) else (
  if (!decide ((⟨((v83_0 : Nat) : Int), v83_1, (⟨#[]⟩ : ByteArray)⟩ : V) = (⟨1, a0, (⟨#[]⟩ : ByteArray)⟩ : V))) = true then (
   some true
  ) else (
   bindO (m_value_Right N ((v35_0 : Nat) : Int) v35_1 (⟨#[]⟩ : ByteArray)) fun v95 =>
   some (!v95)
  )
 )
def m_ropewalklaw01_ValueLaws_C2 (N : Nat) (v35_2 : Nat) (v35_0 : Nat) (v35_1 : Int) (a1 : Int) (a0 : Int) : Option (Unit ⊕ Bool) :=
 if (v35_2 == 0) = true then (
  bindO (m_value_Do N 2 [(⟨(((v35_0 : Nat) : Int)), v35_1, (⟨#[]⟩ : ByteArray)⟩ : V), (⟨1, a1, (⟨#[]⟩ : ByteArray)⟩ : V)]) fun (v83_0, v83_1, v83_2) =>
  bindO (m_ropewalklaw01_ValueLaws_C3 N v83_2 v83_0 v83_1 a0 v35_0 v35_1
  ) fun j_3_97 =>
  if j_3_97 = true then (
   some (.inr false)
  ) else (
   some (.inl ())
  )
 ) else (
  some (.inl ())
 )
def m_ropewalklaw01_ValueLaws_C4 (N : Nat) (v101_2 : Nat) (v101_0 : Nat) (v101_1 : Int) (a0 : Int) : Option (Unit ⊕ Bool) :=
 if (v101_2 == 0) = true then (
  bindO (m_value_Do N 4 [(⟨(((v101_0 : Nat) : Int)), v101_1, (⟨#[]⟩ : ByteArray)⟩ : V)]) fun (v109_0, v109_1, v109_2) =>
  bindO (
   if (v109_2 != 0) = true then (
    some true
   ) else (
    some (!decide ((⟨((v109_0 : Nat) : Int), v109_1, (⟨#[]⟩ : ByteArray)⟩ : V) = (⟨1, a0, (⟨#[]⟩ : ByteArray)⟩ : V)))
   )
  ) fun j_5_118 =>
  if j_5_118 = true then (
   some (.inr false)
  ) else (
   some (.inl ())
  )
 ) else (
  some (.inl ())
 )
def m_ropewalklaw01_ValueLaws (N : Nat) (a0 : Int) (a1 : Int) : Option (Bool) :=
 bindO (m_ropewalklaw01_awake N) fun v25 =>
 if (!v25) = true then (
  some false
 ) else (
  bindO (m_ropewalkref01_Number N a0) fun _ =>
  bindO (m_ropewalkref01_Number N a1) fun _ =>
  bindO (m_value_Do N 1 [(⟨1, a0, (⟨#[]⟩ : ByteArray)⟩ : V), (⟨1, a1, (⟨#[]⟩ : ByteArray)⟩ : V)]) fun (v35_0, v35_1, v35_2) =>
  bindO (m_value_Do N 1 [(⟨1, a1, (⟨#[]⟩ : ByteArray)⟩ : V), (⟨1, a0, (⟨#[]⟩ : ByteArray)⟩ : V)]) fun (v42_0, v42_1, v42_2) =>
  bindO (m_value_Do N 3 [(⟨1, a0, (⟨#[]⟩ : ByteArray)⟩ : V), (⟨1, a1, (⟨#[]⟩ : ByteArray)⟩ : V)]) fun (v49_0, v49_1, v49_2) =>
  bindO (m_value_Do N 3 [(⟨1, a1, (⟨#[]⟩ : ByteArray)⟩ : V), (⟨1, a0, (⟨#[]⟩ : ByteArray)⟩ : V)]) fun (v56_0, v56_1, v56_2) =>
  bindO (m_ropewalklaw01_ValueLaws_C1 N v35_0 v35_1 v42_0 v42_1 v35_2 v42_2 v49_0 v49_1 v56_0 v56_1 v49_2 v56_2
  ) fun j_1_76 =>
  if j_1_76 = true then (
   some false
  ) else (
   bindS (m_ropewalklaw01_ValueLaws_C2 N v35_2 v35_0 v35_1 a1 a0
   ) fun _ =>
   bindO (m_value_Do N 4 [(⟨1, a0, (⟨#[]⟩ : ByteArray)⟩ : V)]) fun (v101_0, v101_1, v101_2) =>
   bindS (m_ropewalklaw01_ValueLaws_C4 N v101_2 v101_0 v101_1 a0
   ) fun _ =>
   bindO (m_value_Do N 7 [(⟨1, a0, (⟨#[]⟩ : ByteArray)⟩ : V), (⟨1, a1, (⟨#[]⟩ : ByteArray)⟩ : V)]) fun (v123_0, v123_1, v123_2) =>
   bindO (m_value_Do N 8 [(⟨1, a1, (⟨#[]⟩ : ByteArray)⟩ : V), (⟨1, a0, (⟨#[]⟩ : ByteArray)⟩ : V)]) fun (v130_0, v130_1, v130_2) =>
   gd (-9223372036854775808 ≤ v123_1 + v130_1 ∧ v123_1 + v130_1 ≤ 9223372036854775807) <|
   if ((v123_1 + v130_1) == 1) = true then (
    some ((v123_1 == 1) == (decide (a0 < a1)))
   ) else (
    some false
   )
  )
 )
def m_ropewalklaw01_light_L1 (N : Nat) (l0 : List V) : Nat → Option (Nat ⊕ (Unit ⊕ Bool)) := fun u1_3 =>
 if (decide (u1_3 < l0.length)) = true then (
  bindO (l0[u1_3]?) fun x12 =>
  if (decide (300 < x12.s.size)) = true then (
   some (.inr (.inr false))
  ) else (
   gd (u1_3 + 1 ≤ 9223372036854775807) <|
   some (.inl (u1_3 + 1))
  )
 ) else (
  some (.inr (.inl ()))
 )
def m_ropewalklaw01_light (N : Nat) (l0 : List V) : Option (Bool) :=
 bindS (
  iter (m_ropewalklaw01_light_L1 N l0) N 0
 ) fun _ =>
 some (decide (l0.length ≤ 20))
def m_ropewalkref01_Named_C3 (N : Nat) (j_2_5 : Bool) (u1_3 : Nat) (x14 : UInt8) : Option (Bool) :=
 if (!j_2_5) = true then (
  if (u1_3 == 0) = true then (
   some true
  ) else (
   if (decide (48 ≤ x14.toNat)) = true then (
    if (decide (x14.toNat ≤ 57)) = true then (
     some false
    ) else (
     some (!(x14.toNat == 95))
    )
   ) else (
    some (!(x14.toNat == 95))
   )
  )
 ) else (
  some false
 )
def m_ropewalkref01_Named_L1 (N : Nat) (a0 : ByteArray) : Nat → Option (Nat ⊕ (Unit ⊕ Bool)) := fun u1_3 =>
 if (decide (u1_3 < a0.size)) = true then (
  bindO (a0[u1_3]?) fun x14 =>
  bindO (
   if (decide (97 ≤ x14.toNat)) = true then (
    some (decide (x14.toNat ≤ 122))
   ) else (
    some false
   )
  ) fun j_2_5 =>
  bindO (m_ropewalkref01_Named_C3 N j_2_5 u1_3 x14
  ) fun j_3_39 =>
  if j_3_39 = true then (
   some (.inr (.inr false))
  ) else (
   gd (u1_3 + 1 ≤ 9223372036854775807) <|
   some (.inl (u1_3 + 1))
  )
 ) else (
  some (.inr (.inl ()))
 )
def m_ropewalkref01_Named (N : Nat) (a0 : ByteArray) : Option (Bool) :=
 bindS (
  iter (m_ropewalkref01_Named_L1 N a0) N 0
 ) fun _ =>
 if (decide (1 ≤ a0.size)) = true then (
  some (decide (a0.size ≤ 24))
 ) else (
  some false
 )
def m_ropewalkref01_Right (N : Nat) (a0 : Int) (a1 : Int) (a2 : ByteArray) : Option (Bool) :=
 if (a0 == 1) = true then (
  some (a2.toList == (⟨#[]⟩ : ByteArray).toList)
 ) else (
  if (a0 == 2) = true then (
   if (a1 == 0) = true then (
    bindO (m_ropewalkref01_Named N a2) fun v20 =>
    some v20
   ) else (
    some false
   )
  ) else (
   some false
  )
 )
def m_cmp_isNaN_ValueKind (N : Nat) (a0 : Int) : Option (Unit) :=
 some ()
def m_cmp_Compare_ValueKind (N : Nat) (a0 : Int) (a1 : Int) : Option (Int) :=
 bindO (m_cmp_isNaN_ValueKind N a0) fun _ =>
 bindO (m_cmp_isNaN_ValueKind N a1) fun _ =>
 if (a0 != a0) = true then (
  if (a1 != a1) = true then (
   some 0
  ) else (
   some (-1)
  )
 ) else (
  if (a1 != a1) = true then (
   some 1
  ) else (
   if (decide (a0 < a1)) = true then (
    some (-1)
   ) else (
    if (decide (a0 > a1)) = true then (
     some 1
    ) else (
     some 0
    )
   )
  )
 )
def m_cmp_isNaN_int64 (N : Nat) (a0 : Int) : Option (Unit) :=
 some ()
def m_cmp_Compare_int64 (N : Nat) (a0 : Int) (a1 : Int) : Option (Int) :=
 bindO (m_cmp_isNaN_int64 N a0) fun _ =>
 bindO (m_cmp_isNaN_int64 N a1) fun _ =>
 if (a0 != a0) = true then (
  if (a1 != a1) = true then (
   some 0
  ) else (
   some (-1)
  )
 ) else (
  if (a1 != a1) = true then (
   some 1
  ) else (
   if (decide (a0 < a1)) = true then (
    some (-1)
   ) else (
    if (decide (a0 > a1)) = true then (
     some 1
    ) else (
     some 0
    )
   )
  )
 )
def m_cmp_Or_int_L1 (N : Nat) (l0 : List Int) : Nat → Option (Nat ⊕ (Unit ⊕ Int)) := fun u1_8 =>
 if (decide (u1_8 < l0.length)) = true then (
  bindO (l0[u1_8]?) fun x10 =>
  if (x10 != 0) = true then (
   some (.inr (.inr x10))
  ) else (
   gd (u1_8 + 1 ≤ 9223372036854775807) <|
   some (.inl (u1_8 + 1))
  )
 ) else (
  some (.inr (.inl ()))
 )
def m_cmp_Or_int (N : Nat) (l0 : List Int) : Option (Int) :=
 bindS (
  iter (m_cmp_Or_int_L1 N l0) N 0
 ) fun _ =>
 some 0
def m_value_Compare (N : Nat) (a0 : Int) (a1 : Int) (a2 : ByteArray) (a3 : Int) (a4 : Int) (a5 : ByteArray) : Option (Int) :=
 bindO (
  bindO (m_value_Right N a0 a1 a2) fun v6 =>
  if (!v6) = true then (
   some true
  ) else (
   bindO (m_value_Right N a3 a4 a5) fun v10 =>
   some (!v10)
  )
 ) fun j_1_12 =>
 if j_1_12 = true then (
  some 0
 ) else (
  bindO (m_cmp_Compare_ValueKind N a0 a3) fun v17 =>
  bindO (m_cmp_Compare_int64 N a1 a4) fun v22 =>
  bindO (m_cmp_Or_int N [v17, v22, Lib.compareBytes a2.data.toList a5.data.toList]) fun v29 =>
  some v29
 )
def m_ropewalkref01_Compare_C2 (N : Nat) (a0 : Int) (a3 : Int) (a1 : Int) (a4 : Int) (a2 : ByteArray) (a5 : ByteArray) : Option (Bool) :=
 if (decide (a0 < a3)) = true then (
  some true
 ) else (
  if (a0 == a3) = true then (
   if (decide (a1 < a4)) = true then (
    some true
   ) else (
    if (a1 == a4) = true then (
     some (Op.bytesLess a2.toList a5.toList)
    ) else (
     some false
    )
   )
  ) else (
   some false
  )
 )
def m_ropewalkref01_Compare (N : Nat) (a0 : Int) (a1 : Int) (a2 : ByteArray) (a3 : Int) (a4 : Int) (a5 : ByteArray) : Option (Int) :=
 bindO (
  bindO (m_ropewalkref01_Right N a0 a1 a2) fun v6 =>
  if (!v6) = true then (
   some true
  ) else (
   bindO (m_ropewalkref01_Right N a3 a4 a5) fun v10 =>
   some (!v10)
  )
 ) fun j_1_12 =>
 if j_1_12 = true then (
  some 0
 ) else (
  bindO (m_ropewalkref01_Compare_C2 N a0 a3 a1 a4 a2 a5
  ) fun j_2_13 =>
  if j_2_13 = true then (
   some (-1)
  ) else (
   if (decide ((⟨a0, a1, a2⟩ : V) = (⟨a3, a4, a5⟩ : V))) = true then (
    some 0
   ) else (
    some 1
   )
  )
 )
def m_ropewalkref01_digits : Nat → Int → Option (ByteArray)
 | 0, _ => none
 | N + 1, a0 =>
 gd (-9223372036854775808 ≤ 48 - (Int.tmod a0 10) ∧ 48 - (Int.tmod a0 10) ≤ 9223372036854775807) <|
 if (decide (a0 > -10)) = true then (
  some (strOfNums [IntKind.wrap .u8 (48 - (Int.tmod a0 10))])
 ) else (
  bindO (m_ropewalkref01_digits N (IntKind.wrap .i64 (Int.tdiv a0 10))) fun v15 =>
  gd (v15.size + (strOfNums [IntKind.wrap .u8 (48 - (Int.tmod a0 10))]).size ≤ 9223372036854775807) <|
  some (v15 ++ (strOfNums [IntKind.wrap .u8 (48 - (Int.tmod a0 10))]))
 )
def m_ropewalkref01_Text (N : Nat) (a0 : Int) (a1 : Int) (a2 : ByteArray) : Option (ByteArray) :=
 bindO (m_ropewalkref01_Right N a0 a1 a2) fun v5 =>
 if (!v5) = true then (
  some (⟨#[]⟩ : ByteArray)
 ) else (
  if (a0 == 2) = true then (
   gd ((⟨#[39]⟩ : ByteArray).size + a2.size ≤ 9223372036854775807) <|
   some ((⟨#[39]⟩ : ByteArray) ++ a2)
  ) else (
   if (decide (a1 < 0)) = true then (
    bindO (m_ropewalkref01_digits N a1) fun v20 =>
    gd ((⟨#[45]⟩ : ByteArray).size + v20.size ≤ 9223372036854775807) <|
    some ((⟨#[45]⟩ : ByteArray) ++ v20)
   ) else (
    gd (-9223372036854775808 ≤ 0 - a1 ∧ 0 - a1 ≤ 9223372036854775807) <|
    bindO (m_ropewalkref01_digits N (0 - a1)) fun v25 =>
    some v25
   )
  )
 )
def m_ropewalkref01_Truth (N : Nat) (a0 : Bool) : Option (Int) :=
 if a0 = true then (
  bindO (m_ropewalkref01_Number N 1) fun _ =>
  some 1
 ) else (
  bindO (m_ropewalkref01_Number N 0) fun _ =>
  some 0
 )
def m_ropewalklaw01_ValueTells_C1 (N : Nat) (a0 : Int) (a1 : Int) (a2 : ByteArray) (a3 : Int) (a4 : Int) (a5 : ByteArray) : Option (Bool) :=
 bindO (m_value_Right N a0 a1 a2) fun v13 =>
 bindO (m_ropewalkref01_Right N a0 a1 a2) fun v15 =>
 if (v13 == v15) = true then (
  bindO (m_value_Compare N a0 a1 a2 a3 a4 a5) fun v20 =>
  bindO (m_ropewalkref01_Compare N a0 a1 a2 a3 a4 a5) fun v23 =>
  if (v20 == v23) = true then (
   bindO (m_value_Text N a0 a1 a2) fun v28 =>
   bindO (m_ropewalkref01_Text N a0 a1 a2) fun v30 =>
   if (v28.toList == v30.toList) = true then (
    bindO (m_value_Truth N (decide ((⟨a0, a1, a2⟩ : V) = (⟨a3, a4, a5⟩ : V)))) fun v37 =>
    bindO (m_ropewalkref01_Truth N (decide ((⟨a0, a1, a2⟩ : V) = (⟨a3, a4, a5⟩ : V)))) fun v41 =>
    some (decide ((⟨1, v37, (⟨#[]⟩ : ByteArray)⟩ : V) = (⟨1, v41, (⟨#[]⟩ : ByteArray)⟩ : V)))
   ) else (
    some false
   )
  ) else (
   some false
  )
 ) else (
  some false
 )
def m_ropewalklaw01_ValueTells (N : Nat) (a0 : Int) (a1 : Int) (a2 : ByteArray) (a3 : Int) (a4 : Int) (a5 : ByteArray) : Option (Bool) :=
 bindO (m_ropewalklaw01_awake N) fun v5 =>
 if (!v5) = true then (
  some false
 ) else (
  bindO (m_ropewalklaw01_light N [(⟨a0, a1, a2⟩ : V), (⟨a3, a4, a5⟩ : V)]) fun v10 =>
  if (!v10) = true then (
   some true
  ) else (
   bindO (m_ropewalklaw01_ValueTells_C1 N a0 a1 a2 a3 a4 a5
   ) fun j_1_4 =>
   some j_1_4
  )
 )
def m_ropewalklaw01_ValueTexts_C1 (N : Nat) (a0 : Int) (a1 : Int) (a2 : ByteArray) (a3 : Int) (a4 : Int) (a5 : ByteArray) (a6 : Int) (a7 : Int) (a8 : ByteArray) : Option (Bool) :=
 bindO (m_ropewalklaw01_light N [(⟨a0, a1, a2⟩ : V), (⟨a3, a4, a5⟩ : V), (⟨a6, a7, a8⟩ : V)]) fun v16 =>
 if (!v16) = true then (
  some true
 ) else (
  bindO (m_value_Right N a0 a1 a2) fun v20 =>
  if (!v20) = true then (
   some true
  ) else (
   bindO (m_value_Right N a3 a4 a5) fun v25 =>
   if (!v25) = true then (
    some true
   ) else (
    bindO (m_value_Right N a6 a7 a8) fun v30 =>
    some (!v30)
   )
  )
 )
def m_ropewalklaw01_ValueTexts_C2 (N : Nat) (a3 : Int) (a4 : Int) (a5 : ByteArray) (a0 : Int) (a1 : Int) (a2 : ByteArray) (v35 : Int) (v38 : Int) (v41 : Int) : Option (Bool) :=
 bindO (m_value_Compare N a3 a4 a5 a0 a1 a2) fun v45 =>
 gd (-9223372036854775808 ≤ 0 - v45 ∧ 0 - v45 ≤ 9223372036854775807) <|
 if (v35 != (0 - v45)) = true then (
  some true
 ) else (
  if (decide (v35 ≤ 0)) = true then (
   if (decide (v38 ≤ 0)) = true then (
    some (decide (v41 > 0))
   ) else (
    some false
   )
  ) else (
   some false
  )
 )
def m_ropewalklaw01_ValueTexts (N : Nat) (a0 : Int) (a1 : Int) (a2 : ByteArray) (a3 : Int) (a4 : Int) (a5 : ByteArray) (a6 : Int) (a7 : Int) (a8 : ByteArray) : Option (Bool) :=
 bindO (m_ropewalklaw01_awake N) fun v10 =>
 if (!v10) = true then (
  some false
 ) else (
  bindO (m_ropewalklaw01_ValueTexts_C1 N a0 a1 a2 a3 a4 a5 a6 a7 a8
  ) fun j_1_32 =>
  if j_1_32 = true then (
   some true
  ) else (
   bindO (m_value_Compare N a0 a1 a2 a3 a4 a5) fun v35 =>
   bindO (m_value_Compare N a3 a4 a5 a6 a7 a8) fun v38 =>
   bindO (m_value_Compare N a0 a1 a2 a6 a7 a8) fun v41 =>
   bindO (m_ropewalklaw01_ValueTexts_C2 N a3 a4 a5 a0 a1 a2 v35 v38 v41
   ) fun j_2_59 =>
   if j_2_59 = true then (
    some false
   ) else (
    bindO (m_value_Text N a0 a1 a2) fun v61 =>
    bindO (m_value_Text N a3 a4 a5) fun v63 =>
    if ((v61.toList == v63.toList) == (decide ((⟨a0, a1, a2⟩ : V) = (⟨a3, a4, a5⟩ : V)))) = true then (
     if ((v35 == 0) == (decide ((⟨a0, a1, a2⟩ : V) = (⟨a3, a4, a5⟩ : V)))) = true then (
      bindO (m_value_Text N a0 a1 a2) fun v79 =>
      some (!(v79.toList == (⟨#[]⟩ : ByteArray).toList))
     ) else (
      some false
     )
    ) else (
     some false
    )
   )
  )
 )
def m_ropewalkref01_sum_C1 (N : Nat) (a1 : Int) (a0 : Int) : Option (Bool) :=
 if (decide (a1 > 0)) = true then (
  gd (-9223372036854775808 ≤ 9223372036854775807 - a1 ∧ 9223372036854775807 - a1 ≤ 9223372036854775807) <|
  if (decide (a0 > (9223372036854775807 - a1))) = true then (
   some true
  ) else (
   if (decide (a1 < 0)) = true then (
    gd (-9223372036854775808 ≤ -9223372036854775808 - a1 ∧ -9223372036854775808 - a1 ≤ 9223372036854775807) <|
    some (decide (a0 < (-9223372036854775808 - a1)))
   ) else (
    some false
   )
  )
 ) else (
  if (decide (a1 < 0)) = true then (
   gd (-9223372036854775808 ≤ -9223372036854775808 - a1 ∧ -9223372036854775808 - a1 ≤ 9223372036854775807) <|
   some (decide (a0 < (-9223372036854775808 - a1)))
  ) else (
   some false
  )
 )
def m_ropewalkref01_sum (N : Nat) (a0 : Int) (a1 : Int) : Option (Int × Bool) :=
 bindO (m_ropewalkref01_sum_C1 N a1 a0
 ) fun j_1_23 =>
 if j_1_23 = true then (
  some (0, false)
 ) else (
  gd (-9223372036854775808 ≤ a0 + a1 ∧ a0 + a1 ≤ 9223372036854775807) <|
  some (a0 + a1, true)
 )
def m_ropewalkref01_product (N : Nat) (a0 : Int) (a1 : Int) : Option (Int × Bool) :=
 bindO (
  if (a0 == 0) = true then (
   some true
  ) else (
   some (a1 == 0)
  )
 ) fun j_1_12 =>
 if j_1_12 = true then (
  some (0, true)
 ) else (
  if (a0 == -1) = true then (
   some (IntKind.wrap .i64 (0 - a1), a1 != -9223372036854775808)
  ) else (
   if (a1 == -1) = true then (
    some (IntKind.wrap .i64 (0 - a0), a0 != -9223372036854775808)
   ) else (
    gd (a1 ≠ 0) <|
    some (IntKind.wrap .i64 (a0 * a1), (IntKind.wrap .i64 (Int.tdiv (IntKind.wrap .i64 (a0 * a1)) a1)) == a0)
   )
  )
 )
def m_ropewalkref01_reckoned (N : Nat) (a0 : Int) (a1 : Int) (a2 : Int) : Option (Int × Bool) :=
 if (a0 == 1) = true then (
  bindO (m_ropewalkref01_sum N a1 a2) fun (v13_0, v13_1) =>
  some (v13_0, v13_1)
 ) else (
  if (a0 == 2) = true then (
   if (a2 == -9223372036854775808) = true then (
    some (IntKind.wrap .i64 (a1 - a2), decide (a1 < 0))
   ) else (
    bindO (m_ropewalkref01_sum N a1 (IntKind.wrap .i64 (0 - a2))) fun (v28_0, v28_1) =>
    some (v28_0, v28_1)
   )
  ) else (
   if (a0 == 3) = true then (
    bindO (m_ropewalkref01_product N a1 a2) fun (v35_0, v35_1) =>
    some (v35_0, v35_1)
   ) else (
    some (IntKind.wrap .i64 (0 - a1), a1 != -9223372036854775808)
   )
  )
 )
def m_ropewalkref01_Do_C1 (N : Nat) (a0 : Int) : Option (Nat) :=
 bindO (
  if (a0 == 4) = true then (
   some true
  ) else (
   some (a0 == 11)
  )
 ) fun j_2_18 =>
 if j_2_18 = true then (
  some 1
 ) else (
  some 2
 )
def m_ropewalkref01_Do_C5 (N : Nat) (l1 : List V) (u1_8 : Nat) (u1_7 : Bool) : Option (Bool ⊕ ((Nat × Bool) ⊕ (Bool ⊕ (Nat × Int × Nat)))) :=
 bindO (l1[u1_8]?) fun x40 =>
 bindO (m_ropewalkref01_Right N x40.k x40.n x40.s) fun v42 =>
 if (!v42) = true then (
  some (.inr (.inr (.inr (0, 0, 2))))
 ) else (
  if u1_7 = true then (
   some (.inl true)
  ) else (
   bindO (l1[u1_8]?) fun x49 =>
   some (.inl (x49.k == 2))
  )
 )
def m_ropewalkref01_Do_L1 (N : Nat) (l1 : List V) : (Nat × Bool) → Option ((Nat × Bool) ⊕ (Bool ⊕ (Nat × Int × Nat))) := fun (u1_8, u1_7) =>
 if (decide (u1_8 < l1.length)) = true then (
  bindS (m_ropewalkref01_Do_C5 N l1 u1_8 u1_7
  ) fun j_5_7 =>
  gd (u1_8 + 1 ≤ 9223372036854775807) <|
  some (.inl (u1_8 + 1, j_5_7))
 ) else (
  some (.inr (.inl u1_7))
 )
def m_ropewalkref01_Do (N : Nat) (a0 : Int) (l1 : List V) : Option (Nat × Int × Nat) :=
 bindO (m_ropewalkref01_Do_C1 N a0
 ) fun j_1_6 =>
 bindO (
  if (decide (a0 < 1)) = true then (
   some true
  ) else (
   if (decide (a0 > 11)) = true then (
    some true
   ) else (
    some (l1.length != j_1_6)
   )
  )
 ) fun j_3_30 =>
 if j_3_30 = true then (
  some (0, 0, 2)
 ) else (
  bindS (
   iter (m_ropewalkref01_Do_L1 N l1) N (0, false)
  ) fun j_4_7 =>
  bindO (l1[0]?) fun x55 =>
  gd (-9223372036854775808 ≤ ((l1.length : Nat) : Int) - 1 ∧ ((l1.length : Nat) : Int) - 1 ≤ 9223372036854775807) <|
  gd (0 ≤ ((l1.length : Nat) : Int) - 1) <|
  bindO (l1[(((l1.length : Nat) : Int) - 1).toNat]?) fun x61 =>
  bindO (
   if (a0 == 5) = true then (
    some true
   ) else (
    some (a0 == 6)
   )
  ) fun j_7_68 =>
  if j_7_68 = true then (
   bindO (m_ropewalkref01_Truth N ((decide (x55 = x61)) == (a0 == 5))) fun v75 =>
   some (1, v75, 0)
  ) else (
   if j_4_7 = true then (
    some (0, 0, 301)
   ) else (
    if (a0 == 7) = true then (
     bindO (m_ropewalkref01_Truth N (decide (x55.n < x61.n))) fun v86 =>
     some (1, v86, 0)
    ) else (
     if (a0 == 8) = true then (
      bindO (m_ropewalkref01_Truth N (decide (x55.n ≤ x61.n))) fun v94 =>
      some (1, v94, 0)
     ) else (
      if (a0 == 9) = true then (
       if (x55.n != 0) = true then (
        bindO (m_ropewalkref01_Truth N (x61.n != 0)) fun v105 =>
        some (1, v105, 0)
       ) else (
        bindO (m_ropewalkref01_Truth N false) fun v105 =>
        some (1, v105, 0)
       )
      ) else (
       if (a0 == 10) = true then (
        if (x55.n != 0) = true then (
         bindO (m_ropewalkref01_Truth N true) fun v116 =>
         some (1, v116, 0)
        ) else (
         bindO (m_ropewalkref01_Truth N (x61.n != 0)) fun v116 =>
         some (1, v116, 0)
        )
       ) else (
        if (a0 == 11) = true then (
         bindO (m_ropewalkref01_Truth N (x55.n == 0)) fun v122 =>
         some (1, v122, 0)
        ) else (
         bindO (m_ropewalkref01_reckoned N a0 x55.n x61.n) fun (v129_0, v129_1) =>
         if (!v129_1) = true then (
          some (0, 0, 300)
         ) else (
          bindO (m_ropewalkref01_Number N v129_0) fun _ =>
          some (1, v129_0, 0)
         )
        )
       )
      )
     )
    )
   )
  )
 )

def m_ropewalklaw01_ValueNumbers_C4 (N : Nat) (v47_0 : Nat) (v47_1 : Int) (v53_0 : Nat) (v53_1 : Int) (v47_2 : Nat) (v53_2 : Nat) (v62_0 : Nat) (v62_1 : Int) (v69_0 : Nat) (v69_1 : Int) (v62_2 : Nat) (v69_2 : Nat) : Option (Bool) :=
 if (!decide ((⟨((v47_0 : Nat) : Int), v47_1, (⟨#[]⟩ : ByteArray)⟩ : V) = (⟨((v53_0 : Nat) : Int), v53_1, (⟨#[]⟩ : ByteArray)⟩ : V))) = true then (
  some true
 ) else (
  if (v47_2 != v53_2) = true then (
   some true
  ) else (
   if (!decide ((⟨((v62_0 : Nat) : Int), v62_1, (⟨#[]⟩ : ByteArray)⟩ : V) = (⟨((v69_0 : Nat) : Int), v69_1, (⟨#[]⟩ : ByteArray)⟩ : V))) = true then (
    some true
   ) else (
    some (v62_2 != v69_2)
   )
  )
 )
def m_ropewalklaw01_ValueNumbers_L3 (N : Nat) (u1_2 : Nat) (u2_3 : Nat) : Int → Option (Int ⊕ (Unit ⊕ (Nat ⊕ (Unit ⊕ (Nat ⊕ (Unit ⊕ Bool)))))) := fun u3_4 =>
 if (decide (u3_4 ≤ 12)) = true then (
  bindO (([0, 1, -1, 2, -2, 2147483647, 2147483648, -2147483648, 4294967297, 4611686018427387903, 4611686018427387904, -4611686018427387904, 9223372036854775807, -9223372036854775807, -9223372036854775808])[u1_2]?) fun x35 =>
  bindO (m_ropewalkref01_Number N x35) fun _ =>
  bindO (([0, 1, -1, 2, -2, 2147483647, 2147483648, -2147483648, 4294967297, 4611686018427387903, 4611686018427387904, -4611686018427387904, 9223372036854775807, -9223372036854775807, -9223372036854775808])[u2_3]?) fun x40 =>
  bindO (m_ropewalkref01_Number N x40) fun _ =>
  bindO (m_value_Do N u3_4 [(⟨1, x35, (⟨#[]⟩ : ByteArray)⟩ : V), (⟨1, x40, (⟨#[]⟩ : ByteArray)⟩ : V)]) fun (v47_0, v47_1, v47_2) =>
  bindO (m_ropewalkref01_Do N u3_4 [(⟨1, x35, (⟨#[]⟩ : ByteArray)⟩ : V), (⟨1, x40, (⟨#[]⟩ : ByteArray)⟩ : V)]) fun (v53_0, v53_1, v53_2) =>
  bindO (([(⟨1, x35, (⟨#[]⟩ : ByteArray)⟩ : V), (⟨1, x40, (⟨#[]⟩ : ByteArray)⟩ : V)])[0]?) fun x59 =>
  bindO (m_value_Do N u3_4 [x59]) fun (v62_0, v62_1, v62_2) =>
  gd (1 ≤ [(⟨1, x35, (⟨#[]⟩ : ByteArray)⟩ : V), (⟨1, x40, (⟨#[]⟩ : ByteArray)⟩ : V)].length) <|
  bindO (m_ropewalkref01_Do N u3_4 ([(⟨1, x35, (⟨#[]⟩ : ByteArray)⟩ : V), (⟨1, x40, (⟨#[]⟩ : ByteArray)⟩ : V)].take 1)) fun (v69_0, v69_1, v69_2) =>
  bindO (m_ropewalklaw01_ValueNumbers_C4 N v47_0 v47_1 v53_0 v53_1 v47_2 v53_2 v62_0 v62_1 v69_0 v69_1 v62_2 v69_2
  ) fun j_4_89 =>
  if j_4_89 = true then (
   some (.inr (.inr (.inr (.inr (.inr (.inr false))))))
  ) else (
   some (.inl (IntKind.wrap .u8 (u3_4 + 1)))
  )
 ) else (
  some (.inr (.inl ()))
 )
def m_ropewalklaw01_ValueNumbers_L2 (N : Nat) (u1_2 : Nat) : Nat → Option (Nat ⊕ (Unit ⊕ (Nat ⊕ (Unit ⊕ Bool)))) := fun u2_3 =>
 if (decide (u2_3 < ([0, 1, -1, 2, -2, 2147483647, 2147483648, -2147483648, 4294967297, 4611686018427387903, 4611686018427387904, -4611686018427387904, 9223372036854775807, -9223372036854775807, -9223372036854775808].length))) = true then (
  bindS (
   iter (m_ropewalklaw01_ValueNumbers_L3 N u1_2 u2_3) N 0
  ) fun _ =>
  gd (u2_3 + 1 ≤ 9223372036854775807) <|
  some (.inl (u2_3 + 1))
 ) else (
  some (.inr (.inl ()))
 )
def m_ropewalklaw01_ValueNumbers_L1 (N : Nat) : Nat → Option (Nat ⊕ (Unit ⊕ Bool)) := fun u1_2 =>
 if (decide (u1_2 < ([0, 1, -1, 2, -2, 2147483647, 2147483648, -2147483648, 4294967297, 4611686018427387903, 4611686018427387904, -4611686018427387904, 9223372036854775807, -9223372036854775807, -9223372036854775808].length))) = true then (
  bindS (
   iter (m_ropewalklaw01_ValueNumbers_L2 N u1_2) N 0
  ) fun _ =>
  gd (u1_2 + 1 ≤ 9223372036854775807) <|
  some (.inl (u1_2 + 1))
 ) else (
  some (.inr (.inl ()))
 )
def m_ropewalklaw01_ValueNumbers (N : Nat) : Option (Bool) :=
 bindO (m_ropewalklaw01_awake N) fun v14 =>
 if (!v14) = true then (
  some false
 ) else (
  bindS (
   iter (m_ropewalklaw01_ValueNumbers_L1 N) N 0
  ) fun _ =>
  some true
 )

def m_ropewalkkit_mark (N : Nat) (a0 : Int) (a1 : Int) : Option (Unit) :=
 gd (-9223372036854775808 ≤ a0 + 7 ∧ a0 + 7 ≤ 9223372036854775807) <|
 gd (-9223372036854775808 ≤ 1000003 * (a0 + 7) ∧ 1000003 * (a0 + 7) ≤ 9223372036854775807) <|
 gd (-9223372036854775808 ≤ (1000003 * (a0 + 7)) + a1 ∧ (1000003 * (a0 + 7)) + a1 ≤ 9223372036854775807) <|
 some ()
def m_ropewalkkit_markValue (N : Nat) (a0 : Int) (a1 : Int) : Option (Unit) :=
 bindO (m_ropewalkkit_mark N a0 a1) fun _ =>
 some ()
def m_ropewalkkit_LentValues_L1 (N : Nat) : (Nat × (List V)) → Option ((Nat × (List V)) ⊕ (List V)) := fun (u1_4, u1_3_l) =>
 if (decide (u1_4 < 12)) = true then (
  bindO (m_ropewalkkit_markValue N 1 ((u1_4 : Nat) : Int)) fun _ =>
  gd (u1_3_l.length + ([(⟨0, ((1000003 * (1 + 7)) + ((u1_4 : Nat) : Int)), (⟨#[]⟩ : ByteArray)⟩ : V)]).length ≤ 4398046511104) <|
  gd (u1_4 + 1 ≤ 9223372036854775807) <|
  some (.inl (u1_4 + 1, (u1_3_l ++ ([(⟨0, ((1000003 * (1 + 7)) + ((u1_4 : Nat) : Int)), (⟨#[]⟩ : ByteArray)⟩ : V)]))))
 ) else (
  some (.inr u1_3_l)
 )
def m_ropewalkkit_LentValues (N : Nat) (l0 : List V) : Option (List V) :=
 gd (l0.length + 12 ≤ 9223372036854775807) <|
 gd (l0.length + 12 ≤ 4398046511104) <|
 gd (([] : List V).length + l0.length ≤ 4398046511104) <|
 bindO (
  iter (m_ropewalkkit_LentValues_L1 N) N (0, l0)
 ) fun j_1_3_l =>
 gd (l0.length ≤ j_1_3_l.length) <|
 some j_1_3_l
def m_value_Do_v2_C1 (N : Nat) (a0 : Int) : Option (Nat) :=
 bindO (
  if (a0 == 4) = true then (
   some true
  ) else (
   some (a0 == 11)
  )
 ) fun j_2_19 =>
 if j_2_19 = true then (
  some 1
 ) else (
  some 2
 )
def m_value_Do_v2_C5 (N : Nat) (l1 : List V) (u1_35 : Nat) (k2 : Nat) (u1_7 : Bool) : Option (Bool ⊕ ((Nat × Bool) ⊕ (Bool ⊕ (Nat × Int × Nat)))) :=
 bindO (l1[u1_35]?) fun x37 =>
 gd (u1_35 < k2) <|
 bindO (m_value_Right N x37.k x37.n x37.s) fun v40 =>
 if (!v40) = true then (
  some (.inr (.inr (.inr (0, 0, 2))))
 ) else (
  if u1_7 = true then (
   some (.inl true)
  ) else (
   some (.inl (x37.k == 2))
  )
 )
def m_value_Do_v2_L1 (N : Nat) (k2 : Nat) (l1 : List V) : (Nat × Bool) → Option ((Nat × Bool) ⊕ (Bool ⊕ (Nat × Int × Nat))) := fun (u1_35, u1_7) =>
 if (decide (u1_35 < k2)) = true then (
  bindS (m_value_Do_v2_C5 N l1 u1_35 k2 u1_7
  ) fun j_5_7 =>
  gd (u1_35 + 1 ≤ 9223372036854775807) <|
  some (.inl (u1_35 + 1, j_5_7))
 ) else (
  some (.inr (.inl u1_7))
 )
def m_value_Do_v2_C7 (N : Nat) (a0 : Int) (x51 : V) (x56 : V) : Option (Int × Bool) :=
 bindO (m_value_does N a0) fun
 | .inl _ => (
 bindO (m_value_does_2 N x51.n x56.n) fun _ =>
 some (IntKind.wrap .i64 (x51.n + x56.n), (decide ((IntKind.wrap .i64 (x51.n + x56.n)) < x51.n)) == (decide (x56.n < 0)))
 )
 | .inr (.inl _) => (
 bindO (m_value_does_3 N x51.n x56.n) fun _ =>
 some (IntKind.wrap .i64 (x51.n - x56.n), (decide ((IntKind.wrap .i64 (x51.n - x56.n)) > x51.n)) == (decide (x56.n < 0)))
 )
 | .inr (.inr (.inl _)) => (
 bindO (m_value_product N x51.n x56.n) fun (v82_0, v82_1) =>
 some (v82_0, v82_1)
 )
 | .inr (.inr (.inr (.inl _))) => (
 bindO (m_value_does_4 N x51.n x56.n) fun _ =>
 some (IntKind.wrap .i64 (0 - x51.n), x51.n != -9223372036854775808)
 )
 | .inr (.inr (.inr (.inr (.inl _)))) => (
 bindO (m_value_does_5 N x51.n x56.n) fun v82 =>
 some (v82, true)
 )
 | .inr (.inr (.inr (.inr (.inr (.inl _))))) => (
 bindO (m_value_does_6 N x51.n x56.n) fun v82 =>
 some (v82, true)
 )
 | .inr (.inr (.inr (.inr (.inr (.inr (.inl _)))))) => (
 bindO (m_value_does_7 N x51.n x56.n) fun v82 =>
 some (v82, true)
 )
 | .inr (.inr (.inr (.inr (.inr (.inr (.inr (.inl _))))))) => (
 bindO (m_value_does_8 N x51.n x56.n) fun v82 =>
 some (v82, true)
 )
 | .inr (.inr (.inr (.inr (.inr (.inr (.inr (.inr (.inl _)))))))) => (
 bindO (m_value_does_9 N x51.n x56.n) fun v82 =>
 some (v82, true)
 )
 | .inr (.inr (.inr (.inr (.inr (.inr (.inr (.inr (.inr _)))))))) => (
 none
 )
def m_value_Do_v2 (N : Nat) (a0 : Int) (l1 : List V) (k2 : Nat) : Option (Nat × Int × Nat) :=
 bindO (m_value_Do_v2_C1 N a0
 ) fun j_1_6 =>
 bindO (
  if (decide (a0 < 1)) = true then (
   some true
  ) else (
   if (decide (a0 > 11)) = true then (
    some true
   ) else (
    some (k2 != j_1_6)
   )
  )
 ) fun j_3_31 =>
 if j_3_31 = true then (
  some (0, 0, 2)
 ) else (
  bindS (
   iter (m_value_Do_v2_L1 N k2 l1) N (0, false)
  ) fun j_4_7 =>
  bindO (l1[0]?) fun x51 =>
  gd (0 < k2) <|
  gd (-9223372036854775808 ≤ ((j_1_6 : Nat) : Int) - 1 ∧ ((j_1_6 : Nat) : Int) - 1 ≤ 9223372036854775807) <|
  gd (0 ≤ ((j_1_6 : Nat) : Int) - 1) <|
  bindO (l1[(((j_1_6 : Nat) : Int) - 1).toNat]?) fun x56 =>
  gd ((((j_1_6 : Nat) : Int) - 1).toNat < k2) <|
  if (a0 == 5) = true then (
   bindO (m_value_Truth N (decide (x51 = x56))) fun v64 =>
   some (1, v64, 0)
  ) else (
   if (a0 == 6) = true then (
    bindO (m_value_Truth N (!decide (x51 = x56))) fun v71 =>
    some (1, v71, 0)
   ) else (
    if j_4_7 = true then (
     some (0, 0, 301)
    ) else (
     bindO (m_value_Do_v2_C7 N a0 x51 x56
     ) fun (j_7_12, j_7_13) =>
     if (!j_7_13) = true then (
      some (0, 0, 300)
     ) else (
      bindO (m_value_number N j_7_12) fun _ =>
      some (1, j_7_12, 0)
     )
    )
   )
  )
 )
def m_ropewalkkit_KeptValues_C2 (N : Nat) (u1_6 : Nat) (l2 : List V) (l0 : List V) : Option (Bool) :=
 if (decide (u1_6 < l2.length)) = true then (
  bindO (l0[u1_6]?) fun x30 =>
  gd (u1_6 < l2.length + 12) <|
  bindO (l2[u1_6]?) fun x34 =>
  if (!(decide (x30 = x34))) = true then (
   some true
  ) else (
   if (decide (l2.length ≤ u1_6)) = true then (
    bindO (l0[u1_6]?) fun x47 =>
    gd (u1_6 < l2.length + 12) <|
    gd (-9223372036854775808 ≤ ((u1_6 : Nat) : Int) - ((l2.length : Nat) : Int) ∧ ((u1_6 : Nat) : Int) - ((l2.length : Nat) : Int) ≤ 9223372036854775807) <|
    bindO (m_ropewalkkit_markValue N 1 (((u1_6 : Nat) : Int) - ((l2.length : Nat) : Int))) fun _ =>
    some (!(decide (x47 = (⟨0, (1000003 * (1 + 7)) + (((u1_6 : Nat) : Int) - ((l2.length : Nat) : Int)), (⟨#[]⟩ : ByteArray)⟩ : V))))
   ) else (
    some false
   )
  )
 ) else (
  if (decide (l2.length ≤ u1_6)) = true then (
   bindO (l0[u1_6]?) fun x47 =>
   gd (u1_6 < l2.length + 12) <|
   gd (-9223372036854775808 ≤ ((u1_6 : Nat) : Int) - ((l2.length : Nat) : Int) ∧ ((u1_6 : Nat) : Int) - ((l2.length : Nat) : Int) ≤ 9223372036854775807) <|
   bindO (m_ropewalkkit_markValue N 1 (((u1_6 : Nat) : Int) - ((l2.length : Nat) : Int))) fun _ =>
   some (!(decide (x47 = (⟨0, (1000003 * (1 + 7)) + (((u1_6 : Nat) : Int) - ((l2.length : Nat) : Int)), (⟨#[]⟩ : ByteArray)⟩ : V))))
  ) else (
   some false
  )
 )
def m_ropewalkkit_KeptValues_L1 (N : Nat) (l2 : List V) (l0 : List V) : Nat → Option (Nat ⊕ (Unit ⊕ Bool)) := fun u1_6 =>
 if (decide (u1_6 < (l2.length + 12))) = true then (
  bindO (m_ropewalkkit_KeptValues_C2 N u1_6 l2 l0
  ) fun j_2_57 =>
  if j_2_57 = true then (
   some (.inr (.inr false))
  ) else (
   gd (u1_6 + 1 ≤ 9223372036854775807) <|
   some (.inl (u1_6 + 1))
  )
 ) else (
  some (.inr (.inl ()))
 )
def m_ropewalkkit_KeptValues (N : Nat) (l0 : List V) (k1 : Nat) (l2 : List V) : Option (Bool) :=
 if (k1 != l2.length) = true then (
  some false
 ) else (
  gd (l2.length + 12 ≤ 9223372036854775807) <|
  gd (l2.length + 12 ≤ l0.length) <|
  bindS (
   iter (m_ropewalkkit_KeptValues_L1 N l2 l0) N 0
  ) fun _ =>
  some true
 )
def m_ropewalklaw01_ValueDoes (N : Nat) (a0 : Int) (l1 : List V) : Option (Bool) :=
 bindO (m_ropewalklaw01_awake N) fun v10 =>
 if (!v10) = true then (
  some false
 ) else (
  bindO (m_ropewalklaw01_light N l1) fun v13 =>
  if (!v13) = true then (
   some true
  ) else (
   bindO (m_ropewalkkit_LentValues N l1) fun v16 =>
   bindO (m_value_Do_v2 N a0 v16 l1.length) fun (v20_0, v20_1, v20_2) =>
   bindO (m_ropewalkref01_Do N a0 l1) fun (v26_0, v26_1, v26_2) =>
   if (decide ((⟨((v20_0 : Nat) : Int), v20_1, (⟨#[]⟩ : ByteArray)⟩ : V) = (⟨((v26_0 : Nat) : Int), v26_1, (⟨#[]⟩ : ByteArray)⟩ : V))) = true then (
    if (v20_2 == v26_2) = true then (
     bindO (m_ropewalkkit_KeptValues N v16 l1.length l1) fun v40 =>
     some v40
    ) else (
     some false
    )
   ) else (
    some false
   )
  )
 )
end Go.Proofs.YtkddfgjefdlaeaaDoor
