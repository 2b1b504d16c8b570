import Derived.Test.YtalbennlmcpnmaaGreatXT
namespace Go.Proofs.YtalbennlmcpnmaaGreat
open Go.RowKit
def m_ropewalkkit_ExprsOf_L1 (N : Nat) (l0 : List Api_ExprD) (a1 : Int) (rc : (List Api_ExprD) → Int → Option (Int)) : (Nat × Int) → Option ((Nat × Int) ⊕ Int) := fun (u1_6, u1_5) =>
 bindO (
  if (decide (u1_6 < l0.length)) = true then (
   some (decide (u1_5 ≤ a1))
  ) else (
   some false
  )
 ) fun j_2_15 =>
 if j_2_15 = true then (
  gd (-9223372036854775808 ≤ u1_5 + 1 ∧ u1_5 + 1 ≤ 9223372036854775807) <|
  bindO (l0[u1_6]?) fun x22 =>
  gd (-9223372036854775808 ≤ a1 - u1_5 ∧ a1 - u1_5 ≤ 9223372036854775807) <|
  gd (-9223372036854775808 ≤ (a1 - u1_5) - 1 ∧ (a1 - u1_5) - 1 ≤ 9223372036854775807) <|
  bindO (rc x22.kids ((a1 - u1_5) - 1)) fun v29 =>
  gd (-9223372036854775808 ≤ (u1_5 + 1) + v29 ∧ (u1_5 + 1) + v29 ≤ 9223372036854775807) <|
  gd (u1_6 + 1 ≤ 9223372036854775807) <|
  some (.inl (u1_6 + 1, (u1_5 + 1) + v29))
 ) else (
  some (.inr u1_5)
 )
def m_ropewalkkit_ExprsOf_b (N : Nat) (rc : (List Api_ExprD) → Int → Option (Int)) (l0 : List Api_ExprD) (a1 : Int) : Option (Int) :=
 bindO (
  iter (m_ropewalkkit_ExprsOf_L1 N l0 a1 rc) N (0, 0)
 ) fun j_1_5 =>
 gd (-9223372036854775808 ≤ a1 + 1 ∧ a1 + 1 ≤ 9223372036854775807) <|
 some (minI j_1_5 (a1 + 1))
def m_ropewalkkit_ExprsOf : Nat → (List Api_ExprD) → Int → Option (Int)
 | 0 => fun _ => fun _ => none
 | N + 1 => m_ropewalkkit_ExprsOf_b N (m_ropewalkkit_ExprsOf N)
def m_ropewalklaw10_num (N : Nat) (a0 : Int) : Option (Unit) :=
 some ()
def m_pattern_New (N : Nat) (a0 : Int) : Option ((List Bool) × (List V)) :=
 bindO (
  if (decide (a0 < 0)) = true then (
   some true
  ) else (
   some (decide (a0 > 16))
  )
 ) fun j_1_8 =>
 if j_1_8 = true then (
  some ([], [])
 ) else (
  gd (0 ≤ a0) <|
  gd (a0.toNat ≤ 140737488355328) <|
  gd (0 ≤ a0) <|
  gd (a0.toNat ≤ 4398046511104) <|
  some (List.replicate a0.toNat false, (List.replicate a0.toNat (⟨0, 0, (⟨#[]⟩ : ByteArray)⟩ : V)))
 )
def m_pattern_Env_made_L1 (N : Nat) (l0 : List Bool) (l1 : List V) : Nat → Option (Nat ⊕ (Unit ⊕ Bool)) := fun u1_15 =>
 if (decide (u1_15 < l0.length)) = true then (
  bindO (l0[u1_15]?) fun x18 =>
  bindO (
   if (!x18) = true then (
    bindO (l1[u1_15]?) fun x26 =>
    some (!decide (x26 = (⟨0, 0, (⟨#[]⟩ : ByteArray)⟩ : V)))
   ) else (
    some false
   )
  ) fun j_2_30 =>
  if j_2_30 = true then (
   some (.inr (.inr false))
  ) else (
   gd (u1_15 + 1 ≤ 9223372036854775807) <|
   some (.inl (u1_15 + 1))
  )
 ) else (
  some (.inr (.inl ()))
 )
def m_pattern_Env_made (N : Nat) (l0 : List Bool) (l1 : List V) : Option (Bool) :=
 if (l0.length != l1.length) = true then (
  some false
 ) else (
  bindS (
   iter (m_pattern_Env_made_L1 N l0 l1) N 0
  ) fun _ =>
  some true
 )
def m_pattern_of (N : Nat) (l0 : List Bool) (l1 : List V) : Option (Unit) :=
 gd (l0.length ≤ 140737488355328) <|
 gd (l1.length ≤ 4398046511104) <|
 some ()
def m_pattern_fill_arg_v2_C2 (N : Nat) (j_1_7 : Bool) (a3 : Int) (l0 : List Bool) (l1 : List V) (a7 : Int) (a8 : Int) (a9 : ByteArray) : Option ((List Bool) × (List V)) :=
 if j_1_7 = true then (
  gd (0 ≤ a3) <|
  bindO (l0[a3.toNat]?) fun x67 =>
  gd (0 ≤ a3) <|
  bindO (l1[a3.toNat]?) fun x68 =>
  some (l0.set a3.toNat true, (l1.set a3.toNat (⟨a7, a8, a9⟩ : V)))
 ) else (
  some (l0, l1)
 )
def m_pattern_fill_arg_v2 (N : Nat) (l0 : List Bool) (l1 : List V) (a2 : Int) (a3 : Int) (a4 : Int) (a5 : Int) (a6 : ByteArray) (a7 : Int) (a8 : Int) (a9 : ByteArray) : Option (Bool × (List Bool) × (List V)) :=
 bindO (
  if (decide (a3 ≥ 0)) = true then (
   some (decide (a3 < ((l0.length : Nat) : Int)))
  ) else (
   some false
  )
 ) fun j_1_7 =>
 if (a2 == 1) = true then (
  some (true, l0, l1)
 ) else (
  if (a2 == 4) = true then (
   some ((decide ((⟨a4, a5, a6⟩ : V) = (⟨a7, a8, a9⟩ : V))), l0, l1)
  ) else (
   if (a2 == 3) = true then (
    if j_1_7 = true then (
     gd (0 ≤ a3) <|
     bindO (l0[a3.toNat]?) fun x39 =>
     if x39 = true then (
      gd (0 ≤ a3) <|
      bindO (l1[a3.toNat]?) fun x48 =>
      some ((decide (x48 = (⟨a7, a8, a9⟩ : V))), l0, l1)
     ) else (
      some (false, l0, l1)
     )
    ) else (
     some (false, l0, l1)
    )
   ) else (
    if (a2 == 2) = true then (
     bindO (m_pattern_fill_arg_v2_C2 N j_1_7 a3 l0 l1 a7 a8 a9
     ) fun (j_2_r0_l, j_2_r1_l) =>
     some (j_1_7, j_2_r0_l, j_2_r1_l)
    ) else (
     some (false, l0, l1)
    )
   )
  )
 )
def m_pattern_Match_C2 (N : Nat) (j_1_8 : Bool) (a1 : Int) (a11 : Int) (l2 : List ArgD) (l12 : List V) (l13 : List Bool) (l14 : List V) : Option (Bool) :=
 if (!j_1_8) = true then (
  some true
 ) else (
  if (a1 != a11) = true then (
   some true
  ) else (
   if (l2.length != l12.length) = true then (
    some true
   ) else (
    bindO (m_pattern_Env_made N l13 l14) fun v40 =>
    some (!v40)
   )
  )
 )
def m_pattern_Match_L1 (N : Nat) (l2 : List ArgD) (l12 : List V) : (Nat × (List Bool) × (List V)) → Option ((Nat × (List Bool) × (List V)) ⊕ (((List Bool) × (List V)) ⊕ ((List Bool) × (List V) × Bool))) := fun (u1_49, u1_9_f0_l, u1_9_f1_l) =>
 if (decide (u1_49 < l2.length)) = true then (
  bindO (l2[u1_49]?) fun x52 =>
  bindO (l12[u1_49]?) fun x59 =>
  bindO (m_pattern_fill_arg_v2 N u1_9_f0_l u1_9_f1_l x52.k x52.var x52.v.k x52.v.n x52.v.s x59.k x59.n x59.s) fun (v61_0, v61_1, v61_2) =>
  if (!v61_0) = true then (
   some (.inr (.inr ([], [], false)))
  ) else (
   gd (u1_49 + 1 ≤ 9223372036854775807) <|
   some (.inl (u1_49 + 1, v61_1, v61_2))
  )
 ) else (
  some (.inr (.inl (u1_9_f0_l, u1_9_f1_l)))
 )
def m_pattern_Match (N : Nat) (a0 : Int) (a1 : Int) (l2 : List ArgD) (a3 : Int) (a4 : Int) (a5 : Int) (a6 : ByteArray) (a7 : Int) (a8 : Int) (l9 : List Api_ExprD) (a10 : Int) (a11 : Int) (l12 : List V) (l13 : List Bool) (l14 : List V) : Option ((List Bool) × (List V) × Bool) :=
 bindO (
  if (a0 == 1) = true then (
   some true
  ) else (
   some (a0 == 2)
  )
 ) fun j_1_8 =>
 bindO (m_pattern_Match_C2 N j_1_8 a1 a11 l2 l12 l13 l14
 ) fun j_2_42 =>
 if j_2_42 = true then (
  some ([], [], false)
 ) else (
  bindO (m_pattern_of N l13 l14) fun _ =>
  bindS (
   iter (m_pattern_Match_L1 N l2 l12) N (0, l13, l14)
  ) fun (j_3_9_f0_l, j_3_9_f1_l) =>
  some (j_3_9_f0_l, j_3_9_f1_l, true)
 )
def m_ropewalklaw10_awake_C4 (N : Nat) (v24_2 : Bool) (v24_0 : List Bool) (v24_1 : List V) (v36_2 : Bool) (v52_2 : Bool) : Option (Bool) :=
 if v24_2 = true then (
  if (v24_0.length == 1) = true then (
   bindO (v24_0[0]?) fun x65 =>
   if x65 = true then (
    if (v24_1.length == 1) = true then (
     bindO (v24_1[0]?) fun x77 =>
     bindO (m_ropewalklaw10_num N 2) fun _ =>
     if (decide (x77 = (⟨1, 2, (⟨#[]⟩ : ByteArray)⟩ : V))) = true then (
      if (!v36_2) = true then (
       some (!v52_2)
      ) else (
       some false
      )
     ) else (
      some false
     )
    ) else (
     some false
    )
   ) else (
    some false
   )
  ) else (
   some false
  )
 ) else (
  some false
 )
def m_ropewalklaw10_awake (N : Nat) : Option (Bool) :=
 bindO (m_ropewalklaw10_num N 5) fun _ =>
 bindO (m_ropewalklaw10_num N 1) fun _ =>
 bindO (m_ropewalklaw10_num N 2) fun _ =>
 bindO (m_ropewalklaw10_num N 2) fun _ =>
 bindO (m_ropewalklaw10_num N 5) fun _ =>
 bindO (m_pattern_New N 1) fun (v23_0, v23_1) =>
 bindO (m_pattern_Match N 1 1 [(⟨1, 0, (⟨0, 0, (⟨#[]⟩ : ByteArray)⟩ : V)⟩ : ArgD), (⟨2, 0, (⟨0, 0, (⟨#[]⟩ : ByteArray)⟩ : V)⟩ : ArgD), (⟨3, 0, (⟨0, 0, (⟨#[]⟩ : ByteArray)⟩ : V)⟩ : ArgD), (⟨4, 0, (⟨1, 5, (⟨#[]⟩ : ByteArray)⟩ : V)⟩ : ArgD)] 0 0 0 (⟨#[]⟩ : ByteArray) 0 0 ([] : List Api_ExprD) 0 1 [(⟨1, 1, (⟨#[]⟩ : ByteArray)⟩ : V), (⟨1, 2, (⟨#[]⟩ : ByteArray)⟩ : V), (⟨1, 2, (⟨#[]⟩ : ByteArray)⟩ : V), (⟨1, 5, (⟨#[]⟩ : ByteArray)⟩ : V)] v23_0 v23_1) fun (v24_0, v24_1, v24_2) =>
 bindO (m_ropewalklaw10_num N 1) fun _ =>
 bindO (m_ropewalklaw10_num N 2) fun _ =>
 bindO (m_ropewalklaw10_num N 3) fun _ =>
 bindO (m_ropewalklaw10_num N 5) fun _ =>
 bindO (m_pattern_New N 1) fun (v35_0, v35_1) =>
 bindO (m_pattern_Match N 1 1 [(⟨1, 0, (⟨0, 0, (⟨#[]⟩ : ByteArray)⟩ : V)⟩ : ArgD), (⟨2, 0, (⟨0, 0, (⟨#[]⟩ : ByteArray)⟩ : V)⟩ : ArgD), (⟨3, 0, (⟨0, 0, (⟨#[]⟩ : ByteArray)⟩ : V)⟩ : ArgD), (⟨4, 0, (⟨1, 5, (⟨#[]⟩ : ByteArray)⟩ : V)⟩ : ArgD)] 0 0 0 (⟨#[]⟩ : ByteArray) 0 0 ([] : List Api_ExprD) 0 1 [(⟨1, 1, (⟨#[]⟩ : ByteArray)⟩ : V), (⟨1, 2, (⟨#[]⟩ : ByteArray)⟩ : V), (⟨1, 3, (⟨#[]⟩ : ByteArray)⟩ : V), (⟨1, 5, (⟨#[]⟩ : ByteArray)⟩ : V)] v35_0 v35_1) fun (v36_0, v36_1, v36_2) =>
 bindO (([(⟨1, 0, (⟨0, 0, (⟨#[]⟩ : ByteArray)⟩ : V)⟩ : ArgD), (⟨2, 0, (⟨0, 0, (⟨#[]⟩ : ByteArray)⟩ : V)⟩ : ArgD), (⟨3, 0, (⟨0, 0, (⟨#[]⟩ : ByteArray)⟩ : V)⟩ : ArgD), (⟨4, 0, (⟨1, 5, (⟨#[]⟩ : ByteArray)⟩ : V)⟩ : ArgD)])[2]?) fun x41 =>
 bindO (m_ropewalklaw10_num N 1) fun _ =>
 bindO (m_ropewalklaw10_num N 2) fun _ =>
 bindO (m_ropewalklaw10_num N 2) fun _ =>
 bindO (m_ropewalklaw10_num N 5) fun _ =>
 bindO (m_pattern_New N 1) fun (v51_0, v51_1) =>
 bindO (m_pattern_Match N 1 1 (([(⟨1, 0, (⟨0, 0, (⟨#[]⟩ : ByteArray)⟩ : V)⟩ : ArgD), (⟨2, 0, (⟨0, 0, (⟨#[]⟩ : ByteArray)⟩ : V)⟩ : ArgD), (⟨3, 0, (⟨0, 0, (⟨#[]⟩ : ByteArray)⟩ : V)⟩ : ArgD), (⟨4, 0, (⟨1, 5, (⟨#[]⟩ : ByteArray)⟩ : V)⟩ : ArgD)]).set 2 (⟨x41.k, 1, x41.v⟩ : ArgD)) 0 0 0 (⟨#[]⟩ : ByteArray) 0 0 ([] : List Api_ExprD) 0 1 [(⟨1, 1, (⟨#[]⟩ : ByteArray)⟩ : V), (⟨1, 2, (⟨#[]⟩ : ByteArray)⟩ : V), (⟨1, 2, (⟨#[]⟩ : ByteArray)⟩ : V), (⟨1, 5, (⟨#[]⟩ : ByteArray)⟩ : V)] v51_0 v51_1) fun (v52_0, v52_1, v52_2) =>
 bindO (m_ropewalklaw10_awake_C4 N v24_2 v24_0 v24_1 v36_2 v52_2
 ) fun j_4_0 =>
 some j_4_0
def m_ropewalkkit_mark (N : Nat) (a0 : Int) (a1 : Int) : Option (Unit) :=
 some ()
def m_ropewalkkit_markArg (N : Nat) (a0 : Int) (a1 : Int) : Option (Unit) :=
 bindO (m_ropewalkkit_mark N a0 a1) fun _ =>
 some ()
def m_ropewalkkit_LentArgs_L1 (N : Nat) : (Nat × (List ArgD)) → Option ((Nat × (List ArgD)) ⊕ (List ArgD)) := fun (u1_4, u1_3_l) =>
 if (decide (u1_4 < 12)) = true then (
  bindO (m_ropewalkkit_markArg N 1 ((u1_4 : Nat) : Int)) fun _ =>
  gd (u1_3_l.length + ([(⟨0, (IntKind.wrap .i64 ((IntKind.wrap .i64 (1000003 * (IntKind.wrap .i64 (1 + 7)))) + ((u1_4 : Nat) : Int))), (⟨0, 0, (⟨#[]⟩ : ByteArray)⟩ : V)⟩ : ArgD)]).length ≤ 2932031007402) <|
  gd (u1_4 + 1 ≤ 9223372036854775807) <|
  some (.inl (u1_4 + 1, (u1_3_l ++ ([(⟨0, (IntKind.wrap .i64 ((IntKind.wrap .i64 (1000003 * (IntKind.wrap .i64 (1 + 7)))) + ((u1_4 : Nat) : Int))), (⟨0, 0, (⟨#[]⟩ : ByteArray)⟩ : V)⟩ : ArgD)]))))
 ) else (
  some (.inr u1_3_l)
 )
def m_ropewalkkit_LentArgs (N : Nat) (l0 : List ArgD) : Option (List ArgD) :=
 gd (l0.length + 12 ≤ 9223372036854775807) <|
 gd (l0.length + 12 ≤ 2932031007402) <|
 gd (([] : List ArgD).length + l0.length ≤ 2932031007402) <|
 bindO (
  iter (m_ropewalkkit_LentArgs_L1 N) N (0, l0)
 ) fun j_1_3_l =>
 gd (l0.length ≤ j_1_3_l.length) <|
 some j_1_3_l
def m_ropewalkkit_markExpr (N : Nat) (a0 : Int) (a1 : Int) : Option (Unit) :=
 bindO (m_ropewalkkit_mark N a0 a1) fun _ =>
 some ()
def m_ropewalkkit_LentExprs_v2_L1 (N : Nat) (l0 : List Api_ExprD) (rc : Int → Int → Int → ByteArray → Int → Int → (List Api_ExprD) → Option (Int × Int × Int × ByteArray × Int × Int × (List Api_ExprDS) × Nat)) : (Nat × (List Api_ExprDS)) → Option ((Nat × (List Api_ExprDS)) ⊕ (List Api_ExprDS)) := fun (u1_4, u1_3_l) =>
 if (decide (u1_4 < l0.length)) = true then (
  bindO (l0[u1_4]?) fun x19 =>
  bindO (rc x19.kind x19.value.k x19.value.n x19.value.s x19.var x19.op x19.kids) fun (v21_0, v21_1, v21_2, v21_3, v21_4, v21_5, v21_6, v21_7) =>
  gd (v21_7 ≤ v21_6.length) <|
  gd (u1_3_l.length + ([(⟨v21_0, (⟨v21_1, v21_2, v21_3⟩ : V), v21_4, v21_5, (v21_6.take v21_7), (v21_6.drop v21_7)⟩ : Api_ExprDS)]).length ≤ 1759218604441) <|
  gd (u1_4 + 1 ≤ 9223372036854775807) <|
  some (.inl (u1_4 + 1, (u1_3_l ++ ([(⟨v21_0, (⟨v21_1, v21_2, v21_3⟩ : V), v21_4, v21_5, (v21_6.take v21_7), (v21_6.drop v21_7)⟩ : Api_ExprDS)]))))
 ) else (
  some (.inr u1_3_l)
 )
def m_ropewalkkit_LentExprs_v2_L2 (N : Nat) : (Nat × (List Api_ExprDS)) → Option ((Nat × (List Api_ExprDS)) ⊕ (List Api_ExprDS)) := fun (u2_6, u2_3_l) =>
 if (decide (u2_6 < 12)) = true then (
  bindO (m_ropewalkkit_markExpr N 1 ((u2_6 : Nat) : Int)) fun _ =>
  gd (u2_3_l.length + ([(⟨0, (⟨0, 0, (⟨#[]⟩ : ByteArray)⟩ : V), (IntKind.wrap .i64 ((IntKind.wrap .i64 (1000003 * (IntKind.wrap .i64 (1 + 7)))) + ((u2_6 : Nat) : Int))), 0, ([] : List Api_ExprDS), ([] : List Api_ExprDS)⟩ : Api_ExprDS)]).length ≤ 1759218604441) <|
  gd (u2_6 + 1 ≤ 9223372036854775807) <|
  some (.inl (u2_6 + 1, (u2_3_l ++ ([(⟨0, (⟨0, 0, (⟨#[]⟩ : ByteArray)⟩ : V), (IntKind.wrap .i64 ((IntKind.wrap .i64 (1000003 * (IntKind.wrap .i64 (1 + 7)))) + ((u2_6 : Nat) : Int))), 0, ([] : List Api_ExprDS), ([] : List Api_ExprDS)⟩ : Api_ExprDS)]))))
 ) else (
  some (.inr u2_3_l)
 )
def m_ropewalkkit_LentExprs_v2 (N : Nat) (rc : Int → Int → Int → ByteArray → Int → Int → (List Api_ExprD) → Option (Int × Int × Int × ByteArray × Int × Int × (List Api_ExprDS) × Nat)) (l0 : List Api_ExprD) : Option (List Api_ExprDS) :=
 gd (l0.length + 12 ≤ 9223372036854775807) <|
 gd (l0.length + 12 ≤ 1759218604441) <|
 bindO (
  iter (m_ropewalkkit_LentExprs_v2_L1 N l0 rc) N (0, [])
 ) fun j_1_3_l =>
 bindO (
  iter (m_ropewalkkit_LentExprs_v2_L2 N) N (0, j_1_3_l)
 ) fun j_2_3_l =>
 gd (l0.length ≤ j_2_3_l.length) <|
 some j_2_3_l
def m_ropewalkkit_LentExpr_b (N : Nat) (rc : Int → Int → Int → ByteArray → Int → Int → (List Api_ExprD) → Option (Int × Int × Int × ByteArray × Int × Int × (List Api_ExprDS) × Nat)) (a0 : Int) (a1 : Int) (a2 : Int) (a3 : ByteArray) (a4 : Int) (a5 : Int) (l6 : List Api_ExprD) : Option (Int × Int × Int × ByteArray × Int × Int × (List Api_ExprDS) × Nat) :=
 bindO (m_ropewalkkit_LentExprs_v2 N rc l6) fun v5 =>
 some (a0, a1, a2, a3, a4, a5, v5, l6.length)
def m_ropewalkkit_LentExpr : Nat → Int → Int → Int → ByteArray → Int → Int → (List Api_ExprD) → Option (Int × Int × Int × ByteArray × Int × Int × (List Api_ExprDS) × Nat)
 | 0 => fun _ => fun _ => fun _ => fun _ => fun _ => fun _ => fun _ => none
 | N + 1 => m_ropewalkkit_LentExpr_b N (m_ropewalkkit_LentExpr N)
def m_ropewalkkit_LentCond (N : Nat) (a0 : Int) (a1 : Int) (l2 : List ArgD) (a3 : Int) (a4 : Int) (a5 : Int) (a6 : ByteArray) (a7 : Int) (a8 : Int) (l9 : List Api_ExprD) : Option ((List ArgD) × Int × Int × Int × ByteArray × Int × Int × (List Api_ExprDS) × Nat) :=
 bindO (m_ropewalkkit_LentArgs N l2) fun v5 =>
 bindO (m_ropewalkkit_LentExpr N a3 a4 a5 a6 a7 a8 l9) fun (v9_0, v9_1, v9_2, v9_3, v9_4, v9_5, v9_6, v9_7) =>
 some (v5, v9_0, v9_1, v9_2, v9_3, v9_4, v9_5, v9_6, v9_7)
def m_ropewalkkit_markValue (N : Nat) (a0 : Int) (a1 : Int) : Option (Unit) :=
 bindO (m_ropewalkkit_mark N a0 a1) fun _ =>
 some ()
def m_ropewalkkit_LentValues_L1 (N : Nat) : (Nat × (List V)) → Option ((Nat × (List V)) ⊕ (List V)) := fun (u1_4, u1_3_l) =>
 if (decide (u1_4 < 12)) = true then (
  bindO (m_ropewalkkit_markValue N 1 ((u1_4 : Nat) : Int)) fun _ =>
  gd (u1_3_l.length + ([(⟨0, (IntKind.wrap .i64 ((IntKind.wrap .i64 (1000003 * (IntKind.wrap .i64 (1 + 7)))) + ((u1_4 : Nat) : Int))), (⟨#[]⟩ : ByteArray)⟩ : V)]).length ≤ 4398046511104) <|
  gd (u1_4 + 1 ≤ 9223372036854775807) <|
  some (.inl (u1_4 + 1, (u1_3_l ++ ([(⟨0, (IntKind.wrap .i64 ((IntKind.wrap .i64 (1000003 * (IntKind.wrap .i64 (1 + 7)))) + ((u1_4 : Nat) : Int))), (⟨#[]⟩ : ByteArray)⟩ : V)]))))
 ) else (
  some (.inr u1_3_l)
 )
def m_ropewalkkit_LentValues (N : Nat) (l0 : List V) : Option (List V) :=
 gd (l0.length + 12 ≤ 9223372036854775807) <|
 gd (l0.length + 12 ≤ 4398046511104) <|
 gd (([] : List V).length + l0.length ≤ 4398046511104) <|
 bindO (
  iter (m_ropewalkkit_LentValues_L1 N) N (0, l0)
 ) fun j_1_3_l =>
 gd (l0.length ≤ j_1_3_l.length) <|
 some j_1_3_l
def m_ropewalkkit_LentFact (N : Nat) (a0 : Int) (a1 : Int) (l2 : List V) : Option (List V) :=
 bindO (m_ropewalkkit_LentValues N l2) fun v5 =>
 some v5
def m_ropewalkref10_Made_L1 (N : Nat) (l0 : List Bool) (l1 : List V) : Nat → Option (Nat ⊕ (Unit ⊕ Bool)) := fun u1_3 =>
 if (decide (u1_3 < l0.length)) = true then (
  bindO (
   bindO (l0[u1_3]?) fun x21 =>
   if (!x21) = true then (
    bindO (l1[u1_3]?) fun x28 =>
    some (!decide (x28 = (⟨0, 0, (⟨#[]⟩ : ByteArray)⟩ : V)))
   ) else (
    some false
   )
  ) fun j_2_32 =>
  if j_2_32 = true then (
   some (.inr (.inr false))
  ) else (
   gd (u1_3 + 1 ≤ 9223372036854775807) <|
   some (.inl (u1_3 + 1))
  )
 ) else (
  some (.inr (.inl ()))
 )
def m_ropewalkref10_Made (N : Nat) (l0 : List Bool) (l1 : List V) : Option (Bool) :=
 if (l0.length != l1.length) = true then (
  some false
 ) else (
  bindS (
   iter (m_ropewalkref10_Made_L1 N l0 l1) N 0
  ) fun _ =>
  some true
 )
def m_ropewalkref10_Match_C1 (N : Nat) (l13 : List Bool) (l14 : List V) (a0 : Int) (a11 : Int) (a1 : Int) (l12 : List V) (l2 : List ArgD) : Option (Bool) :=
 bindO (m_ropewalkref10_Made N l13 l14) fun v15 =>
 if (!v15) = true then (
  some true
 ) else (
  if (a0 != 1) = true then (
   if (a0 != 2) = true then (
    some true
   ) else (
    if (a11 != a1) = true then (
     some true
    ) else (
     some (l12.length != l2.length)
    )
   )
  ) else (
   if (a11 != a1) = true then (
    some true
   ) else (
    some (l12.length != l2.length)
   )
  )
 )
def m_ropewalkref10_Match_C6 (N : Nat) (x63 : ArgD) (u1_8_f0_l : List Bool) (u1_8_f1_l : List V) (j_5_12 : Bool) (x68 : V) : Option ((List Bool) × (List V) × Bool) :=
 if (x63.k == 1) = true then (
  some (u1_8_f0_l, u1_8_f1_l, true)
 ) else (
  if (x63.k == 2) = true then (
   if j_5_12 = true then (
    gd (0 ≤ x63.var) <|
    bindO (u1_8_f0_l[x63.var.toNat]?) fun x93 =>
    gd (0 ≤ x63.var) <|
    bindO (u1_8_f1_l[x63.var.toNat]?) fun x99 =>
    some (u1_8_f0_l.set x63.var.toNat true, u1_8_f1_l.set x63.var.toNat x68, j_5_12)
   ) else (
    some (u1_8_f0_l, u1_8_f1_l, j_5_12)
   )
  ) else (
   if (x63.k == 3) = true then (
    if j_5_12 = true then (
     gd (0 ≤ x63.var) <|
     bindO (u1_8_f0_l[x63.var.toNat]?) fun x108 =>
     if x108 = true then (
      gd (0 ≤ x63.var) <|
      bindO (u1_8_f1_l[x63.var.toNat]?) fun x116 =>
      some (u1_8_f0_l, u1_8_f1_l, decide (x116 = x68))
     ) else (
      some (u1_8_f0_l, u1_8_f1_l, false)
     )
    ) else (
     some (u1_8_f0_l, u1_8_f1_l, false)
    )
   ) else (
    if (x63.k == 4) = true then (
     some (u1_8_f0_l, u1_8_f1_l, decide (x63.v = x68))
    ) else (
     some (u1_8_f0_l, u1_8_f1_l, false)
    )
   )
  )
 )
def m_ropewalkref10_Match_L1 (N : Nat) (l2 : List ArgD) (l12 : List V) : (Nat × (List Bool) × (List V)) → Option ((Nat × (List Bool) × (List V)) ⊕ (((List Bool) × (List V)) ⊕ ((List Bool) × (List V) × Bool))) := fun (u1_9, u1_8_f0_l, u1_8_f1_l) =>
 if (decide (u1_9 < l2.length)) = true then (
  bindO (l2[u1_9]?) fun x63 =>
  bindO (l12[u1_9]?) fun x68 =>
  bindO (
   if (decide (x63.var ≥ 0)) = true then (
    some (decide (x63.var < ((u1_8_f0_l.length : Nat) : Int)))
   ) else (
    some false
   )
  ) fun j_5_12 =>
  bindO (m_ropewalkref10_Match_C6 N x63 u1_8_f0_l u1_8_f1_l j_5_12 x68
  ) fun (j_6_8_f0_l, j_6_8_f1_l, j_6_13) =>
  if (!j_6_13) = true then (
   some (.inr (.inr ([], [], false)))
  ) else (
   gd (u1_9 + 1 ≤ 9223372036854775807) <|
   some (.inl (u1_9 + 1, j_6_8_f0_l, j_6_8_f1_l))
  )
 ) else (
  some (.inr (.inl (u1_8_f0_l, u1_8_f1_l)))
 )
def m_ropewalkref10_Match (N : Nat) (a0 : Int) (a1 : Int) (l2 : List ArgD) (a3 : Int) (a4 : Int) (a5 : Int) (a6 : ByteArray) (a7 : Int) (a8 : Int) (l9 : List Api_ExprD) (a10 : Int) (a11 : Int) (l12 : List V) (l13 : List Bool) (l14 : List V) : Option ((List Bool) × (List V) × Bool) :=
 bindO (m_ropewalkref10_Match_C1 N l13 l14 a0 a11 a1 l12 l2
 ) fun j_1_42 =>
 if j_1_42 = true then (
  some ([], [], false)
 ) else (
  gd (([] : List Bool).length + l13.length ≤ 140737488355328) <|
  gd (([] : List V).length + l14.length ≤ 4398046511104) <|
  bindS (
   iter (m_ropewalkref10_Match_L1 N l2 l12) N (0, l13, l14)
  ) fun (j_3_8_f0_l, j_3_8_f1_l) =>
  some (j_3_8_f0_l, j_3_8_f1_l, true)
 )
def m_ropewalkkit_SameValues_L1 (N : Nat) (l0 : List V) (l1 : List V) : Nat → Option (Nat ⊕ (Unit ⊕ Bool)) := fun u1_5 =>
 if (decide (u1_5 < l0.length)) = true then (
  bindO (l0[u1_5]?) fun x19 =>
  bindO (l1[u1_5]?) fun x23 =>
  if (!decide (x19 = x23)) = true then (
   some (.inr (.inr false))
  ) else (
   gd (u1_5 + 1 ≤ 9223372036854775807) <|
   some (.inl (u1_5 + 1))
  )
 ) else (
  some (.inr (.inl ()))
 )
def m_ropewalkkit_SameValues (N : Nat) (l0 : List V) (l1 : List V) : Option (Bool) :=
 if (l0.length != l1.length) = true then (
  some false
 ) else (
  bindS (
   iter (m_ropewalkkit_SameValues_L1 N l0 l1) N 0
  ) fun _ =>
  some true
 )
def m_ropewalklaw10_same_L1 (N : Nat) (l0 : List Bool) (l2 : List Bool) : Nat → Option (Nat ⊕ (Unit ⊕ Bool)) := fun u1_5 =>
 if (decide (u1_5 < l0.length)) = true then (
  bindO (l0[u1_5]?) fun x31 =>
  bindO (l2[u1_5]?) fun x36 =>
  if (x31 != x36) = true then (
   some (.inr (.inr false))
  ) else (
   gd (u1_5 + 1 ≤ 9223372036854775807) <|
   some (.inl (u1_5 + 1))
  )
 ) else (
  some (.inr (.inl ()))
 )
def m_ropewalklaw10_same (N : Nat) (l0 : List Bool) (l1 : List V) (l2 : List Bool) (l3 : List V) : Option (Bool) :=
 bindO (
  if (l0.length != l2.length) = true then (
   some true
  ) else (
   bindO (m_ropewalkkit_SameValues N l1 l3) fun v18 =>
   some (!v18)
  )
 ) fun j_1_20 =>
 if j_1_20 = true then (
  some false
 ) else (
  bindS (
   iter (m_ropewalklaw10_same_L1 N l0 l2) N 0
  ) fun _ =>
  some true
 )
def m_ropewalkkit_SameArgs_W_L1 (N : Nat) (k1 : Nat) (l0 : List ArgD) (l2 : List ArgD) : Nat → Option (Nat ⊕ (Unit ⊕ Bool)) := fun u1_5 =>
 if (decide (u1_5 < k1)) = true then (
  gd (u1_5 < k1) <|
  bindO (l0[u1_5]?) fun x19 =>
  bindO (l2[u1_5]?) fun x23 =>
  if (!decide (x19 = x23)) = true then (
   some (.inr (.inr false))
  ) else (
   gd (u1_5 + 1 ≤ 9223372036854775807) <|
   some (.inl (u1_5 + 1))
  )
 ) else (
  some (.inr (.inl ()))
 )
def m_ropewalkkit_SameArgs_W (N : Nat) (l0 : List ArgD) (k1 : Nat) (l2 : List ArgD) : Option (Bool) :=
 if (k1 != l2.length) = true then (
  some false
 ) else (
  bindS (
   iter (m_ropewalkkit_SameArgs_W_L1 N k1 l0 l2) N 0
  ) fun _ =>
  some true
 )
def m_ropewalkkit_SameExprs_W_v2_L1 (N : Nat) (k1 : Nat) (l0 : List Api_ExprDS) (l2 : List Api_ExprD) (rc : Int → Int → Int → ByteArray → Int → Int → (List Api_ExprDS) → Nat → Int → Int → Int → ByteArray → Int → Int → (List Api_ExprD) → Option (Bool)) : Nat → Option (Nat ⊕ (Unit ⊕ Bool)) := fun u1_5 =>
 if (decide (u1_5 < k1)) = true then (
  gd (u1_5 < k1) <|
  bindO (l0[u1_5]?) fun x19 =>
  bindO (l2[u1_5]?) fun x23 =>
  bindO (rc x19.kind x19.value.k x19.value.n x19.value.s x19.var x19.op (x19.kids ++ x19.kidsT) x19.kids.length x23.kind x23.value.k x23.value.n x23.value.s x23.var x23.op x23.kids) fun v25 =>
  if (!v25) = true then (
   some (.inr (.inr false))
  ) else (
   gd (u1_5 + 1 ≤ 9223372036854775807) <|
   some (.inl (u1_5 + 1))
  )
 ) else (
  some (.inr (.inl ()))
 )
def m_ropewalkkit_SameExprs_W_v2 (N : Nat) (rc : Int → Int → Int → ByteArray → Int → Int → (List Api_ExprDS) → Nat → Int → Int → Int → ByteArray → Int → Int → (List Api_ExprD) → Option (Bool)) (l0 : List Api_ExprDS) (k1 : Nat) (l2 : List Api_ExprD) : Option (Bool) :=
 if (k1 != l2.length) = true then (
  some false
 ) else (
  bindS (
   iter (m_ropewalkkit_SameExprs_W_v2_L1 N k1 l0 l2 rc) N 0
  ) fun _ =>
  some true
 )
def m_ropewalkkit_SameExpr_W_C1 (N : Nat) (a0 : Int) (a8 : Int) (a1 : Int) (a2 : Int) (a3 : ByteArray) (a9 : Int) (a10 : Int) (a11 : ByteArray) (a4 : Int) (a12 : Int) (a5 : Int) (a13 : Int) (rc : Int → Int → Int → ByteArray → Int → Int → (List Api_ExprDS) → Nat → Int → Int → Int → ByteArray → Int → Int → (List Api_ExprD) → Option (Bool)) (l6 : List Api_ExprDS) (k7 : Nat) (l14 : List Api_ExprD) : Option (Bool) :=
 if (a0 == a8) = true then (
  if (decide ((⟨a1, a2, a3⟩ : V) = (⟨a9, a10, a11⟩ : V))) = true then (
   if (a4 == a12) = true then (
    if (a5 == a13) = true then (
     bindO (m_ropewalkkit_SameExprs_W_v2 N rc l6 k7 l14) fun v36 =>
     some v36
    ) else (
     some false
    )
   ) else (
    some false
   )
  ) else (
   some false
  )
 ) else (
  some false
 )
def m_ropewalkkit_SameExpr_W_b (N : Nat) (rc : Int → Int → Int → ByteArray → Int → Int → (List Api_ExprDS) → Nat → Int → Int → Int → ByteArray → Int → Int → (List Api_ExprD) → Option (Bool)) (a0 : Int) (a1 : Int) (a2 : Int) (a3 : ByteArray) (a4 : Int) (a5 : Int) (l6 : List Api_ExprDS) (k7 : Nat) (a8 : Int) (a9 : Int) (a10 : Int) (a11 : ByteArray) (a12 : Int) (a13 : Int) (l14 : List Api_ExprD) : Option (Bool) :=
 bindO (m_ropewalkkit_SameExpr_W_C1 N a0 a8 a1 a2 a3 a9 a10 a11 a4 a12 a5 a13 rc l6 k7 l14
 ) fun j_1_4 =>
 some j_1_4
def m_ropewalkkit_SameExpr_W : Nat → Int → Int → Int → ByteArray → Int → Int → (List Api_ExprDS) → Nat → Int → Int → Int → ByteArray → Int → Int → (List Api_ExprD) → Option (Bool)
 | 0 => fun _ => fun _ => fun _ => fun _ => fun _ => fun _ => fun _ => fun _ => fun _ => fun _ => fun _ => fun _ => fun _ => fun _ => fun _ => none
 | N + 1 => m_ropewalkkit_SameExpr_W_b N (m_ropewalkkit_SameExpr_W N)
def m_ropewalkkit_SameCond_W_C1 (N : Nat) (a0 : Int) (a12 : Int) (a1 : Int) (a13 : Int) (l2 : List ArgD) (k3 : Nat) (l14 : List ArgD) (a4 : Int) (a5 : Int) (a6 : Int) (a7 : ByteArray) (a8 : Int) (a9 : Int) (l10 : List Api_ExprDS) (k11 : Nat) (a15 : Int) (a16 : Int) (a17 : Int) (a18 : ByteArray) (a19 : Int) (a20 : Int) (l21 : List Api_ExprD) : Option (Bool) :=
 if (a0 == a12) = true then (
  if (a1 == a13) = true then (
   bindO (m_ropewalkkit_SameArgs_W N l2 k3 l14) fun v22 =>
   if v22 = true then (
    bindO (m_ropewalkkit_SameExpr_W N a4 a5 a6 a7 a8 a9 l10 k11 a15 a16 a17 a18 a19 a20 l21) fun v29 =>
    some v29
   ) else (
    some false
   )
  ) else (
   some false
  )
 ) else (
  some false
 )
def m_ropewalkkit_SameCond_W (N : Nat) (a0 : Int) (a1 : Int) (l2 : List ArgD) (k3 : Nat) (a4 : Int) (a5 : Int) (a6 : Int) (a7 : ByteArray) (a8 : Int) (a9 : Int) (l10 : List Api_ExprDS) (k11 : Nat) (a12 : Int) (a13 : Int) (l14 : List ArgD) (a15 : Int) (a16 : Int) (a17 : Int) (a18 : ByteArray) (a19 : Int) (a20 : Int) (l21 : List Api_ExprD) : Option (Bool) :=
 bindO (m_ropewalkkit_SameCond_W_C1 N a0 a12 a1 a13 l2 k3 l14 a4 a5 a6 a7 a8 a9 l10 k11 a15 a16 a17 a18 a19 a20 l21
 ) fun j_1_4 =>
 some j_1_4
def m_ropewalkkit_KeptArgs_W_C2 (N : Nat) (u1_6 : Nat) (l2 : List ArgD) (l0 : List ArgD) : Option (Bool) :=
 if (decide (u1_6 < l2.length)) = true then (
  bindO ((l0.take (l2.length + 12))[u1_6]?) fun x30 =>
  bindO (l2[u1_6]?) fun x34 =>
  if (!(decide (x30 = x34))) = true then (
   some true
  ) else (
   if (decide (l2.length ≤ u1_6)) = true then (
    bindO ((l0.take (l2.length + 12))[u1_6]?) fun x47 =>
    gd (-9223372036854775808 ≤ ((u1_6 : Nat) : Int) - ((l2.length : Nat) : Int) ∧ ((u1_6 : Nat) : Int) - ((l2.length : Nat) : Int) ≤ 9223372036854775807) <|
    bindO (m_ropewalkkit_markArg N 1 (((u1_6 : Nat) : Int) - ((l2.length : Nat) : Int))) fun _ =>
    some (!(decide (x47 = (⟨0, IntKind.wrap .i64 ((IntKind.wrap .i64 (1000003 * (IntKind.wrap .i64 (1 + 7)))) + (((u1_6 : Nat) : Int) - ((l2.length : Nat) : Int))), (⟨0, 0, (⟨#[]⟩ : ByteArray)⟩ : V)⟩ : ArgD))))
   ) else (
    some false
   )
  )
 ) else (
  if (decide (l2.length ≤ u1_6)) = true then (
   bindO ((l0.take (l2.length + 12))[u1_6]?) fun x47 =>
   gd (-9223372036854775808 ≤ ((u1_6 : Nat) : Int) - ((l2.length : Nat) : Int) ∧ ((u1_6 : Nat) : Int) - ((l2.length : Nat) : Int) ≤ 9223372036854775807) <|
   bindO (m_ropewalkkit_markArg N 1 (((u1_6 : Nat) : Int) - ((l2.length : Nat) : Int))) fun _ =>
   some (!(decide (x47 = (⟨0, IntKind.wrap .i64 ((IntKind.wrap .i64 (1000003 * (IntKind.wrap .i64 (1 + 7)))) + (((u1_6 : Nat) : Int) - ((l2.length : Nat) : Int))), (⟨0, 0, (⟨#[]⟩ : ByteArray)⟩ : V)⟩ : ArgD))))
  ) else (
   some false
  )
 )
def m_ropewalkkit_KeptArgs_W_L1 (N : Nat) (l0 : List ArgD) (l2 : List ArgD) : Nat → Option (Nat ⊕ (Unit ⊕ Bool)) := fun u1_6 =>
 if (decide (u1_6 < ((l0.take (l2.length + 12)).length))) = true then (
  bindO (m_ropewalkkit_KeptArgs_W_C2 N u1_6 l2 l0
  ) fun j_2_57 =>
  if j_2_57 = true then (
   some (.inr (.inr false))
  ) else (
   gd (u1_6 + 1 ≤ 9223372036854775807) <|
   some (.inl (u1_6 + 1))
  )
 ) else (
  some (.inr (.inl ()))
 )
def m_ropewalkkit_KeptArgs_W (N : Nat) (l0 : List ArgD) (k1 : Nat) (l2 : List ArgD) : Option (Bool) :=
 if (k1 != l2.length) = true then (
  some false
 ) else (
  gd (l2.length + 12 ≤ 9223372036854775807) <|
  gd (l2.length + 12 ≤ l0.length) <|
  bindS (
   iter (m_ropewalkkit_KeptArgs_W_L1 N l0 l2) N 0
  ) fun _ =>
  some true
 )
def m_ropewalkkit_KeptExprs_W_v2_C2 (N : Nat) (u1_6 : Nat) (l2 : List Api_ExprD) (l0 : List Api_ExprDS) (rc : Int → Int → Int → ByteArray → Int → Int → (List Api_ExprDS) → Nat → Int → Int → Int → ByteArray → Int → Int → (List Api_ExprD) → Option (Bool)) : Option (Bool) :=
 if (decide (u1_6 < l2.length)) = true then (
  bindO ((l0.take (l2.length + 12))[u1_6]?) fun x30 =>
  bindO (l2[u1_6]?) fun x34 =>
  bindO (rc x30.kind x30.value.k x30.value.n x30.value.s x30.var x30.op (x30.kids ++ x30.kidsT) x30.kids.length x34.kind x34.value.k x34.value.n x34.value.s x34.var x34.op x34.kids) fun v36 =>
  if (!v36) = true then (
   some true
  ) else (
   if (decide (l2.length ≤ u1_6)) = true then (
    bindO ((l0.take (l2.length + 12))[u1_6]?) fun x47 =>
    gd (-9223372036854775808 ≤ ((u1_6 : Nat) : Int) - ((l2.length : Nat) : Int) ∧ ((u1_6 : Nat) : Int) - ((l2.length : Nat) : Int) ≤ 9223372036854775807) <|
    bindO (m_ropewalkkit_markExpr N 1 (((u1_6 : Nat) : Int) - ((l2.length : Nat) : Int))) fun _ =>
    bindO (m_ropewalkkit_SameExpr_W N x47.kind x47.value.k x47.value.n x47.value.s x47.var x47.op (x47.kids ++ x47.kidsT) x47.kids.length 0 0 0 (⟨#[]⟩ : ByteArray) (IntKind.wrap .i64 ((IntKind.wrap .i64 (1000003 * (IntKind.wrap .i64 (1 + 7)))) + (((u1_6 : Nat) : Int) - ((l2.length : Nat) : Int)))) 0 ([] : List Api_ExprD)) fun v54 =>
    some (!v54)
   ) else (
    some false
   )
  )
 ) else (
  if (decide (l2.length ≤ u1_6)) = true then (
   bindO ((l0.take (l2.length + 12))[u1_6]?) fun x47 =>
   gd (-9223372036854775808 ≤ ((u1_6 : Nat) : Int) - ((l2.length : Nat) : Int) ∧ ((u1_6 : Nat) : Int) - ((l2.length : Nat) : Int) ≤ 9223372036854775807) <|
   bindO (m_ropewalkkit_markExpr N 1 (((u1_6 : Nat) : Int) - ((l2.length : Nat) : Int))) fun _ =>
   bindO (m_ropewalkkit_SameExpr_W N x47.kind x47.value.k x47.value.n x47.value.s x47.var x47.op (x47.kids ++ x47.kidsT) x47.kids.length 0 0 0 (⟨#[]⟩ : ByteArray) (IntKind.wrap .i64 ((IntKind.wrap .i64 (1000003 * (IntKind.wrap .i64 (1 + 7)))) + (((u1_6 : Nat) : Int) - ((l2.length : Nat) : Int)))) 0 ([] : List Api_ExprD)) fun v54 =>
   some (!v54)
  ) else (
   some false
  )
 )
def m_ropewalkkit_KeptExprs_W_v2_L1 (N : Nat) (l0 : List Api_ExprDS) (l2 : List Api_ExprD) (rc : Int → Int → Int → ByteArray → Int → Int → (List Api_ExprDS) → Nat → Int → Int → Int → ByteArray → Int → Int → (List Api_ExprD) → Option (Bool)) : Nat → Option (Nat ⊕ (Unit ⊕ Bool)) := fun u1_6 =>
 if (decide (u1_6 < ((l0.take (l2.length + 12)).length))) = true then (
  bindO (m_ropewalkkit_KeptExprs_W_v2_C2 N u1_6 l2 l0 rc
  ) fun j_2_57 =>
  if j_2_57 = true then (
   some (.inr (.inr false))
  ) else (
   gd (u1_6 + 1 ≤ 9223372036854775807) <|
   some (.inl (u1_6 + 1))
  )
 ) else (
  some (.inr (.inl ()))
 )
def m_ropewalkkit_KeptExprs_W_v2 (N : Nat) (rc : Int → Int → Int → ByteArray → Int → Int → (List Api_ExprDS) → Nat → Int → Int → Int → ByteArray → Int → Int → (List Api_ExprD) → Option (Bool)) (l0 : List Api_ExprDS) (k1 : Nat) (l2 : List Api_ExprD) : Option (Bool) :=
 if (k1 != l2.length) = true then (
  some false
 ) else (
  gd (l2.length + 12 ≤ 9223372036854775807) <|
  gd (l2.length + 12 ≤ l0.length) <|
  bindS (
   iter (m_ropewalkkit_KeptExprs_W_v2_L1 N l0 l2 rc) N 0
  ) fun _ =>
  some true
 )
def m_ropewalkkit_KeptExpr_W_b (N : Nat) (rc : Int → Int → Int → ByteArray → Int → Int → (List Api_ExprDS) → Nat → Int → Int → Int → ByteArray → Int → Int → (List Api_ExprD) → Option (Bool)) (a0 : Int) (a1 : Int) (a2 : Int) (a3 : ByteArray) (a4 : Int) (a5 : Int) (l6 : List Api_ExprDS) (k7 : Nat) (a8 : Int) (a9 : Int) (a10 : Int) (a11 : ByteArray) (a12 : Int) (a13 : Int) (l14 : List Api_ExprD) : Option (Bool) :=
 bindO (m_ropewalkkit_SameExpr_W N a0 a1 a2 a3 a4 a5 l6 k7 a8 a9 a10 a11 a12 a13 l14) fun v7 =>
 if v7 = true then (
  bindO (m_ropewalkkit_KeptExprs_W_v2 N rc l6 k7 l14) fun v13 =>
  some v13
 ) else (
  some false
 )
def m_ropewalkkit_KeptExpr_W : Nat → Int → Int → Int → ByteArray → Int → Int → (List Api_ExprDS) → Nat → Int → Int → Int → ByteArray → Int → Int → (List Api_ExprD) → Option (Bool)
 | 0 => fun _ => fun _ => fun _ => fun _ => fun _ => fun _ => fun _ => fun _ => fun _ => fun _ => fun _ => fun _ => fun _ => fun _ => fun _ => none
 | N + 1 => m_ropewalkkit_KeptExpr_W_b N (m_ropewalkkit_KeptExpr_W N)
def m_ropewalkkit_KeptCond_W (N : Nat) (a0 : Int) (a1 : Int) (l2 : List ArgD) (k3 : Nat) (a4 : Int) (a5 : Int) (a6 : Int) (a7 : ByteArray) (a8 : Int) (a9 : Int) (l10 : List Api_ExprDS) (k11 : Nat) (a12 : Int) (a13 : Int) (l14 : List ArgD) (a15 : Int) (a16 : Int) (a17 : Int) (a18 : ByteArray) (a19 : Int) (a20 : Int) (l21 : List Api_ExprD) : Option (Bool) :=
 bindO (m_ropewalkkit_SameCond_W N a0 a1 l2 k3 a4 a5 a6 a7 a8 a9 l10 k11 a12 a13 l14 a15 a16 a17 a18 a19 a20 l21) fun v7 =>
 if v7 = true then (
  bindO (m_ropewalkkit_KeptArgs_W N l2 k3 l14) fun v13 =>
  if v13 = true then (
   bindO (m_ropewalkkit_KeptExpr_W N a4 a5 a6 a7 a8 a9 l10 k11 a15 a16 a17 a18 a19 a20 l21) fun v20 =>
   some v20
  ) else (
   some false
  )
 ) else (
  some false
 )
def m_ropewalkkit_SameValues_W_L1 (N : Nat) (k1 : Nat) (l0 : List V) (l2 : List V) : Nat → Option (Nat ⊕ (Unit ⊕ Bool)) := fun u1_5 =>
 if (decide (u1_5 < k1)) = true then (
  gd (u1_5 < k1) <|
  bindO (l0[u1_5]?) fun x19 =>
  bindO (l2[u1_5]?) fun x23 =>
  if (!decide (x19 = x23)) = true then (
   some (.inr (.inr false))
  ) else (
   gd (u1_5 + 1 ≤ 9223372036854775807) <|
   some (.inl (u1_5 + 1))
  )
 ) else (
  some (.inr (.inl ()))
 )
def m_ropewalkkit_SameValues_W (N : Nat) (l0 : List V) (k1 : Nat) (l2 : List V) : Option (Bool) :=
 if (k1 != l2.length) = true then (
  some false
 ) else (
  bindS (
   iter (m_ropewalkkit_SameValues_W_L1 N k1 l0 l2) N 0
  ) fun _ =>
  some true
 )
def m_ropewalkkit_SameFact_W (N : Nat) (a0 : Int) (a1 : Int) (l2 : List V) (k3 : Nat) (a4 : Int) (a5 : Int) (l6 : List V) : Option (Bool) :=
 if (a0 == a4) = true then (
  if (a1 == a5) = true then (
   bindO (m_ropewalkkit_SameValues_W N l2 k3 l6) fun v22 =>
   some v22
  ) else (
   some false
  )
 ) else (
  some false
 )
def m_ropewalkkit_KeptValues_W_C2 (N : Nat) (u1_6 : Nat) (l2 : List V) (l0 : List V) : Option (Bool) :=
 if (decide (u1_6 < l2.length)) = true then (
  bindO ((l0.take (l2.length + 12))[u1_6]?) fun x30 =>
  bindO (l2[u1_6]?) fun x34 =>
  if (!(decide (x30 = x34))) = true then (
   some true
  ) else (
   if (decide (l2.length ≤ u1_6)) = true then (
    bindO ((l0.take (l2.length + 12))[u1_6]?) fun x47 =>
    gd (-9223372036854775808 ≤ ((u1_6 : Nat) : Int) - ((l2.length : Nat) : Int) ∧ ((u1_6 : Nat) : Int) - ((l2.length : Nat) : Int) ≤ 9223372036854775807) <|
    bindO (m_ropewalkkit_markValue N 1 (((u1_6 : Nat) : Int) - ((l2.length : Nat) : Int))) fun _ =>
    some (!(decide (x47 = (⟨0, IntKind.wrap .i64 ((IntKind.wrap .i64 (1000003 * (IntKind.wrap .i64 (1 + 7)))) + (((u1_6 : Nat) : Int) - ((l2.length : Nat) : Int))), (⟨#[]⟩ : ByteArray)⟩ : V))))
   ) else (
    some false
   )
  )
 ) else (
  if (decide (l2.length ≤ u1_6)) = true then (
   bindO ((l0.take (l2.length + 12))[u1_6]?) fun x47 =>
   gd (-9223372036854775808 ≤ ((u1_6 : Nat) : Int) - ((l2.length : Nat) : Int) ∧ ((u1_6 : Nat) : Int) - ((l2.length : Nat) : Int) ≤ 9223372036854775807) <|
   bindO (m_ropewalkkit_markValue N 1 (((u1_6 : Nat) : Int) - ((l2.length : Nat) : Int))) fun _ =>
   some (!(decide (x47 = (⟨0, IntKind.wrap .i64 ((IntKind.wrap .i64 (1000003 * (IntKind.wrap .i64 (1 + 7)))) + (((u1_6 : Nat) : Int) - ((l2.length : Nat) : Int))), (⟨#[]⟩ : ByteArray)⟩ : V))))
  ) else (
   some false
  )
 )
def m_ropewalkkit_KeptValues_W_L1 (N : Nat) (l0 : List V) (l2 : List V) : Nat → Option (Nat ⊕ (Unit ⊕ Bool)) := fun u1_6 =>
 if (decide (u1_6 < ((l0.take (l2.length + 12)).length))) = true then (
  bindO (m_ropewalkkit_KeptValues_W_C2 N u1_6 l2 l0
  ) fun j_2_57 =>
  if j_2_57 = true then (
   some (.inr (.inr false))
  ) else (
   gd (u1_6 + 1 ≤ 9223372036854775807) <|
   some (.inl (u1_6 + 1))
  )
 ) else (
  some (.inr (.inl ()))
 )
def m_ropewalkkit_KeptValues_W (N : Nat) (l0 : List V) (k1 : Nat) (l2 : List V) : Option (Bool) :=
 if (k1 != l2.length) = true then (
  some false
 ) else (
  gd (l2.length + 12 ≤ 9223372036854775807) <|
  gd (l2.length + 12 ≤ l0.length) <|
  bindS (
   iter (m_ropewalkkit_KeptValues_W_L1 N l0 l2) N 0
  ) fun _ =>
  some true
 )
def m_ropewalkkit_KeptFact_W (N : Nat) (a0 : Int) (a1 : Int) (l2 : List V) (k3 : Nat) (a4 : Int) (a5 : Int) (l6 : List V) : Option (Bool) :=
 bindO (m_ropewalkkit_SameFact_W N a0 a1 l2 k3 a4 a5 l6) fun v7 =>
 if v7 = true then (
  bindO (m_ropewalkkit_KeptValues_W N l2 k3 l6) fun v13 =>
  some v13
 ) else (
  some false
 )
def m_ropewalkkit_OverValues_V_L1 (N : Nat) (k1 : Nat) : (Nat × (List V)) → Option ((Nat × (List V)) ⊕ (List V)) := fun (u1_3, u1_2_l) =>
 if (decide (u1_3 < (k1 + 12))) = true then (
  bindO (m_ropewalkkit_markValue N 2 ((u1_3 : Nat) : Int)) fun _ =>
  bindO (u1_2_l[u1_3]?) fun x19 =>
  gd (u1_3 < k1 + 12) <|
  gd (u1_3 + 1 ≤ 9223372036854775807) <|
  some (.inl (u1_3 + 1, (u1_2_l.set u1_3 (⟨0, (IntKind.wrap .i64 ((IntKind.wrap .i64 (1000003 * (IntKind.wrap .i64 (2 + 7)))) + ((u1_3 : Nat) : Int))), (⟨#[]⟩ : ByteArray)⟩ : V))))
 ) else (
  some (.inr u1_2_l)
 )
def m_ropewalkkit_OverValues_V (N : Nat) (l0 : List V) (k1 : Nat) : Option (List V) :=
 gd (k1 + 12 ≤ 9223372036854775807) <|
 gd (k1 + 12 ≤ l0.length) <|
 iter (m_ropewalkkit_OverValues_V_L1 N k1) N (0, l0)
def m_ropewalkkit_OverFact_V (N : Nat) (a0 : Int) (a1 : Int) (l2 : List V) (k3 : Nat) : Option (List V) :=
 bindO (m_ropewalkkit_OverValues_V N l2 k3) fun v4 =>
 some v4
def m_ropewalklaw10_apart_v2_L1 (N : Nat) : (Nat × (List Bool)) → Option ((Nat × (List Bool)) ⊕ (List Bool)) := fun (u1_6, u1_2_f0_l) =>
 if (decide (u1_6 < u1_2_f0_l.length)) = true then (
  bindO (u1_2_f0_l[u1_6]?) fun x25 =>
  bindO (u1_2_f0_l[u1_6]?) fun x28 =>
  gd (u1_6 + 1 ≤ 9223372036854775807) <|
  some (.inl (u1_6 + 1, u1_2_f0_l.set u1_6 !x25))
 ) else (
  some (.inr u1_2_f0_l)
 )
def m_ropewalklaw10_apart_v2_L2 (N : Nat) (l2 : List Bool) (j_1_2_f0_l : List Bool) : Nat → Option (Nat ⊕ (Unit ⊕ (Bool × (List Bool)))) := fun u2_7 =>
 bindO (
  if (decide (u2_7 < l2.length)) = true then (
   some (decide (u2_7 < l2.length))
  ) else (
   some false
  )
 ) fun j_3_39 =>
 if j_3_39 = true then (
  bindO (l2[u2_7]?) fun x45 =>
  bindO (l2[u2_7]?) fun x49 =>
  if (x45 != x49) = true then (
   some (.inr (.inr (false, j_1_2_f0_l)))
  ) else (
   gd (u2_7 + 1 ≤ 9223372036854775807) <|
   some (.inl (u2_7 + 1))
  )
 ) else (
  some (.inr (.inl ()))
 )
def m_ropewalklaw10_apart_v2 (N : Nat) (l0 : List Bool) (l1 : List V) (l2 : List Bool) (l3 : List V) : Option (Bool × (List Bool)) :=
 gd (([] : List Bool).length + l2.length ≤ 140737488355328) <|
 bindO (
  iter (m_ropewalklaw10_apart_v2_L1 N) N (0, l0)
 ) fun j_1_2_f0_l =>
 bindS (
  iter (m_ropewalklaw10_apart_v2_L2 N l2 j_1_2_f0_l) N 0
 ) fun _ =>
 gd ([l1, l3].length ≤ 8 ∧ ∀ y ∈ [l1, l3], y.length ≤ 10000) <|
 some (true, j_1_2_f0_l)
def m_ropewalklaw10_PatternMatches_C1 (N : Nat) (l2 : List ArgD) (l12 : List V) (l13 : List Bool) (l14 : List V) (l9 : List Api_ExprD) : Option (Bool) :=
 if (decide (2000 < l2.length)) = true then (
  some true
 ) else (
  if (decide (2000 < l12.length)) = true then (
   some true
  ) else (
   if (decide (2000 < l13.length)) = true then (
    some true
   ) else (
    if (decide (2000 < l14.length)) = true then (
     some true
    ) else (
     bindO (m_ropewalkkit_ExprsOf N l9 2000) fun v42 =>
     some (decide (v42 > 2000))
    )
   )
  )
 )
def m_ropewalklaw10_PatternMatches_C3 (N : Nat) (v60_2 : Bool) (v76_2 : Bool) (v60_0 : List Bool) (v60_1 : List V) (v76_0 : List Bool) (v76_1 : List V) (v67_0 : List Bool) (v67_1 : List V) (l14 : List V) (v54 : List V) (l13 : List Bool) : Option (Bool) :=
 if (v60_2 != v76_2) = true then (
  some true
 ) else (
  bindO (m_ropewalklaw10_same N v60_0 v60_1 v76_0 v76_1) fun v85 =>
  if (!v85) = true then (
   some true
  ) else (
   bindO (m_ropewalklaw10_same N v67_0 v67_1 v76_0 v76_1) fun v91 =>
   if (!v91) = true then (
    some true
   ) else (
    gd (l14.length ≤ v54.length) <|
    bindO (m_ropewalklaw10_same N l13 (v54.take l14.length) l13 l14) fun v99 =>
    some (!v99)
   )
  )
 )
def m_ropewalklaw10_PatternMatches_C4 (N : Nat) (a0 : Int) (a1 : Int) (v47_0 : List ArgD) (l2 : List ArgD) (v47_1 : Int) (v47_2 : Int) (v47_3 : Int) (v47_4 : ByteArray) (v47_5 : Int) (v47_6 : Int) (v47_7 : List Api_ExprDS) (v47_8 : Nat) (a3 : Int) (a4 : Int) (a5 : Int) (a6 : ByteArray) (a7 : Int) (a8 : Int) (l9 : List Api_ExprD) (a10 : Int) (a11 : Int) (v49 : List V) (l12 : List V) (v54 : List V) (l14 : List V) : Option (Bool) :=
 bindO (m_ropewalkkit_KeptCond_W N a0 a1 v47_0 l2.length v47_1 v47_2 v47_3 v47_4 v47_5 v47_6 v47_7 v47_8 a0 a1 l2 a3 a4 a5 a6 a7 a8 l9) fun v104 =>
 if (!v104) = true then (
  some true
 ) else (
  bindO (m_ropewalkkit_KeptFact_W N a10 a11 v49 l12.length a10 a11 l12) fun v109 =>
  if (!v109) = true then (
   some true
  ) else (
   bindO (m_ropewalkkit_KeptValues_W N v54 l14.length l14) fun v116 =>
   some (!v116)
  )
 )
def m_ropewalklaw10_PatternMatches (N : Nat) (a0 : Int) (a1 : Int) (l2 : List ArgD) (a3 : Int) (a4 : Int) (a5 : Int) (a6 : ByteArray) (a7 : Int) (a8 : Int) (l9 : List Api_ExprD) (a10 : Int) (a11 : Int) (l12 : List V) (l13 : List Bool) (l14 : List V) : Option (Bool) :=
 bindO (m_ropewalklaw10_PatternMatches_C1 N l2 l12 l13 l14 l9
 ) fun j_1_44 =>
 if j_1_44 = true then (
  bindO (m_ropewalklaw10_awake N) fun v45 =>
  some v45
 ) else (
  bindO (m_ropewalkkit_LentCond N a0 a1 l2 a3 a4 a5 a6 a7 a8 l9) fun (v47_0, v47_1, v47_2, v47_3, v47_4, v47_5, v47_6, v47_7, v47_8) =>
  bindO (m_ropewalkkit_LentFact N a10 a11 l12) fun v49 =>
  gd (([] : List Bool).length + l13.length ≤ 140737488355328) <|
  bindO (m_ropewalkkit_LentValues N l14) fun v54 =>
  gd (l2.length ≤ v47_0.length) <|
  gd (v47_8 ≤ v47_7.length) <|
  gd (l12.length ≤ v49.length) <|
  gd (l14.length ≤ v54.length) <|
  bindO (m_pattern_Match N a0 a1 (v47_0.take l2.length) v47_1 v47_2 v47_3 v47_4 v47_5 v47_6 ((v47_7.map to_Api_ExprD).take v47_8) a10 a11 (v49.take l12.length) l13 (v54.take l14.length)) fun (v60_0, v60_1, v60_2) =>
  gd (l2.length ≤ v47_0.length) <|
  gd (v47_8 ≤ v47_7.length) <|
  gd (l12.length ≤ v49.length) <|
  gd (l14.length ≤ v54.length) <|
  bindO (m_pattern_Match N a0 a1 (v47_0.take l2.length) v47_1 v47_2 v47_3 v47_4 v47_5 v47_6 ((v47_7.map to_Api_ExprD).take v47_8) a10 a11 (v49.take l12.length) l13 (v54.take l14.length)) fun (v67_0, v67_1, v67_2) =>
  bindO (m_ropewalkref10_Match N a0 a1 l2 a3 a4 a5 a6 a7 a8 l9 a10 a11 l12 l13 l14) fun (v76_0, v76_1, v76_2) =>
  bindO (m_ropewalklaw10_PatternMatches_C3 N v60_2 v76_2 v60_0 v60_1 v76_0 v76_1 v67_0 v67_1 l14 v54 l13
  ) fun j_3_101 =>
  if j_3_101 = true then (
   some false
  ) else (
   bindO (m_ropewalklaw10_PatternMatches_C4 N a0 a1 v47_0 l2 v47_1 v47_2 v47_3 v47_4 v47_5 v47_6 v47_7 v47_8 a3 a4 a5 a6 a7 a8 l9 a10 a11 v49 l12 v54 l14
   ) fun j_4_118 =>
   if j_4_118 = true then (
    some false
   ) else (
    bindO (m_ropewalkkit_OverFact_V N a10 a11 v49 l12.length) fun v120 =>
    bindO (m_ropewalkkit_OverValues_V N v54 l14.length) fun v123 =>
    bindO (m_ropewalklaw10_same N v60_0 v60_1 v76_0 v76_1) fun v126 =>
    if v126 = true then (
     bindO (m_ropewalklaw10_apart_v2 N v60_0 v60_1 v67_0 v67_1) fun (v130_0, v130_1) =>
     if v130_0 = true then (
      bindO (m_ropewalklaw10_awake N) fun v133 =>
      some v133
     ) else (
      some false
     )
    ) else (
     some false
    )
   )
  )
 )
def m_ropewalkref10_New (N : Nat) (a0 : Int) : Option ((List Bool) × (List V)) :=
 bindO (
  if (decide (a0 < 0)) = true then (
   some true
  ) else (
   some (decide (a0 > 16))
  )
 ) fun j_1_8 =>
 if j_1_8 = true then (
  some ([], [])
 ) else (
  gd (0 ≤ a0) <|
  gd (a0.toNat ≤ 140737488355328) <|
  gd (0 ≤ a0) <|
  gd (a0.toNat ≤ 4398046511104) <|
  some (List.replicate a0.toNat false, (List.replicate a0.toNat (⟨0, 0, (⟨#[]⟩ : ByteArray)⟩ : V)))
 )
def m_ropewalkkit_markFact (N : Nat) (a0 : Int) (a1 : Int) : Option (Unit) :=
 bindO (m_ropewalkkit_mark N a0 a1) fun _ =>
 some ()
def m_ropewalkkit_LentFacts_L1 (N : Nat) (l0 : List FactD) : (Nat × (List FactDS)) → Option ((Nat × (List FactDS)) ⊕ (List FactDS)) := fun (u1_4, u1_3_l) =>
 if (decide (u1_4 < l0.length)) = true then (
  bindO (l0[u1_4]?) fun x19 =>
  bindO (m_ropewalkkit_LentFact N x19.id x19.ty x19.args) fun v21 =>
  gd (x19.args.length ≤ v21.length) <|
  gd (u1_3_l.length + ([(⟨x19.id, x19.ty, v21.take x19.args.length, v21.drop x19.args.length⟩ : FactDS)]).length ≤ 3518437208883) <|
  gd (u1_4 + 1 ≤ 9223372036854775807) <|
  some (.inl (u1_4 + 1, (u1_3_l ++ [(⟨x19.id, x19.ty, v21.take x19.args.length, v21.drop x19.args.length⟩ : FactDS)])))
 ) else (
  some (.inr u1_3_l)
 )
def m_ropewalkkit_LentFacts_L2 (N : Nat) : (Nat × (List FactDS)) → Option ((Nat × (List FactDS)) ⊕ (List FactDS)) := fun (u2_6, u2_3_l) =>
 if (decide (u2_6 < 12)) = true then (
  bindO (m_ropewalkkit_markFact N 1 ((u2_6 : Nat) : Int)) fun _ =>
  gd (u2_3_l.length + ([(⟨(IntKind.wrap .i64 ((IntKind.wrap .i64 (1000003 * (IntKind.wrap .i64 (1 + 7)))) + ((u2_6 : Nat) : Int))), 0, ([] : List V), []⟩ : FactDS)]).length ≤ 3518437208883) <|
  gd (u2_6 + 1 ≤ 9223372036854775807) <|
  some (.inl (u2_6 + 1, (u2_3_l ++ [(⟨(IntKind.wrap .i64 ((IntKind.wrap .i64 (1000003 * (IntKind.wrap .i64 (1 + 7)))) + ((u2_6 : Nat) : Int))), 0, ([] : List V), []⟩ : FactDS)])))
 ) else (
  some (.inr u2_3_l)
 )
def m_ropewalkkit_LentFacts (N : Nat) (l0 : List FactD) : Option (List FactDS) :=
 gd (l0.length + 12 ≤ 9223372036854775807) <|
 gd (l0.length + 12 ≤ 3518437208883) <|
 bindO (
  iter (m_ropewalkkit_LentFacts_L1 N l0) N (0, [])
 ) fun j_1_3_l =>
 bindO (
  iter (m_ropewalkkit_LentFacts_L2 N) N (0, j_1_3_l)
 ) fun j_2_3_l =>
 gd (l0.length ≤ j_2_3_l.length) <|
 some j_2_3_l
def m_pattern_Some_1 (N : Nat) (a0 : Int) (a1 : Int) (l2 : List V) (a3 : Int) (a4 : Int) (l5 : List ArgD) (a6 : Int) (a7 : Int) (a8 : Int) (a9 : ByteArray) (a10 : Int) (a11 : Int) (l12 : List Api_ExprD) (l13 : List Bool) (l14 : List V) : Option (Bool) :=
 bindO (m_pattern_Match N a3 a4 l5 a6 a7 a8 a9 a10 a11 l12 a0 a1 l2 l13 l14) fun (v11_0, v11_1, v11_2) =>
 some v11_2
def m_slices_IndexFunc_Fact_L1 (N : Nat) (l0 : List FactD) (a1 : Int) (a2 : Int) (l3 : List ArgD) (a4 : Int) (a5 : Int) (a6 : Int) (a7 : ByteArray) (a8 : Int) (a9 : Int) (l10 : List Api_ExprD) (l11 : List Bool) (l12 : List V) : Nat → Option (Nat ⊕ (Unit ⊕ Int)) := fun u1_8 =>
 if (decide (u1_8 < l0.length)) = true then (
  bindO (l0[u1_8]?) fun x14 =>
  bindO (m_pattern_Some_1 N x14.id x14.ty x14.args a1 a2 l3 a4 a5 a6 a7 a8 a9 l10 l11 l12) fun v16 =>
  if v16 = true then (
   some (.inr (.inr ((u1_8 : Nat) : Int)))
  ) else (
   gd (u1_8 + 1 ≤ 9223372036854775807) <|
   some (.inl (u1_8 + 1))
  )
 ) else (
  some (.inr (.inl ()))
 )
def m_slices_IndexFunc_Fact (N : Nat) (l0 : List FactD) (a1 : Int) (a2 : Int) (l3 : List ArgD) (a4 : Int) (a5 : Int) (a6 : Int) (a7 : ByteArray) (a8 : Int) (a9 : Int) (l10 : List Api_ExprD) (l11 : List Bool) (l12 : List V) : Option (Int) :=
 bindS (
  iter (m_slices_IndexFunc_Fact_L1 N l0 a1 a2 l3 a4 a5 a6 a7 a8 a9 l10 l11 l12) N 0
 ) fun _ =>
 some (-1)
def m_slices_ContainsFunc_Fact (N : Nat) (l0 : List FactD) (a1 : Int) (a2 : Int) (l3 : List ArgD) (a4 : Int) (a5 : Int) (a6 : Int) (a7 : ByteArray) (a8 : Int) (a9 : Int) (l10 : List Api_ExprD) (l11 : List Bool) (l12 : List V) : Option (Bool) :=
 bindO (m_slices_IndexFunc_Fact N l0 a1 a2 l3 a4 a5 a6 a7 a8 a9 l10 l11 l12) fun v7 =>
 some (decide (v7 ≥ 0))
def m_pattern_Some (N : Nat) (a0 : Int) (a1 : Int) (l2 : List ArgD) (a3 : Int) (a4 : Int) (a5 : Int) (a6 : ByteArray) (a7 : Int) (a8 : Int) (l9 : List Api_ExprD) (l10 : List Bool) (l11 : List V) (l12 : List FactD) : Option (Bool) :=
 bindO (m_slices_ContainsFunc_Fact N l12 a0 a1 l2 a3 a4 a5 a6 a7 a8 l9 l10 l11) fun v9 =>
 some v9
def m_ropewalkref10_Some_L1 (N : Nat) (l12 : List FactD) (a0 : Int) (a1 : Int) (l2 : List ArgD) (a3 : Int) (a4 : Int) (a5 : Int) (a6 : ByteArray) (a7 : Int) (a8 : Int) (l9 : List Api_ExprD) (l10 : List Bool) (l11 : List V) : Nat → Option (Nat ⊕ (Unit ⊕ Bool)) := fun u1_7 =>
 if (decide (u1_7 < l12.length)) = true then (
  bindO (l12[u1_7]?) fun x20 =>
  bindO (m_ropewalkref10_Match N a0 a1 l2 a3 a4 a5 a6 a7 a8 l9 x20.id x20.ty x20.args l10 l11) fun (v23_0, v23_1, v23_2) =>
  if v23_2 = true then (
   some (.inr (.inr true))
  ) else (
   gd (u1_7 + 1 ≤ 9223372036854775807) <|
   some (.inl (u1_7 + 1))
  )
 ) else (
  some (.inr (.inl ()))
 )
def m_ropewalkref10_Some (N : Nat) (a0 : Int) (a1 : Int) (l2 : List ArgD) (a3 : Int) (a4 : Int) (a5 : Int) (a6 : ByteArray) (a7 : Int) (a8 : Int) (l9 : List Api_ExprD) (l10 : List Bool) (l11 : List V) (l12 : List FactD) : Option (Bool) :=
 bindS (
  iter (m_ropewalkref10_Some_L1 N l12 a0 a1 l2 a3 a4 a5 a6 a7 a8 l9 l10 l11) N 0
 ) fun _ =>
 some false
def m_ropewalkkit_KeptFacts_W_C2 (N : Nat) (u1_6 : Nat) (l2 : List FactD) (l0 : List FactDS) : Option (Bool) :=
 if (decide (u1_6 < l2.length)) = true then (
  bindO ((l0.take (l2.length + 12))[u1_6]?) fun x30 =>
  bindO (l2[u1_6]?) fun x34 =>
  bindO (m_ropewalkkit_KeptFact_W N x30.id x30.ty (x30.args ++ x30.argsT) x30.args.length x34.id x34.ty x34.args) fun v36 =>
  if (!v36) = true then (
   some true
  ) else (
   if (decide (l2.length ≤ u1_6)) = true then (
    bindO ((l0.take (l2.length + 12))[u1_6]?) fun x47 =>
    gd (-9223372036854775808 ≤ ((u1_6 : Nat) : Int) - ((l2.length : Nat) : Int) ∧ ((u1_6 : Nat) : Int) - ((l2.length : Nat) : Int) ≤ 9223372036854775807) <|
    bindO (m_ropewalkkit_markFact N 1 (((u1_6 : Nat) : Int) - ((l2.length : Nat) : Int))) fun _ =>
    bindO (m_ropewalkkit_SameFact_W N x47.id x47.ty (x47.args ++ x47.argsT) x47.args.length (IntKind.wrap .i64 ((IntKind.wrap .i64 (1000003 * (IntKind.wrap .i64 (1 + 7)))) + (((u1_6 : Nat) : Int) - ((l2.length : Nat) : Int)))) 0 ([] : List V)) fun v54 =>
    some (!v54)
   ) else (
    some false
   )
  )
 ) else (
  if (decide (l2.length ≤ u1_6)) = true then (
   bindO ((l0.take (l2.length + 12))[u1_6]?) fun x47 =>
   gd (-9223372036854775808 ≤ ((u1_6 : Nat) : Int) - ((l2.length : Nat) : Int) ∧ ((u1_6 : Nat) : Int) - ((l2.length : Nat) : Int) ≤ 9223372036854775807) <|
   bindO (m_ropewalkkit_markFact N 1 (((u1_6 : Nat) : Int) - ((l2.length : Nat) : Int))) fun _ =>
   bindO (m_ropewalkkit_SameFact_W N x47.id x47.ty (x47.args ++ x47.argsT) x47.args.length (IntKind.wrap .i64 ((IntKind.wrap .i64 (1000003 * (IntKind.wrap .i64 (1 + 7)))) + (((u1_6 : Nat) : Int) - ((l2.length : Nat) : Int)))) 0 ([] : List V)) fun v54 =>
   some (!v54)
  ) else (
   some false
  )
 )
def m_ropewalkkit_KeptFacts_W_L1 (N : Nat) (l0 : List FactDS) (l2 : List FactD) : Nat → Option (Nat ⊕ (Unit ⊕ Bool)) := fun u1_6 =>
 if (decide (u1_6 < ((l0.take (l2.length + 12)).length))) = true then (
  bindO (m_ropewalkkit_KeptFacts_W_C2 N u1_6 l2 l0
  ) fun j_2_57 =>
  if j_2_57 = true then (
   some (.inr (.inr false))
  ) else (
   gd (u1_6 + 1 ≤ 9223372036854775807) <|
   some (.inl (u1_6 + 1))
  )
 ) else (
  some (.inr (.inl ()))
 )
def m_ropewalkkit_KeptFacts_W (N : Nat) (l0 : List FactDS) (k1 : Nat) (l2 : List FactD) : Option (Bool) :=
 if (k1 != l2.length) = true then (
  some false
 ) else (
  gd (l2.length + 12 ≤ 9223372036854775807) <|
  gd (l2.length + 12 ≤ l0.length) <|
  bindS (
   iter (m_ropewalkkit_KeptFacts_W_L1 N l0 l2) N 0
  ) fun _ =>
  some true
 )
def m_ropewalklaw10_PatternSome_C1 (N : Nat) (l2 : List ArgD) (l10 : List Bool) (l11 : List V) (l12 : List FactD) : Option (Bool) :=
 if (decide (2000 < l2.length)) = true then (
  some true
 ) else (
  if (decide (2000 < l10.length)) = true then (
   some true
  ) else (
   if (decide (2000 < l11.length)) = true then (
    some true
   ) else (
    some (decide (300 < l12.length))
   )
  )
 )
def m_ropewalklaw10_PatternSome_L1 (N : Nat) (l12 : List FactD) : Nat → Option (Nat ⊕ (Unit ⊕ Bool)) := fun u1_9 =>
 if (decide (u1_9 < l12.length)) = true then (
  bindO (l12[u1_9]?) fun x40 =>
  if (decide (50 < x40.args.length)) = true then (
   bindO (m_ropewalklaw10_awake N) fun v45 =>
   some (.inr (.inr v45))
  ) else (
   gd (u1_9 + 1 ≤ 9223372036854775807) <|
   some (.inl (u1_9 + 1))
  )
 ) else (
  some (.inr (.inl ()))
 )
def m_ropewalklaw10_PatternSome (N : Nat) (a0 : Int) (a1 : Int) (l2 : List ArgD) (a3 : Int) (a4 : Int) (a5 : Int) (a6 : ByteArray) (a7 : Int) (a8 : Int) (l9 : List Api_ExprD) (l10 : List Bool) (l11 : List V) (l12 : List FactD) : Option (Bool) :=
 bindO (m_ropewalklaw10_PatternSome_C1 N l2 l10 l11 l12
 ) fun j_1_30 =>
 if j_1_30 = true then (
  bindO (m_ropewalklaw10_awake N) fun v31 =>
  some v31
 ) else (
  bindS (
   iter (m_ropewalklaw10_PatternSome_L1 N l12) N 0
  ) fun _ =>
  bindO (m_ropewalkkit_LentFacts N l12) fun v47 =>
  gd (l12.length ≤ v47.length) <|
  bindO (m_pattern_Some N a0 a1 l2 a3 a4 a5 a6 a7 a8 l9 l10 l11 ((v47.map to_FactD).take l12.length)) fun v54 =>
  bindO (m_ropewalkref10_Some N a0 a1 l2 a3 a4 a5 a6 a7 a8 l9 l10 l11 l12) fun v60 =>
  if (v54 == v60) = true then (
   bindO (m_ropewalkkit_KeptFacts_W N v47 l12.length l12) fun v65 =>
   if v65 = true then (
    bindO (m_ropewalklaw10_awake N) fun v68 =>
    some v68
   ) else (
    some false
   )
  ) else (
   some false
  )
 )
def m_ropewalklaw10_PatternNumbers_L1 (N : Nat) : Nat → Option (Nat ⊕ (Unit ⊕ Bool)) := fun u1_2 =>
 if (decide (u1_2 < ([-9223372036854775808, -1, 0, 1, 2, 16, 17, 9223372036854775807].length))) = true then (
  bindO (([-9223372036854775808, -1, 0, 1, 2, 16, 17, 9223372036854775807] : List Int)[u1_2]?) fun x22 =>
  bindO (m_pattern_New N x22) fun (v24_0, v24_1) =>
  bindO (([-9223372036854775808, -1, 0, 1, 2, 16, 17, 9223372036854775807] : List Int)[u1_2]?) fun x27 =>
  bindO (m_ropewalkref10_New N x27) fun (v29_0, v29_1) =>
  bindO (m_ropewalklaw10_same N v24_0 v24_1 v29_0 v29_1) fun v30 =>
  if (!v30) = true then (
   some (.inr (.inr false))
  ) else (
   gd (u1_2 + 1 ≤ 9223372036854775807) <|
   some (.inl (u1_2 + 1))
  )
 ) else (
  some (.inr (.inl ()))
 )
def m_ropewalklaw10_PatternNumbers_C6 (N : Nat) (u2_4 : Nat) (x56 : Int) (x61 : V) (x72 : V) (x78 : V) : Option (Bool) :=
 bindO (m_ropewalklaw10_num N 1) fun _ =>
 bindO (m_ropewalklaw10_PatternMatches N 2 (-7) [(⟨(IntKind.wrap .u8 ((u2_4 : Nat) : Int)), x56, x61⟩ : ArgD), (⟨2, 1, (⟨0, 0, (⟨#[]⟩ : ByteArray)⟩ : V)⟩ : ArgD), (⟨(IntKind.wrap .u8 ((u2_4 : Nat) : Int)), x56, x61⟩ : ArgD)] 0 0 0 (⟨#[]⟩ : ByteArray) 0 0 ([] : List Api_ExprD) 3 (-7) [x72, (⟨1, 2, (⟨#[]⟩ : ByteArray)⟩ : V), x78] [true, true] [(⟨1, 1, (⟨#[]⟩ : ByteArray)⟩ : V), (⟨0, 0, (⟨#[]⟩ : ByteArray)⟩ : V)]) fun v88 =>
 if (!v88) = true then (
  some true
 ) else (
  gd (2 ≤ 4398046511104) <|
  bindO (m_ropewalklaw10_PatternMatches N 2 (-7) [(⟨(IntKind.wrap .u8 ((u2_4 : Nat) : Int)), x56, x61⟩ : ArgD), (⟨2, 1, (⟨0, 0, (⟨#[]⟩ : ByteArray)⟩ : V)⟩ : ArgD), (⟨(IntKind.wrap .u8 ((u2_4 : Nat) : Int)), x56, x61⟩ : ArgD)] 0 0 0 (⟨#[]⟩ : ByteArray) 0 0 ([] : List Api_ExprD) 3 (-7) [x72, (⟨1, 2, (⟨#[]⟩ : ByteArray)⟩ : V), x78] [false, false] (List.replicate 2 (⟨0, 0, (⟨#[]⟩ : ByteArray)⟩ : V))) fun v95 =>
  if (!v95) = true then (
   some true
  ) else (
   bindO (m_ropewalklaw10_num N 1) fun _ =>
   bindO (m_ropewalklaw10_num N 1) fun _ =>
   bindO (m_ropewalklaw10_PatternMatches N 2 (-7) [(⟨(IntKind.wrap .u8 ((u2_4 : Nat) : Int)), x56, x61⟩ : ArgD), (⟨2, 1, (⟨0, 0, (⟨#[]⟩ : ByteArray)⟩ : V)⟩ : ArgD), (⟨(IntKind.wrap .u8 ((u2_4 : Nat) : Int)), x56, x61⟩ : ArgD)] 0 0 0 (⟨#[]⟩ : ByteArray) 0 0 ([] : List Api_ExprD) 3 (-7) [x72, (⟨1, 2, (⟨#[]⟩ : ByteArray)⟩ : V), x78] [false, true] [(⟨1, 1, (⟨#[]⟩ : ByteArray)⟩ : V), (⟨1, 1, (⟨#[]⟩ : ByteArray)⟩ : V)]) fun v105 =>
   if (!v105) = true then (
    some true
   ) else (
    gd (2 ≤ 4398046511104) <|
    bindO (m_ropewalklaw10_PatternMatches N 2 (-7) [(⟨(IntKind.wrap .u8 ((u2_4 : Nat) : Int)), x56, x61⟩ : ArgD), (⟨2, 1, (⟨0, 0, (⟨#[]⟩ : ByteArray)⟩ : V)⟩ : ArgD), (⟨(IntKind.wrap .u8 ((u2_4 : Nat) : Int)), x56, x61⟩ : ArgD)] 0 0 0 (⟨#[]⟩ : ByteArray) 0 0 ([] : List Api_ExprD) 3 (-7) [x72, (⟨1, 2, (⟨#[]⟩ : ByteArray)⟩ : V), x78] [true] (List.replicate 2 (⟨0, 0, (⟨#[]⟩ : ByteArray)⟩ : V))) fun v113 =>
    some (!v113)
   )
  )
 )
def m_ropewalklaw10_PatternNumbers_L4 (N : Nat) (u3_5 : Nat) (u2_4 : Nat) : Nat → Option (Nat ⊕ (Unit ⊕ (Nat ⊕ (Unit ⊕ (Nat ⊕ (Unit ⊕ Bool)))))) := fun u4_6 =>
 if (decide (u4_6 < 25)) = true then (
  bindO (([-9223372036854775808, -1, 0, 1, 2, 16, 17, 9223372036854775807] : List Int)[u3_5]?) fun x56 =>
  gd (0 ≤ IntKind.wrap .i64 (Int.tdiv ((u4_6 : Nat) : Int) 5)) <|
  bindO (([(⟨0, 0, (⟨#[]⟩ : ByteArray)⟩ : V), (⟨1, 1, (⟨#[]⟩ : ByteArray)⟩ : V), (⟨1, 2, (⟨#[]⟩ : ByteArray)⟩ : V), (⟨2, 0, (⟨#[97]⟩ : ByteArray)⟩ : V), (⟨1, 1, (⟨#[97]⟩ : ByteArray)⟩ : V)])[(IntKind.wrap .i64 (Int.tdiv ((u4_6 : Nat) : Int) 5)).toNat]?) fun x61 =>
  gd (0 ≤ Int.tmod ((u4_6 : Nat) : Int) 5) <|
  bindO (([(⟨0, 0, (⟨#[]⟩ : ByteArray)⟩ : V), (⟨1, 1, (⟨#[]⟩ : ByteArray)⟩ : V), (⟨1, 2, (⟨#[]⟩ : ByteArray)⟩ : V), (⟨2, 0, (⟨#[97]⟩ : ByteArray)⟩ : V), (⟨1, 1, (⟨#[97]⟩ : ByteArray)⟩ : V)])[(Int.tmod ((u4_6 : Nat) : Int) 5).toNat]?) fun x72 =>
  bindO (m_ropewalklaw10_num N 2) fun _ =>
  gd (0 ≤ Int.tmod ((u4_6 : Nat) : Int) 5) <|
  bindO (([(⟨0, 0, (⟨#[]⟩ : ByteArray)⟩ : V), (⟨1, 1, (⟨#[]⟩ : ByteArray)⟩ : V), (⟨1, 2, (⟨#[]⟩ : ByteArray)⟩ : V), (⟨2, 0, (⟨#[97]⟩ : ByteArray)⟩ : V), (⟨1, 1, (⟨#[97]⟩ : ByteArray)⟩ : V)])[(Int.tmod ((u4_6 : Nat) : Int) 5).toNat]?) fun x78 =>
  bindO (m_ropewalklaw10_PatternNumbers_C6 N u2_4 x56 x61 x72 x78
  ) fun j_6_115 =>
  if j_6_115 = true then (
   some (.inr (.inr (.inr (.inr (.inr (.inr false))))))
  ) else (
   gd (u4_6 + 1 ≤ 9223372036854775807) <|
   some (.inl (u4_6 + 1))
  )
 ) else (
  some (.inr (.inl ()))
 )
def m_ropewalklaw10_PatternNumbers_L3 (N : Nat) (u2_4 : Nat) : Nat → Option (Nat ⊕ (Unit ⊕ (Nat ⊕ (Unit ⊕ Bool)))) := fun u3_5 =>
 if (decide (u3_5 < ([-9223372036854775808, -1, 0, 1, 2, 16, 17, 9223372036854775807].length))) = true then (
  bindS (
   iter (m_ropewalklaw10_PatternNumbers_L4 N u3_5 u2_4) N 0
  ) fun _ =>
  gd (u3_5 + 1 ≤ 9223372036854775807) <|
  some (.inl (u3_5 + 1))
 ) else (
  some (.inr (.inl ()))
 )
def m_ropewalklaw10_PatternNumbers_L2 (N : Nat) : Nat → Option (Nat ⊕ (Unit ⊕ Bool)) := fun u2_4 =>
 if (decide (u2_4 < 6)) = true then (
  bindS (
   iter (m_ropewalklaw10_PatternNumbers_L3 N u2_4) N 0
  ) fun _ =>
  gd (u2_4 + 1 ≤ 9223372036854775807) <|
  some (.inl (u2_4 + 1))
 ) else (
  some (.inr (.inl ()))
 )
def m_ropewalklaw10_PatternNumbers_C8 (N : Nat) (u5_12 : Nat) : Option (Bool) :=
 bindO (m_ropewalklaw10_PatternMatches N (IntKind.wrap .u8 ((u5_12 : Nat) : Int)) 0 [(⟨1, 0, (⟨0, 0, (⟨#[]⟩ : ByteArray)⟩ : V)⟩ : ArgD)] 0 0 0 (⟨#[]⟩ : ByteArray) 0 0 ([] : List Api_ExprD) 0 0 [(⟨1, 1, (⟨#[]⟩ : ByteArray)⟩ : V)] ([] : List Bool) ([] : List V)) fun v130 =>
 if (!v130) = true then (
  some true
 ) else (
  bindO (m_ropewalklaw10_PatternMatches N (IntKind.wrap .u8 ((u5_12 : Nat) : Int)) 0 [(⟨1, 0, (⟨0, 0, (⟨#[]⟩ : ByteArray)⟩ : V)⟩ : ArgD)] 0 0 0 (⟨#[]⟩ : ByteArray) 0 0 ([] : List Api_ExprD) 0 0 ([] : List V) ([] : List Bool) ([] : List V)) fun v138 =>
  if (!v138) = true then (
   some true
  ) else (
   bindO (m_ropewalklaw10_PatternMatches N (IntKind.wrap .u8 ((u5_12 : Nat) : Int)) 1 [(⟨1, 0, (⟨0, 0, (⟨#[]⟩ : ByteArray)⟩ : V)⟩ : ArgD)] 0 0 0 (⟨#[]⟩ : ByteArray) 0 0 ([] : List Api_ExprD) 0 0 [(⟨1, 1, (⟨#[]⟩ : ByteArray)⟩ : V)] ([] : List Bool) ([] : List V)) fun v148 =>
   some (!v148)
  )
 )
def m_ropewalklaw10_PatternNumbers_L5 (N : Nat) : Nat → Option (Nat ⊕ (Unit ⊕ Bool)) := fun u5_12 =>
 if (decide (u5_12 < 5)) = true then (
  bindO (m_ropewalklaw10_PatternNumbers_C8 N u5_12
  ) fun j_8_150 =>
  if j_8_150 = true then (
   some (.inr (.inr false))
  ) else (
   gd (u5_12 + 1 ≤ 9223372036854775807) <|
   some (.inl (u5_12 + 1))
  )
 ) else (
  some (.inr (.inl ()))
 )
def m_ropewalklaw10_PatternNumbers (N : Nat) : Option (Bool) :=
 bindS (
  iter (m_ropewalklaw10_PatternNumbers_L1 N) N 0
 ) fun _ =>
 bindO (m_ropewalklaw10_num N 1) fun _ =>
 bindO (m_ropewalklaw10_num N 2) fun _ =>
 bindS (
  iter (m_ropewalklaw10_PatternNumbers_L2 N) N 0
 ) fun _ =>
 bindO (m_ropewalklaw10_num N 1) fun _ =>
 bindS (
  iter (m_ropewalklaw10_PatternNumbers_L5 N) N 0
 ) fun _ =>
 bindO (m_ropewalklaw10_PatternMatches N 1 0 ([] : List ArgD) 0 0 0 (⟨#[]⟩ : ByteArray) 0 0 ([] : List Api_ExprD) 0 0 ([] : List V) ([] : List Bool) ([] : List V)) fun v153 =>
 if v153 = true then (
  bindO (m_ropewalklaw10_PatternSome N 2 0 ([] : List ArgD) 0 0 0 (⟨#[]⟩ : ByteArray) 0 0 ([] : List Api_ExprD) ([] : List Bool) ([] : List V) ([] : List FactD)) fun v156 =>
  if v156 = true then (
   bindO (m_ropewalklaw10_awake N) fun v159 =>
   some v159
  ) else (
   some false
  )
 ) else (
  some false
 )
end Go.Proofs.YtalbennlmcpnmaaGreat
