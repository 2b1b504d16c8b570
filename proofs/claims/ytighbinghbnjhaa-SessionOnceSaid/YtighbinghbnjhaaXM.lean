/- Models, printed by a program out of the loaded code. -/
import Derived.Test.YtighbinghbnjhaaXT
namespace Go.Proofs.Ytighbinghbnjhaa
open Go.RowKit
def m_session_New (N : Nat) : Option (Unit) :=
 some ()
def m_session_Table_known (N : Nat) (l4 : List SessD) (a5 : Int) : Option (Unit) :=
 some ()
def m_session_Table_Open (N : Nat) (l4 : List SessD) (a5 : Int) : Option (Int × Nat × (List SessD) × Int) :=
 bindO (m_session_Table_known N l4 a5) fun _ =>
 if (!(decide (a5 > 0))) = true then (
  some (0, 1, l4, a5)
 ) else (
  bindO (
   if (decide (32 ≤ l4.length)) = true then (
    some true
   ) else (
    some (decide (a5 > 1099511627776))
   )
  ) fun j_1_8 =>
  if j_1_8 = true then (
   some (0, 5, l4, a5)
  ) else (
   gd (l4.length + ([(⟨a5, 0, (⟨0, 0, [], []⟩ : ReplyD)⟩ : SessD)]).length ≤ 68719476736) <|
   gd (-9223372036854775808 ≤ a5 + 1 ∧ a5 + 1 ≤ 9223372036854775807) <|
   gd (-9223372036854775808 ≤ (a5 + 1) - 1 ∧ (a5 + 1) - 1 ≤ 9223372036854775807) <|
   some ((a5 + 1) - 1, 0, l4 ++ ([(⟨a5, 0, (⟨0, 0, [], []⟩ : ReplyD)⟩ : SessD)]), a5 + 1)
  )
 )
def m_session_row_find_1 (N : Nat) (a0 : Int) (a1 : Int) (a2 : Int) (a3 : Int) (l6 : List FactD) (l9 : List V) (a11 : Int) : Option (Unit) :=
 some ()
def m_slices_IndexFunc_Session_L1 (N : Nat) (l3 : List SessD) (a5 : Int) : Nat → Option (Nat ⊕ (Unit ⊕ Int)) := fun u1_8 =>
 if (decide (u1_8 < l3.length)) = true then (
  bindO (l3[u1_8]?) fun x14 =>
  bindO (m_session_row_find_1 N x14.id x14.seq x14.r.err x14.r.num x14.r.facts x14.r.said a5) fun _ =>
  if (x14.id == a5) = true then (
   some (.inr (.inr ((u1_8 : Nat) : Int)))
  ) else (
   gd (u1_8 + 1 ≤ 9223372036854775807) <|
   some (.inl (u1_8 + 1))
  )
 ) else (
  some (.inr (.inl ()))
 )
def m_slices_IndexFunc_Session (N : Nat) (l3 : List SessD) (a5 : Int) : Option (Int) :=
 bindS (
  iter (m_slices_IndexFunc_Session_L1 N l3 a5) N 0
 ) fun _ =>
 some (-1)
def m_session_row_find (N : Nat) (l4 : List SessD) (a5 : Int) (a6 : Int) : Option (Int) :=
 bindO (m_slices_IndexFunc_Session N l4 a6) fun v10 =>
 some v10
def m_session_Table_at (N : Nat) (l4 : List SessD) (a5 : Int) (a6 : Int) : Option (Int × Nat) :=
 bindO (m_session_Table_known N l4 a5) fun _ =>
 if (!(decide (a5 > 0))) = true then (
  some (0, 1)
 ) else (
  bindO (m_session_row_find N l4 a5 a6) fun v14 =>
  if (decide (v14 < 0)) = true then (
   some (0, 303)
  ) else (
   some (v14, 0)
  )
 )


def m_session_own_L1 (N : Nat) (l4 : List FactD) : (Nat × (List FactD)) → Option ((Nat × (List FactD)) ⊕ (List FactD)) := fun (u1_15, u1_1_f2_l) =>
 if (decide (u1_15 < l4.length)) = true then (
  bindO (u1_1_f2_l[u1_15]?) fun x24 =>
  gd (x24.args.length ≤ 68719476736) <|
  bindO (u1_1_f2_l[u1_15]?) fun x28 =>
  gd (u1_15 + 1 ≤ 9223372036854775807) <|
  some (.inl (u1_15 + 1, u1_1_f2_l.set u1_15 (⟨x28.id, x28.ty, x24.args⟩ : FactD)))
 ) else (
  some (.inr u1_1_f2_l)
 )
def m_session_own (N : Nat) (a0 : Int) (a1 : Int) (l4 : List FactD) (l7 : List V) : Option (List FactD) :=
 gd (l7.length ≤ 68719476736) <|
 gd (l4.length ≤ 68719476736) <|
 bindO (
  iter (m_session_own_L1 N l4) N (0, l4)
 ) fun j_1_1_f2_l =>
 some j_1_1_f2_l
def m_session_Table_Ask (N : Nat) (l4 : List SessD) (a5 : Int) (a6 : Int) (a7 : Int) : Option (Int × Int × (List FactD) × (List V) × Bool × Nat) :=
 bindO (m_session_Table_at N l4 a5 a6) fun (v14_0, v14_1) =>
 if (v14_1 != 0) = true then (
  some (0, 0, [], [], false, v14_1)
 ) else (
  gd (0 ≤ v14_0) <|
  bindO (l4[v14_0.toNat]?) fun x27 =>
  bindO (
   if (decide (a7 < 1)) = true then (
    some true
   ) else (
    some (decide (a7 < x27.seq))
   )
  ) fun j_1_29 =>
  if j_1_29 = true then (
   some (0, 0, [], [], false, 304)
  ) else (
   if (a7 == x27.seq) = true then (
    bindO (m_session_own N x27.r.err x27.r.num x27.r.facts x27.r.said) fun v46 =>
    some (x27.r.err, x27.r.num, v46, x27.r.said, true, 0)
   ) else (
    some (0, 0, [], [], false, 0)
   )
  )
 )
def m_session_Table_Done (N : Nat) (l4 : List SessD) (a5 : Int) (a6 : Int) (a7 : Int) (a8 : Int) (a9 : Int) (l12 : List FactD) (l15 : List V) : Option (Nat × (List SessD)) :=
 bindO (m_session_Table_at N l4 a5 a6) fun (v14_0, v14_1) =>
 if (v14_1 != 0) = true then (
  some (v14_1, l4)
 ) else (
  bindO (
   if (decide (a7 < 1)) = true then (
    some true
   ) else (
    gd (0 ≤ v14_0) <|
    bindO (l4[v14_0.toNat]?) fun x32 =>
    some (decide (a7 ≤ x32.seq))
   )
  ) fun j_1_21 =>
  if j_1_21 = true then (
   some (304, l4)
  ) else (
   bindO (m_session_own N a8 a9 l12 l15) fun v51 =>
   gd (0 ≤ v14_0) <|
   bindO (l4[v14_0.toNat]?) fun x52 =>
   gd (0 ≤ v14_0) <|
   bindO ((l4.set v14_0.toNat (⟨x52.id, a7, x52.r⟩ : SessD))[v14_0.toNat]?) fun x54 =>
   some (0, (l4.set v14_0.toNat (⟨x52.id, a7, x52.r⟩ : SessD)).set v14_0.toNat (⟨x54.id, x54.seq, (⟨a8, a9, v51, l15⟩ : ReplyD)⟩ : SessD))
  )
 )

def m_session_Table_Expire (N : Nat) (l4 : List SessD) (a5 : Int) (a6 : Int) : Option (Nat × (List SessD)) :=
 bindO (m_session_Table_at N l4 a5 a6) fun (v10_0, v10_1) =>
 bindO (
  if (v10_1 == 0) = true then (
   gd (-9223372036854775808 ≤ v10_0 + 1 ∧ v10_0 + 1 ≤ 9223372036854775807) <|
   gd (0 ≤ v10_0) <|
   gd (v10_0.toNat < l4.length) <|
   some (l4.take v10_0.toNat ++ l4.drop (v10_0.toNat + 1))
  ) else (
   some l4
  )
 ) fun j_1_r0_f0_l =>
 some (v10_1, j_1_r0_f0_l)
def m_ropewalklaw27_awake_C1 (N : Nat) (v24_0 : Int) (v24_1 : Nat) (v29_4 : Bool) (v29_5 : Nat) (v35_0 : Nat) (v38_1 : Int) (v38_4 : Bool) (v38_5 : Nat) (v44_5 : Nat) (v50_5 : Nat) (v56_0 : Nat) (v58_0 : Nat) (v61_0 : Int) (v61_1 : Nat) : Option (Bool) :=
 if (v24_0 == 1) = true then (
  if (v24_1 == 0) = true then (
   if (!v29_4) = true then (
    if (v29_5 == 0) = true then (
     if (v35_0 == 0) = true then (
      if (v38_1 == 9) = true then (
       if v38_4 = true then (
        if (v38_5 == 0) = true then (
         if (v44_5 == 304) = true then (
          if (v50_5 == 303) = true then (
           if (v56_0 == 304) = true then (
            if (v58_0 == 0) = true then (
             if (v61_0 == 2) = true then (
              some (v61_1 == 0)
             ) else (
              some false
             )
            ) else (
             some false
            )
           ) else (
            some false
           )
          ) else (
           some false
          )
         ) else (
          some false
         )
        ) else (
         some false
        )
       ) else (
        some false
       )
      ) else (
       some false
      )
     ) else (
      some false
     )
    ) else (
     some false
    )
   ) else (
    some false
   )
  ) else (
   some false
  )
 ) else (
  some false
 )
def m_ropewalklaw27_awake (N : Nat) : Option (Bool) :=
 bindO (m_session_New N) fun _ =>
 bindO (m_session_Table_Open N [] 1) fun (v24_0, v24_1, v24_2, v24_3) =>
 bindO (m_session_Table_Ask N v24_2 v24_3 1 4) fun (v29_0, v29_1, v29_2, v29_3, v29_4, v29_5) =>
 bindO (m_session_Table_Done N v24_2 v24_3 1 4 0 9 ([] : List FactD) ([] : List V)) fun (v35_0, v35_1) =>
 bindO (m_session_Table_Ask N v35_1 v24_3 1 4) fun (v38_0, v38_1, v38_2, v38_3, v38_4, v38_5) =>
 bindO (m_session_Table_Ask N v35_1 v24_3 1 3) fun (v44_0, v44_1, v44_2, v44_3, v44_4, v44_5) =>
 bindO (m_session_Table_Ask N v35_1 v24_3 2 1) fun (v50_0, v50_1, v50_2, v50_3, v50_4, v50_5) =>
 bindO (m_session_Table_Done N v35_1 v24_3 1 4 0 0 ([] : List FactD) ([] : List V)) fun (v56_0, v56_1) =>
 bindO (m_session_Table_Expire N v56_1 v24_3 1) fun (v58_0, v58_1) =>
 bindO (m_session_Table_Open N v58_1 v24_3) fun (v61_0, v61_1, v61_2, v61_3) =>
 bindO (m_ropewalklaw27_awake_C1 N v24_0 v24_1 v29_4 v29_5 v35_0 v38_1 v38_4 v38_5 v44_5 v50_5 v56_0 v58_0 v61_0 v61_1
 ) fun j_1_0 =>
 some j_1_0
def m_ropewalkkit_Pick (N : Nat) (a0 : Int) (a1 : Int) : Option (Int) :=
 if (decide (a1 < 1)) = true then (
  some 0
 ) else (
  gd (a1 ≠ 0) <|
  bindO (
   if (decide ((Int.tmod a0 a1) < 0)) = true then (
    gd (-9223372036854775808 ≤ (Int.tmod a0 a1) + a1 ∧ (Int.tmod a0 a1) + a1 ≤ 9223372036854775807) <|
    some ((Int.tmod a0 a1) + a1)
   ) else (
    some (Int.tmod a0 a1)
   )
  ) fun j_1_0 =>
  some j_1_0
 )

def m_session_all_L1 (N : Nat) (l3 : List SessD) : (Nat × (List SessD)) → Option ((Nat × (List SessD)) ⊕ (List SessD)) := fun (u1_9, u1_3_l) =>
 if (decide (u1_9 < l3.length)) = true then (
  bindO (u1_3_l[u1_9]?) fun x16 =>
  bindO (m_session_own N x16.r.err x16.r.num x16.r.facts x16.r.said) fun v19 =>
  bindO (u1_3_l[u1_9]?) fun x20 =>
  gd (u1_9 + 1 ≤ 9223372036854775807) <|
  some (.inl (u1_9 + 1, u1_3_l.set u1_9 (⟨x20.id, x20.seq, (⟨x16.r.err, x16.r.num, v19, x16.r.said⟩ : ReplyD)⟩ : SessD)))
 ) else (
  some (.inr u1_3_l)
 )
def m_session_all (N : Nat) (l3 : List SessD) : Option (List SessD) :=
 gd (l3.length ≤ 68719476736) <|
 bindO (
  iter (m_session_all_L1 N l3) N (0, l3)
 ) fun j_1_3_l =>
 some j_1_3_l
def m_session_Table_All (N : Nat) (l4 : List SessD) (a5 : Int) : Option (List SessD) :=
 bindO (m_session_Table_known N l4 a5) fun _ =>
 if (!(decide (a5 > 0))) = true then (
  some []
 ) else (
  bindO (m_session_all N l4) fun v11 =>
  some v11
 )
def m_ropewalklaw27_SessionOnce_C4 (N : Nat) (u1_5_l : List Int) (x33 : Ropewalklaw27_DoD) (u1_3_f0_l : List SessD) (u1_3_f1 : Int) : Option (((List Int) × (List SessD) × Int) ⊕ (((List Int) × Nat × ((Int × Int) → Option Int) × (List SessD) × Int) ⊕ ((Nat × (List Int) × Nat × ((Int × Int) → Option Int) × (List SessD) × Int) ⊕ (Unit ⊕ Bool)))) :=
 bindO (
  if (u1_5_l.length == 0) = true then (
   some true
  ) else (
   bindO (m_ropewalkkit_Pick N x33.op 8) fun v41 =>
   some (v41 == 0)
  )
 ) fun j_5_43 =>
 if j_5_43 = true then (
  bindO (m_session_Table_Open N u1_3_f0_l u1_3_f1) fun (v46_0, v46_1, v46_2, v46_3) =>
  if (v46_1 != 0) = true then (
   if (v46_1 == 5) = true then (
    bindO (m_session_Table_All N v46_2 v46_3) fun v55 =>
    some (.inr (.inr (.inr (.inr (v55.length == 32)))))
   ) else (
    some (.inr (.inr (.inr (.inr false))))
   )
  ) else (
   bindO (
    if (decide (0 < u1_5_l.length)) = true then (
     gd (-9223372036854775808 ≤ ((u1_5_l.length : Nat) : Int) - 1 ∧ ((u1_5_l.length : Nat) : Int) - 1 ≤ 9223372036854775807) <|
     gd (0 ≤ ((u1_5_l.length : Nat) : Int) - 1) <|
     bindO (u1_5_l[(((u1_5_l.length : Nat) : Int) - 1).toNat]?) fun x68 =>
     some (decide (v46_0 ≤ x68))
    ) else (
     some false
    )
   ) fun j_6_71 =>
   if j_6_71 = true then (
    some (.inr (.inr (.inr (.inr false))))
   ) else (
    gd (u1_5_l.length + [v46_0].length ≤ 68719476736) <|
    some (.inl (u1_5_l ++ [v46_0], v46_2, v46_3))
   )
  )
 ) else (
  some (.inl (u1_5_l, u1_3_f0_l, u1_3_f1))
 )
def m_ropewalklaw27_SessionOnce_C3 (N : Nat) (l2 : List Ropewalklaw27_DoD) (u1_6 : Nat) (u1_5_l : List Int) (u1_3_f0_l : List SessD) (u1_3_f1 : Int) (u1_4_m : (Int × Int) → Option Int) (u1_4_n : Nat) : Option (((List Int) × Nat × ((Int × Int) → Option Int) × (List SessD) × Int) ⊕ ((Nat × (List Int) × Nat × ((Int × Int) → Option Int) × (List SessD) × Int) ⊕ (Unit ⊕ Bool))) :=
 bindO (l2[u1_6]?) fun x33 =>
 bindS (m_ropewalklaw27_SessionOnce_C4 N u1_5_l x33 u1_3_f0_l u1_3_f1
 ) fun (j_4_5_l, j_4_3_f0_l, j_4_3_f1) =>
 bindO (m_ropewalkkit_Pick N x33.id ((j_4_5_l.length : Nat) : Int)) fun v81 =>
 gd (0 ≤ v81) <|
 bindO (j_4_5_l[v81.toNat]?) fun x82 =>
 bindO (m_ropewalkkit_Pick N x33.seq 12) fun v86 =>
 gd (-9223372036854775808 ≤ 1 + v86 ∧ 1 + v86 ≤ 9223372036854775807) <|
 bindO (
  bindO (m_ropewalkkit_Pick N x33.op 30) fun v90 =>
  if (v90 == 1) = true then (
   bindO (m_session_Table_Expire N j_4_3_f0_l j_4_3_f1 x82) fun (v94_0, v94_1) =>
   some v94_1
  ) else (
   some j_4_3_f0_l
  )
 ) fun j_7_3_f0_l =>
 bindO (m_session_Table_Ask N j_7_3_f0_l j_4_3_f1 x82 (1 + v86)) fun (v99_0, v99_1, v99_2, v99_3, v99_4, v99_5) =>
 gd (-9223372036854775808 ≤ x82 ∧ x82 ≤ 9223372036854775807) <|
 gd (-9223372036854775808 ≤ (1 + v86) ∧ (1 + v86) ≤ 9223372036854775807) <|
 if v99_4 = true then (
  bindO (
   if (v99_5 != 0) = true then (
    some true
   ) else (
    if (!((u1_4_m (x82, 1 + v86)).isSome)) = true then (
     some true
    ) else (
     some (v99_1 != ((u1_4_m (x82, 1 + v86)).getD 0))
    )
   )
  ) fun j_8_124 =>
  if j_8_124 = true then (
   some (.inr (.inr (.inr false)))
  ) else (
   some (.inl (j_4_5_l, u1_4_n, u1_4_m, j_7_3_f0_l, j_4_3_f1))
  )
 ) else (
  if (v99_5 == 0) = true then (
   bindO (
    if ((u1_4_m (x82, 1 + v86)).isSome) = true then (
     some (j_7_3_f0_l, true)
    ) else (
     gd (u1_6 + 1 ≤ 9223372036854775807) <|
     bindO (m_session_Table_Done N j_7_3_f0_l j_4_3_f1 x82 (1 + v86) 0 ((u1_6 + 1 : Nat) : Int) ([] : List FactD) ([] : List V)) fun (v136_0, v136_1) =>
     some (v136_1, v136_0 != 0)
    )
   ) fun (j_9_3_f0_l, j_9_138) =>
   if j_9_138 = true then (
    some (.inr (.inr (.inr false)))
   ) else (
    gd (u1_6 + 1 ≤ 9223372036854775807) <|
    gd (-9223372036854775808 ≤ x82 ∧ x82 ≤ 9223372036854775807) <|
    gd (-9223372036854775808 ≤ (1 + v86) ∧ (1 + v86) ≤ 9223372036854775807) <|
    gd (u1_4_n < 9223372036854775807) <|
    gd (-9223372036854775808 ≤ ((u1_6 + 1 : Nat) : Int) ∧ ((u1_6 + 1 : Nat) : Int) ≤ 9223372036854775807) <|
    some (.inl (j_4_5_l, u1_4_n + 1, fun q => if q = (x82, 1 + v86) then some ((u1_6 + 1 : Nat) : Int) else u1_4_m q, j_9_3_f0_l, j_4_3_f1))
   )
  ) else (
   bindO (
    if (v99_5 != 304) = true then (
     some (v99_5 != 303)
    ) else (
     some false
    )
   ) fun j_10_145 =>
   if j_10_145 = true then (
    some (.inr (.inr (.inr false)))
   ) else (
    some (.inl (j_4_5_l, u1_4_n, u1_4_m, j_7_3_f0_l, j_4_3_f1))
   )
  )
 )
def m_ropewalklaw27_SessionOnce_L1 (N : Nat) (l2 : List Ropewalklaw27_DoD) : (Nat × (List Int) × Nat × ((Int × Int) → Option Int) × (List SessD) × Int) → Option ((Nat × (List Int) × Nat × ((Int × Int) → Option Int) × (List SessD) × Int) ⊕ (Unit ⊕ Bool)) := fun (u1_6, u1_5_l, u1_4_n, u1_4_m, u1_3_f0_l, u1_3_f1) =>
 bindO (
  if (decide (u1_6 < l2.length)) = true then (
   some (decide (u1_6 < 120))
  ) else (
   some false
  )
 ) fun j_2_28 =>
 if j_2_28 = true then (
  bindS (m_ropewalklaw27_SessionOnce_C3 N l2 u1_6 u1_5_l u1_3_f0_l u1_3_f1 u1_4_m u1_4_n
  ) fun (j_3_5_l, j_3_4_n, j_3_4_m, j_3_3_f0_l, j_3_3_f1) =>
  gd (u1_6 + 1 ≤ 9223372036854775807) <|
  some (.inl (u1_6 + 1, j_3_5_l, j_3_4_n, j_3_4_m, j_3_3_f0_l, j_3_3_f1))
 ) else (
  some (.inr (.inl ()))
 )
def m_ropewalklaw27_SessionOnce (N : Nat) (l2 : List Ropewalklaw27_DoD) : Option (Bool) :=
 bindO (m_ropewalklaw27_awake N) fun v17 =>
 if (!v17) = true then (
  some false
 ) else (
  bindO (m_session_New N) fun _ =>
  bindS (
   iter (m_ropewalklaw27_SessionOnce_L1 N l2) N (0, [], 0, fun _ => none, [], 1)
  ) fun _ =>
  some true
 )
end Go.Proofs.Ytighbinghbnjhaa
