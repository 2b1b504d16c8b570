/- Models, printed by a program out of the loaded code. -/
import Derived.Test.YtighbinghbnjhaaXT
namespace Go.Proofs.Ytighbinghbnjhaa
open Go.RowKit
def m_session_New (N : Nat) : Option (Unit) :=
 some ()
def m_session_Table_known (N : Nat) (l4 : List SessD) (a5 : Int) : Option (Unit) :=
 some ()
def m_session_Table_Open (N : Nat) (l4 : List SessD) (a5 : Int) : Option (Int × Nat × (List SessD) × Int) :=
 bindO (m_session_Table_known N l4 a5) fun _ =>
 if (!(decide (a5 > 0))) = true then (
  some (0, 1, l4, a5)
 ) else (
  bindO (
   if (decide (32 ≤ l4.length)) = true then (
    some true
   ) else (
    some (decide (a5 > 1099511627776))
   )
  ) fun j_1_8 =>
  if j_1_8 = true then (
   some (0, 5, l4, a5)
  ) else (
   gd (l4.length + ([(⟨a5, 0, (⟨0, 0, [], []⟩ : ReplyD)⟩ : SessD)]).length ≤ 1759218604441) <|
   gd (-9223372036854775808 ≤ a5 + 1 ∧ a5 + 1 ≤ 9223372036854775807) <|
   gd (-9223372036854775808 ≤ (a5 + 1) - 1 ∧ (a5 + 1) - 1 ≤ 9223372036854775807) <|
   some ((a5 + 1) - 1, 0, l4 ++ ([(⟨a5, 0, (⟨0, 0, [], []⟩ : ReplyD)⟩ : SessD)]), a5 + 1)
  )
 )
def m_session_row_find_1 (N : Nat) (a0 : Int) (a1 : Int) (a2 : Int) (a3 : Int) (l6 : List FactD) (l9 : List V) (a11 : Int) : Option (Unit) :=
 some ()
def m_slices_IndexFunc_Session_L1 (N : Nat) (l3 : List SessD) (a5 : Int) : Nat → Option (Nat ⊕ (Unit ⊕ Int)) := fun u1_8 =>
 if (decide (u1_8 < l3.length)) = true then (
  bindO (l3[u1_8]?) fun x14 =>
  bindO (m_session_row_find_1 N x14.id x14.seq x14.r.err x14.r.num x14.r.facts x14.r.said a5) fun _ =>
  if (x14.id == a5) = true then (
   some (.inr (.inr ((u1_8 : Nat) : Int)))
  ) else (
   gd (u1_8 + 1 ≤ 9223372036854775807) <|
   some (.inl (u1_8 + 1))
  )
 ) else (
  some (.inr (.inl ()))
 )
def m_slices_IndexFunc_Session (N : Nat) (l3 : List SessD) (a5 : Int) : Option (Int) :=
 bindS (
  iter (m_slices_IndexFunc_Session_L1 N l3 a5) N 0
 ) fun _ =>
 some (-1)
def m_session_row_find (N : Nat) (l4 : List SessD) (a5 : Int) (a6 : Int) : Option (Int) :=
 bindO (m_slices_IndexFunc_Session N l4 a6) fun v10 =>
 some v10
def m_session_Table_at (N : Nat) (l4 : List SessD) (a5 : Int) (a6 : Int) : Option (Int × Nat) :=
 bindO (m_session_Table_known N l4 a5) fun _ =>
 if (!(decide (a5 > 0))) = true then (
  some (0, 1)
 ) else (
  bindO (m_session_row_find N l4 a5 a6) fun v14 =>
  if (decide (v14 < 0)) = true then (
   some (0, 303)
  ) else (
   some (v14, 0)
  )
 )


def m_session_own_L1 (N : Nat) (l4 : List FactD) : (Nat × (List FactD)) → Option ((Nat × (List FactD)) ⊕ (List FactD)) := fun (u1_15, u1_1_f2_l) =>
 if (decide (u1_15 < l4.length)) = true then (
  bindO (u1_1_f2_l[u1_15]?) fun x24 =>
  gd (x24.args.length ≤ 4398046511104) <|
  bindO (u1_1_f2_l[u1_15]?) fun x28 =>
  gd (u1_15 + 1 ≤ 9223372036854775807) <|
  some (.inl (u1_15 + 1, u1_1_f2_l.set u1_15 (⟨x28.id, x28.ty, x24.args⟩ : FactD)))
 ) else (
  some (.inr u1_1_f2_l)
 )
def m_session_own (N : Nat) (a0 : Int) (a1 : Int) (l4 : List FactD) (l7 : List V) : Option (List FactD) :=
 gd (l7.length ≤ 4398046511104) <|
 gd (l4.length ≤ 3518437208883) <|
 bindO (
  iter (m_session_own_L1 N l4) N (0, l4)
 ) fun j_1_1_f2_l =>
 some j_1_1_f2_l
def m_session_Table_Ask (N : Nat) (l4 : List SessD) (a5 : Int) (a6 : Int) (a7 : Int) : Option (Int × Int × (List FactD) × (List V) × Bool × Nat) :=
 bindO (m_session_Table_at N l4 a5 a6) fun (v14_0, v14_1) =>
 if (v14_1 != 0) = true then (
  some (0, 0, [], [], false, v14_1)
 ) else (
  gd (0 ≤ v14_0) <|
  bindO (l4[v14_0.toNat]?) fun x27 =>
  bindO (
   if (decide (a7 < 1)) = true then (
    some true
   ) else (
    some (decide (a7 < x27.seq))
   )
  ) fun j_1_29 =>
  if j_1_29 = true then (
   some (0, 0, [], [], false, 304)
  ) else (
   if (a7 == x27.seq) = true then (
    bindO (m_session_own N x27.r.err x27.r.num x27.r.facts x27.r.said) fun v46 =>
    some (x27.r.err, x27.r.num, v46, x27.r.said, true, 0)
   ) else (
    some (0, 0, [], [], false, 0)
   )
  )
 )
def m_session_Table_Done (N : Nat) (l4 : List SessD) (a5 : Int) (a6 : Int) (a7 : Int) (a8 : Int) (a9 : Int) (l12 : List FactD) (l15 : List V) : Option (Nat × (List SessD)) :=
 bindO (m_session_Table_at N l4 a5 a6) fun (v14_0, v14_1) =>
 if (v14_1 != 0) = true then (
  some (v14_1, l4)
 ) else (
  bindO (
   if (decide (a7 < 1)) = true then (
    some true
   ) else (
    gd (0 ≤ v14_0) <|
    bindO (l4[v14_0.toNat]?) fun x32 =>
    some (decide (a7 ≤ x32.seq))
   )
  ) fun j_1_21 =>
  if j_1_21 = true then (
   some (304, l4)
  ) else (
   bindO (m_session_own N a8 a9 l12 l15) fun v51 =>
   gd (0 ≤ v14_0) <|
   bindO (l4[v14_0.toNat]?) fun x52 =>
   gd (0 ≤ v14_0) <|
   bindO ((l4.set v14_0.toNat (⟨x52.id, a7, x52.r⟩ : SessD))[v14_0.toNat]?) fun x54 =>
   some (0, (l4.set v14_0.toNat (⟨x52.id, a7, x52.r⟩ : SessD)).set v14_0.toNat (⟨x54.id, x54.seq, (⟨a8, a9, v51, l15⟩ : ReplyD)⟩ : SessD))
  )
 )

def m_session_Table_Expire (N : Nat) (l4 : List SessD) (a5 : Int) (a6 : Int) : Option (Nat × (List SessD)) :=
 bindO (m_session_Table_at N l4 a5 a6) fun (v10_0, v10_1) =>
 bindO (
  if (v10_1 == 0) = true then (
   gd (-9223372036854775808 ≤ v10_0 + 1 ∧ v10_0 + 1 ≤ 9223372036854775807) <|
   gd (0 ≤ v10_0) <|
   gd (v10_0.toNat < l4.length) <|
   some (l4.take v10_0.toNat ++ l4.drop (v10_0.toNat + 1))
  ) else (
   some l4
  )
 ) fun j_1_r0_f0_l =>
 some (v10_1, j_1_r0_f0_l)
def m_ropewalklaw27_awake_C1 (N : Nat) (v24_0 : Int) (v24_1 : Nat) (v29_4 : Bool) (v29_5 : Nat) (v35_0 : Nat) (v38_1 : Int) (v38_4 : Bool) (v38_5 : Nat) (v44_5 : Nat) (v50_5 : Nat) (v56_0 : Nat) (v58_0 : Nat) (v61_0 : Int) (v61_1 : Nat) : Option (Bool) :=
 if (v24_0 == 1) = true then (
  if (v24_1 == 0) = true then (
   if (!v29_4) = true then (
    if (v29_5 == 0) = true then (
     if (v35_0 == 0) = true then (
      if (v38_1 == 9) = true then (
       if v38_4 = true then (
        if (v38_5 == 0) = true then (
         if (v44_5 == 304) = true then (
          if (v50_5 == 303) = true then (
           if (v56_0 == 304) = true then (
            if (v58_0 == 0) = true then (
             if (v61_0 == 2) = true then (
              some (v61_1 == 0)
             ) else (
              some false
             )
            ) else (
             some false
            )
           ) else (
            some false
           )
          ) else (
           some false
          )
         ) else (
          some false
         )
        ) else (
         some false
        )
       ) else (
        some false
       )
      ) else (
       some false
      )
     ) else (
      some false
     )
    ) else (
     some false
    )
   ) else (
    some false
   )
  ) else (
   some false
  )
 ) else (
  some false
 )
def m_ropewalklaw27_awake (N : Nat) : Option (Bool) :=
 bindO (m_session_New N) fun _ =>
 bindO (m_session_Table_Open N [] 1) fun (v24_0, v24_1, v24_2, v24_3) =>
 bindO (m_session_Table_Ask N v24_2 v24_3 1 4) fun (v29_0, v29_1, v29_2, v29_3, v29_4, v29_5) =>
 bindO (m_session_Table_Done N v24_2 v24_3 1 4 0 9 ([] : List FactD) ([] : List V)) fun (v35_0, v35_1) =>
 bindO (m_session_Table_Ask N v35_1 v24_3 1 4) fun (v38_0, v38_1, v38_2, v38_3, v38_4, v38_5) =>
 bindO (m_session_Table_Ask N v35_1 v24_3 1 3) fun (v44_0, v44_1, v44_2, v44_3, v44_4, v44_5) =>
 bindO (m_session_Table_Ask N v35_1 v24_3 2 1) fun (v50_0, v50_1, v50_2, v50_3, v50_4, v50_5) =>
 bindO (m_session_Table_Done N v35_1 v24_3 1 4 0 0 ([] : List FactD) ([] : List V)) fun (v56_0, v56_1) =>
 bindO (m_session_Table_Expire N v56_1 v24_3 1) fun (v58_0, v58_1) =>
 bindO (m_session_Table_Open N v58_1 v24_3) fun (v61_0, v61_1, v61_2, v61_3) =>
 bindO (m_ropewalklaw27_awake_C1 N v24_0 v24_1 v29_4 v29_5 v35_0 v38_1 v38_4 v38_5 v44_5 v50_5 v56_0 v58_0 v61_0 v61_1
 ) fun j_1_0 =>
 some j_1_0
def m_ropewalklaw27_great_L1 (N : Nat) (l4 : List FactD) : (Nat × Nat) → Option ((Nat × Nat) ⊕ Nat) := fun (u1_4, u1_3) =>
 bindO (
  if (decide (u1_4 < l4.length)) = true then (
   some (decide (u1_3 ≤ 200))
  ) else (
   some false
  )
 ) fun j_2_20 =>
 if j_2_20 = true then (
  bindO (l4[u1_4]?) fun x27 =>
  gd (u1_3 + x27.args.length ≤ 9223372036854775807) <|
  gd (u1_4 + 1 ≤ 9223372036854775807) <|
  some (.inl (u1_4 + 1, u1_3 + x27.args.length))
 ) else (
  some (.inr u1_3)
 )
def m_ropewalklaw27_great (N : Nat) (a0 : Int) (a1 : Int) (l4 : List FactD) (l7 : List V) : Option (Bool) :=
 gd (l4.length + l7.length ≤ 9223372036854775807) <|
 bindO (
  iter (m_ropewalklaw27_great_L1 N l4) N (0, l4.length + l7.length)
 ) fun j_1_3 =>
 some (decide (200 < j_1_3))
def m_ropewalkkit_Pick (N : Nat) (a0 : Int) (a1 : Int) : Option (Int) :=
 if (decide (a1 < 1)) = true then (
  some 0
 ) else (
  gd (a1 ≠ 0) <|
  bindO (
   if (decide ((Int.tmod a0 a1) < 0)) = true then (
    gd (-9223372036854775808 ≤ (Int.tmod a0 a1) + a1 ∧ (Int.tmod a0 a1) + a1 ≤ 9223372036854775807) <|
    some ((Int.tmod a0 a1) + a1)
   ) else (
    some (Int.tmod a0 a1)
   )
  ) fun j_1_0 =>
  some j_1_0
 )
def m_ropewalklaw27_do (N : Nat) (l4 : List SessD) (a5 : Int) (a6 : Int) (a7 : Int) (a8 : Int) (a9 : Int) (a10 : Int) (l13 : List FactD) (l16 : List V) : Option (Nat × (List SessD) × Int) :=
 bindO (m_ropewalkkit_Pick N a6 4) fun v9 =>
 if (v9 == 0) = true then (
  bindO (m_session_Table_Open N l4 a5) fun (v14_0, v14_1, v14_2, v14_3) =>
  some (v14_1, v14_2, v14_3)
 ) else (
  if (v9 == 1) = true then (
   bindO (m_session_Table_Expire N l4 a5 a7) fun (v23_0, v23_1) =>
   some (v23_0, v23_1, a5)
  ) else (
   bindO (m_session_Table_Done N l4 a5 a7 a8 a9 a10 l13 l16) fun (v31_0, v31_1) =>
   some (v31_0, v31_1, a5)
  )
 )
def m_session_Table_Next (N : Nat) (l4 : List SessD) (a5 : Int) : Option (Int) :=
 bindO (m_session_Table_known N l4 a5) fun _ =>
 if (!(decide (a5 > 0))) = true then (
  some 0
 ) else (
  some a5
 )

def m_session_all_L1 (N : Nat) (l3 : List SessD) : (Nat × (List SessD)) → Option ((Nat × (List SessD)) ⊕ (List SessD)) := fun (u1_9, u1_3_l) =>
 if (decide (u1_9 < l3.length)) = true then (
  bindO (u1_3_l[u1_9]?) fun x16 =>
  bindO (m_session_own N x16.r.err x16.r.num x16.r.facts x16.r.said) fun v19 =>
  bindO (u1_3_l[u1_9]?) fun x20 =>
  gd (u1_9 + 1 ≤ 9223372036854775807) <|
  some (.inl (u1_9 + 1, u1_3_l.set u1_9 (⟨x20.id, x20.seq, (⟨x16.r.err, x16.r.num, v19, x16.r.said⟩ : ReplyD)⟩ : SessD)))
 ) else (
  some (.inr u1_3_l)
 )
def m_session_all (N : Nat) (l3 : List SessD) : Option (List SessD) :=
 gd (l3.length ≤ 1759218604441) <|
 bindO (
  iter (m_session_all_L1 N l3) N (0, l3)
 ) fun j_1_3_l =>
 some j_1_3_l
def m_session_Table_All (N : Nat) (l4 : List SessD) (a5 : Int) : Option (List SessD) :=
 bindO (m_session_Table_known N l4 a5) fun _ =>
 if (!(decide (a5 > 0))) = true then (
  some []
 ) else (
  bindO (m_session_all N l4) fun v11 =>
  some v11
 )
def m_session_Of_L1 (N : Nat) (l4 : List SessD) (a0 : Int) : (Nat × Int) → Option ((Nat × Int) ⊕ (Unit ⊕ (Unit ⊕ (List SessD)))) := fun (u1_22, u1_6) =>
 if (decide (u1_22 < l4.length)) = true then (
  bindO (l4[u1_22]?) fun x24 =>
  bindO (
   if (decide (x24.id ≤ u1_6)) = true then (
    some true
   ) else (
    if (decide (x24.id ≥ a0)) = true then (
     some true
    ) else (
     some (decide (x24.seq < 0))
    )
   )
  ) fun j_3_40 =>
  if j_3_40 = true then (
   some (.inr (.inr (.inl ())))
  ) else (
   gd (u1_22 + 1 ≤ 9223372036854775807) <|
   some (.inl (u1_22 + 1, x24.id))
  )
 ) else (
  some (.inr (.inl ()))
 )
def m_session_Of (N : Nat) (a0 : Int) (l4 : List SessD) : Option (Unit ⊕ (List SessD)) :=
 bindO (
  if (decide (a0 < 1)) = true then (
   some true
  ) else (
   if (decide (a0 > 1099511627777)) = true then (
    some true
   ) else (
    some (decide (32 < l4.length))
   )
  )
 ) fun j_1_19 =>
 if j_1_19 = true then (
  some (.inl ())
 ) else (
  bindS (
   iter (m_session_Of_L1 N l4 a0) N (0, 0)
  ) fun _ =>
  bindO (m_session_all N l4) fun v45 =>
  some (.inr v45)
 )
def m_session_Table_known_v2 (N : Nat) : Option (Unit) :=
 some ()
def m_session_Table_Open_v2 (N : Nat) : Option (Unit) :=
 bindO (m_session_Table_known_v2 N) fun _ =>
 some ()
def m_session_Table_at_v2 (N : Nat) (a0 : Int) : Option (Unit) :=
 bindO (m_session_Table_known_v2 N) fun _ =>
 some ()
def m_session_Table_Expire_v2 (N : Nat) (a0 : Int) : Option (Unit) :=
 bindO (m_session_Table_at_v2 N a0) fun _ =>
 if (1 == 0) = true then (
  none
 ) else (
  some ()
 )
def m_session_Table_Done_v2 (N : Nat) (a0 : Int) (a1 : Int) (a2 : Int) (a3 : Int) (l6 : List FactD) (l9 : List V) : Option (Nat) :=
 bindO (m_session_Table_at_v2 N a0) fun _ =>
 if (1 != 0) = true then (
  some 1
 ) else (
  if (decide (a1 < 1)) = true then (
   some 304
  ) else (
   none
  )
 )
def m_ropewalklaw27_do_v2 (N : Nat) (a0 : Int) (a1 : Int) (a2 : Int) (a3 : Int) (a4 : Int) (l7 : List FactD) (l10 : List V) : Option (Nat) :=
 bindO (m_ropewalkkit_Pick N a0 4) fun v9 =>
 if (v9 == 0) = true then (
  bindO (m_session_Table_Open_v2 N) fun _ =>
  some 1
 ) else (
  if (v9 == 1) = true then (
   bindO (m_session_Table_Expire_v2 N a1) fun _ =>
   some 1
  ) else (
   bindO (m_session_Table_Done_v2 N a1 a2 a3 a4 l7 l10) fun v31 =>
   some v31
  )
 )
def m_session_Table_Next_v2 (N : Nat) : Option (Unit) :=
 bindO (m_session_Table_known_v2 N) fun _ =>
 some ()
def m_session_Table_All_v2 (N : Nat) : Option (Unit) :=
 bindO (m_session_Table_known_v2 N) fun _ =>
 some ()
def m_ropewalkkit_SameValues_L1 (N : Nat) (l2 : List V) (l5 : List V) : Nat → Option (Nat ⊕ (Unit ⊕ Bool)) := fun u1_5 =>
 if (decide (u1_5 < l2.length)) = true then (
  bindO (l2[u1_5]?) fun x19 =>
  bindO (l5[u1_5]?) fun x23 =>
  if (!decide (x19 = x23)) = true then (
   some (.inr (.inr false))
  ) else (
   gd (u1_5 + 1 ≤ 9223372036854775807) <|
   some (.inl (u1_5 + 1))
  )
 ) else (
  some (.inr (.inl ()))
 )
def m_ropewalkkit_SameValues (N : Nat) (l2 : List V) (l5 : List V) : Option (Bool) :=
 if (l2.length != l5.length) = true then (
  some false
 ) else (
  bindS (
   iter (m_ropewalkkit_SameValues_L1 N l2 l5) N 0
  ) fun _ =>
  some true
 )
def m_ropewalkkit_SameFact (N : Nat) (a0 : Int) (a1 : Int) (l4 : List V) (a5 : Int) (a6 : Int) (l9 : List V) : Option (Bool) :=
 if (a0 == a5) = true then (
  if (a1 == a6) = true then (
   bindO (m_ropewalkkit_SameValues N l4 l9) fun v22 =>
   some v22
  ) else (
   some false
  )
 ) else (
  some false
 )
def m_ropewalkkit_SameFacts_L1 (N : Nat) (l2 : List FactD) (l5 : List FactD) : Nat → Option (Nat ⊕ (Unit ⊕ Bool)) := fun u1_5 =>
 if (decide (u1_5 < l2.length)) = true then (
  bindO (l2[u1_5]?) fun x19 =>
  bindO (l5[u1_5]?) fun x23 =>
  bindO (m_ropewalkkit_SameFact N x19.id x19.ty x19.args x23.id x23.ty x23.args) fun v25 =>
  if (!v25) = true then (
   some (.inr (.inr false))
  ) else (
   gd (u1_5 + 1 ≤ 9223372036854775807) <|
   some (.inl (u1_5 + 1))
  )
 ) else (
  some (.inr (.inl ()))
 )
def m_ropewalkkit_SameFacts (N : Nat) (l2 : List FactD) (l5 : List FactD) : Option (Bool) :=
 if (l2.length != l5.length) = true then (
  some false
 ) else (
  bindS (
   iter (m_ropewalkkit_SameFacts_L1 N l2 l5) N 0
  ) fun _ =>
  some true
 )
def m_ropewalkkit_SameReply_C1 (N : Nat) (a0 : Int) (a8 : Int) (a1 : Int) (a9 : Int) (l4 : List FactD) (l12 : List FactD) (l7 : List V) (l15 : List V) : Option (Bool) :=
 if (a0 == a8) = true then (
  if (a1 == a9) = true then (
   bindO (m_ropewalkkit_SameFacts N l4 l12) fun v22 =>
   if v22 = true then (
    bindO (m_ropewalkkit_SameValues N l7 l15) fun v29 =>
    some v29
   ) else (
    some false
   )
  ) else (
   some false
  )
 ) else (
  some false
 )
def m_ropewalkkit_SameReply (N : Nat) (a0 : Int) (a1 : Int) (l4 : List FactD) (l7 : List V) (a8 : Int) (a9 : Int) (l12 : List FactD) (l15 : List V) : Option (Bool) :=
 bindO (m_ropewalkkit_SameReply_C1 N a0 a8 a1 a9 l4 l12 l7 l15
 ) fun j_1_4 =>
 some j_1_4
def m_ropewalkkit_SameSession (N : Nat) (a0 : Int) (a1 : Int) (a2 : Int) (a3 : Int) (l6 : List FactD) (l9 : List V) (a10 : Int) (a11 : Int) (a12 : Int) (a13 : Int) (l16 : List FactD) (l19 : List V) : Option (Bool) :=
 if (a0 == a10) = true then (
  if (a1 == a11) = true then (
   bindO (m_ropewalkkit_SameReply N a2 a3 l6 l9 a12 a13 l16 l19) fun v22 =>
   some v22
  ) else (
   some false
  )
 ) else (
  some false
 )
def m_ropewalkkit_SameSessions_L1 (N : Nat) (l3 : List SessD) (l6 : List SessD) : Nat → Option (Nat ⊕ (Unit ⊕ Bool)) := fun u1_5 =>
 if (decide (u1_5 < l3.length)) = true then (
  bindO (l3[u1_5]?) fun x19 =>
  bindO (l6[u1_5]?) fun x23 =>
  bindO (m_ropewalkkit_SameSession N x19.id x19.seq x19.r.err x19.r.num x19.r.facts x19.r.said x23.id x23.seq x23.r.err x23.r.num x23.r.facts x23.r.said) fun v25 =>
  if (!v25) = true then (
   some (.inr (.inr false))
  ) else (
   gd (u1_5 + 1 ≤ 9223372036854775807) <|
   some (.inl (u1_5 + 1))
  )
 ) else (
  some (.inr (.inl ()))
 )
def m_ropewalkkit_SameSessions (N : Nat) (l3 : List SessD) (l6 : List SessD) : Option (Bool) :=
 if (l3.length != l6.length) = true then (
  some false
 ) else (
  bindS (
   iter (m_ropewalkkit_SameSessions_L1 N l3 l6) N 0
  ) fun _ =>
  some true
 )
def m_ropewalkkit_SameSessions_v2_L1 (N : Nat) (l3 : List SessD) (l7 : List SessD) : Nat → Option (Nat ⊕ (Unit ⊕ Bool)) := fun u1_5 =>
 if (decide (u1_5 < l3.length)) = true then (
  bindO (
   bindO (l3[u1_5]?) fun x19 =>
   bindO (l7[u1_5]?) fun x23 =>
   bindO (m_ropewalkkit_SameSession N x19.id x19.seq x19.r.err x19.r.num x19.r.facts x19.r.said x23.id x23.seq x23.r.err x23.r.num x23.r.facts x23.r.said) fun v25 =>
   some (!v25)
  ) fun j_2_26 =>
  if j_2_26 = true then (
   some (.inr (.inr false))
  ) else (
   gd (u1_5 + 1 ≤ 9223372036854775807) <|
   some (.inl (u1_5 + 1))
  )
 ) else (
  some (.inr (.inl ()))
 )
def m_ropewalkkit_SameSessions_v2 (N : Nat) (l3 : List SessD) (l7 : List SessD) : Option (Bool) :=
 if (l3.length != l7.length) = true then (
  some false
 ) else (
  bindS (
   iter (m_ropewalkkit_SameSessions_v2_L1 N l3 l7) N 0
  ) fun _ =>
  some true
 )
def m_ropewalklaw27_SessionOf_L1 (N : Nat) (l2 : List Ropewalklaw27_DoD) : (Nat × (List SessD) × Int) → Option ((Nat × (List SessD) × Int) ⊕ (((List SessD) × Int) ⊕ Bool)) := fun (u1_6, u1_5_f0_l, u1_5_f1) =>
 bindO (
  if (decide (u1_6 < l2.length)) = true then (
   some (decide (u1_6 < 120))
  ) else (
   some false
  )
 ) fun j_2_20 =>
 if j_2_20 = true then (
  bindO (l2[u1_6]?) fun x25 =>
  bindO (m_ropewalklaw27_great N x25.reply.err x25.reply.num x25.reply.facts x25.reply.said) fun v28 =>
  if v28 = true then (
   some (.inr (.inr true))
  ) else (
   bindO (l2[u1_6]?) fun x32 =>
   bindO (m_ropewalklaw27_do N u1_5_f0_l u1_5_f1 x32.op x32.id x32.seq x32.reply.err x32.reply.num x32.reply.facts x32.reply.said) fun (v34_0, v34_1, v34_2) =>
   gd (u1_6 + 1 ≤ 9223372036854775807) <|
   some (.inl (u1_6 + 1, v34_1, v34_2))
  )
 ) else (
  some (.inr (.inl (u1_5_f0_l, u1_5_f1)))
 )
def m_ropewalklaw27_SessionOf_L2 (N : Nat) (l5 : List Ropewalklaw27_DoD) : (Nat × (List SessD) × Int) → Option ((Nat × (List SessD) × Int) ⊕ (((List SessD) × Int) ⊕ Bool)) := fun (u2_9, u2_5_f0_l, u2_5_f1) =>
 bindO (
  if (decide (u2_9 < l5.length)) = true then (
   some (decide (u2_9 < 120))
  ) else (
   some false
  )
 ) fun j_5_52 =>
 if j_5_52 = true then (
  bindO (l5[u2_9]?) fun x57 =>
  bindO (m_ropewalklaw27_great N x57.reply.err x57.reply.num x57.reply.facts x57.reply.said) fun v60 =>
  if v60 = true then (
   some (.inr (.inr true))
  ) else (
   bindO (l5[u2_9]?) fun x64 =>
   bindO (m_ropewalklaw27_do N u2_5_f0_l u2_5_f1 x64.op x64.id x64.seq x64.reply.err x64.reply.num x64.reply.facts x64.reply.said) fun (v66_0, v66_1, v66_2) =>
   bindO (l5[u2_9]?) fun x70 =>
   bindO (m_ropewalklaw27_do_v2 N x70.op x70.id x70.seq x70.reply.err x70.reply.num x70.reply.facts x70.reply.said) fun v72 =>
   if (v66_0 != v72) = true then (
    some (.inr (.inr false))
   ) else (
    gd (u2_9 + 1 ≤ 9223372036854775807) <|
    some (.inl (u2_9 + 1, v66_1, v66_2))
   )
  )
 ) else (
  some (.inr (.inl (u2_5_f0_l, u2_5_f1)))
 )
def m_ropewalklaw27_SessionOf_L3 (N : Nat) (l5 : List Ropewalklaw27_DoD) : (Nat × (List SessD) × Int × (List SessD) × Int) → Option ((Nat × (List SessD) × Int × (List SessD) × Int) ⊕ (((List SessD) × Int × (List SessD) × Int) ⊕ Bool)) := fun (u3_9, u3_7_f0_l, u3_7_f1, u3_5_f0_l, u3_5_f1) =>
 bindO (
  if (decide (u3_9 < l5.length)) = true then (
   some (decide (u3_9 < 120))
  ) else (
   some false
  )
 ) fun j_7_52 =>
 if j_7_52 = true then (
  bindO (l5[u3_9]?) fun x57 =>
  bindO (m_ropewalklaw27_great N x57.reply.err x57.reply.num x57.reply.facts x57.reply.said) fun v60 =>
  if v60 = true then (
   some (.inr (.inr true))
  ) else (
   bindO (l5[u3_9]?) fun x64 =>
   bindO (m_ropewalklaw27_do N u3_5_f0_l u3_5_f1 x64.op x64.id x64.seq x64.reply.err x64.reply.num x64.reply.facts x64.reply.said) fun (v66_0, v66_1, v66_2) =>
   bindO (l5[u3_9]?) fun x70 =>
   bindO (m_ropewalklaw27_do N u3_7_f0_l u3_7_f1 x70.op x70.id x70.seq x70.reply.err x70.reply.num x70.reply.facts x70.reply.said) fun (v72_0, v72_1, v72_2) =>
   if (v66_0 != v72_0) = true then (
    some (.inr (.inr false))
   ) else (
    gd (u3_9 + 1 ≤ 9223372036854775807) <|
    some (.inl (u3_9 + 1, v72_1, v72_2, v66_1, v66_2))
   )
  )
 ) else (
  some (.inr (.inl (u3_7_f0_l, u3_7_f1, u3_5_f0_l, u3_5_f1)))
 )
def m_ropewalklaw27_SessionOf (N : Nat) (l2 : List Ropewalklaw27_DoD) (l5 : List Ropewalklaw27_DoD) : Option (Bool) :=
 bindO (m_ropewalklaw27_awake N) fun v10 =>
 if (!v10) = true then (
  some false
 ) else (
  bindO (m_session_New N) fun _ =>
  bindS (
   iter (m_ropewalklaw27_SessionOf_L1 N l2) N (0, [], 1)
  ) fun (j_1_5_f0_l, j_1_5_f1) =>
  bindO (m_session_Table_Next N j_1_5_f0_l j_1_5_f1) fun v37 =>
  bindO (m_session_Table_All N j_1_5_f0_l j_1_5_f1) fun v39 =>
  bindO (m_session_Of N v37 v39) fun
  | .inl _ => (
  if (4 != 0) = true then (
   some false
  ) else (
   bindS (
    iter (m_ropewalklaw27_SessionOf_L2 N l5) N (0, j_1_5_f0_l, j_1_5_f1)
   ) fun (j_4_5_f0_l, j_4_5_f1) =>
   bindO (m_session_Table_Next N j_4_5_f0_l j_4_5_f1) fun v75 =>
   bindO (m_session_Table_Next_v2 N) fun _ =>
   if (v75 == 0) = true then (
    bindO (m_session_Table_All N j_4_5_f0_l j_4_5_f1) fun v81 =>
    bindO (m_session_Table_All_v2 N) fun _ =>
    bindO (m_ropewalkkit_SameSessions N v81 ([] : List SessD)) fun v84 =>
    some v84
   ) else (
    some false
   )
  )
  )
  | .inr v40 => (
  if (0 != 0) = true then (
   some false
  ) else (
   bindS (
    iter (m_ropewalklaw27_SessionOf_L3 N l5) N (0, v40, v37, j_1_5_f0_l, j_1_5_f1)
   ) fun (j_6_7_f0_l, j_6_7_f1, j_6_5_f0_l, j_6_5_f1) =>
   bindO (m_session_Table_Next N j_6_5_f0_l j_6_5_f1) fun v75 =>
   bindO (m_session_Table_Next N j_6_7_f0_l j_6_7_f1) fun v77 =>
   if (v75 == v77) = true then (
    bindO (m_session_Table_All N j_6_5_f0_l j_6_5_f1) fun v81 =>
    bindO (m_session_Table_All N j_6_7_f0_l j_6_7_f1) fun v83 =>
    bindO (m_ropewalkkit_SameSessions_v2 N v81 v83) fun v84 =>
    some v84
   ) else (
    some false
   )
  )
  )
 )
end Go.Proofs.Ytighbinghbnjhaa
