import Derived.Test.YtighbinghbnjhaaGreatXT
namespace Go.Proofs.YtighbinghbnjhaaGreat
open Go.RowKit
def m_ropewalklaw27_great_L1 (N : Nat) (l2 : List FactD) : (Nat × Nat) → Option ((Nat × Nat) ⊕ Nat) := fun (u1_4, u1_3) =>
 bindO (
  if (decide (u1_4 < l2.length)) = true then (
   some (decide (u1_3 ≤ 200))
  ) else (
   some false
  )
 ) fun j_2_20 =>
 if j_2_20 = true then (
  bindO (l2[u1_4]?) fun x27 =>
  gd (u1_3 + x27.args.length ≤ 9223372036854775807) <|
  gd (u1_4 + 1 ≤ 9223372036854775807) <|
  some (.inl (u1_4 + 1, u1_3 + x27.args.length))
 ) else (
  some (.inr u1_3)
 )
def m_ropewalklaw27_great (N : Nat) (a0 : Int) (a1 : Int) (l2 : List FactD) (l3 : List V) : Option (Bool) :=
 gd (l2.length + l3.length ≤ 9223372036854775807) <|
 bindO (
  iter (m_ropewalklaw27_great_L1 N l2) N (0, l2.length + l3.length)
 ) fun j_1_3 =>
 some (decide (200 < j_1_3))
def m_session_New (N : Nat) : Option (Unit) :=
 some ()
def m_session_Table_known (N : Nat) (l0 : List SessD) (a1 : Int) : Option (Unit) :=
 some ()
def m_session_Table_Open (N : Nat) (l0 : List SessD) (a1 : Int) : Option (Int × Nat × (List SessD) × Int) :=
 bindO (m_session_Table_known N l0 a1) fun _ =>
 if (!(decide (a1 > 0))) = true then (
  some (0, 1, l0, a1)
 ) else (
  bindO (
   if (decide (32 ≤ l0.length)) = true then (
    some true
   ) else (
    some (decide (a1 > 1099511627776))
   )
  ) fun j_1_8 =>
  if j_1_8 = true then (
   some (0, 5, l0, a1)
  ) else (
   gd (l0.length + ([(⟨a1, 0, (⟨0, 0, [], []⟩ : ReplyD)⟩ : SessD)]).length ≤ 1759218604441) <|
   gd (-9223372036854775808 ≤ a1 + 1 ∧ a1 + 1 ≤ 9223372036854775807) <|
   gd (-9223372036854775808 ≤ (a1 + 1) - 1 ∧ (a1 + 1) - 1 ≤ 9223372036854775807) <|
   some ((a1 + 1) - 1, 0, (l0 ++ ([(⟨a1, 0, (⟨0, 0, [], []⟩ : ReplyD)⟩ : SessD)])), a1 + 1)
  )
 )
def m_session_row_find_1 (N : Nat) (a0 : Int) (a1 : Int) (a2 : Int) (a3 : Int) (l4 : List FactD) (l5 : List V) (a6 : Int) : Option (Unit) :=
 some ()
def m_slices_IndexFunc_Session_L1 (N : Nat) (l0 : List SessD) (a1 : Int) : Nat → Option (Nat ⊕ (Unit ⊕ Int)) := fun u1_8 =>
 if (decide (u1_8 < l0.length)) = true then (
  bindO (l0[u1_8]?) fun x14 =>
  bindO (m_session_row_find_1 N x14.id x14.seq x14.r.err x14.r.num x14.r.facts x14.r.said a1) fun _ =>
  if (x14.id == a1) = true then (
   some (.inr (.inr ((u1_8 : Nat) : Int)))
  ) else (
   gd (u1_8 + 1 ≤ 9223372036854775807) <|
   some (.inl (u1_8 + 1))
  )
 ) else (
  some (.inr (.inl ()))
 )
def m_slices_IndexFunc_Session (N : Nat) (l0 : List SessD) (a1 : Int) : Option (Int) :=
 bindS (
  iter (m_slices_IndexFunc_Session_L1 N l0 a1) N 0
 ) fun _ =>
 some (-1)
def m_session_row_find (N : Nat) (l0 : List SessD) (a1 : Int) (a2 : Int) : Option (Int) :=
 bindO (m_slices_IndexFunc_Session N l0 a2) fun v10 =>
 some v10
def m_session_Table_at (N : Nat) (l0 : List SessD) (a1 : Int) (a2 : Int) : Option (Int × Nat) :=
 bindO (m_session_Table_known N l0 a1) fun _ =>
 if (!(decide (a1 > 0))) = true then (
  some (0, 1)
 ) else (
  bindO (m_session_row_find N l0 a1 a2) fun v14 =>
  if (decide (v14 < 0)) = true then (
   some (0, 303)
  ) else (
   some (v14, 0)
  )
 )
def m_session_own_L1 (N : Nat) (l2 : List FactD) : (Nat × (List FactD)) → Option ((Nat × (List FactD)) ⊕ ((List FactD) × Nat)) := fun (u1_15, u1_1_f2_l) =>
 if (decide (u1_15 < l2.length)) = true then (
  bindO (u1_1_f2_l[u1_15]?) fun x24 =>
  bindO (u1_1_f2_l[u1_15]?) fun x26 =>
  gd (x26.args.length ≤ 4398046511104) <|
  bindO (u1_1_f2_l[u1_15]?) fun x28 =>
  bindO (u1_1_f2_l[u1_15]?) fun x1007 =>
  gd (u1_15 + 1 ≤ 9223372036854775807) <|
  some (.inl (u1_15 + 1, (u1_1_f2_l.set u1_15 (⟨x1007.id, x1007.ty, x26.args⟩ : FactD))))
 ) else (
  some (.inr (u1_1_f2_l, u1_15))
 )
def m_session_own (N : Nat) (a0 : Int) (a1 : Int) (l2 : List FactD) (l3 : List V) : Option (List FactD) :=
 gd (l3.length ≤ 4398046511104) <|
 gd (l2.length ≤ 3518437208883) <|
 bindO (
  iter (m_session_own_L1 N l2) N (0, l2)
 ) fun (j_1_1_f2_l, j_1_sh2) =>
 gd (j_1_1_f2_l.length ≤ j_1_sh2) <|
 some j_1_1_f2_l
def m_session_Table_Ask (N : Nat) (l0 : List SessD) (a1 : Int) (a2 : Int) (a3 : Int) : Option (Int × Int × (List FactD) × (List V) × Bool × Nat) :=
 bindO (m_session_Table_at N l0 a1 a2) fun (v14_0, v14_1) =>
 if (v14_1 != 0) = true then (
  some (0, 0, [], [], false, v14_1)
 ) else (
  gd (0 ≤ v14_0) <|
  bindO (l0[v14_0.toNat]?) fun x27 =>
  bindO (
   if (decide (a3 < 1)) = true then (
    some true
   ) else (
    some (decide (a3 < x27.seq))
   )
  ) fun j_1_29 =>
  if j_1_29 = true then (
   some (0, 0, [], [], false, 304)
  ) else (
   if (a3 == x27.seq) = true then (
    bindO (m_session_own N x27.r.err x27.r.num x27.r.facts x27.r.said) fun v46 =>
    some (x27.r.err, x27.r.num, v46, x27.r.said, true, 0)
   ) else (
    some (0, 0, [], [], false, 0)
   )
  )
 )
def m_session_Table_Done (N : Nat) (l0 : List SessD) (a1 : Int) (a2 : Int) (a3 : Int) (a4 : Int) (a5 : Int) (l6 : List FactD) (l7 : List V) : Option (Nat × (List SessD)) :=
 bindO (m_session_Table_at N l0 a1 a2) fun (v14_0, v14_1) =>
 if (v14_1 != 0) = true then (
  some (v14_1, l0)
 ) else (
  bindO (
   if (decide (a3 < 1)) = true then (
    some true
   ) else (
    gd (0 ≤ v14_0) <|
    bindO (l0[v14_0.toNat]?) fun x32 =>
    some (decide (a3 ≤ x32.seq))
   )
  ) fun j_1_21 =>
  if j_1_21 = true then (
   some (304, l0)
  ) else (
   bindO (m_session_own N a4 a5 l6 l7) fun v51 =>
   gd (0 ≤ v14_0) <|
   bindO (l0[v14_0.toNat]?) fun x52 =>
   gd (0 ≤ v14_0) <|
   bindO ((l0.set v14_0.toNat (⟨x52.id, a3, x52.r⟩ : SessD))[v14_0.toNat]?) fun x54 =>
   some (0, ((l0.set v14_0.toNat (⟨x52.id, a3, x52.r⟩ : SessD)).set v14_0.toNat (⟨x54.id, x54.seq, (⟨a4, a5, v51, l7⟩ : ReplyD)⟩ : SessD)))
  )
 )
def m_session_Table_Expire (N : Nat) (l0 : List SessD) (a1 : Int) (a2 : Int) : Option (Nat × (List SessD)) :=
 bindO (m_session_Table_at N l0 a1 a2) fun (v10_0, v10_1) =>
 bindO (
  if (v10_1 == 0) = true then (
   gd (-9223372036854775808 ≤ v10_0 + 1 ∧ v10_0 + 1 ≤ 9223372036854775807) <|
   gd (0 ≤ v10_0) <|
   gd (v10_0.toNat < l0.length) <|
   some (l0.take v10_0.toNat ++ l0.drop (v10_0.toNat + 1))
  ) else (
   some l0
  )
 ) fun j_1_r0_f0_l =>
 some (v10_1, j_1_r0_f0_l)
def m_ropewalklaw27_awake_C1 (N : Nat) (v24_0 : Int) (v24_1 : Nat) (v29_4 : Bool) (v29_5 : Nat) (v35_0 : Nat) (v38_1 : Int) (v38_4 : Bool) (v38_5 : Nat) (v44_5 : Nat) (v50_5 : Nat) (v56_0 : Nat) (v58_0 : Nat) (v61_0 : Int) (v61_1 : Nat) : Option (Bool) :=
 if (v24_0 == 1) = true then (
  if (v24_1 == 0) = true then (
   if (!v29_4) = true then (
    if (v29_5 == 0) = true then (
     if (v35_0 == 0) = true then (
      if (v38_1 == 9) = true then (
       if v38_4 = true then (
        if (v38_5 == 0) = true then (
         if (v44_5 == 304) = true then (
          if (v50_5 == 303) = true then (
           if (v56_0 == 304) = true then (
            if (v58_0 == 0) = true then (
             if (v61_0 == 2) = true then (
              some (v61_1 == 0)
             ) else (
              some false
             )
            ) else (
             some false
            )
           ) else (
            some false
           )
          ) else (
           some false
          )
         ) else (
          some false
         )
        ) else (
         some false
        )
       ) else (
        some false
       )
      ) else (
       some false
      )
     ) else (
      some false
     )
    ) else (
     some false
    )
   ) else (
    some false
   )
  ) else (
   some false
  )
 ) else (
  some false
 )
def m_ropewalklaw27_awake (N : Nat) : Option (Bool) :=
 bindO (m_session_New N) fun _ =>
 bindO (m_session_Table_Open N [] 1) fun (v24_0, v24_1, v24_2, v24_3) =>
 bindO (m_session_Table_Ask N v24_2 v24_3 1 4) fun (v29_0, v29_1, v29_2, v29_3, v29_4, v29_5) =>
 bindO (m_session_Table_Done N v24_2 v24_3 1 4 0 9 ([] : List FactD) ([] : List V)) fun (v35_0, v35_1) =>
 bindO (m_session_Table_Ask N v35_1 v24_3 1 4) fun (v38_0, v38_1, v38_2, v38_3, v38_4, v38_5) =>
 bindO (m_session_Table_Ask N v35_1 v24_3 1 3) fun (v44_0, v44_1, v44_2, v44_3, v44_4, v44_5) =>
 bindO (m_session_Table_Ask N v35_1 v24_3 2 1) fun (v50_0, v50_1, v50_2, v50_3, v50_4, v50_5) =>
 bindO (m_session_Table_Done N v35_1 v24_3 1 4 0 0 ([] : List FactD) ([] : List V)) fun (v56_0, v56_1) =>
 bindO (m_session_Table_Expire N v56_1 v24_3 1) fun (v58_0, v58_1) =>
 bindO (m_session_Table_Open N v58_1 v24_3) fun (v61_0, v61_1, v61_2, v61_3) =>
 bindO (m_ropewalklaw27_awake_C1 N v24_0 v24_1 v29_4 v29_5 v35_0 v38_1 v38_4 v38_5 v44_5 v50_5 v56_0 v58_0 v61_0 v61_1
 ) fun j_1_0 =>
 some j_1_0
def m_ropewalkref27_New (N : Nat) : Option (Unit) :=
 some ()
def m_ropewalkkit_mark (N : Nat) (a0 : Int) (a1 : Int) : Option (Unit) :=
 some ()
def m_ropewalkkit_markValue (N : Nat) (a0 : Int) (a1 : Int) : Option (Unit) :=
 bindO (m_ropewalkkit_mark N a0 a1) fun _ =>
 some ()
def m_ropewalkkit_LentValues_L1 (N : Nat) : (Nat × (List V)) → Option ((Nat × (List V)) ⊕ (List V)) := fun (u1_4, u1_3_l) =>
 if (decide (u1_4 < 12)) = true then (
  bindO (m_ropewalkkit_markValue N 1 ((u1_4 : Nat) : Int)) fun _ =>
  gd (u1_3_l.length + ([(⟨0, (IntKind.wrap .i64 ((IntKind.wrap .i64 (1000003 * (IntKind.wrap .i64 (1 + 7)))) + ((u1_4 : Nat) : Int))), (⟨#[]⟩ : ByteArray)⟩ : V)]).length ≤ 4398046511104) <|
  gd (u1_4 + 1 ≤ 9223372036854775807) <|
  some (.inl (u1_4 + 1, (u1_3_l ++ ([(⟨0, (IntKind.wrap .i64 ((IntKind.wrap .i64 (1000003 * (IntKind.wrap .i64 (1 + 7)))) + ((u1_4 : Nat) : Int))), (⟨#[]⟩ : ByteArray)⟩ : V)]))))
 ) else (
  some (.inr u1_3_l)
 )
def m_ropewalkkit_LentValues (N : Nat) (l0 : List V) : Option (List V) :=
 gd (l0.length + 12 ≤ 9223372036854775807) <|
 gd (l0.length + 12 ≤ 4398046511104) <|
 gd (([] : List V).length + l0.length ≤ 4398046511104) <|
 bindO (
  iter (m_ropewalkkit_LentValues_L1 N) N (0, l0)
 ) fun j_1_3_l =>
 gd (l0.length ≤ j_1_3_l.length) <|
 some j_1_3_l
def m_ropewalkkit_LentFact (N : Nat) (a0 : Int) (a1 : Int) (l2 : List V) : Option (List V) :=
 bindO (m_ropewalkkit_LentValues N l2) fun v5 =>
 some v5
def m_ropewalkkit_markFact (N : Nat) (a0 : Int) (a1 : Int) : Option (Unit) :=
 bindO (m_ropewalkkit_mark N a0 a1) fun _ =>
 some ()
def m_ropewalkkit_LentFacts_L1 (N : Nat) (l0 : List FactD) : (Nat × (List FactDS)) → Option ((Nat × (List FactDS)) ⊕ (List FactDS)) := fun (u1_4, u1_3_l) =>
 if (decide (u1_4 < l0.length)) = true then (
  bindO (l0[u1_4]?) fun x19 =>
  bindO (m_ropewalkkit_LentFact N x19.id x19.ty x19.args) fun v21 =>
  gd (x19.args.length ≤ v21.length) <|
  gd (u1_3_l.length + ([(⟨x19.id, x19.ty, v21.take x19.args.length, v21.drop x19.args.length⟩ : FactDS)]).length ≤ 3518437208883) <|
  gd (u1_4 + 1 ≤ 9223372036854775807) <|
  some (.inl (u1_4 + 1, (u1_3_l ++ [(⟨x19.id, x19.ty, v21.take x19.args.length, v21.drop x19.args.length⟩ : FactDS)])))
 ) else (
  some (.inr u1_3_l)
 )
def m_ropewalkkit_LentFacts_L2 (N : Nat) : (Nat × (List FactDS)) → Option ((Nat × (List FactDS)) ⊕ (List FactDS)) := fun (u2_6, u2_3_l) =>
 if (decide (u2_6 < 12)) = true then (
  bindO (m_ropewalkkit_markFact N 1 ((u2_6 : Nat) : Int)) fun _ =>
  gd (u2_3_l.length + ([(⟨(IntKind.wrap .i64 ((IntKind.wrap .i64 (1000003 * (IntKind.wrap .i64 (1 + 7)))) + ((u2_6 : Nat) : Int))), 0, ([] : List V), []⟩ : FactDS)]).length ≤ 3518437208883) <|
  gd (u2_6 + 1 ≤ 9223372036854775807) <|
  some (.inl (u2_6 + 1, (u2_3_l ++ [(⟨(IntKind.wrap .i64 ((IntKind.wrap .i64 (1000003 * (IntKind.wrap .i64 (1 + 7)))) + ((u2_6 : Nat) : Int))), 0, ([] : List V), []⟩ : FactDS)])))
 ) else (
  some (.inr u2_3_l)
 )
def m_ropewalkkit_LentFacts (N : Nat) (l0 : List FactD) : Option (List FactDS) :=
 gd (l0.length + 12 ≤ 9223372036854775807) <|
 gd (l0.length + 12 ≤ 3518437208883) <|
 bindO (
  iter (m_ropewalkkit_LentFacts_L1 N l0) N (0, [])
 ) fun j_1_3_l =>
 bindO (
  iter (m_ropewalkkit_LentFacts_L2 N) N (0, j_1_3_l)
 ) fun j_2_3_l =>
 gd (l0.length ≤ j_2_3_l.length) <|
 some j_2_3_l
def m_ropewalkkit_LentReply (N : Nat) (a0 : Int) (a1 : Int) (l2 : List FactD) (l3 : List V) : Option ((List FactDS) × (List V)) :=
 bindO (m_ropewalkkit_LentFacts N l2) fun v5 =>
 bindO (m_ropewalkkit_LentValues N l3) fun v9 =>
 some (v5, v9)
def m_ropewalkkit_LentSession (N : Nat) (a0 : Int) (a1 : Int) (a2 : Int) (a3 : Int) (l4 : List FactD) (l5 : List V) : Option ((List FactDS) × (List V)) :=
 bindO (m_ropewalkkit_LentReply N a2 a3 l4 l5) fun (v5_0, v5_1) =>
 some (v5_0, v5_1)
def m_ropewalkkit_markSession (N : Nat) (a0 : Int) (a1 : Int) : Option (Unit) :=
 bindO (m_ropewalkkit_mark N a0 a1) fun _ =>
 some ()
def m_ropewalkkit_LentSessions_L1 (N : Nat) (l0 : List SessD) : (Nat × (List SessDS)) → Option ((Nat × (List SessDS)) ⊕ (List SessDS)) := fun (u1_4, u1_3_l) =>
 if (decide (u1_4 < l0.length)) = true then (
  bindO (l0[u1_4]?) fun x19 =>
  bindO (m_ropewalkkit_LentSession N x19.id x19.seq x19.r.err x19.r.num x19.r.facts x19.r.said) fun (v21_0, v21_1) =>
  gd (x19.r.facts.length ≤ v21_0.length) <|
  gd (x19.r.said.length ≤ v21_1.length) <|
  gd (u1_3_l.length + ([(⟨x19.id, x19.seq, (⟨x19.r.err, x19.r.num, v21_0.take x19.r.facts.length, v21_0.drop x19.r.facts.length, v21_1.take x19.r.said.length, v21_1.drop x19.r.said.length⟩ : ReplyDS)⟩ : SessDS)]).length ≤ 1759218604441) <|
  gd (u1_4 + 1 ≤ 9223372036854775807) <|
  some (.inl (u1_4 + 1, (u1_3_l ++ [(⟨x19.id, x19.seq, (⟨x19.r.err, x19.r.num, v21_0.take x19.r.facts.length, v21_0.drop x19.r.facts.length, v21_1.take x19.r.said.length, v21_1.drop x19.r.said.length⟩ : ReplyDS)⟩ : SessDS)])))
 ) else (
  some (.inr u1_3_l)
 )
def m_ropewalkkit_LentSessions_L2 (N : Nat) : (Nat × (List SessDS)) → Option ((Nat × (List SessDS)) ⊕ (List SessDS)) := fun (u2_6, u2_3_l) =>
 if (decide (u2_6 < 12)) = true then (
  bindO (m_ropewalkkit_markSession N 1 ((u2_6 : Nat) : Int)) fun _ =>
  gd (u2_3_l.length + ([(⟨(IntKind.wrap .i64 ((IntKind.wrap .i64 (1000003 * (IntKind.wrap .i64 (1 + 7)))) + ((u2_6 : Nat) : Int))), 0, (⟨0, 0, ([] : List FactDS), [], ([] : List V), []⟩ : ReplyDS)⟩ : SessDS)]).length ≤ 1759218604441) <|
  gd (u2_6 + 1 ≤ 9223372036854775807) <|
  some (.inl (u2_6 + 1, (u2_3_l ++ [(⟨(IntKind.wrap .i64 ((IntKind.wrap .i64 (1000003 * (IntKind.wrap .i64 (1 + 7)))) + ((u2_6 : Nat) : Int))), 0, (⟨0, 0, ([] : List FactDS), [], ([] : List V), []⟩ : ReplyDS)⟩ : SessDS)])))
 ) else (
  some (.inr u2_3_l)
 )
def m_ropewalkkit_LentSessions (N : Nat) (l0 : List SessD) : Option (List SessDS) :=
 gd (l0.length + 12 ≤ 9223372036854775807) <|
 gd (l0.length + 12 ≤ 1759218604441) <|
 bindO (
  iter (m_ropewalkkit_LentSessions_L1 N l0) N (0, [])
 ) fun j_1_3_l =>
 bindO (
  iter (m_ropewalkkit_LentSessions_L2 N) N (0, j_1_3_l)
 ) fun j_2_3_l =>
 gd (l0.length ≤ j_2_3_l.length) <|
 some j_2_3_l
def m_session_all_L1 (N : Nat) (l0 : List SessD) : (Nat × (List SessD)) → Option ((Nat × (List SessD)) ⊕ ((List SessD) × Nat)) := fun (u1_9, u1_3_l) =>
 if (decide (u1_9 < l0.length)) = true then (
  bindO (u1_3_l[u1_9]?) fun x16 =>
  bindO (u1_3_l[u1_9]?) fun x18 =>
  bindO (m_session_own N x18.r.err x18.r.num x18.r.facts x18.r.said) fun v19 =>
  bindO (u1_3_l[u1_9]?) fun x20 =>
  bindO (u1_3_l[u1_9]?) fun x1031 =>
  gd (u1_9 + 1 ≤ 9223372036854775807) <|
  some (.inl (u1_9 + 1, (u1_3_l.set u1_9 (⟨x1031.id, x1031.seq, (⟨x18.r.err, x18.r.num, v19, x18.r.said⟩ : ReplyD)⟩ : SessD))))
 ) else (
  some (.inr (u1_3_l, u1_9))
 )
def m_session_all (N : Nat) (l0 : List SessD) : Option (List SessD) :=
 gd (l0.length ≤ 1759218604441) <|
 bindO (
  iter (m_session_all_L1 N l0) N (0, l0)
 ) fun (j_1_3_l, j_1_sh0) =>
 gd (j_1_3_l.length ≤ j_1_sh0) <|
 some j_1_3_l
def m_session_Of_L1 (N : Nat) (l1 : List SessD) (a0 : Int) : (Nat × Int) → Option ((Nat × Int) ⊕ (Unit ⊕ (Unit ⊕ (List SessD)))) := fun (u1_22, u1_6) =>
 if (decide (u1_22 < l1.length)) = true then (
  bindO (l1[u1_22]?) fun x24 =>
  bindO (
   if (decide (x24.id ≤ u1_6)) = true then (
    some true
   ) else (
    if (decide (x24.id ≥ a0)) = true then (
     some true
    ) else (
     some (decide (x24.seq < 0))
    )
   )
  ) fun j_3_40 =>
  if j_3_40 = true then (
   some (.inr (.inr (.inl ())))
  ) else (
   gd (u1_22 + 1 ≤ 9223372036854775807) <|
   some (.inl (u1_22 + 1, x24.id))
  )
 ) else (
  some (.inr (.inl ()))
 )
def m_session_Of (N : Nat) (a0 : Int) (l1 : List SessD) : Option (Unit ⊕ (List SessD)) :=
 bindO (
  if (decide (a0 < 1)) = true then (
   some true
  ) else (
   if (decide (a0 > 1099511627777)) = true then (
    some true
   ) else (
    some (decide (32 < l1.length))
   )
  )
 ) fun j_1_19 =>
 if j_1_19 = true then (
  some (.inl ())
 ) else (
  bindS (
   iter (m_session_Of_L1 N l1 a0) N (0, 0)
  ) fun _ =>
  bindO (m_session_all N l1) fun v45 =>
  some (.inr v45)
 )
def m_ropewalkkit_CopyValues (N : Nat) (l0 : List V) : Option (Unit) :=
 gd (([] : List V).length + l0.length ≤ 4398046511104) <|
 some ()
def m_ropewalkkit_CopyFact (N : Nat) (a0 : Int) (a1 : Int) (l2 : List V) : Option (Unit) :=
 bindO (m_ropewalkkit_CopyValues N l2) fun _ =>
 some ()
def m_ropewalkkit_CopyFacts_L1 (N : Nat) (l0 : List FactD) : (Nat × (List FactD)) → Option ((Nat × (List FactD)) ⊕ (List FactD)) := fun (u1_4, u1_3_l) =>
 if (decide (u1_4 < l0.length)) = true then (
  bindO (l0[u1_4]?) fun x14 =>
  bindO (m_ropewalkkit_CopyFact N x14.id x14.ty x14.args) fun _ =>
  gd (u1_3_l.length + [x14].length ≤ 3518437208883) <|
  gd (u1_4 + 1 ≤ 9223372036854775807) <|
  some (.inl (u1_4 + 1, u1_3_l ++ [x14]))
 ) else (
  some (.inr u1_3_l)
 )
def m_ropewalkkit_CopyFacts (N : Nat) (l0 : List FactD) : Option (List FactD) :=
 bindO (
  iter (m_ropewalkkit_CopyFacts_L1 N l0) N (0, [])
 ) fun j_1_3_l =>
 some j_1_3_l
def m_ropewalkkit_CopyReply (N : Nat) (a0 : Int) (a1 : Int) (l2 : List FactD) (l3 : List V) : Option (List FactD) :=
 bindO (m_ropewalkkit_CopyFacts N l2) fun v5 =>
 bindO (m_ropewalkkit_CopyValues N l3) fun _ =>
 some v5
def m_ropewalkkit_CopySession (N : Nat) (a0 : Int) (a1 : Int) (a2 : Int) (a3 : Int) (l4 : List FactD) (l5 : List V) : Option (List FactD) :=
 bindO (m_ropewalkkit_CopyReply N a2 a3 l4 l5) fun v5 =>
 some v5
def m_ropewalkkit_CopySessions_L1 (N : Nat) (l0 : List SessD) : (Nat × (List SessD)) → Option ((Nat × (List SessD)) ⊕ (List SessD)) := fun (u1_4, u1_3_l) =>
 if (decide (u1_4 < l0.length)) = true then (
  bindO (l0[u1_4]?) fun x14 =>
  bindO (m_ropewalkkit_CopySession N x14.id x14.seq x14.r.err x14.r.num x14.r.facts x14.r.said) fun v16 =>
  gd (u1_3_l.length + ([(⟨x14.id, x14.seq, (⟨x14.r.err, x14.r.num, v16, x14.r.said⟩ : ReplyD)⟩ : SessD)]).length ≤ 1759218604441) <|
  gd (u1_4 + 1 ≤ 9223372036854775807) <|
  some (.inl (u1_4 + 1, (u1_3_l ++ [(⟨x14.id, x14.seq, (⟨x14.r.err, x14.r.num, v16, x14.r.said⟩ : ReplyD)⟩ : SessD)])))
 ) else (
  some (.inr u1_3_l)
 )
def m_ropewalkkit_CopySessions (N : Nat) (l0 : List SessD) : Option (List SessD) :=
 bindO (
  iter (m_ropewalkkit_CopySessions_L1 N l0) N (0, [])
 ) fun j_1_3_l =>
 some j_1_3_l
def m_ropewalkref27_Of_C3 (N : Nat) (l1 : List SessD) (u1_7 : Nat) (u1_6 : Int) (a0 : Int) : Option (Bool) :=
 bindO (l1[u1_7]?) fun x27 =>
 if (decide (x27.id ≤ u1_6)) = true then (
  some true
 ) else (
  bindO (l1[u1_7]?) fun x35 =>
  if (decide (x35.id ≥ a0)) = true then (
   some true
  ) else (
   bindO (l1[u1_7]?) fun x44 =>
   some (decide (x44.seq < 0))
  )
 )
def m_ropewalkref27_Of_L1 (N : Nat) (l1 : List SessD) (a0 : Int) : (Nat × Int) → Option ((Nat × Int) ⊕ (Unit ⊕ (Unit ⊕ (List SessD)))) := fun (u1_7, u1_6) =>
 if (decide (u1_7 < l1.length)) = true then (
  bindO (m_ropewalkref27_Of_C3 N l1 u1_7 u1_6 a0
  ) fun j_3_48 =>
  if j_3_48 = true then (
   some (.inr (.inr (.inl ())))
  ) else (
   bindO (l1[u1_7]?) fun x51 =>
   gd (u1_7 + 1 ≤ 9223372036854775807) <|
   some (.inl (u1_7 + 1, x51.id))
  )
 ) else (
  some (.inr (.inl ()))
 )
def m_ropewalkref27_Of (N : Nat) (a0 : Int) (l1 : List SessD) : Option (Unit ⊕ (List SessD)) :=
 bindO (
  if (decide (a0 < 1)) = true then (
   some true
  ) else (
   if (decide (a0 > 1099511627777)) = true then (
    some true
   ) else (
    some (decide (32 < l1.length))
   )
  )
 ) fun j_1_18 =>
 if j_1_18 = true then (
  some (.inl ())
 ) else (
  bindS (
   iter (m_ropewalkref27_Of_L1 N l1 a0) N (0, 0)
  ) fun _ =>
  bindO (m_ropewalkkit_CopySessions N l1) fun v55 =>
  some (.inr v55)
 )
def m_ropewalkkit_SameValues_W_L1 (N : Nat) (k1 : Nat) (l0 : List V) (l2 : List V) : Nat → Option (Nat ⊕ (Unit ⊕ Bool)) := fun u1_5 =>
 if (decide (u1_5 < k1)) = true then (
  gd (u1_5 < k1) <|
  bindO (l0[u1_5]?) fun x19 =>
  bindO (l2[u1_5]?) fun x23 =>
  if (!decide (x19 = x23)) = true then (
   some (.inr (.inr false))
  ) else (
   gd (u1_5 + 1 ≤ 9223372036854775807) <|
   some (.inl (u1_5 + 1))
  )
 ) else (
  some (.inr (.inl ()))
 )
def m_ropewalkkit_SameValues_W (N : Nat) (l0 : List V) (k1 : Nat) (l2 : List V) : Option (Bool) :=
 if (k1 != l2.length) = true then (
  some false
 ) else (
  bindS (
   iter (m_ropewalkkit_SameValues_W_L1 N k1 l0 l2) N 0
  ) fun _ =>
  some true
 )
def m_ropewalkkit_SameFact_W (N : Nat) (a0 : Int) (a1 : Int) (l2 : List V) (k3 : Nat) (a4 : Int) (a5 : Int) (l6 : List V) : Option (Bool) :=
 if (a0 == a4) = true then (
  if (a1 == a5) = true then (
   bindO (m_ropewalkkit_SameValues_W N l2 k3 l6) fun v22 =>
   some v22
  ) else (
   some false
  )
 ) else (
  some false
 )
def m_ropewalkkit_SameFacts_W_L1 (N : Nat) (k1 : Nat) (l0 : List FactDS) (l2 : List FactD) : Nat → Option (Nat ⊕ (Unit ⊕ Bool)) := fun u1_5 =>
 if (decide (u1_5 < k1)) = true then (
  gd (u1_5 < k1) <|
  bindO (l0[u1_5]?) fun x19 =>
  bindO (l2[u1_5]?) fun x23 =>
  bindO (m_ropewalkkit_SameFact_W N x19.id x19.ty (x19.args ++ x19.argsT) x19.args.length x23.id x23.ty x23.args) fun v25 =>
  if (!v25) = true then (
   some (.inr (.inr false))
  ) else (
   gd (u1_5 + 1 ≤ 9223372036854775807) <|
   some (.inl (u1_5 + 1))
  )
 ) else (
  some (.inr (.inl ()))
 )
def m_ropewalkkit_SameFacts_W (N : Nat) (l0 : List FactDS) (k1 : Nat) (l2 : List FactD) : Option (Bool) :=
 if (k1 != l2.length) = true then (
  some false
 ) else (
  bindS (
   iter (m_ropewalkkit_SameFacts_W_L1 N k1 l0 l2) N 0
  ) fun _ =>
  some true
 )
def m_ropewalkkit_SameReply_W_C1 (N : Nat) (a0 : Int) (a6 : Int) (a1 : Int) (a7 : Int) (l2 : List FactDS) (k3 : Nat) (l8 : List FactD) (l4 : List V) (k5 : Nat) (l9 : List V) : Option (Bool) :=
 if (a0 == a6) = true then (
  if (a1 == a7) = true then (
   bindO (m_ropewalkkit_SameFacts_W N l2 k3 l8) fun v22 =>
   if v22 = true then (
    bindO (m_ropewalkkit_SameValues_W N l4 k5 l9) fun v29 =>
    some v29
   ) else (
    some false
   )
  ) else (
   some false
  )
 ) else (
  some false
 )
def m_ropewalkkit_SameReply_W (N : Nat) (a0 : Int) (a1 : Int) (l2 : List FactDS) (k3 : Nat) (l4 : List V) (k5 : Nat) (a6 : Int) (a7 : Int) (l8 : List FactD) (l9 : List V) : Option (Bool) :=
 bindO (m_ropewalkkit_SameReply_W_C1 N a0 a6 a1 a7 l2 k3 l8 l4 k5 l9
 ) fun j_1_4 =>
 some j_1_4
def m_ropewalkkit_SameSession_W (N : Nat) (a0 : Int) (a1 : Int) (a2 : Int) (a3 : Int) (l4 : List FactDS) (k5 : Nat) (l6 : List V) (k7 : Nat) (a8 : Int) (a9 : Int) (a10 : Int) (a11 : Int) (l12 : List FactD) (l13 : List V) : Option (Bool) :=
 if (a0 == a8) = true then (
  if (a1 == a9) = true then (
   bindO (m_ropewalkkit_SameReply_W N a2 a3 l4 k5 l6 k7 a10 a11 l12 l13) fun v22 =>
   some v22
  ) else (
   some false
  )
 ) else (
  some false
 )
def m_ropewalkkit_KeptValues_W_C2 (N : Nat) (u1_6 : Nat) (l2 : List V) (l0 : List V) : Option (Bool) :=
 if (decide (u1_6 < l2.length)) = true then (
  bindO ((l0.take (l2.length + 12))[u1_6]?) fun x30 =>
  bindO (l2[u1_6]?) fun x34 =>
  if (!(decide (x30 = x34))) = true then (
   some true
  ) else (
   if (decide (l2.length ≤ u1_6)) = true then (
    bindO ((l0.take (l2.length + 12))[u1_6]?) fun x47 =>
    gd (-9223372036854775808 ≤ ((u1_6 : Nat) : Int) - ((l2.length : Nat) : Int) ∧ ((u1_6 : Nat) : Int) - ((l2.length : Nat) : Int) ≤ 9223372036854775807) <|
    bindO (m_ropewalkkit_markValue N 1 (((u1_6 : Nat) : Int) - ((l2.length : Nat) : Int))) fun _ =>
    some (!(decide (x47 = (⟨0, IntKind.wrap .i64 ((IntKind.wrap .i64 (1000003 * (IntKind.wrap .i64 (1 + 7)))) + (((u1_6 : Nat) : Int) - ((l2.length : Nat) : Int))), (⟨#[]⟩ : ByteArray)⟩ : V))))
   ) else (
    some false
   )
  )
 ) else (
  if (decide (l2.length ≤ u1_6)) = true then (
   bindO ((l0.take (l2.length + 12))[u1_6]?) fun x47 =>
   gd (-9223372036854775808 ≤ ((u1_6 : Nat) : Int) - ((l2.length : Nat) : Int) ∧ ((u1_6 : Nat) : Int) - ((l2.length : Nat) : Int) ≤ 9223372036854775807) <|
   bindO (m_ropewalkkit_markValue N 1 (((u1_6 : Nat) : Int) - ((l2.length : Nat) : Int))) fun _ =>
   some (!(decide (x47 = (⟨0, IntKind.wrap .i64 ((IntKind.wrap .i64 (1000003 * (IntKind.wrap .i64 (1 + 7)))) + (((u1_6 : Nat) : Int) - ((l2.length : Nat) : Int))), (⟨#[]⟩ : ByteArray)⟩ : V))))
  ) else (
   some false
  )
 )
def m_ropewalkkit_KeptValues_W_L1 (N : Nat) (l0 : List V) (l2 : List V) : Nat → Option (Nat ⊕ (Unit ⊕ Bool)) := fun u1_6 =>
 if (decide (u1_6 < ((l0.take (l2.length + 12)).length))) = true then (
  bindO (m_ropewalkkit_KeptValues_W_C2 N u1_6 l2 l0
  ) fun j_2_57 =>
  if j_2_57 = true then (
   some (.inr (.inr false))
  ) else (
   gd (u1_6 + 1 ≤ 9223372036854775807) <|
   some (.inl (u1_6 + 1))
  )
 ) else (
  some (.inr (.inl ()))
 )
def m_ropewalkkit_KeptValues_W (N : Nat) (l0 : List V) (k1 : Nat) (l2 : List V) : Option (Bool) :=
 if (k1 != l2.length) = true then (
  some false
 ) else (
  gd (l2.length + 12 ≤ 9223372036854775807) <|
  gd (l2.length + 12 ≤ l0.length) <|
  bindS (
   iter (m_ropewalkkit_KeptValues_W_L1 N l0 l2) N 0
  ) fun _ =>
  some true
 )
def m_ropewalkkit_KeptFact_W (N : Nat) (a0 : Int) (a1 : Int) (l2 : List V) (k3 : Nat) (a4 : Int) (a5 : Int) (l6 : List V) : Option (Bool) :=
 bindO (m_ropewalkkit_SameFact_W N a0 a1 l2 k3 a4 a5 l6) fun v7 =>
 if v7 = true then (
  bindO (m_ropewalkkit_KeptValues_W N l2 k3 l6) fun v13 =>
  some v13
 ) else (
  some false
 )
def m_ropewalkkit_KeptFacts_W_C2 (N : Nat) (u1_6 : Nat) (l2 : List FactD) (l0 : List FactDS) : Option (Bool) :=
 if (decide (u1_6 < l2.length)) = true then (
  bindO ((l0.take (l2.length + 12))[u1_6]?) fun x30 =>
  bindO (l2[u1_6]?) fun x34 =>
  bindO (m_ropewalkkit_KeptFact_W N x30.id x30.ty (x30.args ++ x30.argsT) x30.args.length x34.id x34.ty x34.args) fun v36 =>
  if (!v36) = true then (
   some true
  ) else (
   if (decide (l2.length ≤ u1_6)) = true then (
    bindO ((l0.take (l2.length + 12))[u1_6]?) fun x47 =>
    gd (-9223372036854775808 ≤ ((u1_6 : Nat) : Int) - ((l2.length : Nat) : Int) ∧ ((u1_6 : Nat) : Int) - ((l2.length : Nat) : Int) ≤ 9223372036854775807) <|
    bindO (m_ropewalkkit_markFact N 1 (((u1_6 : Nat) : Int) - ((l2.length : Nat) : Int))) fun _ =>
    bindO (m_ropewalkkit_SameFact_W N x47.id x47.ty (x47.args ++ x47.argsT) x47.args.length (IntKind.wrap .i64 ((IntKind.wrap .i64 (1000003 * (IntKind.wrap .i64 (1 + 7)))) + (((u1_6 : Nat) : Int) - ((l2.length : Nat) : Int)))) 0 ([] : List V)) fun v54 =>
    some (!v54)
   ) else (
    some false
   )
  )
 ) else (
  if (decide (l2.length ≤ u1_6)) = true then (
   bindO ((l0.take (l2.length + 12))[u1_6]?) fun x47 =>
   gd (-9223372036854775808 ≤ ((u1_6 : Nat) : Int) - ((l2.length : Nat) : Int) ∧ ((u1_6 : Nat) : Int) - ((l2.length : Nat) : Int) ≤ 9223372036854775807) <|
   bindO (m_ropewalkkit_markFact N 1 (((u1_6 : Nat) : Int) - ((l2.length : Nat) : Int))) fun _ =>
   bindO (m_ropewalkkit_SameFact_W N x47.id x47.ty (x47.args ++ x47.argsT) x47.args.length (IntKind.wrap .i64 ((IntKind.wrap .i64 (1000003 * (IntKind.wrap .i64 (1 + 7)))) + (((u1_6 : Nat) : Int) - ((l2.length : Nat) : Int)))) 0 ([] : List V)) fun v54 =>
   some (!v54)
  ) else (
   some false
  )
 )
def m_ropewalkkit_KeptFacts_W_L1 (N : Nat) (l0 : List FactDS) (l2 : List FactD) : Nat → Option (Nat ⊕ (Unit ⊕ Bool)) := fun u1_6 =>
 if (decide (u1_6 < ((l0.take (l2.length + 12)).length))) = true then (
  bindO (m_ropewalkkit_KeptFacts_W_C2 N u1_6 l2 l0
  ) fun j_2_57 =>
  if j_2_57 = true then (
   some (.inr (.inr false))
  ) else (
   gd (u1_6 + 1 ≤ 9223372036854775807) <|
   some (.inl (u1_6 + 1))
  )
 ) else (
  some (.inr (.inl ()))
 )
def m_ropewalkkit_KeptFacts_W (N : Nat) (l0 : List FactDS) (k1 : Nat) (l2 : List FactD) : Option (Bool) :=
 if (k1 != l2.length) = true then (
  some false
 ) else (
  gd (l2.length + 12 ≤ 9223372036854775807) <|
  gd (l2.length + 12 ≤ l0.length) <|
  bindS (
   iter (m_ropewalkkit_KeptFacts_W_L1 N l0 l2) N 0
  ) fun _ =>
  some true
 )
def m_ropewalkkit_KeptReply_W (N : Nat) (a0 : Int) (a1 : Int) (l2 : List FactDS) (k3 : Nat) (l4 : List V) (k5 : Nat) (a6 : Int) (a7 : Int) (l8 : List FactD) (l9 : List V) : Option (Bool) :=
 bindO (m_ropewalkkit_SameReply_W N a0 a1 l2 k3 l4 k5 a6 a7 l8 l9) fun v7 =>
 if v7 = true then (
  bindO (m_ropewalkkit_KeptFacts_W N l2 k3 l8) fun v13 =>
  if v13 = true then (
   bindO (m_ropewalkkit_KeptValues_W N l4 k5 l9) fun v20 =>
   some v20
  ) else (
   some false
  )
 ) else (
  some false
 )
def m_ropewalkkit_KeptSession_W (N : Nat) (a0 : Int) (a1 : Int) (a2 : Int) (a3 : Int) (l4 : List FactDS) (k5 : Nat) (l6 : List V) (k7 : Nat) (a8 : Int) (a9 : Int) (a10 : Int) (a11 : Int) (l12 : List FactD) (l13 : List V) : Option (Bool) :=
 bindO (m_ropewalkkit_SameSession_W N a0 a1 a2 a3 l4 k5 l6 k7 a8 a9 a10 a11 l12 l13) fun v7 =>
 if v7 = true then (
  bindO (m_ropewalkkit_KeptReply_W N a2 a3 l4 k5 l6 k7 a10 a11 l12 l13) fun v13 =>
  some v13
 ) else (
  some false
 )
def m_ropewalkkit_KeptSessions_W_C2 (N : Nat) (u1_6 : Nat) (l2 : List SessD) (l0 : List SessDS) : Option (Bool) :=
 if (decide (u1_6 < l2.length)) = true then (
  bindO ((l0.take (l2.length + 12))[u1_6]?) fun x30 =>
  bindO (l2[u1_6]?) fun x34 =>
  bindO (m_ropewalkkit_KeptSession_W N x30.id x30.seq x30.r.err x30.r.num (x30.r.facts ++ x30.r.factsT) x30.r.facts.length (x30.r.said ++ x30.r.saidT) x30.r.said.length x34.id x34.seq x34.r.err x34.r.num x34.r.facts x34.r.said) fun v36 =>
  if (!v36) = true then (
   some true
  ) else (
   if (decide (l2.length ≤ u1_6)) = true then (
    bindO ((l0.take (l2.length + 12))[u1_6]?) fun x47 =>
    gd (-9223372036854775808 ≤ ((u1_6 : Nat) : Int) - ((l2.length : Nat) : Int) ∧ ((u1_6 : Nat) : Int) - ((l2.length : Nat) : Int) ≤ 9223372036854775807) <|
    bindO (m_ropewalkkit_markSession N 1 (((u1_6 : Nat) : Int) - ((l2.length : Nat) : Int))) fun _ =>
    bindO (m_ropewalkkit_SameSession_W N x47.id x47.seq x47.r.err x47.r.num (x47.r.facts ++ x47.r.factsT) x47.r.facts.length (x47.r.said ++ x47.r.saidT) x47.r.said.length (IntKind.wrap .i64 ((IntKind.wrap .i64 (1000003 * (IntKind.wrap .i64 (1 + 7)))) + (((u1_6 : Nat) : Int) - ((l2.length : Nat) : Int)))) 0 0 0 ([] : List FactD) ([] : List V)) fun v54 =>
    some (!v54)
   ) else (
    some false
   )
  )
 ) else (
  if (decide (l2.length ≤ u1_6)) = true then (
   bindO ((l0.take (l2.length + 12))[u1_6]?) fun x47 =>
   gd (-9223372036854775808 ≤ ((u1_6 : Nat) : Int) - ((l2.length : Nat) : Int) ∧ ((u1_6 : Nat) : Int) - ((l2.length : Nat) : Int) ≤ 9223372036854775807) <|
   bindO (m_ropewalkkit_markSession N 1 (((u1_6 : Nat) : Int) - ((l2.length : Nat) : Int))) fun _ =>
   bindO (m_ropewalkkit_SameSession_W N x47.id x47.seq x47.r.err x47.r.num (x47.r.facts ++ x47.r.factsT) x47.r.facts.length (x47.r.said ++ x47.r.saidT) x47.r.said.length (IntKind.wrap .i64 ((IntKind.wrap .i64 (1000003 * (IntKind.wrap .i64 (1 + 7)))) + (((u1_6 : Nat) : Int) - ((l2.length : Nat) : Int)))) 0 0 0 ([] : List FactD) ([] : List V)) fun v54 =>
   some (!v54)
  ) else (
   some false
  )
 )
def m_ropewalkkit_KeptSessions_W_L1 (N : Nat) (l0 : List SessDS) (l2 : List SessD) : Nat → Option (Nat ⊕ (Unit ⊕ Bool)) := fun u1_6 =>
 if (decide (u1_6 < ((l0.take (l2.length + 12)).length))) = true then (
  bindO (m_ropewalkkit_KeptSessions_W_C2 N u1_6 l2 l0
  ) fun j_2_57 =>
  if j_2_57 = true then (
   some (.inr (.inr false))
  ) else (
   gd (u1_6 + 1 ≤ 9223372036854775807) <|
   some (.inl (u1_6 + 1))
  )
 ) else (
  some (.inr (.inl ()))
 )
def m_ropewalkkit_KeptSessions_W (N : Nat) (l0 : List SessDS) (k1 : Nat) (l2 : List SessD) : Option (Bool) :=
 if (k1 != l2.length) = true then (
  some false
 ) else (
  gd (l2.length + 12 ≤ 9223372036854775807) <|
  gd (l2.length + 12 ≤ l0.length) <|
  bindS (
   iter (m_ropewalkkit_KeptSessions_W_L1 N l0 l2) N 0
  ) fun _ =>
  some true
 )
def m_ropewalkkit_OverValues_V_L1 (N : Nat) (k1 : Nat) : (Nat × (List V)) → Option ((Nat × (List V)) ⊕ (List V)) := fun (u1_3, u1_2_l) =>
 if (decide (u1_3 < (k1 + 12))) = true then (
  bindO (m_ropewalkkit_markValue N 2 ((u1_3 : Nat) : Int)) fun _ =>
  bindO (u1_2_l[u1_3]?) fun x19 =>
  gd (u1_3 < k1 + 12) <|
  gd (u1_3 + 1 ≤ 9223372036854775807) <|
  some (.inl (u1_3 + 1, (u1_2_l.set u1_3 (⟨0, (IntKind.wrap .i64 ((IntKind.wrap .i64 (1000003 * (IntKind.wrap .i64 (2 + 7)))) + ((u1_3 : Nat) : Int))), (⟨#[]⟩ : ByteArray)⟩ : V))))
 ) else (
  some (.inr u1_2_l)
 )
def m_ropewalkkit_OverValues_V (N : Nat) (l0 : List V) (k1 : Nat) : Option (List V) :=
 gd (k1 + 12 ≤ 9223372036854775807) <|
 gd (k1 + 12 ≤ l0.length) <|
 iter (m_ropewalkkit_OverValues_V_L1 N k1) N (0, l0)
def m_ropewalkkit_OverFact_V (N : Nat) (a0 : Int) (a1 : Int) (l2 : List V) (k3 : Nat) : Option (List V) :=
 bindO (m_ropewalkkit_OverValues_V N l2 k3) fun v4 =>
 some v4
def m_ropewalkkit_OverFacts_V_L1 (N : Nat) (k1 : Nat) : (Nat × (List FactDS)) → Option ((Nat × (List FactDS)) ⊕ (List FactDS)) := fun (u1_2, u1_0_l) =>
 if (decide (u1_2 < k1)) = true then (
  bindO (u1_0_l[u1_2]?) fun x13 =>
  gd (u1_2 < k1) <|
  bindO (m_ropewalkkit_OverFact_V N x13.id x13.ty (x13.args ++ x13.argsT) x13.args.length) fun v15 =>
  gd (u1_2 + 1 ≤ 9223372036854775807) <|
  some (.inl (u1_2 + 1, (u1_0_l.set u1_2 (⟨x13.id, x13.ty, v15.take x13.args.length, v15.drop x13.args.length⟩ : FactDS))))
 ) else (
  some (.inr u1_0_l)
 )
def m_ropewalkkit_OverFacts_V_L2 (N : Nat) (k1 : Nat) : (Nat × (List FactDS)) → Option ((Nat × (List FactDS)) ⊕ (List FactDS)) := fun (u2_4, u2_3_l) =>
 if (decide (u2_4 < (k1 + 12))) = true then (
  bindO (m_ropewalkkit_markFact N 2 ((u2_4 : Nat) : Int)) fun _ =>
  bindO (u2_3_l[u2_4]?) fun x31 =>
  gd (u2_4 < k1 + 12) <|
  gd (u2_4 + 1 ≤ 9223372036854775807) <|
  some (.inl (u2_4 + 1, (u2_3_l.set u2_4 (⟨(IntKind.wrap .i64 ((IntKind.wrap .i64 (1000003 * (IntKind.wrap .i64 (2 + 7)))) + ((u2_4 : Nat) : Int))), 0, ([] : List V), []⟩ : FactDS))))
 ) else (
  some (.inr u2_3_l)
 )
def m_ropewalkkit_OverFacts_V (N : Nat) (l0 : List FactDS) (k1 : Nat) : Option (List FactDS) :=
 bindO (
  iter (m_ropewalkkit_OverFacts_V_L1 N k1) N (0, l0)
 ) fun j_1_0_l =>
 gd (k1 + 12 ≤ 9223372036854775807) <|
 gd (k1 + 12 ≤ j_1_0_l.length) <|
 iter (m_ropewalkkit_OverFacts_V_L2 N k1) N (0, j_1_0_l)
def m_ropewalkkit_OverReply_V (N : Nat) (a0 : Int) (a1 : Int) (l2 : List FactDS) (k3 : Nat) (l4 : List V) (k5 : Nat) : Option ((List FactDS) × (List V)) :=
 bindO (m_ropewalkkit_OverFacts_V N l2 k3) fun v4 =>
 bindO (m_ropewalkkit_OverValues_V N l4 k5) fun v7 =>
 some (v4, v7)
def m_ropewalkkit_OverSession_V (N : Nat) (a0 : Int) (a1 : Int) (a2 : Int) (a3 : Int) (l4 : List FactDS) (k5 : Nat) (l6 : List V) (k7 : Nat) : Option ((List FactDS) × (List V)) :=
 bindO (m_ropewalkkit_OverReply_V N a2 a3 l4 k5 l6 k7) fun (v4_0, v4_1) =>
 some (v4_0, v4_1)
def m_ropewalkkit_OverSessions_V_L1 (N : Nat) (k1 : Nat) : (Nat × (List SessDS)) → Option ((Nat × (List SessDS)) ⊕ (List SessDS)) := fun (u1_2, u1_0_l) =>
 if (decide (u1_2 < k1)) = true then (
  bindO (u1_0_l[u1_2]?) fun x13 =>
  gd (u1_2 < k1) <|
  bindO (m_ropewalkkit_OverSession_V N x13.id x13.seq x13.r.err x13.r.num (x13.r.facts ++ x13.r.factsT) x13.r.facts.length (x13.r.said ++ x13.r.saidT) x13.r.said.length) fun (v15_0, v15_1) =>
  gd (u1_2 + 1 ≤ 9223372036854775807) <|
  some (.inl (u1_2 + 1, (u1_0_l.set u1_2 (⟨x13.id, x13.seq, (⟨x13.r.err, x13.r.num, v15_0.take x13.r.facts.length, v15_0.drop x13.r.facts.length, v15_1.take x13.r.said.length, v15_1.drop x13.r.said.length⟩ : ReplyDS)⟩ : SessDS))))
 ) else (
  some (.inr u1_0_l)
 )
def m_ropewalkkit_OverSessions_V_L2 (N : Nat) (k1 : Nat) : (Nat × (List SessDS)) → Option ((Nat × (List SessDS)) ⊕ (List SessDS)) := fun (u2_4, u2_3_l) =>
 if (decide (u2_4 < (k1 + 12))) = true then (
  bindO (m_ropewalkkit_markSession N 2 ((u2_4 : Nat) : Int)) fun _ =>
  bindO (u2_3_l[u2_4]?) fun x31 =>
  gd (u2_4 < k1 + 12) <|
  gd (u2_4 + 1 ≤ 9223372036854775807) <|
  some (.inl (u2_4 + 1, (u2_3_l.set u2_4 (⟨(IntKind.wrap .i64 ((IntKind.wrap .i64 (1000003 * (IntKind.wrap .i64 (2 + 7)))) + ((u2_4 : Nat) : Int))), 0, (⟨0, 0, ([] : List FactDS), [], ([] : List V), []⟩ : ReplyDS)⟩ : SessDS))))
 ) else (
  some (.inr u2_3_l)
 )
def m_ropewalkkit_OverSessions_V (N : Nat) (l0 : List SessDS) (k1 : Nat) : Option (List SessDS) :=
 bindO (
  iter (m_ropewalkkit_OverSessions_V_L1 N k1) N (0, l0)
 ) fun j_1_0_l =>
 gd (k1 + 12 ≤ 9223372036854775807) <|
 gd (k1 + 12 ≤ j_1_0_l.length) <|
 iter (m_ropewalkkit_OverSessions_V_L2 N k1) N (0, j_1_0_l)
def m_ropewalkkit_Pick (N : Nat) (a0 : Int) (a1 : Int) : Option (Int) :=
 if (decide (a1 < 1)) = true then (
  some 0
 ) else (
  gd (a1 ≠ 0) <|
  bindO (
   if (decide ((Int.tmod a0 a1) < 0)) = true then (
    gd (-9223372036854775808 ≤ (Int.tmod a0 a1) + a1 ∧ (Int.tmod a0 a1) + a1 ≤ 9223372036854775807) <|
    some ((Int.tmod a0 a1) + a1)
   ) else (
    some (Int.tmod a0 a1)
   )
  ) fun j_1_0 =>
  some j_1_0
 )
def m_session_Table_Open_v2 (N : Nat) (l0 : List SessD) (a1 : Int) : Option (Int × Nat × (List SessD) × Int) :=
 bindO (m_session_Table_known N l0 a1) fun _ =>
 if (!(decide (a1 > 0))) = true then (
  some (0, 1, l0, a1)
 ) else (
  bindO (
   if (decide (32 ≤ l0.length)) = true then (
    some true
   ) else (
    some (decide (a1 > 1099511627776))
   )
  ) fun j_1_8 =>
  if j_1_8 = true then (
   some (0, 5, l0, a1)
  ) else (
   gd (l0.length + ([(⟨a1, 0, (⟨0, 0, [], []⟩ : ReplyD)⟩ : SessD)]).length ≤ 1759218604441) <|
   gd (-9223372036854775808 ≤ a1 + 1 ∧ a1 + 1 ≤ 9223372036854775807) <|
   gd (-9223372036854775808 ≤ (a1 + 1) - 1 ∧ (a1 + 1) - 1 ≤ 9223372036854775807) <|
   some ((a1 + 1) - 1, 0, (l0 ++ [(⟨a1, 0, (⟨0, 0, [], []⟩ : ReplyD)⟩ : SessD)]), a1 + 1)
  )
 )
def m_ropewalkref27_Table_Open (N : Nat) (l0 : List SessD) (a1 : Int) : Option (Int × Nat × (List SessD) × Int) :=
 bindO (
  if (decide (32 ≤ l0.length)) = true then (
   some true
  ) else (
   some (decide (a1 > 1099511627776))
  )
 ) fun j_1_16 =>
 if j_1_16 = true then (
  some (0, 5, l0, a1)
 ) else (
  bindO (m_ropewalkkit_CopySessions N l0) fun v22 =>
  gd (v22.length + ([(⟨a1, 0, (⟨0, 0, [], []⟩ : ReplyD)⟩ : SessD)]).length ≤ 1759218604441) <|
  gd (-9223372036854775808 ≤ a1 + 1 ∧ a1 + 1 ≤ 9223372036854775807) <|
  gd (-9223372036854775808 ≤ (a1 + 1) - 1 ∧ (a1 + 1) - 1 ≤ 9223372036854775807) <|
  some ((a1 + 1) - 1, 0, (v22 ++ [(⟨a1, 0, (⟨0, 0, [], []⟩ : ReplyD)⟩ : SessD)]), a1 + 1)
 )
def m_session_Table_Done_v2 (N : Nat) (l0 : List SessD) (a1 : Int) (a2 : Int) (a3 : Int) (a4 : Int) (a5 : Int) (l6 : List FactD) (l7 : List V) : Option (Nat × (List SessD)) :=
 bindO (m_session_Table_at N l0 a1 a2) fun (v14_0, v14_1) =>
 if (v14_1 != 0) = true then (
  some (v14_1, l0)
 ) else (
  bindO (
   if (decide (a3 < 1)) = true then (
    some true
   ) else (
    gd (0 ≤ v14_0) <|
    bindO (l0[v14_0.toNat]?) fun x32 =>
    bindO (l0[v14_0.toNat]?) fun x34 =>
    some (decide (a3 ≤ x34.seq))
   )
  ) fun j_1_21 =>
  if j_1_21 = true then (
   some (304, l0)
  ) else (
   bindO (m_session_own N a4 a5 l6 l7) fun v51 =>
   gd (0 ≤ v14_0) <|
   bindO (l0[v14_0.toNat]?) fun x52 =>
   bindO (l0[v14_0.toNat]?) fun x1012 =>
   gd (0 ≤ v14_0) <|
   some (0, (l0.set v14_0.toNat (⟨(⟨x1012.id, a3, x1012.r⟩ : SessD).id, (⟨x1012.id, a3, x1012.r⟩ : SessD).seq, (⟨a4, a5, v51, l7⟩ : ReplyD)⟩ : SessD)))
  )
 )
def m_ropewalkkit_SameValues_L1 (N : Nat) (l0 : List V) (l1 : List V) : Nat → Option (Nat ⊕ (Unit ⊕ Bool)) := fun u1_5 =>
 if (decide (u1_5 < l0.length)) = true then (
  bindO (l0[u1_5]?) fun x19 =>
  bindO (l1[u1_5]?) fun x23 =>
  if (!decide (x19 = x23)) = true then (
   some (.inr (.inr false))
  ) else (
   gd (u1_5 + 1 ≤ 9223372036854775807) <|
   some (.inl (u1_5 + 1))
  )
 ) else (
  some (.inr (.inl ()))
 )
def m_ropewalkkit_SameValues (N : Nat) (l0 : List V) (l1 : List V) : Option (Bool) :=
 if (l0.length != l1.length) = true then (
  some false
 ) else (
  bindS (
   iter (m_ropewalkkit_SameValues_L1 N l0 l1) N 0
  ) fun _ =>
  some true
 )
def m_ropewalkkit_SameFact (N : Nat) (a0 : Int) (a1 : Int) (l2 : List V) (a3 : Int) (a4 : Int) (l5 : List V) : Option (Bool) :=
 if (a0 == a3) = true then (
  if (a1 == a4) = true then (
   bindO (m_ropewalkkit_SameValues N l2 l5) fun v22 =>
   some v22
  ) else (
   some false
  )
 ) else (
  some false
 )
def m_ropewalkkit_SameFacts_L1 (N : Nat) (l0 : List FactD) (l1 : List FactD) : Nat → Option (Nat ⊕ (Unit ⊕ Bool)) := fun u1_5 =>
 if (decide (u1_5 < l0.length)) = true then (
  bindO (l0[u1_5]?) fun x19 =>
  bindO (l1[u1_5]?) fun x23 =>
  bindO (m_ropewalkkit_SameFact N x19.id x19.ty x19.args x23.id x23.ty x23.args) fun v25 =>
  if (!v25) = true then (
   some (.inr (.inr false))
  ) else (
   gd (u1_5 + 1 ≤ 9223372036854775807) <|
   some (.inl (u1_5 + 1))
  )
 ) else (
  some (.inr (.inl ()))
 )
def m_ropewalkkit_SameFacts (N : Nat) (l0 : List FactD) (l1 : List FactD) : Option (Bool) :=
 if (l0.length != l1.length) = true then (
  some false
 ) else (
  bindS (
   iter (m_ropewalkkit_SameFacts_L1 N l0 l1) N 0
  ) fun _ =>
  some true
 )
def m_ropewalkkit_SameReply_C1 (N : Nat) (a0 : Int) (a4 : Int) (a1 : Int) (a5 : Int) (l2 : List FactD) (l6 : List FactD) (l3 : List V) (l7 : List V) : Option (Bool) :=
 if (a0 == a4) = true then (
  if (a1 == a5) = true then (
   bindO (m_ropewalkkit_SameFacts N l2 l6) fun v22 =>
   if v22 = true then (
    bindO (m_ropewalkkit_SameValues N l3 l7) fun v29 =>
    some v29
   ) else (
    some false
   )
  ) else (
   some false
  )
 ) else (
  some false
 )
def m_ropewalkkit_SameReply (N : Nat) (a0 : Int) (a1 : Int) (l2 : List FactD) (l3 : List V) (a4 : Int) (a5 : Int) (l6 : List FactD) (l7 : List V) : Option (Bool) :=
 bindO (m_ropewalkkit_SameReply_C1 N a0 a4 a1 a5 l2 l6 l3 l7
 ) fun j_1_4 =>
 some j_1_4
def m_ropewalkkit_SameFact_n (N : Nat) (a0 : Int) (a1 : Int) (a2 : Int) (a3 : Int) : Option (Bool) :=
 if (a0 == a2) = true then (
  if (a1 == a3) = true then (
   bindO (m_ropewalkkit_SameValues N ([] : List V) ([] : List V)) fun v22 =>
   some v22
  ) else (
   some false
  )
 ) else (
  some false
 )
def m_ropewalkkit_markReply (N : Nat) (a0 : Int) (a1 : Int) : Option (Unit) :=
 bindO (m_ropewalkkit_mark N a0 a1) fun _ =>
 some ()
def m_ropewalkkit_SameReply_n_C1 (N : Nat) (a0 : Int) (a2 : Int) (a1 : Int) (a3 : Int) : Option (Bool) :=
 if (a0 == a2) = true then (
  if (a1 == a3) = true then (
   bindO (m_ropewalkkit_SameFacts N ([] : List FactD) ([] : List FactD)) fun v22 =>
   if v22 = true then (
    bindO (m_ropewalkkit_SameValues N ([] : List V) ([] : List V)) fun v29 =>
    some v29
   ) else (
    some false
   )
  ) else (
   some false
  )
 ) else (
  some false
 )
def m_ropewalkkit_SameReply_n (N : Nat) (a0 : Int) (a1 : Int) (a2 : Int) (a3 : Int) : Option (Bool) :=
 bindO (m_ropewalkkit_SameReply_n_C1 N a0 a2 a1 a3
 ) fun j_1_4 =>
 some j_1_4
def m_ropewalkkit_SameSession_n (N : Nat) (a0 : Int) (a1 : Int) (a2 : Int) (a3 : Int) (a4 : Int) (a5 : Int) (a6 : Int) (a7 : Int) : Option (Bool) :=
 if (a0 == a4) = true then (
  if (a1 == a5) = true then (
   bindO (m_ropewalkkit_SameReply N a2 a3 ([] : List FactD) ([] : List V) a6 a7 ([] : List FactD) ([] : List V)) fun v22 =>
   some v22
  ) else (
   some false
  )
 ) else (
  some false
 )
def m_session_Table_Next (N : Nat) (l0 : List SessD) (a1 : Int) : Option (Int) :=
 bindO (m_session_Table_known N l0 a1) fun _ =>
 if (!(decide (a1 > 0))) = true then (
  some 0
 ) else (
  some a1
 )
def m_session_Table_All (N : Nat) (l0 : List SessD) (a1 : Int) : Option (List SessD) :=
 bindO (m_session_Table_known N l0 a1) fun _ =>
 if (!(decide (a1 > 0))) = true then (
  some []
 ) else (
  bindO (m_session_all N l0) fun v11 =>
  some v11
 )
def m_ropewalkkit_SameSession (N : Nat) (a0 : Int) (a1 : Int) (a2 : Int) (a3 : Int) (l4 : List FactD) (l5 : List V) (a6 : Int) (a7 : Int) (a8 : Int) (a9 : Int) (l10 : List FactD) (l11 : List V) : Option (Bool) :=
 if (a0 == a6) = true then (
  if (a1 == a7) = true then (
   bindO (m_ropewalkkit_SameReply N a2 a3 l4 l5 a8 a9 l10 l11) fun v22 =>
   some v22
  ) else (
   some false
  )
 ) else (
  some false
 )
def m_ropewalkkit_SameSessions_L1 (N : Nat) (l0 : List SessD) (l1 : List SessD) : Nat → Option (Nat ⊕ (Unit ⊕ Bool)) := fun u1_5 =>
 if (decide (u1_5 < l0.length)) = true then (
  bindO (l0[u1_5]?) fun x19 =>
  bindO (l1[u1_5]?) fun x23 =>
  bindO (m_ropewalkkit_SameSession N x19.id x19.seq x19.r.err x19.r.num x19.r.facts x19.r.said x23.id x23.seq x23.r.err x23.r.num x23.r.facts x23.r.said) fun v25 =>
  if (!v25) = true then (
   some (.inr (.inr false))
  ) else (
   gd (u1_5 + 1 ≤ 9223372036854775807) <|
   some (.inl (u1_5 + 1))
  )
 ) else (
  some (.inr (.inl ()))
 )
def m_ropewalkkit_SameSessions (N : Nat) (l0 : List SessD) (l1 : List SessD) : Option (Bool) :=
 if (l0.length != l1.length) = true then (
  some false
 ) else (
  bindS (
   iter (m_ropewalkkit_SameSessions_L1 N l0 l1) N 0
  ) fun _ =>
  some true
 )
def m_ropewalklaw27_alike (N : Nat) (l0 : List SessD) (a1 : Int) (l2 : List SessD) (a3 : Int) : Option (Bool) :=
 bindO (m_session_Table_Next N l0 a1) fun v6 =>
 if (v6 == a3) = true then (
  bindO (m_session_Table_All N l0 a1) fun v14 =>
  bindO (m_ropewalkkit_SameSessions N v14 l2) fun v19 =>
  some v19
 ) else (
  some false
 )
def m_ropewalkref27_Table_place_v2_L1 (N : Nat) (l0 : List SessD) (a2 : Int) : Nat → Option (Nat ⊕ (Unit ⊕ Int)) := fun u1_5 =>
 if (decide (u1_5 < l0.length)) = true then (
  bindO (l0[u1_5]?) fun x20 =>
  if (x20.id == a2) = true then (
   some (.inr (.inr ((u1_5 : Nat) : Int)))
  ) else (
   gd (u1_5 + 1 ≤ 9223372036854775807) <|
   some (.inl (u1_5 + 1))
  )
 ) else (
  some (.inr (.inl ()))
 )
def m_ropewalkref27_Table_place_v2 (N : Nat) (l0 : List SessD) (a1 : Int) (a2 : Int) : Option (Int) :=
 bindS (
  iter (m_ropewalkref27_Table_place_v2_L1 N l0 a2) N 0
 ) fun _ =>
 some (-1)
def m_ropewalkref27_Table_Expire_v2 (N : Nat) (l0 : List SessD) (a1 : Int) (a2 : Int) : Option (Nat × (List SessD)) :=
 bindO (m_ropewalkref27_Table_place_v2 N l0 a1 a2) fun v9 =>
 if (decide (v9 < 0)) = true then (
  some (303, l0)
 ) else (
  gd (0 ≤ v9) <|
  gd (v9.toNat ≤ l0.length) <|
  bindO (m_ropewalkkit_CopySessions N (l0.take v9.toNat)) fun v18 =>
  gd (-9223372036854775808 ≤ v9 + 1 ∧ v9 + 1 ≤ 9223372036854775807) <|
  gd (0 ≤ v9 + 1) <|
  gd ((v9 + 1).toNat ≤ l0.length) <|
  gd (v18.length + (l0.drop ((v9 + 1).toNat)).length ≤ 1759218604441) <|
  some (0, v18 ++ (l0.drop ((v9 + 1).toNat)))
 )
def m_ropewalkref27_Table_Done_v2 (N : Nat) (l0 : List SessD) (a1 : Int) (a2 : Int) (a3 : Int) (a4 : Int) (a5 : Int) (l6 : List FactD) (l7 : List V) : Option (Nat × (List SessD)) :=
 bindO (m_ropewalkref27_Table_place_v2 N l0 a1 a2) fun v13 =>
 if (decide (v13 < 0)) = true then (
  some (303, l0)
 ) else (
  bindO (
   if (decide (a3 < 1)) = true then (
    some true
   ) else (
    gd (0 ≤ v13) <|
    bindO (l0[v13.toNat]?) fun x25 =>
    some (decide (a3 ≤ x25.seq))
   )
  ) fun j_1_29 =>
  if j_1_29 = true then (
   some (304, l0)
  ) else (
   bindO (m_ropewalkkit_CopySessions N l0) fun v34 =>
   gd (0 ≤ v13) <|
   bindO (v34[v13.toNat]?) fun x38 =>
   bindO (v34[v13.toNat]?) fun x1048 =>
   bindO (m_ropewalkkit_CopyReply N a4 a5 l6 l7) fun v43 =>
   gd (0 ≤ v13) <|
   some (0, (v34.set v13.toNat (⟨(⟨x1048.id, a3, x1048.r⟩ : SessD).id, (⟨x1048.id, a3, x1048.r⟩ : SessD).seq, (⟨a4, a5, v43, l7⟩ : ReplyD)⟩ : SessD)))
  )
 )
def m_ropewalkref27_Table_Ask_v2 (N : Nat) (l0 : List SessD) (a1 : Int) (a2 : Int) (a3 : Int) : Option (Int × Int × (List FactD) × (List V) × Bool × Nat) :=
 bindO (m_ropewalkref27_Table_place_v2 N l0 a1 a2) fun v12 =>
 if (decide (v12 < 0)) = true then (
  some (0, 0, [], [], false, 303)
 ) else (
  bindO (
   if (decide (a3 < 1)) = true then (
    some true
   ) else (
    gd (0 ≤ v12) <|
    bindO (l0[v12.toNat]?) fun x25 =>
    some (decide (a3 < x25.seq))
   )
  ) fun j_1_29 =>
  if j_1_29 = true then (
   some (0, 0, [], [], false, 304)
  ) else (
   gd (0 ≤ v12) <|
   bindO (l0[v12.toNat]?) fun x37 =>
   if (a3 == x37.seq) = true then (
    gd (0 ≤ v12) <|
    bindO (l0[v12.toNat]?) fun x46 =>
    bindO (m_ropewalkkit_CopyReply N x46.r.err x46.r.num x46.r.facts x46.r.said) fun v49 =>
    some (x46.r.err, x46.r.num, v49, x46.r.said, true, 0)
   ) else (
    some (0, 0, [], [], false, 0)
   )
  )
 )
def m_ropewalklaw27_step_v2_C2 (N : Nat) (l9 : List FactD) (v61_0 : List FactDS) (l10 : List V) (v61_1 : List V) (l0 : List SessD) (a1 : Int) (a5 : Int) (a6 : Int) (a7 : Int) (a8 : Int) (l2 : List SessD) (a3 : Int) : Option (Bool × (List SessD) × (List SessD)) :=
 gd (l9.length ≤ v61_0.length) <|
 gd (l10.length ≤ v61_1.length) <|
 bindO (m_session_Table_Done_v2 N l0 a1 a5 a6 a7 a8 ((v61_0.map to_FactD).take l9.length) (v61_1.take l10.length)) fun (v68_0, v68_1) =>
 bindO (m_ropewalkref27_Table_Done_v2 N l2 a3 a5 a6 a7 a8 l9 l10) fun (v76_0, v76_1) =>
 if (v68_0 == v76_0) = true then (
  bindO (m_ropewalkkit_KeptReply_W N a7 a8 v61_0 l9.length v61_1 l10.length a7 a8 l9 l10) fun v82 =>
  some (v82, v68_1, v76_1)
 ) else (
  some (false, v68_1, v76_1)
 )
def m_ropewalklaw27_step_v2_C3 (N : Nat) (v93_4 : Bool) (v103_4 : Bool) (v93_5 : Nat) (v103_5 : Nat) (v93_0 : Int) (v93_1 : Int) (v93_2 : List FactD) (v93_3 : List V) (v103_0 : Int) (v103_1 : Int) (v103_2 : List FactD) (v103_3 : List V) (v113_0 : Int) (v113_1 : Int) (v113_2 : List FactD) (v113_3 : List V) : Option (Bool) :=
 if (v93_4 == v103_4) = true then (
  if (v93_5 == v103_5) = true then (
   bindO (m_ropewalkkit_SameReply N v93_0 v93_1 v93_2 v93_3 v103_0 v103_1 v103_2 v103_3) fun v128 =>
   if v128 = true then (
    gd ([[(⟨v93_0, v93_1, v93_2, v93_3⟩ : ReplyD)], [(⟨v113_0, v113_1, v113_2, v113_3⟩ : ReplyD)]].length ≤ 8 ∧ ∀ y ∈ [[(⟨v93_0, v93_1, v93_2, v93_3⟩ : ReplyD)], [(⟨v113_0, v113_1, v113_2, v113_3⟩ : ReplyD)]], y.length ≤ 10000 ∧ ∀ u ∈ y, sz_ReplyD u) <|
    some true
   ) else (
    some false
   )
  ) else (
   some false
  )
 ) else (
  some false
 )
def m_ropewalklaw27_step_v2 (N : Nat) (l0 : List SessD) (a1 : Int) (l2 : List SessD) (a3 : Int) (a4 : Int) (a5 : Int) (a6 : Int) (a7 : Int) (a8 : Int) (l9 : List FactD) (l10 : List V) : Option (Bool × (List SessD) × Int × (List SessD) × Int) :=
 bindO (m_ropewalkkit_Pick N a4 6) fun v24 =>
 if (v24 == 0) = true then (
  bindO (m_session_Table_Open_v2 N l0 a1) fun (v29_0, v29_1, v29_2, v29_3) =>
  bindO (m_ropewalkref27_Table_Open N l2 a3) fun (v34_0, v34_1, v34_2, v34_3) =>
  if (v29_0 == v34_0) = true then (
   some (v29_1 == v34_1, v29_2, v29_3, v34_2, v34_3)
  ) else (
   some (false, v29_2, v29_3, v34_2, v34_3)
  )
 ) else (
  if (v24 == 1) = true then (
   bindO (m_session_Table_Expire N l0 a1 a5) fun (v50_0, v50_1) =>
   bindO (m_ropewalkref27_Table_Expire_v2 N l2 a3 a5) fun (v54_0, v54_1) =>
   some (v50_0 == v54_0, v50_1, a1, v54_1, a3)
  ) else (
   bindO (
    if (v24 == 2) = true then (
     some (v24 == 2)
    ) else (
     some (v24 == 3)
    )
   ) fun j_1_56 =>
   if j_1_56 = true then (
    bindO (m_ropewalkkit_LentReply N a7 a8 l9 l10) fun (v61_0, v61_1) =>
    bindO (m_ropewalklaw27_step_v2_C2 N l9 v61_0 l10 v61_1 l0 a1 a5 a6 a7 a8 l2 a3
    ) fun (j_2_12, j_2_r0_f0_l, j_2_r2_f0_l) =>
    bindO (m_ropewalkkit_OverReply_V N a7 a8 v61_0 l9.length v61_1 l10.length) fun (v85_0, v85_1) =>
    some (j_2_12, j_2_r0_f0_l, a1, j_2_r2_f0_l, a3)
   ) else (
    bindO (m_session_Table_Ask N l0 a1 a5 a6) fun (v93_0, v93_1, v93_2, v93_3, v93_4, v93_5) =>
    bindO (m_ropewalkref27_Table_Ask_v2 N l2 a3 a5 a6) fun (v103_0, v103_1, v103_2, v103_3, v103_4, v103_5) =>
    bindO (m_session_Table_Ask N l0 a1 a5 a6) fun (v113_0, v113_1, v113_2, v113_3, v113_4, v113_5) =>
    bindO (m_ropewalklaw27_step_v2_C3 N v93_4 v103_4 v93_5 v103_5 v93_0 v93_1 v93_2 v93_3 v103_0 v103_1 v103_2 v103_3 v113_0 v113_1 v113_2 v113_3
    ) fun j_3_6 =>
    some (j_3_6, l0, a1, l2, a3)
   )
  )
 )
def m_ropewalklaw27_SessionLives_L1 (N : Nat) (l1 : List SessD) : Nat → Option (Nat ⊕ (Unit ⊕ Bool)) := fun u1_9 =>
 if (decide (u1_9 < l1.length)) = true then (
  bindO (
   if (decide (40 < u1_9)) = true then (
    some true
   ) else (
    bindO (l1[u1_9]?) fun x31 =>
    bindO (m_ropewalklaw27_great N x31.r.err x31.r.num x31.r.facts x31.r.said) fun v34 =>
    some v34
   )
  ) fun j_2_35 =>
  if j_2_35 = true then (
   bindO (m_ropewalklaw27_awake N) fun v36 =>
   some (.inr (.inr v36))
  ) else (
   gd (u1_9 + 1 ≤ 9223372036854775807) <|
   some (.inl (u1_9 + 1))
  )
 ) else (
  some (.inr (.inl ()))
 )
def m_ropewalklaw27_SessionLives_C3 (N : Nat) (a2 : Bool) (l1 : List SessD) (a0 : Int) : Option (((List SessD) × Int × (List SessD) × Int) ⊕ Bool) :=
 if a2 = true then (
  bindO (m_ropewalkkit_LentSessions N l1) fun v41 =>
  gd (l1.length ≤ v41.length) <|
  bindO (m_session_Of N a0 ((v41.map to_SessD).take l1.length)) fun
  | .inl _ => (
  bindO (m_ropewalkref27_Of N a0 l1) fun
  | .inl _ => (
  bindO (
   bindO (m_ropewalkkit_KeptSessions_W N v41 (((v41.map to_SessD).take l1.length).length) l1) fun v60 =>
   if (!v60) = true then (
    some true
   ) else (
    some (false != false)
   )
  ) fun j_6_69 =>
  if j_6_69 = true then (
   some (.inr false)
  ) else (
   bindO (m_ropewalklaw27_awake N) fun v76 =>
   some (.inr v76)
  )
  )
  | .inr v51 => (
  some (.inr false)
  )
  )
  | .inr v45 => (
  bindO (m_ropewalkref27_Of N a0 l1) fun
  | .inl _ => (
  some (.inr false)
  )
  | .inr v51 => (
  bindO (
   bindO (m_ropewalkkit_KeptSessions_W N v41 (((v41.map to_SessD).take l1.length).length) l1) fun v60 =>
   if (!v60) = true then (
    some true
   ) else (
    some (true != true)
   )
  ) fun j_8_69 =>
  if j_8_69 = true then (
   some (.inr false)
  ) else (
   bindO (m_ropewalkkit_OverSessions_V N v41 (((v41.map to_SessD).take l1.length).length)) fun v78 =>
   some (.inl (v51, a0, v45, a0))
  )
  )
  )
 ) else (
  some (.inl ([], 1, [], 1))
 )
def m_ropewalklaw27_SessionLives_L2 (N : Nat) (l3 : List Ropewalklaw27_DoD) : (Nat × (List SessD) × Int × (List SessD) × Int) → Option ((Nat × (List SessD) × Int × (List SessD) × Int) ⊕ (((List SessD) × Int × (List SessD) × Int) ⊕ Bool)) := fun (u2_17, u2_11_f0_l, u2_11_f1, u2_10_f0_l, u2_10_f1) =>
 bindO (
  if (decide (u2_17 < l3.length)) = true then (
   some (decide (u2_17 < 120))
  ) else (
   some false
  )
 ) fun j_10_88 =>
 if j_10_88 = true then (
  bindO (l3[u2_17]?) fun x93 =>
  bindO (m_ropewalklaw27_great N x93.reply.err x93.reply.num x93.reply.facts x93.reply.said) fun v96 =>
  if v96 = true then (
   bindO (m_ropewalklaw27_awake N) fun v97 =>
   some (.inr (.inr v97))
  ) else (
   bindO (
    bindO (l3[u2_17]?) fun x102 =>
    bindO (m_ropewalklaw27_step_v2 N u2_10_f0_l u2_10_f1 u2_11_f0_l u2_11_f1 x102.op x102.id x102.seq x102.reply.err x102.reply.num x102.reply.facts x102.reply.said) fun (v104_0, v104_1, v104_2, v104_3, v104_4) =>
    if (!v104_0) = true then (
     some (v104_3, v104_4, v104_1, v104_2, true)
    ) else (
     bindO (m_ropewalklaw27_alike N v104_1 v104_2 v104_3 v104_4) fun v109 =>
     some (v104_3, v104_4, v104_1, v104_2, !v109)
    )
   ) fun (j_11_11_f0_l, j_11_11_f1, j_11_10_f0_l, j_11_10_f1, j_11_111) =>
   if j_11_111 = true then (
    some (.inr (.inr false))
   ) else (
    gd (u2_17 + 1 ≤ 9223372036854775807) <|
    some (.inl (u2_17 + 1, j_11_11_f0_l, j_11_11_f1, j_11_10_f0_l, j_11_10_f1))
   )
  )
 ) else (
  some (.inr (.inl (u2_11_f0_l, u2_11_f1, u2_10_f0_l, u2_10_f1)))
 )
def m_ropewalklaw27_SessionLives (N : Nat) (a0 : Int) (l1 : List SessD) (a2 : Bool) (l3 : List Ropewalklaw27_DoD) : Option (Bool) :=
 bindS (
  iter (m_ropewalklaw27_SessionLives_L1 N l1) N 0
 ) fun _ =>
 bindO (m_session_New N) fun _ =>
 bindO (m_ropewalkref27_New N) fun _ =>
 bindS (m_ropewalklaw27_SessionLives_C3 N a2 l1 a0
 ) fun (j_3_11_f0_l, j_3_11_f1, j_3_10_f0_l, j_3_10_f1) =>
 bindS (
  iter (m_ropewalklaw27_SessionLives_L2 N l3) N (0, j_3_11_f0_l, j_3_11_f1, j_3_10_f0_l, j_3_10_f1)
 ) fun (j_9_11_f0_l, j_9_11_f1, j_9_10_f0_l, j_9_10_f1) =>
 bindO (m_session_Table_All N j_9_10_f0_l j_9_10_f1) fun v113 =>
 bindO (m_session_Table_All N j_9_10_f0_l j_9_10_f1) fun v115 =>
 gd ([v113, v115].length ≤ 8 ∧ ∀ y ∈ [v113, v115], y.length ≤ 10000 ∧ ∀ u ∈ y, sz_SessD u) <|
 bindO (m_ropewalklaw27_alike N j_9_10_f0_l j_9_10_f1 j_9_11_f0_l j_9_11_f1) fun v123 =>
 if v123 = true then (
  bindO (m_ropewalklaw27_awake N) fun v126 =>
  some v126
 ) else (
  some false
 )
end Go.Proofs.YtighbinghbnjhaaGreat
