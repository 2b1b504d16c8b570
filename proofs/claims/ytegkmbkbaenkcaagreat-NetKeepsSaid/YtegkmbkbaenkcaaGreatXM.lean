import Derived.Test.YtegkmbkbaenkcaaGreatXT
namespace Go.Proofs.YtegkmbkbaenkcaaGreat
open Go.RowKit
def m_net_New (N : Nat) : Option (Unit) :=
 some ()
def m_ropewalkkit_mark (N : Nat) (a0 : Int) (a1 : Int) : Option (Unit) :=
 some ()
def m_ropewalkkit_markByte (N : Nat) (a0 : Int) (a1 : Int) : Option (Unit) :=
 bindO (m_ropewalkkit_mark N a0 a1) fun _ =>
 some ()
def m_ropewalkkit_LentBytes_L1 (N : Nat) : (Nat × (List Int)) → Option ((Nat × (List Int)) ⊕ (List Int)) := fun (u1_4, u1_3_l) =>
 if (decide (u1_4 < 12)) = true then (
  bindO (m_ropewalkkit_markByte N 1 ((u1_4 : Nat) : Int)) fun _ =>
  gd (u1_3_l.length + ([(IntKind.wrap .u8 (Int.fdiv (IntKind.wrap .u64 ((IntKind.wrap .u64 (IntKind.wrap .i64 ((IntKind.wrap .i64 (1000003 * (IntKind.wrap .i64 (1 + 7)))) + ((u1_4 : Nat) : Int)))) * 11400714819323198485)) (2 ^ (56))))]).length ≤ 140737488355328) <|
  gd (u1_4 + 1 ≤ 9223372036854775807) <|
  some (.inl (u1_4 + 1, (u1_3_l ++ ([(IntKind.wrap .u8 (Int.fdiv (IntKind.wrap .u64 ((IntKind.wrap .u64 (IntKind.wrap .i64 ((IntKind.wrap .i64 (1000003 * (IntKind.wrap .i64 (1 + 7)))) + ((u1_4 : Nat) : Int)))) * 11400714819323198485)) (2 ^ (56))))]))))
 ) else (
  some (.inr u1_3_l)
 )
def m_ropewalkkit_LentBytes (N : Nat) (l0 : List Int) : Option (List Int) :=
 gd (l0.length + 12 ≤ 9223372036854775807) <|
 gd (l0.length + 12 ≤ 140737488355328) <|
 gd (([] : List Int).length + l0.length ≤ 140737488355328) <|
 bindO (
  iter (m_ropewalkkit_LentBytes_L1 N) N (0, l0)
 ) fun j_1_3_l =>
 gd (l0.length ≤ j_1_3_l.length) <|
 some j_1_3_l
def m_net_Net_all (N : Nat) (e0 : List ((Int × Int) × List (List Int))) : Option (Unit) :=
 some ()
def m_net_bags_put (N : Nat) (e0 : List ((Int × Int) × List (List Int))) (a1 : Int) (a2 : Int) (l3 : List Int) : Option (Nat × (List ((Int × Int) × List (List Int)))) :=
 if (decide (1048576 < l3.length)) = true then (
  some (3, e0)
 ) else (
  gd (-9223372036854775808 ≤ a1 ∧ a1 ≤ 9223372036854775807) <|
  gd (-9223372036854775808 ≤ a2 ∧ a2 ≤ 9223372036854775807) <|
  bindO (some ((mlook (a1, a2) e0).getD [])) fun l17 =>
  if (decide (64 ≤ l17.length)) = true then (
   some (5, e0)
  ) else (
   gd (l3.length ≤ 140737488355328) <|
   bindO (some ((mlook (a1, a2) e0).getD [])) fun l26 =>
   gd (l26.length + [l3].length ≤ 5864062014805) <|
   some (0, mput (a1, a2) (l26 ++ [l3]) e0)
  )
 )
def m_net_Net_Send (N : Nat) (e0 : List ((Int × Int) × List (List Int))) (a1 : Int) (a2 : Int) (l3 : List Int) : Option (Nat × (List ((Int × Int) × List (List Int)))) :=
 bindO (m_net_Net_all N e0) fun _ =>
 bindO (m_net_bags_put N e0 a1 a2 l3) fun (v15_0, v15_1) =>
 some (v15_0, v15_1)
def m_net_bags_at (N : Nat) (e0 : List ((Int × Int) × List (List Int))) (a1 : Int) (a2 : Int) (a3 : Int) : Option (Nat) :=
 bindO (
  if (decide (a3 < 0)) = true then (
   some true
  ) else (
   gd (-9223372036854775808 ≤ a1 ∧ a1 ≤ 9223372036854775807) <|
   gd (-9223372036854775808 ≤ a2 ∧ a2 ≤ 9223372036854775807) <|
   bindO (some ((mlook (a1, a2) e0).getD [])) fun l17 =>
   some (decide (a3 ≥ ((l17.length : Nat) : Int)))
  )
 ) fun j_1_10 =>
 if j_1_10 = true then (
  some 6
 ) else (
  some 0
 )
def m_net_Net_Double (N : Nat) (e0 : List ((Int × Int) × List (List Int))) (a1 : Int) (a2 : Int) (a3 : Int) : Option (Nat × (List ((Int × Int) × List (List Int)))) :=
 bindO (m_net_Net_all N e0) fun _ =>
 bindO (m_net_bags_at N e0 a1 a2 a3) fun v18 =>
 if (v18 != 0) = true then (
  some (v18, e0)
 ) else (
  bindO (m_net_Net_all N e0) fun _ =>
  bindO (m_net_Net_all N e0) fun _ =>
  gd (-9223372036854775808 ≤ a1 ∧ a1 ≤ 9223372036854775807) <|
  gd (-9223372036854775808 ≤ a2 ∧ a2 ≤ 9223372036854775807) <|
  bindO (some ((mlook (a1, a2) e0).getD [])) fun l28 =>
  gd (0 ≤ a3) <|
  bindO (l28[a3.toNat]?) fun x30 =>
  gd (x30.length ≤ 1048576) <|
  gd (l28.length < 64) <|
  some (0, mput (a1, a2) (l28 ++ [x30]) e0)
 )
def m_ropewalkkit_KeptBytes_W_C2 (N : Nat) (u1_6 : Nat) (l2 : List Int) (l0 : List Int) : Option (Bool) :=
 if (decide (u1_6 < l2.length)) = true then (
  bindO ((l0.take (l2.length + 12))[u1_6]?) fun x30 =>
  bindO (l2[u1_6]?) fun x34 =>
  if (!(x30 == x34)) = true then (
   some true
  ) else (
   if (decide (l2.length ≤ u1_6)) = true then (
    bindO ((l0.take (l2.length + 12))[u1_6]?) fun x47 =>
    gd (-9223372036854775808 ≤ ((u1_6 : Nat) : Int) - ((l2.length : Nat) : Int) ∧ ((u1_6 : Nat) : Int) - ((l2.length : Nat) : Int) ≤ 9223372036854775807) <|
    bindO (m_ropewalkkit_markByte N 1 (((u1_6 : Nat) : Int) - ((l2.length : Nat) : Int))) fun _ =>
    some (!(x47 == (IntKind.wrap .u8 (Int.fdiv (IntKind.wrap .u64 ((IntKind.wrap .u64 (IntKind.wrap .i64 ((IntKind.wrap .i64 (1000003 * (IntKind.wrap .i64 (1 + 7)))) + (((u1_6 : Nat) : Int) - ((l2.length : Nat) : Int))))) * 11400714819323198485)) (2 ^ (56))))))
   ) else (
    some false
   )
  )
 ) else (
  if (decide (l2.length ≤ u1_6)) = true then (
   bindO ((l0.take (l2.length + 12))[u1_6]?) fun x47 =>
   gd (-9223372036854775808 ≤ ((u1_6 : Nat) : Int) - ((l2.length : Nat) : Int) ∧ ((u1_6 : Nat) : Int) - ((l2.length : Nat) : Int) ≤ 9223372036854775807) <|
   bindO (m_ropewalkkit_markByte N 1 (((u1_6 : Nat) : Int) - ((l2.length : Nat) : Int))) fun _ =>
   some (!(x47 == (IntKind.wrap .u8 (Int.fdiv (IntKind.wrap .u64 ((IntKind.wrap .u64 (IntKind.wrap .i64 ((IntKind.wrap .i64 (1000003 * (IntKind.wrap .i64 (1 + 7)))) + (((u1_6 : Nat) : Int) - ((l2.length : Nat) : Int))))) * 11400714819323198485)) (2 ^ (56))))))
  ) else (
   some false
  )
 )
def m_ropewalkkit_KeptBytes_W_L1 (N : Nat) (l0 : List Int) (l2 : List Int) : Nat → Option (Nat ⊕ (Unit ⊕ Bool)) := fun u1_6 =>
 if (decide (u1_6 < ((l0.take (l2.length + 12)).length))) = true then (
  bindO (m_ropewalkkit_KeptBytes_W_C2 N u1_6 l2 l0
  ) fun j_2_57 =>
  if j_2_57 = true then (
   some (.inr (.inr false))
  ) else (
   gd (u1_6 + 1 ≤ 9223372036854775807) <|
   some (.inl (u1_6 + 1))
  )
 ) else (
  some (.inr (.inl ()))
 )
def m_ropewalkkit_KeptBytes_W (N : Nat) (l0 : List Int) (k1 : Nat) (l2 : List Int) : Option (Bool) :=
 if (k1 != l2.length) = true then (
  some false
 ) else (
  gd (l2.length + 12 ≤ 9223372036854775807) <|
  gd (l2.length + 12 ≤ l0.length) <|
  bindS (
   iter (m_ropewalkkit_KeptBytes_W_L1 N l0 l2) N 0
  ) fun _ =>
  some true
 )
def m_ropewalkkit_OverBytes_V_L1 (N : Nat) (k1 : Nat) : (Nat × (List Int)) → Option ((Nat × (List Int)) ⊕ (List Int)) := fun (u1_3, u1_2_l) =>
 if (decide (u1_3 < (k1 + 12))) = true then (
  bindO (m_ropewalkkit_markByte N 2 ((u1_3 : Nat) : Int)) fun _ =>
  bindO (u1_2_l[u1_3]?) fun x19 =>
  gd (u1_3 < k1 + 12) <|
  gd (u1_3 + 1 ≤ 9223372036854775807) <|
  some (.inl (u1_3 + 1, (u1_2_l.set u1_3 (IntKind.wrap .u8 (Int.fdiv (IntKind.wrap .u64 ((IntKind.wrap .u64 (IntKind.wrap .i64 ((IntKind.wrap .i64 (1000003 * (IntKind.wrap .i64 (2 + 7)))) + ((u1_3 : Nat) : Int)))) * 11400714819323198485)) (2 ^ (56)))))))
 ) else (
  some (.inr u1_2_l)
 )
def m_ropewalkkit_OverBytes_V (N : Nat) (l0 : List Int) (k1 : Nat) : Option (List Int) :=
 gd (k1 + 12 ≤ 9223372036854775807) <|
 gd (k1 + 12 ≤ l0.length) <|
 iter (m_ropewalkkit_OverBytes_V_L1 N k1) N (0, l0)
def m_net_bags_take (N : Nat) (e0 : List ((Int × Int) × List (List Int))) (a1 : Int) (a2 : Int) (a3 : Int) : Option ((List Int) × Nat × (List ((Int × Int) × List (List Int)))) :=
 bindO (m_net_bags_at N e0 a1 a2 a3) fun v13 =>
 if (v13 != 0) = true then (
  some ([], v13, e0)
 ) else (
  gd (-9223372036854775808 ≤ a1 ∧ a1 ≤ 9223372036854775807) <|
  gd (-9223372036854775808 ≤ a2 ∧ a2 ≤ 9223372036854775807) <|
  bindO (some ((mlook (a1, a2) e0).getD [])) fun l19 =>
  gd (0 ≤ a3) <|
  bindO (l19[a3.toNat]?) fun x21 =>
  gd (-9223372036854775808 ≤ a3 + 1 ∧ a3 + 1 ≤ 9223372036854775807) <|
  gd (0 ≤ a3) <|
  gd (a3.toNat < l19.length) <|
  bindO (
   if (((l19.take a3.toNat ++ l19.drop (a3.toNat + 1)).length) == 0) = true then (
    some (mdel (a1, a2) (mput (a1, a2) (l19.take a3.toNat ++ l19.drop (a3.toNat + 1)) e0))
   ) else (
    some (mput (a1, a2) (l19.take a3.toNat ++ l19.drop (a3.toNat + 1)) e0)
   )
  ) fun j_1_r0_m =>
  some (x21, 0, j_1_r0_m)
 )
def m_net_Net_Take (N : Nat) (e0 : List ((Int × Int) × List (List Int))) (a1 : Int) (a2 : Int) (a3 : Int) : Option ((List Int) × Nat × (List ((Int × Int) × List (List Int)))) :=
 bindO (m_net_Net_all N e0) fun _ =>
 bindO (m_net_bags_take N e0 a1 a2 a3) fun (v16_0, v16_1, v16_2) =>
 some (v16_0, v16_1, v16_2)
def m_ropewalkkit_SameBytes_L1 (N : Nat) (l0 : List Int) (l1 : List Int) : Nat → Option (Nat ⊕ (Unit ⊕ Bool)) := fun u1_5 =>
 if (decide (u1_5 < l0.length)) = true then (
  bindO (l0[u1_5]?) fun x19 =>
  bindO (l1[u1_5]?) fun x23 =>
  if (x19 != x23) = true then (
   some (.inr (.inr false))
  ) else (
   gd (u1_5 + 1 ≤ 9223372036854775807) <|
   some (.inl (u1_5 + 1))
  )
 ) else (
  some (.inr (.inl ()))
 )
def m_ropewalkkit_SameBytes (N : Nat) (l0 : List Int) (l1 : List Int) : Option (Bool) :=
 if (l0.length != l1.length) = true then (
  some false
 ) else (
  bindS (
   iter (m_ropewalkkit_SameBytes_L1 N l0 l1) N 0
  ) fun _ =>
  some true
 )
def m_ropewalkkit_TurnBytes_v2_L1 (N : Nat) : (Nat × (List Int)) → Option ((Nat × (List Int)) ⊕ (List Int)) := fun (u1_2, u1_0_l) =>
 if (decide (u1_2 < u1_0_l.length)) = true then (
  bindO (u1_0_l[u1_2]?) fun x13 =>
  bindO (u1_0_l[u1_2]?) fun x16 =>
  gd (u1_2 + 1 ≤ 9223372036854775807) <|
  some (.inl (u1_2 + 1, u1_0_l.set u1_2 (bitsI .xor .u8 x13 255)))
 ) else (
  some (.inr u1_0_l)
 )
def m_ropewalkkit_TurnBytes_v2 (N : Nat) (l0 : List Int) : Option (List Int) :=
 iter (m_ropewalkkit_TurnBytes_v2_L1 N) N (0, l0)
def m_ropewalklaw20_NetKeeps (N : Nat) (l0 : List Int) : Option (Bool) :=
 if (decide (10000 < l0.length)) = true then (
  some true
 ) else (
  bindO (m_net_New N) fun _ =>
  bindO (m_ropewalkkit_LentBytes N l0) fun v17 =>
  gd (l0.length ≤ v17.length) <|
  bindO (m_net_Net_Send N ([] : List ((Int × Int) × List (List Int))) 1 2 (v17.take l0.length)) fun (v20_0, v20_1) =>
  bindO (m_net_Net_Double N v20_1 1 2 0) fun (v22_0, v22_1) =>
  bindO (m_net_Net_Double N v22_1 1 2 1) fun (v24_0, v24_1) =>
  bindO (m_ropewalkkit_KeptBytes_W N v17 l0.length l0) fun v27 =>
  if (!v27) = true then (
   some false
  ) else (
   bindO (m_ropewalkkit_OverBytes_V N v17 l0.length) fun v30 =>
   bindO (m_net_Net_Take N v24_1 1 2 0) fun (v33_0, v33_1, v33_2) =>
   bindO (m_net_Net_Take N v33_2 1 2 0) fun (v38_0, v38_1, v38_2) =>
   bindO (
    bindO (m_ropewalkkit_SameBytes N v33_0 l0) fun v43 =>
    if (!v43) = true then (
     some (v38_0, v33_0, true)
    ) else (
     gd ([v33_0, v38_0].length ≤ 8 ∧ ∀ y ∈ [v33_0, v38_0], y.length ≤ 10000) <|
     some (((List.range v38_0.length).map (fun i => (z_markByte ((1 : Nat) : Int) ((i : Nat) : Int)))), ((List.range v33_0.length).map (fun i => (z_markByte ((0 : Nat) : Int) ((i : Nat) : Int)))), false)
    )
   ) fun (j_1_7_l, j_1_5_l, j_1_51) =>
   if j_1_51 = true then (
    some false
   ) else (
    bindO (m_ropewalkkit_TurnBytes_v2 N j_1_5_l) fun v53 =>
    bindO (m_ropewalkkit_TurnBytes_v2 N j_1_7_l) fun v55 =>
    bindO (m_net_Net_Take N v38_2 1 2 0) fun (v58_0, v58_1, v58_2) =>
    if (v58_1 == 0) = true then (
     bindO (m_ropewalkkit_SameBytes N v58_0 l0) fun v66 =>
     if v66 = true then (
      some true
     ) else (
      some false
     )
    ) else (
     some false
    )
   )
  )
 )
end Go.Proofs.YtegkmbkbaenkcaaGreat
