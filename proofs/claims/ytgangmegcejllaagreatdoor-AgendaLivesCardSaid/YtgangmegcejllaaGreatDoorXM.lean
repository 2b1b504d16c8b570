import Derived.Test.YtgangmegcejllaaGreatDoorXT
namespace Go.Proofs.YtgangmegcejllaaGreatDoor
open Go.RowKit
noncomputable def Q45 (_:Nat) (l0:List Int):(Nat × (List QG)) → Option ((Nat × (List QG)) ⊕ (List QG)):=fun (a1,a0) =>
 if (decide (a1 < l0.length)) = true then (
  Qf (l0[a1]?) fun a2 =>
  gd (a0.length + ([(⟨(⟨#[]⟩ : ByteArray),a2,0,[],[]⟩ : QG)]).length ≤ 1759218604441) <|
  gd (a1 + 1 ≤ 9223372036854775807) <|
  some (.inl (a1 + 1,(a0 ++ ([(⟨(⟨#[]⟩ : ByteArray),a2,0,[],[]⟩ : QG)]))))
 ) else (
  some (.inr a0)
 )
noncomputable def Q4l (N:Nat) (l0:List Int):Option (List QG) :=
 Qf (
  Q1o (Q45 N l0) N (0,[])
 ) fun a0 =>
 some a0
noncomputable def Q13 (_:Nat) (_:Int) (_:List Int):Option (Unit) :=
 some ()
noncomputable def Q79 (_:Nat) (l1:List QG):(Nat × (List Int)) → Option ((Nat × (List Int)) ⊕ (List Int)):=fun (a0,a1) =>
 if (decide (a0 < l1.length)) = true then (
  Qf (l1[a0]?) fun a2 =>
  gd (a1.length + [a2.salience].length ≤ 17592186044416) <|
  gd (a0 + 1 ≤ 9223372036854775807) <|
  some (.inl (a0 + 1,a1 ++ [a2.salience]))
 ) else (
  some (.inr a1)
 )
noncomputable def Q7E (N:Nat) (_:List Qr) (l1:List QG):Option (List Int) :=
 Qf (
  Q1o (Q79 N l1) N (0,[])
 ) fun a0 =>
 some a0
noncomputable def Q5G (_:Nat) (l0:List Int) (a1:Int) (_:List Int):Option (Int) :=
 Qf (
  if (decide (a1 < 0)) = true then (
   some true
  ) else (
   some (decide (a1 ≥ ((l0.length:Nat):Int)))
  )
 ) fun a0 =>
 if a0 = true then (
  some 0
 ) else (
  gd (0 ≤ a1) <|
  Qf (l0[a1.toNat]?) fun a3 =>
  some a3
 )
noncomputable def Q6Q (_:Nat) (_:Int):Option (Unit) :=
 some ()
noncomputable def Q4C (N:Nat) (a0:Int) (a1:Int):Option (Int) :=
 Qf (Q6Q N a0) fun _ =>
 Qf (Q6Q N a1) fun _ =>
 if (a0 != a0) = true then (
  if (a1 != a1) = true then (
   some 0
  ) else (
   some (-1)
  )
 ) else (
  if (a1 != a1) = true then (
   some 1
  ) else (
   if (decide (a0 < a1)) = true then (
    some (-1)
   ) else (
    if (decide (a0 > a1)) = true then (
     some 1
    ) else (
     some 0
    )
   )
  )
 )
noncomputable def Q4S (N:Nat) (a0:Int) (a1:Int):Option (Int) :=
 Qf (Q4C N a1 a0) fun v7 =>
 some v7
noncomputable def Q63 (N:Nat) (l0:List Int):Option (List Int) :=
 gd (l0.length ≤ 17592186044416) <|
 Qf (sortM (fun x_ y_=>Q4S N x_ y_) l0) fun v6 =>
 some v6
noncomputable def Q2Z (N:Nat) (l0:List Int) (l1:List Int):Nat → Option (Nat ⊕ (Unit ⊕ Int)):=fun a0 =>
 if (decide (a0 < l0.length)) = true then (
  Qf (l0[a0]?) fun a2 =>
  if (decide (l1.length ≤ a0)) = true then (
   some (.inr (.inr 1))
  ) else (
   Qf (l1[a0]?) fun a3 =>
   Qf (Q4C N a2 a3) fun a1 =>
   if (a1 != 0) = true then (
    some (.inr (.inr a1))
   ) else (
    gd (a0 + 1 ≤ 9223372036854775807) <|
    some (.inl (a0 + 1))
   )
  )
 ) else (
  some (.inr (.inl ()))
 )
noncomputable def Q4Y (N:Nat) (l0:List Int) (l1:List Int):Option (Int) :=
 Q5x (
  Q1o (Q2Z N l0 l1) N 0
 ) fun _ =>
 if (decide (l0.length < l1.length)) = true then (
  some (-1)
 ) else (
  some 0
 )
noncomputable def Q6e (_:Nat) (l0:List Int):Nat → Option (Nat ⊕ (Unit ⊕ Int)):=fun a0 =>
 if (decide (a0 < l0.length)) = true then (
  Qf (l0[a0]?) fun a1 =>
  if (a1 != 0) = true then (
   some (.inr (.inr a1))
  ) else (
   gd (a0 + 1 ≤ 9223372036854775807) <|
   some (.inl (a0 + 1))
  )
 ) else (
  some (.inr (.inl ()))
 )
noncomputable def Q7L (N:Nat) (l0:List Int):Option (Int) :=
 Q5x (
  Q1o (Q6e N l0) N 0
 ) fun _ =>
 some 0
noncomputable def Q17 (N:Nat) (l0:List Int) (a1:Int) (l2:List Int) (a3:Int) (l4:List Int):Option (Int) :=
 Qf (Q5G N l0 a3 l4) fun v9 =>
 Qf (Q5G N l0 a1 l2) fun a2 =>
 Qf (Q4C N v9 a2) fun a4 =>
 Qf (Q63 N l4) fun a5 =>
 Qf (Q63 N l2) fun a6 =>
 Qf (Q4Y N a5 a6) fun a7 =>
 Qf (Q4C N a1 a3) fun a8 =>
 Qf (Q4Y N l2 l4) fun a9 =>
 Qf (Q7L N [a4,a7,a8,a9]) fun aA =>
 some aA
noncomputable def Q3v (N:Nat) (l0:List Qr) (l1:List QG) (a2:Int) (l3:List Int) (a4:Int) (l5:List Int):Option (Bool) :=
 Qf (Q7E N l0 l1) fun v8 =>
 Qf (Q17 N v8 a2 l3 a4 l5) fun a0 =>
 some (decide (a0 < 0))
noncomputable def Q4P (N:Nat) (l0:List Qr) (l1:List QG):Option (Unit ⊕ (List Int)) :=
 if (decide (64 < l1.length)) = true then (
  some (.inl ())
 ) else (
  Qf (Q7E N l0 l1) fun v8 =>
  some (.inr v8)
 )
noncomputable def Q1Z (_:Nat) (_:List Int) (_:List Q1) (_:List Q1) (_:List (ByteArray × Bool)):Option (Unit) :=
 some ()
noncomputable def Q64 (_:Nat) (l1:List Int):(Nat × ByteArray) → Option ((Nat × ByteArray) ⊕ ByteArray):=fun (a0,a1) =>
 if (decide (a0 < l1.length)) = true then (
  Qf (l1[a0]?) fun a2 =>
  gd (-9223372036854775808 ≤ a2 ∧ a2 ≤ 9223372036854775807) <|
  gd ((⟨#[32]⟩ : ByteArray).size + (Q6P a2).size ≤ 9223372036854775807) <|
  gd (a1.size + ((⟨#[32]⟩ : ByteArray) ++ (Q6P a2)).size ≤ 9223372036854775807) <|
  gd (a0 + 1 ≤ 9223372036854775807) <|
  some (.inl (a0 + 1,(a1 ++ ((⟨#[32]⟩ : ByteArray) ++ (Q6P a2)))))
 ) else (
  some (.inr a1)
 )
noncomputable def Q4J (N:Nat) (a0:Int) (l1:List Int):Option (ByteArray) :=
 gd (-9223372036854775808 ≤ a0 ∧ a0 ≤ 9223372036854775807) <|
 Qf (
  Q1o (Q64 N l1) N (0,Q6P a0)
 ) fun a1 =>
 some a1
noncomputable def Q57 (_:Nat) (_:Int) (l1:List Int):Option (Unit) :=
 gd (l1.length ≤ 17592186044416) <|
 some ()
noncomputable def Q8t (_:Nat) (a0:Int):Option (Int) :=
 Qf (
  if (decide (a0 ≥ 4294967296)) = true then (
   some (Int.fdiv a0 (2 ^ (32)),32)
  ) else (
   some (a0,0)
  )
 ) fun (a1,a2) =>
 Qf (
  if (decide (a1 ≥ 65536)) = true then (
   gd (a2 + 16 ≤ 9223372036854775807) <|
   some (Int.fdiv a1 (2 ^ (16)),a2 + 16)
  ) else (
   some (a1,a2)
  )
 ) fun (a3,a4) =>
 Qf (
  if (decide (a3 ≥ 256)) = true then (
   gd (a4 + 8 ≤ 9223372036854775807) <|
   some (Int.fdiv a3 (2 ^ (8)),a4 + 8)
  ) else (
   some (a3,a4)
  )
 ) fun (a6,a5) =>
 gd (0 ≤ IntKind.wrap .u8 a6) <|
 Qf ((⟨#[0,1,2,2,3,3,3,3,4,4,4,4,4,4,4,4,5,5,5,5,5,5,5,5,5,5,5,5,5,5,5,5,6,6,6,6,6,6,6,6,6,6,6,6,6,6,6,6,6,6,6,6,6,6,6,6,6,6,6,6,6,6,6,6,7,7,7,7,7,7,7,7,7,7,7,7,7,7,7,7,7,7,7,7,7,7,7,7,7,7,7,7,7,7,7,7,7,7,7,7,7,7,7,7,7,7,7,7,7,7,7,7,7,7,7,7,7,7,7,7,7,7,7,7,7,7,7,7,8,8,8,8,8,8,8,8,8,8,8,8,8,8,8,8,8,8,8,8,8,8,8,8,8,8,8,8,8,8,8,8,8,8,8,8,8,8,8,8,8,8,8,8,8,8,8,8,8,8,8,8,8,8,8,8,8,8,8,8,8,8,8,8,8,8,8,8,8,8,8,8,8,8,8,8,8,8,8,8,8,8,8,8,8,8,8,8,8,8,8,8,8,8,8,8,8,8,8,8,8,8,8,8,8,8,8,8,8,8,8,8,8,8,8,8,8,8,8,8,8,8,8,8,8,8,8,8]⟩ : ByteArray)[(IntKind.wrap .u8 a6).toNat]?) fun a7 =>
 gd (-9223372036854775808 ≤ ((a5:Nat):Int) + (IntKind.wrap .i64 ((a7.toNat:Nat):Int)) ∧ ((a5:Nat):Int) + (IntKind.wrap .i64 ((a7.toNat:Nat):Int)) ≤ 9223372036854775807) <|
 some (((a5:Nat):Int) + (IntKind.wrap .i64 ((a7.toNat:Nat):Int)))
noncomputable def Q7X (N:Nat) (a0:Int):Option (Int) :=
 Qf (Q8t N a0) fun v7 =>
 some v7
noncomputable def Q2I (N:Nat) (l0:List Q1) (a1:Int) (a2:Int) (a3:Int) (l4:List Int):Option (Int × Int × Int) :=
 gd (0 ≤ a2) <|
 Qf (l0[a2.toNat]?) fun a0 =>
 gd (0 ≤ a1) <|
 Qf (l0[a1.toNat]?) fun a4 =>
 Qf (Q17 N l4 a0.rule a0.ids a4.rule a4.ids) fun a8 =>
 if (decide (a8 < 0)) = true then (
  gd (-9223372036854775808 ≤ a3 + 1 ∧ a3 + 1 ≤ 9223372036854775807) <|
  some (a2,a1,a3 + 1)
 ) else (
  some (a1,a2,a3)
 )
noncomputable def Q3a (N:Nat) (l0:List Q1) (a1:Int) (a2:Int) (a3:Int) (a4:Int) (l5:List Int):Option (Int × Int) :=
 Qf (Q2I N l0 a1 a2 a4 l5) fun (a0,a5,a6) =>
 Qf (Q2I N l0 a5 a3 a6 l5) fun (a7,_,a8) =>
 Qf (Q2I N l0 a0 a7 a8 l5) fun (_,a9,aA) =>
 some (a9,aA)
noncomputable def Q1U (N:Nat) (l0:List Q1) (a1:Int) (a2:Int) (l3:List Int):Option (Int × Int) :=
 gd (-9223372036854775808 ≤ a1 - 1 ∧ a1 - 1 ≤ 9223372036854775807) <|
 gd (-9223372036854775808 ≤ a1 + 1 ∧ a1 + 1 ≤ 9223372036854775807) <|
 Qf (Q3a N l0 (a1 - 1) a1 (a1 + 1) a2 l3) fun (a3,a4) =>
 some (a3,a4)
noncomputable def Q3s (N:Nat) (a2:Int) (a1:Int) (l0:List Q1) (l3:List Int):Option (Int × Int) :=
 if (decide ((a2 - a1) ≥ 8)) = true then (
  Qf (
   if (decide ((a2 - a1) ≥ 50)) = true then (
    Qf (Q1U N l0 (a1 + ((IntKind.wrap .i64 (Int.tdiv (a2 - a1) 4)) * 1)) 0 l3) fun (a8,a9) =>
    Qf (Q1U N l0 (a1 + ((IntKind.wrap .i64 (Int.tdiv (a2 - a1) 4)) * 2)) a9 l3) fun (aA,aB) =>
    Qf (Q1U N l0 (a1 + ((IntKind.wrap .i64 (Int.tdiv (a2 - a1) 4)) * 3)) aB l3) fun (aC,aD) =>
    some (aC,aA,a8,aD)
   ) else (
    some (a1 + ((IntKind.wrap .i64 (Int.tdiv (a2 - a1) 4)) * 3),a1 + ((IntKind.wrap .i64 (Int.tdiv (a2 - a1) 4)) * 2),a1 + ((IntKind.wrap .i64 (Int.tdiv (a2 - a1) 4)) * 1),0)
   )
  ) fun (a5,a6,a7,a3) =>
  Qf (Q3a N l0 a7 a6 a5 a3 l3) fun (aE,aF) =>
  some (aE,aF)
 ) else (
  some (a1 + ((IntKind.wrap .i64 (Int.tdiv (a2 - a1) 4)) * 2),0)
 )
noncomputable def Q33 (N:Nat) (l0:List Q1) (a1:Int) (a2:Int) (l3:List Int):Option (Int × Nat) :=
 gd (-9223372036854775808 ≤ a2 - a1 ∧ a2 - a1 ≤ 9223372036854775807) <|
 gd (-9223372036854775808 ≤ (IntKind.wrap .i64 (Int.tdiv (a2 - a1) 4)) * 1 ∧ (IntKind.wrap .i64 (Int.tdiv (a2 - a1) 4)) * 1 ≤ 9223372036854775807) <|
 gd (-9223372036854775808 ≤ a1 + ((IntKind.wrap .i64 (Int.tdiv (a2 - a1) 4)) * 1) ∧ a1 + ((IntKind.wrap .i64 (Int.tdiv (a2 - a1) 4)) * 1) ≤ 9223372036854775807) <|
 gd (-9223372036854775808 ≤ (IntKind.wrap .i64 (Int.tdiv (a2 - a1) 4)) * 2 ∧ (IntKind.wrap .i64 (Int.tdiv (a2 - a1) 4)) * 2 ≤ 9223372036854775807) <|
 gd (-9223372036854775808 ≤ a1 + ((IntKind.wrap .i64 (Int.tdiv (a2 - a1) 4)) * 2) ∧ a1 + ((IntKind.wrap .i64 (Int.tdiv (a2 - a1) 4)) * 2) ≤ 9223372036854775807) <|
 gd (-9223372036854775808 ≤ (IntKind.wrap .i64 (Int.tdiv (a2 - a1) 4)) * 3 ∧ (IntKind.wrap .i64 (Int.tdiv (a2 - a1) 4)) * 3 ≤ 9223372036854775807) <|
 gd (-9223372036854775808 ≤ a1 + ((IntKind.wrap .i64 (Int.tdiv (a2 - a1) 4)) * 3) ∧ a1 + ((IntKind.wrap .i64 (Int.tdiv (a2 - a1) 4)) * 3) ≤ 9223372036854775807) <|
 Qf (Q3s N a2 a1 l0 l3
 ) fun (a4,a0) =>
 if (a0 == 0) = true then (
  some (a4,1)
 ) else (
  if (a0 == 12) = true then (
   some (a4,2)
  ) else (
   some (a4,0)
  )
 )
noncomputable def Q2V (N:Nat) (a0:Int) (a1:Int) (a2:List Q1) (l3:List Int):Option (Bool) :=
 if (decide (a0 > a1)) = true then (
  gd (0 ≤ a0) <|
  Qf (a2[a0.toNat]?) fun a3 =>
  gd (-9223372036854775808 ≤ a0 - 1 ∧ a0 - 1 ≤ 9223372036854775807) <|
  gd (0 ≤ a0 - 1) <|
  Qf (a2[(a0 - 1).toNat]?) fun a4 =>
  Qf (Q17 N l3 a3.rule a3.ids a4.rule a4.ids) fun a5 =>
  some (decide (a5 < 0))
 ) else (
  some false
 )
noncomputable def Q1E (N:Nat) (a1:Int) (l3:List Int):(Int × (List Q1)) → Option ((Int × (List Q1)) ⊕ (List Q1)):=fun (a0,a2) =>
 Qf (Q2V N a0 a1 a2 l3
 ) fun a3 =>
 if a3 = true then (
  gd (-9223372036854775808 ≤ a0 - 1 ∧ a0 - 1 ≤ 9223372036854775807) <|
  gd (-9223372036854775808 ≤ a0 - 1 ∧ a0 - 1 ≤ 9223372036854775807) <|
  gd (0 ≤ a0 - 1) <|
  Qf (a2[(a0 - 1).toNat]?) fun a4 =>
  gd (0 ≤ a0) <|
  Qf (a2[a0.toNat]?) fun a5 =>
  gd (0 ≤ a0) <|
  Qf (a2[a0.toNat]?) fun _ =>
  gd (0 ≤ a0 - 1) <|
  Qf ((a2.set a0.toNat a4)[(a0 - 1).toNat]?) fun _ =>
  gd (-9223372036854775808 ≤ a0 - 1 ∧ a0 - 1 ≤ 9223372036854775807) <|
  some (.inl (a0 - 1,(a2.set a0.toNat a4).set ((a0 - 1).toNat) a5))
 ) else (
  some (.inr a2)
 )
noncomputable def Q1s (N:Nat) (a2:Int) (a1:Int) (l3:List Int):(Int × (List Q1)) → Option ((Int × (List Q1)) ⊕ (List Q1)):=fun (a0,a3) =>
 if (decide (a0 < a2)) = true then (
  Qf (
   Q1o (Q1E N a1 l3) N (a0,a3)
  ) fun a4 =>
  gd (-9223372036854775808 ≤ a0 + 1 ∧ a0 + 1 ≤ 9223372036854775807) <|
  some (.inl (a0 + 1,a4))
 ) else (
  some (.inr a3)
 )
noncomputable def Q2v (N:Nat) (l0:List Q1) (a1:Int) (a2:Int) (l3:List Int):Option (List Q1) :=
 gd (-9223372036854775808 ≤ a1 + 1 ∧ a1 + 1 ≤ 9223372036854775807) <|
 Q1o (Q1s N a2 a1 l3) N (a1 + 1,l0)
noncomputable def Q3t (N:Nat) (a0:Int) (a2:Int) (a3:Int) (a1:List Q1) (l4:List Int):Option (Bool) :=
 gd (-9223372036854775808 ≤ ((2 * a0) + 1) + 1 ∧ ((2 * a0) + 1) + 1 ≤ 9223372036854775807) <|
 if (decide ((((2 * a0) + 1) + 1) < a2)) = true then (
  gd (-9223372036854775808 ≤ a3 + ((2 * a0) + 1) ∧ a3 + ((2 * a0) + 1) ≤ 9223372036854775807) <|
  gd (0 ≤ a3 + ((2 * a0) + 1)) <|
  Qf (a1[(a3 + ((2 * a0) + 1)).toNat]?) fun a5 =>
  gd (-9223372036854775808 ≤ a3 + ((2 * a0) + 1) ∧ a3 + ((2 * a0) + 1) ≤ 9223372036854775807) <|
  gd (-9223372036854775808 ≤ (a3 + ((2 * a0) + 1)) + 1 ∧ (a3 + ((2 * a0) + 1)) + 1 ≤ 9223372036854775807) <|
  gd (0 ≤ (a3 + ((2 * a0) + 1)) + 1) <|
  Qf (a1[((a3 + ((2 * a0) + 1)) + 1).toNat]?) fun a6 =>
  Qf (Q17 N l4 a5.rule a5.ids a6.rule a6.ids) fun a7 =>
  some (decide (a7 < 0))
 ) else (
  some false
 )
noncomputable def Q1G (N:Nat) (a2:Int) (a3:Int) (l4:List Int):(Int × (List Q1)) → Option ((Int × (List Q1)) ⊕ (List Q1)):=fun (a0,a4) =>
 gd (-9223372036854775808 ≤ 2 * a0 ∧ 2 * a0 ≤ 9223372036854775807) <|
 gd (-9223372036854775808 ≤ (2 * a0) + 1 ∧ (2 * a0) + 1 ≤ 9223372036854775807) <|
 if (decide (((2 * a0) + 1) ≥ a2)) = true then (
  some (.inr a4)
 ) else (
  Qf (
   Qf (Q3t N a0 a2 a3 a4 l4
   ) fun a6 =>
   if a6 = true then (
    gd (-9223372036854775808 ≤ ((2 * a0) + 1) + 1 ∧ ((2 * a0) + 1) + 1 ≤ 9223372036854775807) <|
    some (((2 * a0) + 1) + 1)
   ) else (
    some ((2 * a0) + 1)
   )
  ) fun a1 =>
  gd (-9223372036854775808 ≤ a3 + a0 ∧ a3 + a0 ≤ 9223372036854775807) <|
  gd (0 ≤ a3 + a0) <|
  Qf (a4[(a3 + a0).toNat]?) fun a7 =>
  gd (-9223372036854775808 ≤ a3 + a1 ∧ a3 + a1 ≤ 9223372036854775807) <|
  gd (0 ≤ a3 + a1) <|
  Qf (a4[(a3 + a1).toNat]?) fun a8 =>
  Qf (Q17 N l4 a7.rule a7.ids a8.rule a8.ids) fun aA =>
  if (!(decide (aA < 0))) = true then (
   some (.inr a4)
  ) else (
   gd (-9223372036854775808 ≤ a3 + a0 ∧ a3 + a0 ≤ 9223372036854775807) <|
   gd (-9223372036854775808 ≤ a3 + a1 ∧ a3 + a1 ≤ 9223372036854775807) <|
   gd (-9223372036854775808 ≤ a3 + a1 ∧ a3 + a1 ≤ 9223372036854775807) <|
   gd (0 ≤ a3 + a1) <|
   Qf (a4[(a3 + a1).toNat]?) fun a9 =>
   gd (-9223372036854775808 ≤ a3 + a0 ∧ a3 + a0 ≤ 9223372036854775807) <|
   gd (0 ≤ a3 + a0) <|
   Qf (a4[(a3 + a0).toNat]?) fun aB =>
   gd (0 ≤ a3 + a0) <|
   Qf (a4[(a3 + a0).toNat]?) fun _ =>
   gd (0 ≤ a3 + a1) <|
   Qf ((a4.set ((a3 + a0).toNat) a9)[(a3 + a1).toNat]?) fun _ =>
   some (.inl (a1,(a4.set ((a3 + a0).toNat) a9).set ((a3 + a1).toNat) aB))
  )
 )
noncomputable def Q2u (N:Nat) (l0:List Q1) (a1:Int) (a2:Int) (a3:Int) (l4:List Int):Option (List Q1) :=
 Q1o (Q1G N a2 a3 l4) N (a1,l0)
noncomputable def Q1S (N:Nat) (a2:Int) (a1:Int) (l3:List Int):(Int × (List Q1)) → Option ((Int × (List Q1)) ⊕ (List Q1)):=fun (a0,a3) =>
 if (decide (a0 ≥ 0)) = true then (
  Qf (Q2u N a3 a0 (a2 - a1) a1 l3) fun a4 =>
  gd (-9223372036854775808 ≤ a0 - 1 ∧ a0 - 1 ≤ 9223372036854775807) <|
  some (.inl (a0 - 1,a4))
 ) else (
  some (.inr a3)
 )
noncomputable def Q1T (N:Nat) (a1:Int) (l3:List Int):(Int × (List Q1)) → Option ((Int × (List Q1)) ⊕ (List Q1)):=fun (a0,a2) =>
 if (decide (a0 ≥ 0)) = true then (
  gd (-9223372036854775808 ≤ a1 + a0 ∧ a1 + a0 ≤ 9223372036854775807) <|
  gd (-9223372036854775808 ≤ a1 + a0 ∧ a1 + a0 ≤ 9223372036854775807) <|
  gd (0 ≤ a1 + a0) <|
  Qf (a2[(a1 + a0).toNat]?) fun a4 =>
  gd (0 ≤ a1) <|
  Qf (a2[a1.toNat]?) fun a5 =>
  gd (0 ≤ a1) <|
  Qf (a2[a1.toNat]?) fun _ =>
  gd (0 ≤ a1 + a0) <|
  Qf ((a2.set a1.toNat a4)[(a1 + a0).toNat]?) fun _ =>
  Qf (Q2u N ((a2.set a1.toNat a4).set ((a1 + a0).toNat) a5) 0 a0 a1 l3) fun a6 =>
  gd (-9223372036854775808 ≤ a0 - 1 ∧ a0 - 1 ≤ 9223372036854775807) <|
  some (.inl (a0 - 1,a6))
 ) else (
  some (.inr a2)
 )
noncomputable def Q34 (N:Nat) (l0:List Q1) (a1:Int) (a2:Int) (l3:List Int):Option (List Q1) :=
 gd (-9223372036854775808 ≤ a2 - a1 ∧ a2 - a1 ≤ 9223372036854775807) <|
 Qf (
  gd (-9223372036854775808 ≤ (a2 - a1) - 1 ∧ (a2 - a1) - 1 ≤ 9223372036854775807) <|
  Q1o (Q1S N a2 a1 l3) N (IntKind.wrap .i64 (Int.tdiv ((a2 - a1) - 1) 2),l0)
 ) fun a0 =>
 gd (-9223372036854775808 ≤ (a2 - a1) - 1 ∧ (a2 - a1) - 1 ≤ 9223372036854775807) <|
 Q1o (Q1T N a1 l3) N ((a2 - a1) - 1,a0)
noncomputable def Q1u (_:Nat):(Int × Int × (List Q1)) → Option ((Int × Int × (List Q1)) ⊕ (List Q1)):=fun (a2,a1,a0) =>
 if (decide (a1 < a2)) = true then (
  gd (0 ≤ a2) <|
  Qf (a0[a2.toNat]?) fun a3 =>
  gd (0 ≤ a1) <|
  Qf (a0[a1.toNat]?) fun a4 =>
  gd (0 ≤ a1) <|
  Qf (a0[a1.toNat]?) fun _ =>
  gd (0 ≤ a2) <|
  Qf ((a0.set a1.toNat a3)[a2.toNat]?) fun _ =>
  gd (-9223372036854775808 ≤ a1 + 1 ∧ a1 + 1 ≤ 9223372036854775807) <|
  gd (-9223372036854775808 ≤ a2 - 1 ∧ a2 - 1 ≤ 9223372036854775807) <|
  some (.inl (a2 - 1,a1 + 1,(a0.set a1.toNat a3).set a2.toNat a4))
 ) else (
  some (.inr a0)
 )
noncomputable def Q2D (N:Nat) (l0:List Q1) (a1:Int) (a2:Int) (_:List Int):Option (List Q1) :=
 gd (-9223372036854775808 ≤ a2 - 1 ∧ a2 - 1 ≤ 9223372036854775807) <|
 Q1o (Q1u N) N (a2 - 1,a1,l0)
noncomputable def Q38 (N:Nat) (a0:Int) (a2:Int) (a1:List Q1) (l3:List Int):Option (Bool) :=
 if (decide (a0 < a2)) = true then (
  gd (0 ≤ a0) <|
  Qf (a1[a0.toNat]?) fun a3 =>
  gd (-9223372036854775808 ≤ a0 - 1 ∧ a0 - 1 ≤ 9223372036854775807) <|
  gd (0 ≤ a0 - 1) <|
  Qf (a1[(a0 - 1).toNat]?) fun a4 =>
  Qf (Q17 N l3 a3.rule a3.ids a4.rule a4.ids) fun a5 =>
  some (!(decide (a5 < 0)))
 ) else (
  some false
 )
noncomputable def Q1B (N:Nat) (a2:Int) (a1:List Q1) (l3:List Int):Int → Option (Int ⊕ Int):=fun a0 =>
 Qf (Q38 N a0 a2 a1 l3
 ) fun a3 =>
 if a3 = true then (
  gd (-9223372036854775808 ≤ a0 + 1 ∧ a0 + 1 ≤ 9223372036854775807) <|
  some (.inl (a0 + 1))
 ) else (
  some (.inr a0)
 )
noncomputable def Q1h (N:Nat) (l3:List Int):(Int × (List Q1)) → Option ((Int × (List Q1)) ⊕ (List Q1)):=fun (a0,a1) =>
 if (decide (a0 ≥ 1)) = true then (
  gd (0 ≤ a0) <|
  Qf (a1[a0.toNat]?) fun a2 =>
  gd (-9223372036854775808 ≤ a0 - 1 ∧ a0 - 1 ≤ 9223372036854775807) <|
  gd (0 ≤ a0 - 1) <|
  Qf (a1[(a0 - 1).toNat]?) fun a3 =>
  Qf (Q17 N l3 a2.rule a2.ids a3.rule a3.ids) fun a5 =>
  if (!(decide (a5 < 0))) = true then (
   some (.inr a1)
  ) else (
   gd (-9223372036854775808 ≤ a0 - 1 ∧ a0 - 1 ≤ 9223372036854775807) <|
   gd (-9223372036854775808 ≤ a0 - 1 ∧ a0 - 1 ≤ 9223372036854775807) <|
   gd (0 ≤ a0 - 1) <|
   Qf (a1[(a0 - 1).toNat]?) fun a4 =>
   gd (0 ≤ a0) <|
   Qf (a1[a0.toNat]?) fun a6 =>
   gd (0 ≤ a0) <|
   Qf (a1[a0.toNat]?) fun _ =>
   gd (0 ≤ a0 - 1) <|
   Qf ((a1.set a0.toNat a4)[(a0 - 1).toNat]?) fun _ =>
   gd (-9223372036854775808 ≤ a0 - 1 ∧ a0 - 1 ≤ 9223372036854775807) <|
   some (.inl (a0 - 1,(a1.set a0.toNat a4).set ((a0 - 1).toNat) a6))
  )
 ) else (
  some (.inr a1)
 )
noncomputable def Q1c (N:Nat) (a2:Int) (l3:List Int) (a3:Int):(Int × (List Q1)) → Option ((Int × (List Q1)) ⊕ ((Int × (List Q1)) ⊕ ((Nat × Int × (List Q1)) ⊕ ((List Q1) ⊕ (Bool × (List Q1)))))):=fun (a0,a1) =>
 if (decide (a0 < a2)) = true then (
  gd (0 ≤ a0) <|
  Qf (a1[a0.toNat]?) fun a4 =>
  gd (-9223372036854775808 ≤ a0 - 1 ∧ a0 - 1 ≤ 9223372036854775807) <|
  gd (0 ≤ a0 - 1) <|
  Qf (a1[(a0 - 1).toNat]?) fun a5 =>
  Qf (Q17 N l3 a4.rule a4.ids a5.rule a5.ids) fun a7 =>
  if (!(decide (a7 < 0))) = true then (
   some (.inr (.inl (a3,a1)))
  ) else (
   gd (-9223372036854775808 ≤ a0 - 1 ∧ a0 - 1 ≤ 9223372036854775807) <|
   gd (-9223372036854775808 ≤ a0 - 1 ∧ a0 - 1 ≤ 9223372036854775807) <|
   gd (0 ≤ a0 - 1) <|
   Qf (a1[(a0 - 1).toNat]?) fun a6 =>
   gd (0 ≤ a0) <|
   Qf (a1[a0.toNat]?) fun a8 =>
   gd (0 ≤ a0) <|
   Qf (a1[a0.toNat]?) fun _ =>
   gd (0 ≤ a0 - 1) <|
   Qf ((a1.set a0.toNat a6)[(a0 - 1).toNat]?) fun _ =>
   gd (-9223372036854775808 ≤ a0 + 1 ∧ a0 + 1 ≤ 9223372036854775807) <|
   some (.inl (a0 + 1,(a1.set a0.toNat a6).set ((a0 - 1).toNat) a8))
  )
 ) else (
  some (.inr (.inl (a3,a1)))
 )
noncomputable def Q1P (N:Nat) (a2:Int) (a3:List Q1) (l3:List Int) (a8:Int) (a1:Int):Option ((Int × (List Q1)) ⊕ ((Nat × Int × (List Q1)) ⊕ ((List Q1) ⊕ (Bool × (List Q1))))) :=
 Qf (
  Q1o (Q1B N a2 a3 l3) N a8
 ) fun a0 =>
 if (a0 == a2) = true then (
  some (.inr (.inr (.inr (true,a3))))
 ) else (
  gd (-9223372036854775808 ≤ a2 - a1 ∧ a2 - a1 ≤ 9223372036854775807) <|
  if (decide ((a2 - a1) < 50)) = true then (
   some (.inr (.inr (.inr (false,a3))))
  ) else (
   gd (-9223372036854775808 ≤ a0 - 1 ∧ a0 - 1 ≤ 9223372036854775807) <|
   gd (-9223372036854775808 ≤ a0 - 1 ∧ a0 - 1 ≤ 9223372036854775807) <|
   gd (0 ≤ a0 - 1) <|
   Qf (a3[(a0 - 1).toNat]?) fun a6 =>
   gd (0 ≤ a0) <|
   Qf (a3[a0.toNat]?) fun a9 =>
   gd (0 ≤ a0) <|
   Qf (a3[a0.toNat]?) fun _ =>
   gd (0 ≤ a0 - 1) <|
   Qf ((a3.set a0.toNat a6)[(a0 - 1).toNat]?) fun _ =>
   Qf (
    gd (-9223372036854775808 ≤ a0 - a1 ∧ a0 - a1 ≤ 9223372036854775807) <|
    if (decide ((a0 - a1) ≥ 2)) = true then (
     gd (-9223372036854775808 ≤ a0 - 1 ∧ a0 - 1 ≤ 9223372036854775807) <|
     Q1o (Q1h N l3) N (a0 - 1,(a3.set a0.toNat a6).set ((a0 - 1).toNat) a9)
    ) else (
     some ((a3.set a0.toNat a6).set ((a0 - 1).toNat) a9)
    )
   ) fun a4 =>
   gd (-9223372036854775808 ≤ a2 - a0 ∧ a2 - a0 ≤ 9223372036854775807) <|
   if (decide ((a2 - a0) ≥ 2)) = true then (
    gd (-9223372036854775808 ≤ a0 + 1 ∧ a0 + 1 ≤ 9223372036854775807) <|
    Q1o (Q1c N a2 l3 a0) N (a0 + 1,a4)
   ) else (
    some (.inl (a0,a4))
   )
  )
 )
noncomputable def Q1b (N:Nat) (a2:Int) (l3:List Int) (a1:Int):(Nat × Int × (List Q1)) → Option ((Nat × Int × (List Q1)) ⊕ ((List Q1) ⊕ (Bool × (List Q1)))):=fun (a0,a6,a3) =>
 if (decide (a0 < 5)) = true then (
  Q5x (Q1P N a2 a3 l3 a6 a1
  ) fun (a5,a4) =>
  gd (a0 + 1 ≤ 9223372036854775807) <|
  some (.inl (a0 + 1,a5,a4))
 ) else (
  some (.inr (.inl a3))
 )
noncomputable def Q22 (N:Nat) (l0:List Q1) (a1:Int) (a2:Int) (l3:List Int):Option (Bool × (List Q1)) :=
 gd (-9223372036854775808 ≤ a1 + 1 ∧ a1 + 1 ≤ 9223372036854775807) <|
 Q5x (
  Q1o (Q1b N a2 l3 a1) N (0,a1 + 1,l0)
 ) fun a0 =>
 some (false,a0)
noncomputable def Q3P (N:Nat) (a0:Int) (a3:Int) (a1:Int) (a2:List Q1) (l4:List Int):Option (Bool) :=
 if (decide (a0 ≤ a3)) = true then (
  gd (0 ≤ a1) <|
  Qf (a2[a1.toNat]?) fun a4 =>
  gd (0 ≤ a0) <|
  Qf (a2[a0.toNat]?) fun a5 =>
  Qf (Q17 N l4 a4.rule a4.ids a5.rule a5.ids) fun a6 =>
  some (!(decide (a6 < 0)))
 ) else (
  some false
 )
noncomputable def Q2c (N:Nat) (a4:Int) (a1:Int) (a2:List Q1) (l4:List Int):Int → Option (Int ⊕ Int):=fun a0 =>
 Qf (Q3P N a0 a4 a1 a2 l4
 ) fun a3 =>
 if a3 = true then (
  gd (-9223372036854775808 ≤ a0 + 1 ∧ a0 + 1 ≤ 9223372036854775807) <|
  some (.inl (a0 + 1))
 ) else (
  some (.inr a0)
 )
noncomputable def Q3Q (N:Nat) (a3:Int) (a0:Int) (a1:Int) (a2:List Q1) (l4:List Int):Option (Bool) :=
 if (decide (a3 ≤ a0)) = true then (
  gd (0 ≤ a1) <|
  Qf (a2[a1.toNat]?) fun a4 =>
  gd (0 ≤ a0) <|
  Qf (a2[a0.toNat]?) fun a5 =>
  Qf (Q17 N l4 a4.rule a4.ids a5.rule a5.ids) fun a6 =>
  some (decide (a6 < 0))
 ) else (
  some false
 )
noncomputable def Q2d (N:Nat) (a2:Int) (a1:Int) (a3:List Q1) (l4:List Int):Int → Option (Int ⊕ Int):=fun a0 =>
 Qf (Q3Q N a2 a0 a1 a3 l4
 ) fun a4 =>
 if a4 = true then (
  gd (-9223372036854775808 ≤ a0 - 1 ∧ a0 - 1 ≤ 9223372036854775807) <|
  some (.inl (a0 - 1))
 ) else (
  some (.inr a0)
 )
noncomputable def Q1q (N:Nat) (a1:Int) (l4:List Int):(Int × Int × (List Q1)) → Option ((Int × Int × (List Q1)) ⊕ (Int × (List Q1))):=fun (a4,a5,a3) =>
 Qf (
  Q1o (Q2c N a4 a1 a3 l4) N a5
 ) fun a0 =>
 Qf (
  Q1o (Q2d N a0 a1 a3 l4) N a4
 ) fun a2 =>
 if (decide (a0 > a2)) = true then (
  some (.inr (a0,a3))
 ) else (
  gd (0 ≤ a2) <|
  Qf (a3[a2.toNat]?) fun a6 =>
  gd (0 ≤ a0) <|
  Qf (a3[a0.toNat]?) fun a7 =>
  gd (0 ≤ a0) <|
  Qf (a3[a0.toNat]?) fun _ =>
  gd (0 ≤ a2) <|
  Qf ((a3.set a0.toNat a6)[a2.toNat]?) fun _ =>
  gd (-9223372036854775808 ≤ a0 + 1 ∧ a0 + 1 ≤ 9223372036854775807) <|
  gd (-9223372036854775808 ≤ a2 - 1 ∧ a2 - 1 ≤ 9223372036854775807) <|
  some (.inl (a2 - 1,a0 + 1,(a3.set a0.toNat a6).set a2.toNat a7))
 )
noncomputable def Q21 (N:Nat) (l0:List Q1) (a1:Int) (a2:Int) (a3:Int) (l4:List Int):Option (Int × (List Q1)) :=
 gd (0 ≤ a3) <|
 Qf (l0[a3.toNat]?) fun a8 =>
 gd (0 ≤ a1) <|
 Qf (l0[a1.toNat]?) fun aA =>
 gd (0 ≤ a1) <|
 Qf (l0[a1.toNat]?) fun _ =>
 gd (0 ≤ a3) <|
 Qf ((l0.set a1.toNat a8)[a3.toNat]?) fun _ =>
 gd (-9223372036854775808 ≤ a1 + 1 ∧ a1 + 1 ≤ 9223372036854775807) <|
 gd (-9223372036854775808 ≤ a2 - 1 ∧ a2 - 1 ≤ 9223372036854775807) <|
 Qf (
  Q1o (Q1q N a1 l4) N (a2 - 1,a1 + 1,(l0.set a1.toNat a8).set a3.toNat aA)
 ) fun (a5,a0) =>
 some (a5,a0)
noncomputable def Q4u (N:Nat) (a0:Int) (a2:Int) (l0:List Q1) (a1:Int) (a4:Q1) (a3:Int) (a5:Q1) (l4:List Int):Option (Bool) :=
 if (decide (a0 ≤ (a2 - 1))) = true then (
  gd (0 ≤ a0) <|
  Qf (((l0.set a1.toNat a4).set a3.toNat a5)[a0.toNat]?) fun a6 =>
  gd (0 ≤ a1) <|
  Qf (((l0.set a1.toNat a4).set a3.toNat a5)[a1.toNat]?) fun a7 =>
  Qf (Q17 N l4 a6.rule a6.ids a7.rule a7.ids) fun a9 =>
  some (decide (a9 < 0))
 ) else (
  some false
 )
noncomputable def Q2z (N:Nat) (a2:Int) (l0:List Q1) (a1:Int) (a5:Q1) (a3:Int) (a6:Q1) (l4:List Int):Int → Option (Int ⊕ Int):=fun a0 =>
 Qf (Q4u N a0 a2 l0 a1 a5 a3 a6 l4
 ) fun a4 =>
 if a4 = true then (
  gd (-9223372036854775808 ≤ a0 + 1 ∧ a0 + 1 ≤ 9223372036854775807) <|
  some (.inl (a0 + 1))
 ) else (
  some (.inr a0)
 )
noncomputable def Q4v (N:Nat) (a2:Int) (a0:Int) (l0:List Q1) (a1:Int) (a4:Q1) (a3:Int) (a5:Q1) (l4:List Int):Option (Bool) :=
 if (decide (a2 ≤ a0)) = true then (
  gd (0 ≤ a0) <|
  Qf (((l0.set a1.toNat a4).set a3.toNat a5)[a0.toNat]?) fun a6 =>
  gd (0 ≤ a1) <|
  Qf (((l0.set a1.toNat a4).set a3.toNat a5)[a1.toNat]?) fun a7 =>
  Qf (Q17 N l4 a6.rule a6.ids a7.rule a7.ids) fun a9 =>
  some (!(decide (a9 < 0)))
 ) else (
  some false
 )
noncomputable def Q2A (N:Nat) (a2:Int) (l0:List Q1) (a1:Int) (a5:Q1) (a3:Int) (a6:Q1) (l4:List Int):Int → Option (Int ⊕ Int):=fun a0 =>
 Qf (Q4v N a2 a0 l0 a1 a5 a3 a6 l4
 ) fun a4 =>
 if a4 = true then (
  gd (-9223372036854775808 ≤ a0 - 1 ∧ a0 - 1 ≤ 9223372036854775807) <|
  some (.inl (a0 - 1))
 ) else (
  some (.inr a0)
 )
noncomputable def Q4n (N:Nat) (a0:Int) (a5:Int) (a2:List Q1) (a1:Int) (l4:List Int):Option (Bool) :=
 if (decide (a0 ≤ a5)) = true then (
  gd (0 ≤ a0) <|
  Qf (a2[a0.toNat]?) fun a3 =>
  gd (0 ≤ a1) <|
  Qf (a2[a1.toNat]?) fun a4 =>
  Qf (Q17 N l4 a3.rule a3.ids a4.rule a4.ids) fun a6 =>
  some (decide (a6 < 0))
 ) else (
  some false
 )
noncomputable def Q2B (N:Nat) (a4:Int) (a3:List Q1) (a1:Int) (l4:List Int):Int → Option (Int ⊕ Int):=fun a0 =>
 Qf (Q4n N a0 a4 a3 a1 l4
 ) fun a2 =>
 if a2 = true then (
  gd (-9223372036854775808 ≤ a0 + 1 ∧ a0 + 1 ≤ 9223372036854775807) <|
  some (.inl (a0 + 1))
 ) else (
  some (.inr a0)
 )
noncomputable def Q4o (N:Nat) (a3:Int) (a0:Int) (a2:List Q1) (a1:Int) (l4:List Int):Option (Bool) :=
 if (decide (a3 ≤ a0)) = true then (
  gd (0 ≤ a0) <|
  Qf (a2[a0.toNat]?) fun a4 =>
  gd (0 ≤ a1) <|
  Qf (a2[a1.toNat]?) fun a5 =>
  Qf (Q17 N l4 a4.rule a4.ids a5.rule a5.ids) fun a6 =>
  some (!(decide (a6 < 0)))
 ) else (
  some false
 )
noncomputable def Q2C (N:Nat) (a3:Int) (a4:List Q1) (a1:Int) (l4:List Int):Int → Option (Int ⊕ Int):=fun a0 =>
 Qf (Q4o N a3 a0 a4 a1 l4
 ) fun a2 =>
 if a2 = true then (
  gd (-9223372036854775808 ≤ a0 - 1 ∧ a0 - 1 ≤ 9223372036854775807) <|
  some (.inl (a0 - 1))
 ) else (
  some (.inr a0)
 )
noncomputable def Q1D (N:Nat) (a1:Int) (l4:List Int):(Int × Int × (List Q1)) → Option ((Int × Int × (List Q1)) ⊕ (Int × (List Q1))):=fun (a4,a6,a3) =>
 Qf (
  Q1o (Q2B N a4 a3 a1 l4) N a6
 ) fun a2 =>
 Qf (
  Q1o (Q2C N a2 a3 a1 l4) N a4
 ) fun a0 =>
 if (decide (a2 > a0)) = true then (
  some (.inr (a0,a3))
 ) else (
  gd (0 ≤ a0) <|
  Qf (a3[a0.toNat]?) fun a5 =>
  gd (0 ≤ a2) <|
  Qf (a3[a2.toNat]?) fun a7 =>
  gd (0 ≤ a2) <|
  Qf (a3[a2.toNat]?) fun _ =>
  gd (0 ≤ a0) <|
  Qf ((a3.set a2.toNat a5)[a0.toNat]?) fun _ =>
  gd (-9223372036854775808 ≤ a2 + 1 ∧ a2 + 1 ≤ 9223372036854775807) <|
  gd (-9223372036854775808 ≤ a0 - 1 ∧ a0 - 1 ≤ 9223372036854775807) <|
  some (.inl (a0 - 1,a2 + 1,(a3.set a2.toNat a5).set a0.toNat a7))
 )
noncomputable def Q2n (N:Nat) (l0:List Q1) (a1:Int) (a2:Int) (a3:Int) (l4:List Int):Option (Int × Bool × (List Q1)) :=
 gd (0 ≤ a3) <|
 Qf (l0[a3.toNat]?) fun a8 =>
 gd (0 ≤ a1) <|
 Qf (l0[a1.toNat]?) fun a9 =>
 gd (0 ≤ a1) <|
 Qf (l0[a1.toNat]?) fun _ =>
 gd (0 ≤ a3) <|
 Qf ((l0.set a1.toNat a8)[a3.toNat]?) fun _ =>
 gd (-9223372036854775808 ≤ a1 + 1 ∧ a1 + 1 ≤ 9223372036854775807) <|
 gd (-9223372036854775808 ≤ a2 - 1 ∧ a2 - 1 ≤ 9223372036854775807) <|
 Qf (
  Q1o (Q2z N a2 l0 a1 a8 a3 a9 l4) N (a1 + 1)
 ) fun a4 =>
 Qf (
  Q1o (Q2A N a4 l0 a1 a8 a3 a9 l4) N (a2 - 1)
 ) fun a0 =>
 if (decide (a4 > a0)) = true then (
  gd (0 ≤ a1) <|
  Qf (((l0.set a1.toNat a8).set a3.toNat a9)[a1.toNat]?) fun aD =>
  gd (0 ≤ a0) <|
  Qf (((l0.set a1.toNat a8).set a3.toNat a9)[a0.toNat]?) fun aI =>
  gd (0 ≤ a0) <|
  Qf (((l0.set a1.toNat a8).set a3.toNat a9)[a0.toNat]?) fun _ =>
  gd (0 ≤ a1) <|
  Qf ((((l0.set a1.toNat a8).set a3.toNat a9).set a0.toNat aD)[a1.toNat]?) fun _ =>
  some (a0,true,(((l0.set a1.toNat a8).set a3.toNat a9).set a0.toNat aD).set a1.toNat aI)
 ) else (
  gd (0 ≤ a0) <|
  Qf (((l0.set a1.toNat a8).set a3.toNat a9)[a0.toNat]?) fun aE =>
  gd (0 ≤ a4) <|
  Qf (((l0.set a1.toNat a8).set a3.toNat a9)[a4.toNat]?) fun aJ =>
  gd (0 ≤ a4) <|
  Qf (((l0.set a1.toNat a8).set a3.toNat a9)[a4.toNat]?) fun _ =>
  gd (0 ≤ a0) <|
  Qf ((((l0.set a1.toNat a8).set a3.toNat a9).set a4.toNat aE)[a0.toNat]?) fun _ =>
  gd (-9223372036854775808 ≤ a4 + 1 ∧ a4 + 1 ≤ 9223372036854775807) <|
  gd (-9223372036854775808 ≤ a0 - 1 ∧ a0 - 1 ≤ 9223372036854775807) <|
  Qf (
   Q1o (Q1D N a1 l4) N (a0 - 1,a4 + 1,(((l0.set a1.toNat a8).set a3.toNat a9).set a4.toNat aE).set a0.toNat aJ)
  ) fun (a5,a6) =>
  gd (0 ≤ a1) <|
  Qf (a6[a1.toNat]?) fun aC =>
  gd (0 ≤ a5) <|
  Qf (a6[a5.toNat]?) fun aF =>
  gd (0 ≤ a5) <|
  Qf (a6[a5.toNat]?) fun _ =>
  gd (0 ≤ a1) <|
  Qf ((a6.set a5.toNat aC)[a1.toNat]?) fun _ =>
  some (a5,false,(a6.set a5.toNat aC).set a1.toNat aF)
 )
noncomputable def Q4Z (N:Nat) (a0:Int):Option (Int) :=
 Qf (Q7X N (IntKind.wrap .u64 a0)) fun v5 =>
 gd (0 ≤ v5) <|
 some (IntKind.wrap .u64 (1 * 2 ^ (min (v5).toNat 64)))
noncomputable def Q5V (_:Nat) (_:Int):Option (Unit) :=
 some ()
noncomputable def Q1r (N:Nat) (a2:Int) (a1:Int) (a8:Int):(Int × Int × (List Q1)) → Option ((Int × Int × (List Q1)) ⊕ (List Q1)):=fun (a4,a0,a5) =>
 gd (-9223372036854775808 ≤ (IntKind.wrap .i64 (Int.tdiv (a2 - a1) 4)) * 2 ∧ (IntKind.wrap .i64 (Int.tdiv (a2 - a1) 4)) * 2 ≤ 9223372036854775807) <|
 gd (-9223372036854775808 ≤ a1 + ((IntKind.wrap .i64 (Int.tdiv (a2 - a1) 4)) * 2) ∧ a1 + ((IntKind.wrap .i64 (Int.tdiv (a2 - a1) 4)) * 2) ≤ 9223372036854775807) <|
 gd (-9223372036854775808 ≤ (a1 + ((IntKind.wrap .i64 (Int.tdiv (a2 - a1) 4)) * 2)) + 1 ∧ (a1 + ((IntKind.wrap .i64 (Int.tdiv (a2 - a1) 4)) * 2)) + 1 ≤ 9223372036854775807) <|
 if (decide (a4 ≤ ((a1 + ((IntKind.wrap .i64 (Int.tdiv (a2 - a1) 4)) * 2)) + 1))) = true then (
  Qf (Q5V N a0) fun _ =>
  Qf (
   if (decide ((IntKind.wrap .i64 (Q1t .and .u64 (Q1t .xor .u64 (Q1t .xor .u64 (Q1t .xor .u64 a0 (IntKind.wrap .u64 (a0 * 2 ^ (13)))) (Int.fdiv (Q1t .xor .u64 a0 (IntKind.wrap .u64 (a0 * 2 ^ (13)))) (2 ^ (7)))) (IntKind.wrap .u64 ((Q1t .xor .u64 (Q1t .xor .u64 a0 (IntKind.wrap .u64 (a0 * 2 ^ (13)))) (Int.fdiv (Q1t .xor .u64 a0 (IntKind.wrap .u64 (a0 * 2 ^ (13)))) (2 ^ (7)))) * 2 ^ (17)))) (IntKind.wrap .u64 (a8 - 1)))) ≥ (a2 - a1))) = true then (
    gd (-9223372036854775808 ≤ (IntKind.wrap .i64 (Q1t .and .u64 (Q1t .xor .u64 (Q1t .xor .u64 (Q1t .xor .u64 a0 (IntKind.wrap .u64 (a0 * 2 ^ (13)))) (Int.fdiv (Q1t .xor .u64 a0 (IntKind.wrap .u64 (a0 * 2 ^ (13)))) (2 ^ (7)))) (IntKind.wrap .u64 ((Q1t .xor .u64 (Q1t .xor .u64 a0 (IntKind.wrap .u64 (a0 * 2 ^ (13)))) (Int.fdiv (Q1t .xor .u64 a0 (IntKind.wrap .u64 (a0 * 2 ^ (13)))) (2 ^ (7)))) * 2 ^ (17)))) (IntKind.wrap .u64 (a8 - 1)))) - (a2 - a1) ∧ (IntKind.wrap .i64 (Q1t .and .u64 (Q1t .xor .u64 (Q1t .xor .u64 (Q1t .xor .u64 a0 (IntKind.wrap .u64 (a0 * 2 ^ (13)))) (Int.fdiv (Q1t .xor .u64 a0 (IntKind.wrap .u64 (a0 * 2 ^ (13)))) (2 ^ (7)))) (IntKind.wrap .u64 ((Q1t .xor .u64 (Q1t .xor .u64 a0 (IntKind.wrap .u64 (a0 * 2 ^ (13)))) (Int.fdiv (Q1t .xor .u64 a0 (IntKind.wrap .u64 (a0 * 2 ^ (13)))) (2 ^ (7)))) * 2 ^ (17)))) (IntKind.wrap .u64 (a8 - 1)))) - (a2 - a1) ≤ 9223372036854775807) <|
    some ((IntKind.wrap .i64 (Q1t .and .u64 (Q1t .xor .u64 (Q1t .xor .u64 (Q1t .xor .u64 a0 (IntKind.wrap .u64 (a0 * 2 ^ (13)))) (Int.fdiv (Q1t .xor .u64 a0 (IntKind.wrap .u64 (a0 * 2 ^ (13)))) (2 ^ (7)))) (IntKind.wrap .u64 ((Q1t .xor .u64 (Q1t .xor .u64 a0 (IntKind.wrap .u64 (a0 * 2 ^ (13)))) (Int.fdiv (Q1t .xor .u64 a0 (IntKind.wrap .u64 (a0 * 2 ^ (13)))) (2 ^ (7)))) * 2 ^ (17)))) (IntKind.wrap .u64 (a8 - 1)))) - (a2 - a1))
   ) else (
    some (IntKind.wrap .i64 (Q1t .and .u64 (Q1t .xor .u64 (Q1t .xor .u64 (Q1t .xor .u64 a0 (IntKind.wrap .u64 (a0 * 2 ^ (13)))) (Int.fdiv (Q1t .xor .u64 a0 (IntKind.wrap .u64 (a0 * 2 ^ (13)))) (2 ^ (7)))) (IntKind.wrap .u64 ((Q1t .xor .u64 (Q1t .xor .u64 a0 (IntKind.wrap .u64 (a0 * 2 ^ (13)))) (Int.fdiv (Q1t .xor .u64 a0 (IntKind.wrap .u64 (a0 * 2 ^ (13)))) (2 ^ (7)))) * 2 ^ (17)))) (IntKind.wrap .u64 (a8 - 1))))
   )
  ) fun a3 =>
  gd (-9223372036854775808 ≤ a1 + a3 ∧ a1 + a3 ≤ 9223372036854775807) <|
  gd (-9223372036854775808 ≤ a1 + a3 ∧ a1 + a3 ≤ 9223372036854775807) <|
  gd (0 ≤ a1 + a3) <|
  Qf (a5[(a1 + a3).toNat]?) fun a9 =>
  gd (0 ≤ a4) <|
  Qf (a5[a4.toNat]?) fun aA =>
  gd (0 ≤ a4) <|
  Qf (a5[a4.toNat]?) fun _ =>
  gd (0 ≤ a1 + a3) <|
  Qf ((a5.set a4.toNat a9)[(a1 + a3).toNat]?) fun _ =>
  gd (-9223372036854775808 ≤ a4 + 1 ∧ a4 + 1 ≤ 9223372036854775807) <|
  some (.inl (a4 + 1,Q1t .xor .u64 (Q1t .xor .u64 (Q1t .xor .u64 a0 (IntKind.wrap .u64 (a0 * 2 ^ (13)))) (Int.fdiv (Q1t .xor .u64 a0 (IntKind.wrap .u64 (a0 * 2 ^ (13)))) (2 ^ (7)))) (IntKind.wrap .u64 ((Q1t .xor .u64 (Q1t .xor .u64 a0 (IntKind.wrap .u64 (a0 * 2 ^ (13)))) (Int.fdiv (Q1t .xor .u64 a0 (IntKind.wrap .u64 (a0 * 2 ^ (13)))) (2 ^ (7)))) * 2 ^ (17))),(a5.set a4.toNat a9).set ((a1 + a3).toNat) aA))
 ) else (
  some (.inr a5)
 )
noncomputable def Q24 (N:Nat) (l0:List Q1) (a1:Int) (a2:Int) (_:List Int):Option (List Q1) :=
 gd (-9223372036854775808 ≤ a2 - a1 ∧ a2 - a1 ≤ 9223372036854775807) <|
 if (decide ((a2 - a1) ≥ 8)) = true then (
  Qf (Q4Z N (a2 - a1)) fun a4 =>
  gd (-9223372036854775808 ≤ (IntKind.wrap .i64 (Int.tdiv (a2 - a1) 4)) * 2 ∧ (IntKind.wrap .i64 (Int.tdiv (a2 - a1) 4)) * 2 ≤ 9223372036854775807) <|
  gd (-9223372036854775808 ≤ a1 + ((IntKind.wrap .i64 (Int.tdiv (a2 - a1) 4)) * 2) ∧ a1 + ((IntKind.wrap .i64 (Int.tdiv (a2 - a1) 4)) * 2) ≤ 9223372036854775807) <|
  gd (-9223372036854775808 ≤ (a1 + ((IntKind.wrap .i64 (Int.tdiv (a2 - a1) 4)) * 2)) - 1 ∧ (a1 + ((IntKind.wrap .i64 (Int.tdiv (a2 - a1) 4)) * 2)) - 1 ≤ 9223372036854775807) <|
  Q1o (Q1r N a2 a1 a4) N ((a1 + ((IntKind.wrap .i64 (Int.tdiv (a2 - a1) 4)) * 2)) - 1,IntKind.wrap .u64 (a2 - a1),l0)
 ) else (
  some l0
 )
noncomputable def Q3C (N:Nat) (a5:Nat) (a3:List Q1) (a1:Int) (a2:Int) (a4:List Int) (a0:Int):Option (Nat × Int × (List Q1)) :=
 if (a5 == 2) = true then (
  Qf (Q2D N a3 a1 a2 a4) fun a6 =>
  gd (-9223372036854775808 ≤ a2 - 1 ∧ a2 - 1 ≤ 9223372036854775807) <|
  gd (-9223372036854775808 ≤ a0 - a1 ∧ a0 - a1 ≤ 9223372036854775807) <|
  gd (-9223372036854775808 ≤ (a2 - 1) - (a0 - a1) ∧ (a2 - 1) - (a0 - a1) ≤ 9223372036854775807) <|
  some (1,(a2 - 1) - (a0 - a1),a6)
 ) else (
  some (a5,a0,a3)
 )
noncomputable def Q2h (N:Nat) (a5:Bool) (a6:Bool) (a3:Nat) (a1:List Q1) (a8:Int) (a9:Int) (a0:List Int):Option ((List Q1) ⊕ ((Bool × Bool × (List Q1) × Int × Int × Int × (List Int)) ⊕ ((List Q1) × (List Int)))) :=
 Qf (
  if a5 = true then (
   if a6 = true then (
    some (a3 == 1)
   ) else (
    some false
   )
  ) else (
   some false
  )
 ) fun a4 =>
 if a4 = true then (
  Qf (Q22 N a1 a8 a9 a0) fun (a7,a2) =>
  if a7 = true then (
   some (.inr (.inr (a2,a0)))
  ) else (
   some (.inl a2)
  )
 ) else (
  some (.inl a1)
 )
noncomputable def Q2T (N:Nat) (a0:Int) (a1:List Q1) (a3:Int) (a2:List Int):Option (Bool) :=
 if (decide (a0 > 0)) = true then (
  gd (-9223372036854775808 ≤ a0 - 1 ∧ a0 - 1 ≤ 9223372036854775807) <|
  gd (0 ≤ a0 - 1) <|
  Qf (a1[(a0 - 1).toNat]?) fun a4 =>
  gd (0 ≤ a3) <|
  Qf (a1[a3.toNat]?) fun a5 =>
  Qf (Q17 N a2 a4.rule a4.ids a5.rule a5.ids) fun a6 =>
  some (!(decide (a6 < 0)))
 ) else (
  some false
 )
noncomputable def Q1p (N:Nat) (rc:(List Q1) → Int → Int → Int → (List Int) → Option ((List Q1) × (List Int))):(Bool × Bool × (List Q1) × Int × Int × Int × (List Int)) → Option ((Bool × Bool × (List Q1) × Int × Int × Int × (List Int)) ⊕ ((List Q1) × (List Int))):=fun (aF,aB,a4,a2,a3,a9,a0) =>
 gd (-9223372036854775808 ≤ a3 - a2 ∧ a3 - a2 ≤ 9223372036854775807) <|
 if (decide ((a3 - a2) ≤ 12)) = true then (
  Qf (Q2v N a4 a2 a3 a0) fun aP =>
  some (.inr (aP,a0))
 ) else (
  if (a9 == 0) = true then (
   Qf (Q34 N a4 a2 a3 a0) fun aQ =>
   some (.inr (aQ,a0))
  ) else (
   Qf (
    if (!aB) = true then (
     Qf (Q24 N a4 a2 a3 a0) fun aR =>
     gd (-9223372036854775808 ≤ a9 - 1 ∧ a9 - 1 ≤ 9223372036854775807) <|
     some (aR,a9 - 1)
    ) else (
     some (a4,a9)
    )
   ) fun (aA,a6) =>
   Qf (Q33 N aA a2 a3 a0) fun (aN,aO) =>
   Qf (Q3C N aO aA a2 a3 a0 aN
   ) fun (aH,a8,aG) =>
   Q5x (Q2h N aB aF aH aG a2 a3 a0
   ) fun a7 =>
   Qf (Q2T N a2 a7 a8 a0
   ) fun aI =>
   if aI = true then (
    Qf (Q21 N a7 a2 a3 a8 a0) fun (aJ,aK) =>
    some (.inl (aF,aB,aK,aJ,a3,a6,a0))
   ) else (
    Qf (Q2n N a7 a2 a3 a8 a0) fun (a1,aC,a5) =>
    gd (-9223372036854775808 ≤ a1 - a2 ∧ a1 - a2 ≤ 9223372036854775807) <|
    gd (-9223372036854775808 ≤ a3 - a1 ∧ a3 - a1 ≤ 9223372036854775807) <|
    if (decide ((a1 - a2) < (a3 - a1))) = true then (
     Qf (rc a5 a2 a1 a6 a0) fun (aD,aL) =>
     gd (aD.length = a5.length) <|
     gd (-9223372036854775808 ≤ a1 + 1 ∧ a1 + 1 ≤ 9223372036854775807) <|
     some (.inl (aC,decide ((a1 - a2) ≥ (IntKind.wrap .i64 (Int.tdiv (a3 - a2) 8))),aD,a1 + 1,a3,a6,aL))
    ) else (
     gd (-9223372036854775808 ≤ a1 + 1 ∧ a1 + 1 ≤ 9223372036854775807) <|
     Qf (rc a5 (a1 + 1) a3 a6 a0) fun (aE,aM) =>
     gd (aE.length = a5.length) <|
     some (.inl (aC,decide ((a3 - a1) ≥ (IntKind.wrap .i64 (Int.tdiv (a3 - a2) 8))),aE,a2,a1,a6,aM))
    )
   )
  )
 )
noncomputable def Q4U (N:Nat) (rc:(List Q1) → Int → Int → Int → (List Int) → Option ((List Q1) × (List Int))) (l0:List Q1) (a1:Int) (a2:Int) (a3:Int) (l4:List Int):Option ((List Q1) × (List Int)) :=
 Q1o (Q1p N rc) N (true,true,l0,a1,a2,a3,l4)
noncomputable def Q1k:Nat → (List Q1) → Int → Int → Int → (List Int) → Option ((List Q1) × (List Int))
 | 0=>fun _=>fun _=>fun _=>fun _=>fun _=>none
 | N + 1=>Q4U N (Q1k N)
noncomputable def Q2b (N:Nat) (l0:List Q1) (l1:List Int):Option ((List Q1) × (List Int)) :=
 Qf (Q7X N (IntKind.wrap .u64 ((l0.length:Nat):Int))) fun a3 =>
 Qf (Q1k N l0 0 ((l0.length:Nat):Int) a3 l1) fun (a0,a1) =>
 gd (a0.length = l0.length) <|
 some (a0,a1)
noncomputable def Q5Q (N:Nat) (a0:Q1) (l0:List Int) (a1:List (ByteArray × Bool)):Option (Bool) :=
 if (decide (a0.rule < 0)) = true then (
  some true
 ) else (
  if (decide (a0.rule ≥ ((l0.length:Nat):Int))) = true then (
   some true
  ) else (
   Qf (Q4J N a0.rule a0.ids) fun a2 =>
   optE (Q3r a2 a1) (
   some false
   ) (fun a3 =>
   some a3
   )
  )
 )
noncomputable def Q2q (N:Nat) (l4:List Q1) (l0:List Int) (l1:List Q1) (l2:List Q1) (e3:List (ByteArray × Bool)):(Nat × (List (ByteArray × Bool))) → Option ((Nat × (List (ByteArray × Bool))) ⊕ (Unit ⊕ (Nat × (List Int) × (List Q1) × (List Q1) × (List (ByteArray × Bool))))):=fun (a0,a1) =>
 if (decide (a0 < l4.length)) = true then (
  Qf (l4[a0]?) fun a3 =>
  Qf (Q5Q N a3 l0 a1
  ) fun a2 =>
  if a2 = true then (
   some (.inr (.inr (4,l0,l1,l2,e3)))
  ) else (
   Qf (Q4J N a3.rule a3.ids) fun a4 =>
   gd (a0 + 1 ≤ 9223372036854775807) <|
   some (.inl (a0 + 1,Q61 ltB a4 true a1))
  )
 ) else (
  some (.inr (.inl ()))
 )
noncomputable def Q5R (N:Nat) (l4:List Q1) (a5:Nat) (e3:List (ByteArray × Bool)) (a0:List Q1) (a3:List (ByteArray × Bool)) (a1:List Q1):Option ((List (ByteArray × Bool)) × (List Q1) × (List Q1)) :=
 Qf (l4[a5]?) fun a2 =>
 Qf (Q4J N a2.rule a2.ids) fun a6 =>
 Qf (
  optE (Q3r a6 e3) (
  some false
  ) (fun a7 =>
  some a7
  )
 ) fun a4 =>
 if a4 = true then (
  Qf (Q57 N a2.rule a2.ids) fun _ =>
  gd (a0.length + [a2].length ≤ 4398046511104) <|
  some (Q61 ltB a6 true a3,a1,a0 ++ [a2])
 ) else (
  Qf (Q57 N a2.rule a2.ids) fun _ =>
  gd (a1.length + [a2].length ≤ 4398046511104) <|
  some (a3,a1 ++ [a2],a0)
 )
noncomputable def Q2r (N:Nat) (l4:List Q1) (e3:List (ByteArray × Bool)):(Nat × (List (ByteArray × Bool)) × (List Q1) × (List Q1)) → Option ((Nat × (List (ByteArray × Bool)) × (List Q1) × (List Q1)) ⊕ ((List (ByteArray × Bool)) × (List Q1) × (List Q1))):=fun (a2,a5,a0,a1) =>
 if (decide (a2 < l4.length)) = true then (
  Qf (Q5R N l4 a2 e3 a1 a5 a0
  ) fun (a6,a3,a4) =>
  gd (a2 + 1 ≤ 9223372036854775807) <|
  some (.inl (a2 + 1,a6,a3,a4))
 ) else (
  some (.inr (a5,a0,a1))
 )
noncomputable def Q2f (N:Nat) (l0:List Int) (l1:List Q1) (l2:List Q1) (e3:List (ByteArray × Bool)) (l4:List Q1):Option (Nat × (List Int) × (List Q1) × (List Q1) × (List (ByteArray × Bool))) :=
 Qf (Q1Z N l0 l1 l2 e3) fun _ =>
 Q5x (
  Q1o (Q2q N l4 l0 l1 l2 e3) N (0,([] : List (ByteArray × Bool)))
 ) fun _ =>
 Qf (
  Q1o (Q2r N l4 e3) N (0,([] : List (ByteArray × Bool)),[],[])
 ) fun (a4,a0,a1) =>
 Qf (Q2b N a0 l0) fun (a2,a5) =>
 gd (a2.length = a0.length) <|
 Qf (Q2b N a1 a5) fun (a3,a6) =>
 gd (a3.length = a1.length) <|
 some (0,a6,a2,a3,a4)
noncomputable def Q2g (N:Nat) (l0:List Int) (l1:List Q1) (l2:List Q1) (e3:List (ByteArray × Bool)):Option (Int × (List Int) × Bool) :=
 Qf (Q1Z N l0 l1 l2 e3) fun _ =>
 if (l1.length == 0) = true then (
  some (0,[],false)
 ) else (
  Qf (l1[0]?) fun a0 =>
  Qf (Q57 N a0.rule a0.ids) fun _ =>
  some (a0.rule,a0.ids,true)
 )
noncomputable def Q3L (_:Nat) (l0:List Int) (l1:List Int):Nat → Option (Nat ⊕ (Unit ⊕ Bool)):=fun a0 =>
 if (decide (a0 < l0.length)) = true then (
  Qf (l0[a0]?) fun a1 =>
  Qf (l1[a0]?) fun a2 =>
  if (a1 != a2) = true then (
   some (.inr (.inr false))
  ) else (
   gd (a0 + 1 ≤ 9223372036854775807) <|
   some (.inl (a0 + 1))
  )
 ) else (
  some (.inr (.inl ()))
 )
noncomputable def Q3N (N:Nat) (l0:List Int) (l1:List Int):Option (Bool) :=
 if (l0.length != l1.length) = true then (
  some false
 ) else (
  Q5x (
   Q1o (Q3L N l0 l1) N 0
  ) fun _ =>
  some true
 )
noncomputable def Q2Y (N:Nat) (a0:Int) (l1:List Int) (a2:Int) (l3:List Int):Option (Bool) :=
 if (a0 == a2) = true then (
  Qf (Q3N N l1 l3) fun a1 =>
  some a1
 ) else (
  some false
 )
noncomputable def Q3q (N:Nat) (l0:List Int) (l1:List Q1) (l2:List Q1) (e3:List (ByteArray × Bool)) (a4:Int) (l5:List Int):Option (Bool) :=
 Qf (Q2g N l0 l1 l2 e3) fun (a0,a1,a2) =>
 if a2 = true then (
  Qf (Q2Y N a0 a1 a4 l5) fun a3 =>
  some a3
 ) else (
  some false
 )
noncomputable def Q3d (N:Nat) (a0:Int) (l1:List Int) (l2:List Int) (_:List Q1) (_:List Q1) (_:List (ByteArray × Bool)) (a6:Int) (l7:List Int):Option (Bool) :=
 Qf (Q17 N l2 a6 l7 a0 l1) fun a1 =>
 some (a1 == 0)
noncomputable def Q1A (N:Nat) (l0:List Q1) (l1:List Int) (l2:List Q1) (e3:List (ByteArray × Bool)) (a4:Int) (l5:List Int):Nat → Option (Nat ⊕ (Unit ⊕ Int)):=fun a0 =>
 if (decide (a0 < l0.length)) = true then (
  Qf (l0[a0]?) fun a1 =>
  Qf (Q3d N a1.rule a1.ids l1 l0 l2 e3 a4 l5) fun a3 =>
  if a3 = true then (
   some (.inr (.inr ((a0:Nat):Int)))
  ) else (
   gd (a0 + 1 ≤ 9223372036854775807) <|
   some (.inl (a0 + 1))
  )
 ) else (
  some (.inr (.inl ()))
 )
noncomputable def Q2S (N:Nat) (l0:List Q1) (l1:List Int) (l2:List Q1) (e3:List (ByteArray × Bool)) (a4:Int) (l5:List Int):Option (Int) :=
 Q5x (
  Q1o (Q1A N l0 l1 l2 e3 a4 l5) N 0
 ) fun _ =>
 some (-1)
noncomputable def Q1L (N:Nat) (l0:List Int) (l1:List Q1) (l2:List Q1) (e3:List (ByteArray × Bool)) (a4:Int) (l5:List Int):Option (Nat × (List Int) × (List Q1) × (List Q1) × (List (ByteArray × Bool))) :=
 Qf (Q1Z N l0 l1 l2 e3) fun _ =>
 Qf (Q2S N l1 l0 l2 e3 a4 l5) fun a0 =>
 if (decide (a0 < 0)) = true then (
  some (6,l0,l1,l2,e3)
 ) else (
  gd (-9223372036854775808 ≤ a0 + 1 ∧ a0 + 1 ≤ 9223372036854775807) <|
  gd (0 ≤ a0) <|
  gd (a0.toNat < l1.length) <|
  Qf (Q4J N a4 l5) fun a7 =>
  Qf (Q57 N a4 l5) fun _ =>
  gd (l2.length + ([(⟨a4,l5⟩ : Q1)]).length ≤ 4398046511104) <|
  Qf (Q2b N (l2 ++ ([(⟨a4,l5⟩ : Q1)])) l0) fun (a1,a2) =>
  gd (a1.length = (l2 ++ ([(⟨a4,l5⟩ : Q1)])).length) <|
  some (0,a2,l1.take a0.toNat ++ l1.drop (a0.toNat + 1),a1,Q61 ltB a7 true e3)
 )
noncomputable def Q3X (N:Nat) (l2:List Q1):(Nat × (List Q1)) → Option ((Nat × (List Q1)) ⊕ (List Q1)):=fun (a0,a1) =>
 if (decide (a0 < l2.length)) = true then (
  Qf (l2[a0]?) fun a2 =>
  Qf (Q57 N a2.rule a2.ids) fun _ =>
  gd (a1.length + [a2].length ≤ 4398046511104) <|
  gd (a0 + 1 ≤ 9223372036854775807) <|
  some (.inl (a0 + 1,a1 ++ [a2]))
 ) else (
  some (.inr a1)
 )
noncomputable def Q2F (N:Nat) (l0:List Int) (l1:List Q1) (l2:List Q1) (e3:List (ByteArray × Bool)):Option (List Q1) :=
 Qf (Q1Z N l0 l1 l2 e3) fun _ =>
 Qf (
  Q1o (Q3X N l2) N (0,[])
 ) fun a0 =>
 some a0
noncomputable def Q2G (N:Nat):Option (Unit) :=
 Qf (Q4l N [0,5]) fun v4 =>
 gd ([0,5].length = 2) <|
 Qf (Q13 N 0 [9,8]) fun _ =>
 Qf (Q13 N 0 [9,7]) fun _ =>
 Qf (Q3v N ([] : List Qr) v4 0 [9,8] 0 [9,7]) fun b6 =>
 gd (b6 = true) <|
 Qf (Q13 N 0 [9,8]) fun _ =>
 Qf (Q13 N 0 [9]) fun _ =>
 Qf (Q3v N ([] : List Qr) v4 0 [9,8] 0 [9]) fun b7 =>
 gd (b7 = true) <|
 Qf (Q13 N 1 [1]) fun _ =>
 Qf (Q13 N 0 [9,8]) fun _ =>
 Qf (Q3v N ([] : List Qr) v4 1 [1] 0 [9,8]) fun b8 =>
 gd (b8 = true) <|
 Qf (Q13 N 0 [8,9]) fun _ =>
 Qf (Q13 N 0 [9,8]) fun _ =>
 Qf (Q3v N ([] : List Qr) v4 0 [8,9] 0 [9,8]) fun b9 =>
 gd (b9 = true) <|
 Qf (Q4P N ([] : List Qr) v4) fun
 | .inl _=>(
 none
 )
 | .inr v40=>(
 Qf (Q13 N 0 [1]) fun _ =>
 Qf (Q13 N 1 [1]) fun _ =>
 Qf (Q2f N v40 [] [] ([] : List (ByteArray × Bool)) [(⟨0,[1]⟩ : Q1),(⟨1,[1]⟩ : Q1)]) fun (aS,a8,a9,aA,aB) =>
 gd ((aS != 0) = false) <|
 Qf (Q13 N 1 [1]) fun _ =>
 Qf (Q3q N a8 a9 aA aB 1 [1]) fun bA =>
 gd (bA = true) <|
 Qf (Q13 N 1 [1]) fun _ =>
 Qf (Q1L N a8 a9 aA aB 1 [1]) fun (aT,a0,a1,a2,a3) =>
 gd ([1].length = 1) <|
 gd ((aT != 0) = false) <|
 Qf (Q13 N 0 [1]) fun _ =>
 Qf (Q3q N a0 a1 a2 a3 0 [1]) fun bB =>
 gd (bB = true) <|
 Qf (Q2F N a0 a1 a2 a3) fun bC =>
 gd ((bC.length != 1) = false) <|
 Qf (Q13 N 1 [1]) fun _ =>
 Qf (Q13 N 0 [1]) fun _ =>
 Qf (Q2f N a0 a1 a2 a3 [(⟨1,[1]⟩ : Q1),(⟨0,[1]⟩ : Q1)]) fun (aU,aC,aD,aE,aF) =>
 gd ((aU != 0) = false) <|
 Qf (Q13 N 0 [1]) fun _ =>
 Qf (Q3q N aC aD aE aF 0 [1]) fun bD =>
 gd (bD = true) <|
 Qf (Q13 N 0 [1]) fun _ =>
 Qf (Q2f N aC aD aE aF [(⟨0,[1]⟩ : Q1)]) fun (aV,aW,aX,aY,aZ) =>
 gd ((aV != 0) = false) <|
 Qf (Q13 N 0 [1]) fun _ =>
 Qf (Q13 N 1 [1]) fun _ =>
 Qf (Q2f N aW aX aY aZ [(⟨0,[1]⟩ : Q1),(⟨1,[1]⟩ : Q1)]) fun (aG,a4,a5,a6,a7) =>
 gd ((aG != 0) = false) <|
 Qf (Q13 N 1 [1]) fun _ =>
 Qf (Q3q N a4 a5 a6 a7 1 [1]) fun b1 =>
 gd (b1 = true) <|
 Qf (Q13 N 2 [1]) fun _ =>
 Qf (Q2f N a4 a5 a6 a7 [(⟨2,[1]⟩ : Q1)]) fun (aH,aI,aJ,aK,aL) =>
 gd ((aH == 4) = true) <|
 Qf (Q13 N 0 [1]) fun _ =>
 Qf (Q13 N 0 [1]) fun _ =>
 Qf (Q2f N aI aJ aK aL [(⟨0,[1]⟩ : Q1),(⟨0,[1]⟩ : Q1)]) fun (aM,aN,aO,aP,aQ) =>
 gd ((aM == 4) = true) <|
 Qf (Q13 N 0 [2]) fun _ =>
 Qf (Q1L N aN aO aP aQ 0 [2]) fun (aR,_,_,_,_) =>
 gd ([2].length = 1) <|
 gd ((aR == 6) = true) <|
 some ()
 )
noncomputable def Q5I (_:Nat) (l0:List Qr):Option (Unit) :=
 gd (([] : List Qr).length + l0.length ≤ 5864062014805) <|
 some ()
noncomputable def Q6G (_:Nat) (l0:List ArgD):Option (Unit) :=
 gd (([] : List ArgD).length + l0.length ≤ 2932031007402) <|
 some ()
noncomputable def Q5y (_:Nat) (l0:List Q12) (rc:Int → Int → Int → ByteArray → Int → Int → (List Q12) → Option (Int × Int × Int × ByteArray × Int × Int × (List Q12))):(Nat × (List Q12)) → Option ((Nat × (List Q12)) ⊕ (List Q12)):=fun (a2,a0) =>
 if (decide (a2 < l0.length)) = true then (
  Qf (l0[a2]?) fun a1 =>
  Qf (rc a1.kind a1.value.k a1.value.n a1.value.s a1.var a1.op a1.kids) fun (a3,a4,a5,a6,a7,a8,a9) =>
  gd (a0.length + ([(⟨a3,(⟨a4,a5,a6⟩ : V),a7,a8,a9⟩ : Q12)]).length ≤ 1759218604441) <|
  gd (a2 + 1 ≤ 9223372036854775807) <|
  some (.inl (a2 + 1,(a0 ++ ([(⟨a3,(⟨a4,a5,a6⟩ : V),a7,a8,a9⟩ : Q12)]))))
 ) else (
  some (.inr a0)
 )
noncomputable def Q69 (N:Nat) (rc:Int → Int → Int → ByteArray → Int → Int → (List Q12) → Option (Int × Int × Int × ByteArray × Int × Int × (List Q12))) (l0:List Q12):Option (List Q12) :=
 Qf (
  Q1o (Q5y N l0 rc) N (0,[])
 ) fun a0 =>
 some a0
noncomputable def Q6p (N:Nat) (rc:Int → Int → Int → ByteArray → Int → Int → (List Q12) → Option (Int × Int × Int × ByteArray × Int × Int × (List Q12))) (a0:Int) (a1:Int) (a2:Int) (a3:ByteArray) (a4:Int) (a5:Int) (l6:List Q12):Option (Int × Int × Int × ByteArray × Int × Int × (List Q12)) :=
 Qf (Q69 N rc l6) fun v5 =>
 some (a0,a1,a2,a3,a4,a5,v5)
noncomputable def Q5a:Nat → Int → Int → Int → ByteArray → Int → Int → (List Q12) → Option (Int × Int × Int × ByteArray × Int × Int × (List Q12))
 | 0=>fun _=>fun _=>fun _=>fun _=>fun _=>fun _=>fun _=>none
 | N + 1=>Q6p N (Q5a N)
noncomputable def Q6H (N:Nat) (_:Int) (_:Int) (l2:List ArgD) (a3:Int) (a4:Int) (a5:Int) (a6:ByteArray) (a7:Int) (a8:Int) (l9:List Q12):Option (Int × Int × Int × ByteArray × Int × Int × (List Q12)) :=
 Qf (Q6G N l2) fun _ =>
 Qf (Q5a N a3 a4 a5 a6 a7 a8 l9) fun (a2,a9,aA,aB,aC,aD,aE) =>
 some (a2,a9,aA,aB,aC,aD,aE)
noncomputable def Q59 (N:Nat) (l0:List Q2X):(Nat × (List Q2X)) → Option ((Nat × (List Q2X)) ⊕ (List Q2X)):=fun (a2,a1) =>
 if (decide (a2 < l0.length)) = true then (
  Qf (l0[a2]?) fun a0 =>
  Qf (Q6H N a0.kind a0.type a0.args a0.test.kind a0.test.value.k a0.test.value.n a0.test.value.s a0.test.var a0.test.op a0.test.kids) fun (a3,a4,a5,a6,a7,a8,a9) =>
  gd (a1.length + ([(⟨a0.kind,a0.type,a0.args,(⟨a3,(⟨a4,a5,a6⟩ : V),a7,a8,a9⟩ : Q12)⟩ : Q2X)]).length ≤ 1172812402961) <|
  gd (a2 + 1 ≤ 9223372036854775807) <|
  some (.inl (a2 + 1,(a1 ++ ([(⟨a0.kind,a0.type,a0.args,(⟨a3,(⟨a4,a5,a6⟩ : V),a7,a8,a9⟩ : Q12)⟩ : Q2X)]))))
 ) else (
  some (.inr a1)
 )
noncomputable def Q4V (N:Nat) (l0:List Q2X):Option (List Q2X) :=
 Qf (
  Q1o (Q59 N l0) N (0,[])
 ) fun a0 =>
 some a0
noncomputable def Q68 (N:Nat) (l0:List Q12):(Nat × (List Q12)) → Option ((Nat × (List Q12)) ⊕ (List Q12)):=fun (a2,a0) =>
 if (decide (a2 < l0.length)) = true then (
  Qf (l0[a2]?) fun a1 =>
  Qf (Q5a N a1.kind a1.value.k a1.value.n a1.value.s a1.var a1.op a1.kids) fun (a3,a4,a5,a6,a7,a8,a9) =>
  gd (a0.length + ([(⟨a3,(⟨a4,a5,a6⟩ : V),a7,a8,a9⟩ : Q12)]).length ≤ 1759218604441) <|
  gd (a2 + 1 ≤ 9223372036854775807) <|
  some (.inl (a2 + 1,(a0 ++ ([(⟨a3,(⟨a4,a5,a6⟩ : V),a7,a8,a9⟩ : Q12)]))))
 ) else (
  some (.inr a0)
 )
noncomputable def Q6w (N:Nat) (l0:List Q12):Option (List Q12) :=
 Qf (
  Q1o (Q68 N l0) N (0,[])
 ) fun a0 =>
 some a0
noncomputable def Q6X (N:Nat) (_:Int) (_:Int) (_:Int) (l3:List Q12):Option (List Q12) :=
 Qf (Q6w N l3) fun v5 =>
 some v5
noncomputable def Q5i (N:Nat) (l0:List Q3G):(Nat × (List Q3G)) → Option ((Nat × (List Q3G)) ⊕ (List Q3G)):=fun (a2,a1) =>
 if (decide (a2 < l0.length)) = true then (
  Qf (l0[a2]?) fun a0 =>
  Qf (Q6X N a0.kind a0.type a0.which a0.exprs) fun a3 =>
  gd (a1.length + ([(⟨a0.kind,a0.type,a0.which,a3⟩ : Q3G)]).length ≤ 2932031007402) <|
  gd (a2 + 1 ≤ 9223372036854775807) <|
  some (.inl (a2 + 1,(a1 ++ ([(⟨a0.kind,a0.type,a0.which,a3⟩ : Q3G)]))))
 ) else (
  some (.inr a1)
 )
noncomputable def Q58 (N:Nat) (l0:List Q3G):Option (List Q3G) :=
 Qf (
  Q1o (Q5i N l0) N (0,[])
 ) fun a0 =>
 some a0
noncomputable def Q5b (N:Nat) (_:ByteArray) (_:Int) (_:Int) (l3:List Q2X) (l4:List Q3G):Option ((List Q2X) × (List Q3G)) :=
 Qf (Q4V N l3) fun v5 =>
 Qf (Q58 N l4) fun v9 =>
 some (v5,v9)
noncomputable def Q39 (N:Nat) (l0:List QG):(Nat × (List QG)) → Option ((Nat × (List QG)) ⊕ (List QG)):=fun (a2,a1) =>
 if (decide (a2 < l0.length)) = true then (
  Qf (l0[a2]?) fun a0 =>
  Qf (Q5b N a0.name a0.salience a0.vars a0.conds a0.acts) fun (a3,a4) =>
  gd (a1.length + ([(⟨a0.name,a0.salience,a0.vars,a3,a4⟩ : QG)]).length ≤ 1759218604441) <|
  gd (a2 + 1 ≤ 9223372036854775807) <|
  some (.inl (a2 + 1,(a1 ++ ([(⟨a0.name,a0.salience,a0.vars,a3,a4⟩ : QG)]))))
 ) else (
  some (.inr a1)
 )
noncomputable def Q5j (N:Nat) (l0:List QG):Option (List QG) :=
 Qf (
  Q1o (Q39 N l0) N (0,[])
 ) fun a0 =>
 some a0
noncomputable def Q4W (N:Nat) (l0:List Qr) (l1:List QG):Option (List QG) :=
 Qf (Q5I N l0) fun _ =>
 Qf (Q5j N l1) fun v9 =>
 some v9
noncomputable def Q31 (N:Nat) (l0:List Qr) (l1:List QG):Option (Unit ⊕ (List QG)) :=
 if (decide (64 < l1.length)) = true then (
  some (.inl ())
 ) else (
  Qf (Q4W N l0 l1) fun v9 =>
  some (.inr v9)
 )
noncomputable def Q4N (_:Nat) (l0:List Q1):(Nat × Nat) → Option ((Nat × Nat) ⊕ Nat):=fun (a0,a1) =>
 Qf (
  if (decide (a0 < l0.length)) = true then (
   some (decide (a1 ≤ 400))
  ) else (
   some false
  )
 ) fun a2 =>
 if a2 = true then (
  Qf (l0[a0]?) fun a3 =>
  gd (a1 + a3.ids.length ≤ 9223372036854775807) <|
  gd (a0 + 1 ≤ 9223372036854775807) <|
  some (.inl (a0 + 1,a1 + a3.ids.length))
 ) else (
  some (.inr a1)
 )
noncomputable def Q5m (N:Nat) (l0:List Q1):Option (Bool) :=
 Qf (
  Q1o (Q4N N l0) N (0,l0.length)
 ) fun a0 =>
 some (decide (400 < a0))
noncomputable def Q4T (_:Nat) (a0:Int) (a1:Int):Option (Int) :=
 if (decide (a1 < 1)) = true then (
  some 0
 ) else (
  gd (a1 ≠ 0) <|
  Qf (
   if (decide ((Int.tmod a0 a1) < 0)) = true then (
    gd (-9223372036854775808 ≤ (Int.tmod a0 a1) + a1 ∧ (Int.tmod a0 a1) + a1 ≤ 9223372036854775807) <|
    some ((Int.tmod a0 a1) + a1)
   ) else (
    some (Int.tmod a0 a1)
   )
  ) fun a3 =>
  some a3
 )
noncomputable def Q3i (_:Nat) (_:Int) (_:Int):Option (Unit) :=
 some ()
noncomputable def Q4x (N:Nat):(Nat × (List Int)) → Option ((Nat × (List Int)) ⊕ (List Int)):=fun (a0,a1) =>
 if (decide (a0 < 12)) = true then (
  Qf (Q3i N 1 ((a0:Nat):Int)) fun _ =>
  gd (a1.length + ([(IntKind.wrap .i64 ((IntKind.wrap .i64 (1000003 * (IntKind.wrap .i64 (1 + 7)))) + ((a0:Nat):Int)))]).length ≤ 17592186044416) <|
  gd (a0 + 1 ≤ 9223372036854775807) <|
  some (.inl (a0 + 1,(a1 ++ ([(IntKind.wrap .i64 ((IntKind.wrap .i64 (1000003 * (IntKind.wrap .i64 (1 + 7)))) + ((a0:Nat):Int)))]))))
 ) else (
  some (.inr a1)
 )
noncomputable def Q5U (N:Nat) (l0:List Int):Option (List Int) :=
 gd (l0.length + 12 ≤ 9223372036854775807) <|
 gd (l0.length + 12 ≤ 17592186044416) <|
 gd (([] : List Int).length + l0.length ≤ 17592186044416) <|
 Qf (
  Q1o (Q4x N) N (0,l0)
 ) fun a0 =>
 gd (l0.length ≤ a0.length) <|
 some a0
noncomputable def Q4X (N:Nat) (_:Int) (l1:List Int):Option (List Int) :=
 Qf (Q5U N l1) fun v5 =>
 some v5
noncomputable def Q2y (N:Nat) (a0:Int) (a1:Int):Option (Unit) :=
 Qf (Q3i N a0 a1) fun _ =>
 some ()
noncomputable def Q48 (N:Nat) (l0:List Q1):(Nat × (List Qo)) → Option ((Nat × (List Qo)) ⊕ (List Qo)):=fun (a2,a0) =>
 if (decide (a2 < l0.length)) = true then (
  Qf (l0[a2]?) fun a1 =>
  Qf (Q4X N a1.rule a1.ids) fun a3 =>
  gd (a1.ids.length ≤ a3.length) <|
  gd (a0.length + ([(⟨a1.rule,a3.take a1.ids.length,a3.drop a1.ids.length⟩ : Qo)]).length ≤ 4398046511104) <|
  gd (a2 + 1 ≤ 9223372036854775807) <|
  some (.inl (a2 + 1,(a0 ++ [(⟨a1.rule,a3.take a1.ids.length,a3.drop a1.ids.length⟩ : Qo)])))
 ) else (
  some (.inr a0)
 )
noncomputable def Q49 (N:Nat):(Nat × (List Qo)) → Option ((Nat × (List Qo)) ⊕ (List Qo)):=fun (a0,a1) =>
 if (decide (a0 < 12)) = true then (
  Qf (Q2y N 1 ((a0:Nat):Int)) fun _ =>
  gd (a1.length + ([(⟨(IntKind.wrap .i64 ((IntKind.wrap .i64 (1000003 * (IntKind.wrap .i64 (1 + 7)))) + ((a0:Nat):Int))),([] : List Int),[]⟩ : Qo)]).length ≤ 4398046511104) <|
  gd (a0 + 1 ≤ 9223372036854775807) <|
  some (.inl (a0 + 1,(a1 ++ [(⟨(IntKind.wrap .i64 ((IntKind.wrap .i64 (1000003 * (IntKind.wrap .i64 (1 + 7)))) + ((a0:Nat):Int))),([] : List Int),[]⟩ : Qo)])))
 ) else (
  some (.inr a1)
 )
noncomputable def Q4L (N:Nat) (l0:List Q1):Option (List Qo) :=
 gd (l0.length + 12 ≤ 9223372036854775807) <|
 gd (l0.length + 12 ≤ 4398046511104) <|
 Qf (
  Q1o (Q48 N l0) N (0,[])
 ) fun a1 =>
 Qf (
  Q1o (Q49 N) N (0,a1)
 ) fun a0 =>
 gd (l0.length ≤ a0.length) <|
 some a0
noncomputable def Q5r (N:Nat) (a0:Qo) (l0:List Int) (a1:List (ByteArray × Bool)):Option (Bool) :=
 if (decide (a0.rule < 0)) = true then (
  some true
 ) else (
  if (decide (a0.rule ≥ ((l0.length:Nat):Int))) = true then (
   some true
  ) else (
   gd (a0.ids.length ≤ (a0.ids ++ a0.idsT).length) <|
   Qf (Q4J N a0.rule ((a0.ids ++ a0.idsT).take a0.ids.length)) fun a2 =>
   optE (Q3r a2 a1) (
   some false
   ) (fun a3 =>
   some a3
   )
  )
 )
noncomputable def Q29 (N:Nat) (k5:Nat) (l4:List Qo) (l0:List Int) (l1:List Q1) (l2:List Q1) (e3:List (ByteArray × Bool)):(Nat × (List (ByteArray × Bool))) → Option ((Nat × (List (ByteArray × Bool))) ⊕ (Unit ⊕ (Nat × (List Int) × (List Q1) × (List Q1) × (List (ByteArray × Bool))))):=fun (a0,a2) =>
 if (decide (a0 < k5)) = true then (
  Qf (l4[a0]?) fun a1 =>
  gd (a0 < k5) <|
  Qf (Q5r N a1 l0 a2
  ) fun a3 =>
  if a3 = true then (
   some (.inr (.inr (4,l0,l1,l2,e3)))
  ) else (
   gd (a1.ids.length ≤ (a1.ids ++ a1.idsT).length) <|
   Qf (Q4J N a1.rule ((a1.ids ++ a1.idsT).take a1.ids.length)) fun a4 =>
   gd (a0 + 1 ≤ 9223372036854775807) <|
   some (.inl (a0 + 1,Q61 ltB a4 true a2))
  )
 ) else (
  some (.inr (.inl ()))
 )
noncomputable def Q5s (N:Nat) (l4:List Qo) (a4:Nat) (k5:Nat) (e3:List (ByteArray × Bool)) (a1:List Q1) (a3:List (ByteArray × Bool)) (a2:List Q1):Option ((List (ByteArray × Bool)) × (List Q1) × (List Q1)) :=
 Qf (l4[a4]?) fun a0 =>
 gd (a4 < k5) <|
 gd (a0.ids.length ≤ (a0.ids ++ a0.idsT).length) <|
 Qf (Q4J N a0.rule ((a0.ids ++ a0.idsT).take a0.ids.length)) fun a6 =>
 Qf (
  optE (Q3r a6 e3) (
  some false
  ) (fun a7 =>
  some a7
  )
 ) fun a5 =>
 if a5 = true then (
  gd (a0.ids.length ≤ (a0.ids ++ a0.idsT).length) <|
  Qf (Q57 N a0.rule ((a0.ids ++ a0.idsT).take a0.ids.length)) fun _ =>
  gd (a1.length + ([(⟨a0.rule,(a0.ids ++ a0.idsT).take a0.ids.length⟩ : Q1)]).length ≤ 4398046511104) <|
  some (Q61 ltB a6 true a3,a2,(a1 ++ [(⟨a0.rule,(a0.ids ++ a0.idsT).take a0.ids.length⟩ : Q1)]))
 ) else (
  gd (a0.ids.length ≤ (a0.ids ++ a0.idsT).length) <|
  Qf (Q57 N a0.rule ((a0.ids ++ a0.idsT).take a0.ids.length)) fun _ =>
  gd (a2.length + ([(⟨a0.rule,(a0.ids ++ a0.idsT).take a0.ids.length⟩ : Q1)]).length ≤ 4398046511104) <|
  some (a3,(a2 ++ [(⟨a0.rule,(a0.ids ++ a0.idsT).take a0.ids.length⟩ : Q1)]),a1)
 )
noncomputable def Q2a (N:Nat) (k5:Nat) (l4:List Qo) (e3:List (ByteArray × Bool)):(Nat × (List (ByteArray × Bool)) × (List Q1) × (List Q1)) → Option ((Nat × (List (ByteArray × Bool)) × (List Q1) × (List Q1)) ⊕ ((List (ByteArray × Bool)) × (List Q1) × (List Q1))):=fun (a2,a5,a0,a1) =>
 if (decide (a2 < k5)) = true then (
  Qf (Q5s N l4 a2 k5 e3 a1 a5 a0
  ) fun (a6,a3,a4) =>
  gd (a2 + 1 ≤ 9223372036854775807) <|
  some (.inl (a2 + 1,a6,a3,a4))
 ) else (
  some (.inr (a5,a0,a1))
 )
noncomputable def Q44 (N:Nat) (l0:List Int) (l1:List Q1) (l2:List Q1) (e3:List (ByteArray × Bool)) (l4:List Qo) (k5:Nat):Option (Nat × (List Int) × (List Q1) × (List Q1) × (List (ByteArray × Bool))) :=
 Qf (Q1Z N l0 l1 l2 e3) fun _ =>
 Q5x (
  Q1o (Q29 N k5 l4 l0 l1 l2 e3) N (0,([] : List (ByteArray × Bool)))
 ) fun _ =>
 Qf (
  Q1o (Q2a N k5 l4 e3) N (0,([] : List (ByteArray × Bool)),[],[])
 ) fun (a4,a0,a1) =>
 Qf (Q2b N a0 l0) fun (a2,a5) =>
 gd (a2.length = a0.length) <|
 Qf (Q2b N a1 a5) fun (a3,a6) =>
 gd (a3.length = a1.length) <|
 some (0,a6,a2,a3,a4)
noncomputable def Q2R (N:Nat) (l0:List Q1) (a1:Int) (l2:List Int):Nat → Option (Nat ⊕ (Unit ⊕ Int)):=fun a0 =>
 if (decide (a0 < l0.length)) = true then (
  Qf (l0[a0]?) fun a2 =>
  Qf (Q2Y N a2.rule a2.ids a1 l2) fun a3 =>
  if a3 = true then (
   some (.inr (.inr ((a0:Nat):Int)))
  ) else (
   gd (a0 + 1 ≤ 9223372036854775807) <|
   some (.inl (a0 + 1))
  )
 ) else (
  some (.inr (.inl ()))
 )
noncomputable def Q4I (N:Nat) (l0:List Q1) (a1:Int) (l2:List Int):Option (Int) :=
 Q5x (
  Q1o (Q2R N l0 a1 l2) N 0
 ) fun _ =>
 some (-1)
noncomputable def Q5S (_:Nat) (l0:List Int):Option (Unit) :=
 gd (([] : List Int).length + l0.length ≤ 17592186044416) <|
 some ()
noncomputable def Q5H (N:Nat) (_:Int) (l1:List Int):Option (Unit) :=
 Qf (Q5S N l1) fun _ =>
 some ()
noncomputable def Q3l (N:Nat) (l0:List Q1):(Nat × (List Q1)) → Option ((Nat × (List Q1)) ⊕ (List Q1)):=fun (a1,a0) =>
 if (decide (a1 < l0.length)) = true then (
  Qf (l0[a1]?) fun a2 =>
  Qf (Q5H N a2.rule a2.ids) fun _ =>
  gd (a0.length + [a2].length ≤ 4398046511104) <|
  gd (a1 + 1 ≤ 9223372036854775807) <|
  some (.inl (a1 + 1,a0 ++ [a2]))
 ) else (
  some (.inr a0)
 )
noncomputable def Q4K (N:Nat) (l0:List Q1):Option (List Q1) :=
 Qf (
  Q1o (Q3l N l0) N (0,[])
 ) fun a0 =>
 some a0
noncomputable def Q4E (N:Nat) (l4:List Q1) (a0:Nat) (l1:List QG):Option (Bool) :=
 Qf (l4[a0]?) fun a3 =>
 if (decide (a3.rule < 0)) = true then (
  some true
 ) else (
  Qf (l4[a0]?) fun a4 =>
  if (decide (a4.rule ≥ ((l1.length:Nat):Int))) = true then (
   some true
  ) else (
   gd (a0 ≤ l4.length) <|
   Qf (l4[a0]?) fun a2 =>
   Qf (Q4I N (l4.take a0) a2.rule a2.ids) fun a5 =>
   some (decide (a5 ≥ 0))
  )
 )
noncomputable def Q4D (N:Nat) (l4:List Q1) (a2:Nat) (l1:List QG) (l2:List Q1) (l3:List Bool) (a0:List Bool):Option ((List Bool) ⊕ ((Nat × (List Bool)) ⊕ ((List Bool) ⊕ (Nat × (List Q1) × (List Bool))))) :=
 Qf (Q4E N l4 a2 l1
 ) fun a1 =>
 if a1 = true then (
  some (.inr (.inr (.inr (4,l2,l3))))
 ) else (
  Qf (l4[a2]?) fun a4 =>
  Qf (Q4I N l2 a4.rule a4.ids) fun a3 =>
  if (decide (a3 ≥ 0)) = true then (
   gd (0 ≤ a3) <|
   Qf (l3[a3.toNat]?) fun a5 =>
   gd (a0.length + [a5].length ≤ 140737488355328) <|
   some (.inl (a0 ++ [a5]))
  ) else (
   gd (a0.length + [false].length ≤ 140737488355328) <|
   some (.inl (a0 ++ [false]))
  )
 )
noncomputable def Q1I (N:Nat) (l4:List Q1) (l1:List QG) (l2:List Q1) (l3:List Bool):(Nat × (List Bool)) → Option ((Nat × (List Bool)) ⊕ ((List Bool) ⊕ (Nat × (List Q1) × (List Bool)))):=fun (a0,a1) =>
 if (decide (a0 < l4.length)) = true then (
  Q5x (Q4D N l4 a0 l1 l2 l3 a1
  ) fun a2 =>
  gd (a0 + 1 ≤ 9223372036854775807) <|
  some (.inl (a0 + 1,a2))
 ) else (
  some (.inr (.inl a1))
 )
noncomputable def Q2W (N:Nat) (_:List Qr) (l1:List QG) (l2:List Q1) (l3:List Bool) (l4:List Q1):Option (Nat × (List Q1) × (List Bool)) :=
 Q5x (
  Q1o (Q1I N l4 l1 l2 l3) N (0,[])
 ) fun a0 =>
 Qf (Q4K N l4) fun a1 =>
 some (0,a1,a0)
noncomputable def Q4b (_:Nat) (k1:Nat) (l0:List Int) (l2:List Int):Nat → Option (Nat ⊕ (Unit ⊕ Bool)):=fun a0 =>
 if (decide (a0 < k1)) = true then (
  gd (a0 < k1) <|
  Qf (l0[a0]?) fun a1 =>
  Qf (l2[a0]?) fun a2 =>
  if (a1 != a2) = true then (
   some (.inr (.inr false))
  ) else (
   gd (a0 + 1 ≤ 9223372036854775807) <|
   some (.inl (a0 + 1))
  )
 ) else (
  some (.inr (.inl ()))
 )
noncomputable def Q4M (N:Nat) (l0:List Int) (k1:Nat) (l2:List Int):Option (Bool) :=
 if (k1 != l2.length) = true then (
  some false
 ) else (
  Q5x (
   Q1o (Q4b N k1 l0 l2) N 0
  ) fun _ =>
  some true
 )
noncomputable def Q36 (N:Nat) (a0:Int) (l1:List Int) (k2:Nat) (a3:Int) (l4:List Int):Option (Bool) :=
 if (a0 == a3) = true then (
  Qf (Q4M N l1 k2 l4) fun a1 =>
  some a1
 ) else (
  some false
 )
noncomputable def Q5T (N:Nat) (a0:Nat) (l2:List Int) (l0:List Int):Option (Bool) :=
 if (decide (a0 < l2.length)) = true then (
  Qf ((l0.take (l2.length + 12))[a0]?) fun a3 =>
  Qf (l2[a0]?) fun a4 =>
  if (!(a3 == a4)) = true then (
   some true
  ) else (
   if (decide (l2.length ≤ a0)) = true then (
    Qf ((l0.take (l2.length + 12))[a0]?) fun a1 =>
    gd (-9223372036854775808 ≤ ((a0:Nat):Int) - ((l2.length:Nat):Int) ∧ ((a0:Nat):Int) - ((l2.length:Nat):Int) ≤ 9223372036854775807) <|
    Qf (Q3i N 1 (((a0:Nat):Int) - ((l2.length:Nat):Int))) fun _ =>
    some (!(a1 == (IntKind.wrap .i64 ((IntKind.wrap .i64 (1000003 * (IntKind.wrap .i64 (1 + 7)))) + (((a0:Nat):Int) - ((l2.length:Nat):Int))))))
   ) else (
    some false
   )
  )
 ) else (
  if (decide (l2.length ≤ a0)) = true then (
   Qf ((l0.take (l2.length + 12))[a0]?) fun a1 =>
   gd (-9223372036854775808 ≤ ((a0:Nat):Int) - ((l2.length:Nat):Int) ∧ ((a0:Nat):Int) - ((l2.length:Nat):Int) ≤ 9223372036854775807) <|
   Qf (Q3i N 1 (((a0:Nat):Int) - ((l2.length:Nat):Int))) fun _ =>
   some (!(a1 == (IntKind.wrap .i64 ((IntKind.wrap .i64 (1000003 * (IntKind.wrap .i64 (1 + 7)))) + (((a0:Nat):Int) - ((l2.length:Nat):Int))))))
  ) else (
   some false
  )
 )
noncomputable def Q47 (N:Nat) (l0:List Int) (l2:List Int):Nat → Option (Nat ⊕ (Unit ⊕ Bool)):=fun a0 =>
 if (decide (a0 < ((l0.take (l2.length + 12)).length))) = true then (
  Qf (Q5T N a0 l2 l0
  ) fun a1 =>
  if a1 = true then (
   some (.inr (.inr false))
  ) else (
   gd (a0 + 1 ≤ 9223372036854775807) <|
   some (.inl (a0 + 1))
  )
 ) else (
  some (.inr (.inl ()))
 )
noncomputable def Q5t (N:Nat) (l0:List Int) (k1:Nat) (l2:List Int):Option (Bool) :=
 if (k1 != l2.length) = true then (
  some false
 ) else (
  gd (l2.length + 12 ≤ 9223372036854775807) <|
  gd (l2.length + 12 ≤ l0.length) <|
  Q5x (
   Q1o (Q47 N l0 l2) N 0
  ) fun _ =>
  some true
 )
noncomputable def Q3K (N:Nat) (a0:Int) (l1:List Int) (k2:Nat) (a3:Int) (l4:List Int):Option (Bool) :=
 Qf (Q36 N a0 l1 k2 a3 l4) fun v7 =>
 if v7 = true then (
  Qf (Q5t N l1 k2 l4) fun a1 =>
  some a1
 ) else (
  some false
 )
noncomputable def Q5z (N:Nat) (a0:Nat) (l2:List Q1) (l0:List Qo):Option (Bool) :=
 if (decide (a0 < l2.length)) = true then (
  Qf ((l0.take (l2.length + 12))[a0]?) fun a2 =>
  Qf (l2[a0]?) fun a4 =>
  Qf (Q3K N a2.rule (a2.ids ++ a2.idsT) a2.ids.length a4.rule a4.ids) fun a6 =>
  if (!a6) = true then (
   some true
  ) else (
   if (decide (l2.length ≤ a0)) = true then (
    Qf ((l0.take (l2.length + 12))[a0]?) fun a1 =>
    gd (-9223372036854775808 ≤ ((a0:Nat):Int) - ((l2.length:Nat):Int) ∧ ((a0:Nat):Int) - ((l2.length:Nat):Int) ≤ 9223372036854775807) <|
    Qf (Q2y N 1 (((a0:Nat):Int) - ((l2.length:Nat):Int))) fun _ =>
    Qf (Q36 N a1.rule (a1.ids ++ a1.idsT) a1.ids.length (IntKind.wrap .i64 ((IntKind.wrap .i64 (1000003 * (IntKind.wrap .i64 (1 + 7)))) + (((a0:Nat):Int) - ((l2.length:Nat):Int)))) ([] : List Int)) fun a3 =>
    some (!a3)
   ) else (
    some false
   )
  )
 ) else (
  if (decide (l2.length ≤ a0)) = true then (
   Qf ((l0.take (l2.length + 12))[a0]?) fun a1 =>
   gd (-9223372036854775808 ≤ ((a0:Nat):Int) - ((l2.length:Nat):Int) ∧ ((a0:Nat):Int) - ((l2.length:Nat):Int) ≤ 9223372036854775807) <|
   Qf (Q2y N 1 (((a0:Nat):Int) - ((l2.length:Nat):Int))) fun _ =>
   Qf (Q36 N a1.rule (a1.ids ++ a1.idsT) a1.ids.length (IntKind.wrap .i64 ((IntKind.wrap .i64 (1000003 * (IntKind.wrap .i64 (1 + 7)))) + (((a0:Nat):Int) - ((l2.length:Nat):Int)))) ([] : List Int)) fun a3 =>
   some (!a3)
  ) else (
   some false
  )
 )
noncomputable def Q3H (N:Nat) (l0:List Qo) (l2:List Q1):Nat → Option (Nat ⊕ (Unit ⊕ Bool)):=fun a0 =>
 if (decide (a0 < ((l0.take (l2.length + 12)).length))) = true then (
  Qf (Q5z N a0 l2 l0
  ) fun a1 =>
  if a1 = true then (
   some (.inr (.inr false))
  ) else (
   gd (a0 + 1 ≤ 9223372036854775807) <|
   some (.inl (a0 + 1))
  )
 ) else (
  some (.inr (.inl ()))
 )
noncomputable def Q4j (N:Nat) (l0:List Qo) (k1:Nat) (l2:List Q1):Option (Bool) :=
 if (k1 != l2.length) = true then (
  some false
 ) else (
  gd (l2.length + 12 ≤ 9223372036854775807) <|
  gd (l2.length + 12 ≤ l0.length) <|
  Q5x (
   Q1o (Q3H N l0 l2) N 0
  ) fun _ =>
  some true
 )
noncomputable def Q4a (N:Nat) (k1:Nat):(Nat × (List Int)) → Option ((Nat × (List Int)) ⊕ (List Int)):=fun (a0,a1) =>
 if (decide (a0 < (k1 + 12))) = true then (
  Qf (Q3i N 2 ((a0:Nat):Int)) fun _ =>
  Qf (a1[a0]?) fun _ =>
  gd (a0 < k1 + 12) <|
  gd (a0 + 1 ≤ 9223372036854775807) <|
  some (.inl (a0 + 1,(a1.set a0 (IntKind.wrap .i64 ((IntKind.wrap .i64 (1000003 * (IntKind.wrap .i64 (2 + 7)))) + ((a0:Nat):Int))))))
 ) else (
  some (.inr a1)
 )
noncomputable def Q3Y (N:Nat) (l0:List Int) (k1:Nat):Option (List Int) :=
 gd (k1 + 12 ≤ 9223372036854775807) <|
 gd (k1 + 12 ≤ l0.length) <|
 Q1o (Q4a N k1) N (0,l0)
noncomputable def Q4y (N:Nat) (_:Int) (l1:List Int) (k2:Nat):Option (List Int) :=
 Qf (Q3Y N l1 k2) fun v4 =>
 some v4
noncomputable def Q3I (N:Nat) (k1:Nat):(Nat × (List Qo)) → Option ((Nat × (List Qo)) ⊕ (List Qo)):=fun (a0,a1) =>
 if (decide (a0 < k1)) = true then (
  Qf (a1[a0]?) fun a2 =>
  gd (a0 < k1) <|
  Qf (Q4y N a2.rule (a2.ids ++ a2.idsT) a2.ids.length) fun a3 =>
  gd (a0 + 1 ≤ 9223372036854775807) <|
  some (.inl (a0 + 1,(a1.set a0 (⟨a2.rule,a3.take a2.ids.length,a3.drop a2.ids.length⟩ : Qo))))
 ) else (
  some (.inr a1)
 )
noncomputable def Q3J (N:Nat) (k1:Nat):(Nat × (List Qo)) → Option ((Nat × (List Qo)) ⊕ (List Qo)):=fun (a0,a1) =>
 if (decide (a0 < (k1 + 12))) = true then (
  Qf (Q2y N 2 ((a0:Nat):Int)) fun _ =>
  Qf (a1[a0]?) fun _ =>
  gd (a0 < k1 + 12) <|
  gd (a0 + 1 ≤ 9223372036854775807) <|
  some (.inl (a0 + 1,(a1.set a0 (⟨(IntKind.wrap .i64 ((IntKind.wrap .i64 (1000003 * (IntKind.wrap .i64 (2 + 7)))) + ((a0:Nat):Int))),([] : List Int),[]⟩ : Qo))))
 ) else (
  some (.inr a1)
 )
noncomputable def Q4k (N:Nat) (l0:List Qo) (k1:Nat):Option (List Qo) :=
 Qf (
  Q1o (Q3I N k1) N (0,l0)
 ) fun a0 =>
 gd (k1 + 12 ≤ 9223372036854775807) <|
 gd (k1 + 12 ≤ a0.length) <|
 Q1o (Q3J N k1) N (0,a0)
noncomputable def Q27 (N:Nat) (_:List Qr) (_:List QG) (l2:List Q1) (l3:List Bool) (a4:Int) (l5:List Int):Option (Nat × (List Bool)) :=
 Qf (Q4I N l2 a4 l5) fun a0 =>
 Qf (
  if (decide (a0 < 0)) = true then (
   some true
  ) else (
   gd (0 ≤ a0) <|
   Qf (l3[a0.toNat]?) fun a3 =>
   some a3
  )
 ) fun a1 =>
 if a1 = true then (
  some (6,l3)
 ) else (
  gd (0 ≤ a0) <|
  Qf (l3[a0.toNat]?) fun _ =>
  some (0,l3.set a0.toNat true)
 )
noncomputable def Q6x (N:Nat) (l0:List Int) (l1:List Q1) (l2:List Q1) (e3:List (ByteArray × Bool)) (a9:List Qo) (a6:List Q1) (l4:List Qr) (l5:List QG) (l6:List Q1) (l7:List Bool):Option (Bool × (List Int) × (List Q1) × (List Q1) × (List (ByteArray × Bool)) × (List Q1) × (List Bool)) :=
 Qf (Q44 N l0 l1 l2 e3 a9 a6.length) fun (a7,a0,a1,a2,a3) =>
 Qf (Q2W N l4 l5 l6 l7 a6) fun (a8,a4,a5) =>
 if (a7 == a8) = true then (
  Qf (Q4j N a9 a6.length a6) fun aA =>
  gd (aA = true) <|
  some (true,a0,a1,a2,a3,a4,a5)
 ) else (
  some (false,a0,a1,a2,a3,a4,a5)
 )
noncomputable def Q5A (N:Nat) (l0:List Int) (l1:List Q1) (l2:List Q1) (e3:List (ByteArray × Bool)) (l4:List Qr) (l5:List QG) (l6:List Q1) (l7:List Bool) (a8:Int) (a9:Int) (aA:List Q1):Option (Bool × (List Int) × (List Q1) × (List Q1) × (List (ByteArray × Bool)) × (List Q1) × (List Bool)) :=
 Qf (Q4T N a8 4) fun aV =>
 if (aV == 0) = true then (
  Qf (Q4L N aA) fun aW =>
  Qf (Q6x N l0 l1 l2 e3 aW aA l4 l5 l6 l7
  ) fun (aD,a2,a3,a4,a5,a6,a7) =>
  Qf (Q4k N aW aA.length) fun _ =>
  some (aD,a2,a3,a4,a5,a6,a7)
 ) else (
  if (aV == 3) = true then (
   Qf (Q13 N 0 ([] : List Int)) fun _ =>
   Qf (
    if (decide (0 < aA.length)) = true then (
     Qf (Q4T N a9 ((aA.length:Nat):Int)) fun aX =>
     gd (0 ≤ aX) <|
     Qf (aA[aX.toNat]?) fun aY =>
     some (aY.rule,aY.ids)
    ) else (
     some (0,([] : List Int))
    )
   ) fun (a1,a0) =>
   Qf (Q1L N l0 l1 l2 e3 a1 a0) fun (aE,aF,aG,aH,aI) =>
   Qf (Q27 N l4 l5 l6 l7 a1 a0) fun (aJ,aK) =>
   some (aE == aJ,aF,aG,aH,aI,l6,aK)
  ) else (
   Qf (Q2g N l0 l1 l2 e3) fun (aB,aC,aL) =>
   if (!aL) = true then (
    some (true,l0,l1,l2,e3,l6,l7)
   ) else (
    Qf (Q1L N l0 l1 l2 e3 aB aC) fun (aM,aN,aO,aP,aQ) =>
    Qf (Q27 N l4 l5 l6 l7 aB aC) fun (aR,aS) =>
    some (aM == aR,aN,aO,aP,aQ,l6,aS)
   )
  )
 )
noncomputable def Q40 (_:Nat) (_:List Qr) (l1:List QG) (a2:Int) (_:List Int):Option (Int) :=
 Qf (
  if (decide (a2 < 0)) = true then (
   some true
  ) else (
   some (decide (a2 ≥ ((l1.length:Nat):Int)))
  )
 ) fun a0 =>
 if a0 = true then (
  some 0
 ) else (
  gd (0 ≤ a2) <|
  Qf (l1[a2.toNat]?) fun a3 =>
  some a3.salience
 )
noncomputable def Q6a (_:Nat) (a0:Int) (a1:List Int) (l0:List Int) (a2:Nat):Option (Bool) :=
 if (decide (a0 > 0)) = true then (
  gd (-9223372036854775808 ≤ a0 - 1 ∧ a0 - 1 ≤ 9223372036854775807) <|
  gd (0 ≤ a0 - 1) <|
  Qf (a1[(a0 - 1).toNat]?) fun a3 =>
  Qf (l0[a2]?) fun a4 =>
  some (decide (a3 < a4))
 ) else (
  some false
 )
noncomputable def Q3w (N:Nat) (l0:List Int) (a3:Nat):((List Int) × Int) → Option (((List Int) × Int) ⊕ ((List Int) × Int)):=fun (a1,a0) =>
 Qf (Q6a N a0 a1 l0 a3
 ) fun a2 =>
 if a2 = true then (
  gd (-9223372036854775808 ≤ a0 - 1 ∧ a0 - 1 ≤ 9223372036854775807) <|
  gd (0 ≤ a0 - 1) <|
  Qf (a1[(a0 - 1).toNat]?) fun a4 =>
  gd (0 ≤ a0) <|
  Qf (a1[a0.toNat]?) fun _ =>
  gd (-9223372036854775808 ≤ a0 - 1 ∧ a0 - 1 ≤ 9223372036854775807) <|
  some (.inl (a1.set a0.toNat a4,a0 - 1))
 ) else (
  some (.inr (a1,a0))
 )
noncomputable def Q4m (N:Nat) (l0:List Int):(Nat × (List Int)) → Option ((Nat × (List Int)) ⊕ (List Int)):=fun (a1,a0) =>
 if (decide (a1 < l0.length)) = true then (
  gd (a0.length + [0].length ≤ 17592186044416) <|
  Qf (
   Q1o (Q3w N l0 a1) N (a0 ++ [0],((a0.length:Nat):Int))
  ) fun (a2,a3) =>
  Qf (l0[a1]?) fun a5 =>
  gd (0 ≤ a3) <|
  Qf (a2[a3.toNat]?) fun _ =>
  gd (a1 + 1 ≤ 9223372036854775807) <|
  some (.inl (a1 + 1,a2.set a3.toNat a5))
 ) else (
  some (.inr a0)
 )
noncomputable def Q4g (N:Nat) (l0:List Int):Option (List Int) :=
 Qf (
  Q1o (Q4m N l0) N (0,[])
 ) fun a0 =>
 some a0
noncomputable def Q2K (_:Nat) (a2:List Int) (a3:List Int):Nat → Option (Nat ⊕ (Unit ⊕ Bool)):=fun a0 =>
 Qf (
  if (decide (a0 < a2.length)) = true then (
   some (decide (a0 < a3.length))
  ) else (
   some false
  )
 ) fun a1 =>
 if a1 = true then (
  Qf (a2[a0]?) fun a4 =>
  Qf (a3[a0]?) fun a5 =>
  if (a4 != a5) = true then (
   Qf (a2[a0]?) fun a6 =>
   Qf (a3[a0]?) fun a7 =>
   some (.inr (.inr (decide (a6 > a7))))
  ) else (
   gd (a0 + 1 ≤ 9223372036854775807) <|
   some (.inl (a0 + 1))
  )
 ) else (
  some (.inr (.inl ()))
 )
noncomputable def Q37 (_:Nat) (l3:List Int) (l5:List Int):Nat → Option (Nat ⊕ (Unit ⊕ Bool)):=fun a0 =>
 if (decide (a0 < l3.length)) = true then (
  Qf (l3[a0]?) fun a4 =>
  Qf (l5[a0]?) fun a5 =>
  if (a4 != a5) = true then (
   Qf (l3[a0]?) fun a1 =>
   Qf (l5[a0]?) fun a2 =>
   some (.inr (.inr (decide (a1 < a2))))
  ) else (
   gd (a0 + 1 ≤ 9223372036854775807) <|
   some (.inl (a0 + 1))
  )
 ) else (
  some (.inr (.inl ()))
 )
noncomputable def Q3O (N:Nat) (l0:List Qr) (l1:List QG) (a2:Int) (l3:List Int) (a4:Int) (l5:List Int):Option (Bool) :=
 Qf (Q40 N l0 l1 a2 l3) fun a3 =>
 Qf (Q40 N l0 l1 a4 l5) fun a5 =>
 if (a3 != a5) = true then (
  some (decide (a3 > a5))
 ) else (
  Qf (Q4g N l3) fun a0 =>
  Qf (Q4g N l5) fun a1 =>
  Q5x (
   Q1o (Q2K N a0 a1) N 0
  ) fun _ =>
  if (a0.length != a1.length) = true then (
   some (decide (a1.length < a0.length))
  ) else (
   if (a2 != a4) = true then (
    some (decide (a2 < a4))
   ) else (
    Q5x (
     Q1o (Q37 N l3 l5) N 0
    ) fun _ =>
    some false
   )
  )
 )
noncomputable def Q2m (N:Nat) (l3:List Bool) (a1:Nat) (a0:Int) (l2:List Q1) (l0:List Qr) (l1:List QG):Option (Bool) :=
 Qf (l3[a1]?) fun a4 =>
 if (!a4) = true then (
  if (decide (a0 < 0)) = true then (
   some true
  ) else (
   Qf (l2[a1]?) fun a2 =>
   gd (0 ≤ a0) <|
   Qf (l2[a0.toNat]?) fun a3 =>
   Qf (Q3O N l0 l1 a2.rule a2.ids a3.rule a3.ids) fun a5 =>
   some a5
  )
 ) else (
  some false
 )
noncomputable def Q23 (N:Nat) (l2:List Q1) (l3:List Bool) (l0:List Qr) (l1:List QG):(Nat × Int) → Option ((Nat × Int) ⊕ Int):=fun (a0,a1) =>
 if (decide (a0 < l2.length)) = true then (
  Qf (
   Qf (Q2m N l3 a0 a1 l2 l0 l1
   ) fun a2 =>
   if a2 = true then (
    some ((a0:Nat):Int)
   ) else (
    some a1
   )
  ) fun a3 =>
  gd (a0 + 1 ≤ 9223372036854775807) <|
  some (.inl (a0 + 1,a3))
 ) else (
  some (.inr a1)
 )
noncomputable def Q3m (N:Nat) (l0:List Qr) (l1:List QG) (l2:List Q1) (l3:List Bool):Option (Int × (List Int) × Bool) :=
 Qf (
  Q1o (Q23 N l2 l3 l0 l1) N (0,-1)
 ) fun a0 =>
 if (decide (a0 < 0)) = true then (
  some (0,[],false)
 ) else (
  gd (0 ≤ a0) <|
  Qf (l2[a0.toNat]?) fun a1 =>
  some (a1.rule,a1.ids,true)
 )
noncomputable def Q2M (N:Nat) (a1:List Q1) (l2:List Q1) (a3:Nat) (l0:List Qr) (l1:List QG):Nat → Option (Nat ⊕ Nat):=fun a0 =>
 Qf (
  if (decide (a0 < a1.length)) = true then (
   Qf (a1[a0]?) fun a4 =>
   Qf (l2[a3]?) fun a5 =>
   Qf (Q3O N l0 l1 a4.rule a4.ids a5.rule a5.ids) fun a6 =>
   some a6
  ) else (
   some false
  )
 ) fun a2 =>
 if a2 = true then (
  gd (a0 + 1 ≤ 9223372036854775807) <|
  some (.inl (a0 + 1))
 ) else (
  some (.inr a0)
 )
noncomputable def Q5h (N:Nat) (l3:List Bool) (a2:Nat) (a0:List Q1) (l2:List Q1) (l0:List Qr) (l1:List QG):Option (List Q1) :=
 Qf (l3[a2]?) fun a4 =>
 if (!a4) = true then (
  some a0
 ) else (
  Qf (
   Q1o (Q2M N a0 l2 a2 l0 l1) N 0
  ) fun a1 =>
  gd (a1 ≤ a0.length) <|
  gd (([] : List Q1).length + (a0.take a1).length ≤ 4398046511104) <|
  Qf (l2[a2]?) fun a3 =>
  gd ((([] : List Q1) ++ (a0.take a1)).length + [a3].length ≤ 4398046511104) <|
  gd (a1 ≤ a0.length) <|
  gd (((([] : List Q1) ++ (a0.take a1)) ++ [a3]).length + (a0.drop a1).length ≤ 4398046511104) <|
  some (((([] : List Q1) ++ (a0.take a1)) ++ [a3]) ++ (a0.drop a1))
 )
noncomputable def Q3o (N:Nat) (l2:List Q1) (l3:List Bool) (l0:List Qr) (l1:List QG):(Nat × (List Q1)) → Option ((Nat × (List Q1)) ⊕ (List Q1)):=fun (a0,a1) =>
 if (decide (a0 < l2.length)) = true then (
  Qf (Q5h N l3 a0 a1 l2 l0 l1
  ) fun a2 =>
  gd (a0 + 1 ≤ 9223372036854775807) <|
  some (.inl (a0 + 1,a2))
 ) else (
  some (.inr a1)
 )
noncomputable def Q2H (N:Nat) (l0:List Qr) (l1:List QG) (l2:List Q1) (l3:List Bool):Option (List Q1) :=
 Qf (
  Q1o (Q3o N l2 l3 l0 l1) N (0,[])
 ) fun a0 =>
 some a0
noncomputable def Q4c (N:Nat) (l0:List Q1) (l1:List Q1):Nat → Option (Nat ⊕ (Unit ⊕ Bool)):=fun a0 =>
 if (decide (a0 < l0.length)) = true then (
  Qf (l0[a0]?) fun a1 =>
  Qf (l1[a0]?) fun a2 =>
  Qf (Q2Y N a1.rule a1.ids a2.rule a2.ids) fun a3 =>
  if (!a3) = true then (
   some (.inr (.inr false))
  ) else (
   gd (a0 + 1 ≤ 9223372036854775807) <|
   some (.inl (a0 + 1))
  )
 ) else (
  some (.inr (.inl ()))
 )
noncomputable def Q3Z (N:Nat) (l0:List Q1) (l1:List Q1):Option (Bool) :=
 if (l0.length != l1.length) = true then (
  some false
 ) else (
  Q5x (
   Q1o (Q4c N l0 l1) N 0
  ) fun _ =>
  some true
 )
noncomputable def Q5k (N:Nat) (a0:Int) (a1:Int):Option (Bool) :=
 if (a0 == a1) = true then (
  Qf (Q3N N ([] : List Int) ([] : List Int)) fun a2 =>
  some a2
 ) else (
  some false
 )
noncomputable def Q4s (_:Nat):(Nat × (List QG)) → Option ((Nat × (List QG)) ⊕ Unit):=fun (a1,a0) =>
 if (decide (a1 < a0.length)) = true then (
  Qf (a0[a1]?) fun a3 =>
  Qf (a0[a1]?) fun a2 =>
  gd (a1 + 1 ≤ 9223372036854775807) <|
  some (.inl (a1 + 1,(a0.set a1 (⟨a2.name,IntKind.wrap .i64 (0 - a3.salience),a2.vars,a2.conds,a2.acts⟩ : QG))))
 ) else (
  some (.inr ())
 )
noncomputable def Q4t (_:Nat):(Nat × (List QG)) → Option ((Nat × (List QG)) ⊕ Unit):=fun (a1,a0) =>
 if (decide (a1 < a0.length)) = true then (
  Qf (a0[a1]?) fun a3 =>
  Qf (a0[a1]?) fun a2 =>
  gd (a1 + 1 ≤ 9223372036854775807) <|
  some (.inl (a1 + 1,(a0.set a1 (⟨a2.name,IntKind.wrap .i64 (0 - a3.salience),a2.vars,a2.conds,a2.acts⟩ : QG))))
 ) else (
  some (.inr ())
 )
noncomputable def Q2U (N:Nat) (l1:List Q3c) (aE:List QG):(Nat × (List Q1) × (List Bool) × (List Int) × (List Q1) × (List Q1) × (List (ByteArray × Bool))) → Option ((Nat × (List Q1) × (List Bool) × (List Int) × (List Q1) × (List Q1) × (List (ByteArray × Bool))) ⊕ (((List Q1) × (List Bool) × (List Int) × (List Q1) × (List Q1) × (List (ByteArray × Bool))) ⊕ Bool)):=fun (a0,a1,a2,a3,a4,a5,a6) =>
 Qf (
  if (decide (a0 < l1.length)) = true then (
   if (decide (a0 < 60)) = true then (
    some true
   ) else (
    some false
   )
  ) else (
   some false
  )
 ) fun aD =>
 if aD = true then (
  Qf (l1[a0]?) fun aQ =>
  Qf (Q5m N aQ.l) fun aR =>
  if aR = true then (
   Qf (Q2G N) fun _ =>
   some (.inr (.inr true))
  ) else (
   Qf (l1[a0]?) fun aF =>
   Qf (Q5A N a3 a4 a5 a6 ([] : List Qr) aE a1 a2 aF.op aF.which aF.l) fun (aG,a7,a8,a9,aA,aB,aC) =>
   gd (aG = true) <|
   Qf (Q2g N a7 a8 a9 aA) fun (aH,aI,aJ) =>
   Qf (Q3m N ([] : List Qr) aE aB aC) fun (aK,aL,aM) =>
   gd ((aJ != aM) = false) <|
   Qf (Q2Y N aH aI aK aL) fun aS =>
   gd (aS = true) <|
   Qf (Q2F N a7 a8 a9 aA) fun aN =>
   Qf (Q2H N ([] : List Qr) aE aB aC) fun aO =>
   Qf (Q3Z N aN aO) fun aP =>
   gd (aP = true) <|
   gd (a0 + 1 ≤ 9223372036854775807) <|
   some (.inl (a0 + 1,aB,aC,a7,a8,a9,aA))
  )
 ) else (
  some (.inr (.inl (a1,a2,a3,a4,a5,a6)))
 )
noncomputable def Q4d (N:Nat) (l0:List Int) (l1:List Q3c):Option (Bool) :=
 if (decide (400 < l0.length)) = true then (
  Qf (Q2G N) fun _ =>
  some true
 ) else (
  Qf (Q4l N l0) fun aA =>
  Qf (Q4P N ([] : List Qr) aA) fun
  | .inl _=>(
  Qf (Q31 N ([] : List Qr) aA) fun
  | .inl _=>(
  Qf (
   Q1o (Q4s N) N (0,aA)
  ) fun _ =>
  Qf (
   if (decide (0 < l1.length)) = true then (
    some ()
   ) else (
    some ()
   )
  ) fun _ =>
  Qf (Q2G N) fun _ =>
  some true
  )
  | .inr v29=>(
  some false
  )
  )
  | .inr v26=>(
  Qf (Q31 N ([] : List Qr) aA) fun
  | .inl _=>(
  some false
  )
  | .inr v29=>(
  Qf (
   Q1o (Q4t N) N (0,aA)
  ) fun _ =>
  Q5x (
   Q1o (Q2U N l1 v29) N (0,[],[],v26,[],[],([] : List (ByteArray × Bool)))
  ) fun (a4,a5,a0,a1,a2,a3) =>
  Qf (Q2g N a0 a1 a2 a3) fun (a6,a7,_) =>
  Qf (Q2g N a0 a1 a2 a3) fun (a8,a9,_) =>
  Qf (Q2F N a0 a1 a2 a3) fun aB =>
  Qf (Q2F N a0 a1 a2 a3) fun aC =>
  gd ([[(⟨a6,a7⟩ : Q1)],[(⟨a8,a9⟩ : Q1)],aB,aC].length ≤ 8 ∧ ∀ y ∈ [[(⟨a6,a7⟩ : Q1)],[(⟨a8,a9⟩ : Q1)],aB,aC],y.length ≤ 10000 ∧ ∀ u ∈ y,Q6V u) <|
  Qf (Q2F N a0 a1 a2 a3) fun aD =>
  Qf (Q2H N ([] : List Qr) v29 a4 a5) fun aE =>
  Qf (Q3Z N aD aE) fun aF =>
  gd (aF = true) <|
  Qf (Q2G N) fun _ =>
  some true
  )
  )
 )
end Go.Proofs.YtgangmegcejllaaGreatDoor
