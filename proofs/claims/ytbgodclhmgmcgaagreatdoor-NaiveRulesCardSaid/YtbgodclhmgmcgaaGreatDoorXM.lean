import Derived.Test.YtbgodclhmgmcgaaGreatDoorXT
namespace Go.Proofs.YtbgodclhmgmcgaaGreatDoor
open Go.RowKit
def lit1:List ByteArray:=[(⟨#[61,62]⟩ : ByteArray),(⟨#[33,61]⟩ : ByteArray),(⟨#[60,61]⟩ : ByteArray),(⟨#[62,61]⟩ : ByteArray),(⟨#[40]⟩ : ByteArray),(⟨#[41]⟩ : ByteArray),(⟨#[123]⟩ : ByteArray),(⟨#[125]⟩ : ByteArray),(⟨#[44]⟩ : ByteArray),(⟨#[59]⟩ : ByteArray),(⟨#[61]⟩ : ByteArray),(⟨#[60]⟩ : ByteArray),(⟨#[62]⟩ : ByteArray),(⟨#[43]⟩ : ByteArray),(⟨#[45]⟩ : ByteArray),(⟨#[42]⟩ : ByteArray),(⟨#[95]⟩ : ByteArray)]
def Q5Y (_:Nat) (s:Int):Option (Bool) :=
 if (decide (s ≥ 97)) = true then (
  some (decide (s ≤ 122))
 ) else (
  some false
 )
def Q32 (_:Nat) (s:Int):Option (Bool) :=
 if (decide (s ≥ 48)) = true then (
  some (decide (s ≤ 57))
 ) else (
  some false
 )
def Q6A (N:Nat) (s:Int):Option (Bool) :=
 Qa (Q5Y N s) fun z =>
 if z = true then (
  some true
 ) else (
  Qa (Q32 N s) fun v7 =>
  gd ((v7) = false) <|
  some (s == 95)
 )
def Q6B (N:Nat) (a0:ByteArray):Int → Option (Int ⊕ Int):=fun s =>
 gd ((decide (s < ((a0.size:Nat):Int))) = true) <|
 gd (0 ≤ s) <|
 Qa (a0[s.toNat]?) fun z =>
 Qa (Q6A N ((z.toNat:Nat):Int)) fun a1 =>
 if a1 = true then (
  gd (-9223372036854775808 ≤ s + 1 ∧ s + 1 ≤ 9223372036854775807) <|
  some (.inl (s + 1))
 ) else (
  some (.inr s)
 )
def Q5Z (N:Nat) (z:ByteArray) (a1:Int):Option (Int) :=
 Qa (
  Q1g (Q6B N z) N a1
 ) fun s =>
 some s
def Q5k (_:Nat):Option (Unit) :=
 some ()
def Q69 (_:Nat) (a0:ByteArray):Nat → Option (Nat ⊕ (Unit ⊕ Bool)):=fun s =>
 if (decide (s < ([(⟨#[102,97,99,116]⟩ : ByteArray),(⟨#[114,117,108,101]⟩ : ByteArray),(⟨#[115,97,108,105,101,110,99,101]⟩ : ByteArray),(⟨#[110,111,116]⟩ : ByteArray),(⟨#[116,101,115,116]⟩ : ByteArray),(⟨#[97,115,115,101,114,116]⟩ : ByteArray),(⟨#[114,101,116,114,97,99,116]⟩ : ByteArray),(⟨#[115,97,121]⟩ : ByteArray),(⟨#[104,97,108,116]⟩ : ByteArray),(⟨#[97,110,100]⟩ : ByteArray),(⟨#[111,114]⟩ : ByteArray)].length))) = true then (
  Qa (([(⟨#[102,97,99,116]⟩ : ByteArray),(⟨#[114,117,108,101]⟩ : ByteArray),(⟨#[115,97,108,105,101,110,99,101]⟩ : ByteArray),(⟨#[110,111,116]⟩ : ByteArray),(⟨#[116,101,115,116]⟩ : ByteArray),(⟨#[97,115,115,101,114,116]⟩ : ByteArray),(⟨#[114,101,116,114,97,99,116]⟩ : ByteArray),(⟨#[115,97,121]⟩ : ByteArray),(⟨#[104,97,108,116]⟩ : ByteArray),(⟨#[97,110,100]⟩ : ByteArray),(⟨#[111,114]⟩ : ByteArray)])[s]?) fun z =>
  if (z.toList == a0.toList) = true then (
   some (.inr (.inr true))
  ) else (
   gd (s + 1 ≤ 9223372036854775807) <|
   some (.inl (s + 1))
  )
 ) else (
  some (.inr (.inl ()))
 )
def Q7k (N:Nat) (s:ByteArray):Option (Bool) :=
 Qa (Q5k N) fun _ =>
 Q2J (
  Q1g (Q69 N s) N 0
 ) fun _ =>
 some false
def Q48 (_:Nat) (z:Bool) (a0:Nat) (s:UInt8):Option (Bool) :=
 if (!z) = true then (
  if (a0 == 0) = true then (
   some true
  ) else (
   if (decide (48 ≤ s.toNat)) = true then (
    if (decide (s.toNat ≤ 57)) = true then (
     some false
    ) else (
     some (!(s.toNat == 95))
    )
   ) else (
    some (!(s.toNat == 95))
   )
  )
 ) else (
  some false
 )
def Q35 (N:Nat) (a0:ByteArray):Nat → Option (Nat ⊕ (Unit ⊕ Bool)):=fun s =>
 if (decide (s < a0.size)) = true then (
  Qa (a0[s]?) fun a1 =>
  Qa (
   if (decide (97 ≤ a1.toNat)) = true then (
    some (decide (a1.toNat ≤ 122))
   ) else (
    some false
   )
  ) fun a5 =>
  Qa (Q48 N a5 s a1
  ) fun z =>
  if z = true then (
   some (.inr (.inr false))
  ) else (
   gd (s + 1 ≤ 9223372036854775807) <|
   some (.inl (s + 1))
  )
 ) else (
  some (.inr (.inl ()))
 )
def Q2m (N:Nat) (s:ByteArray):Option (Bool) :=
 Q2J (
  Q1g (Q35 N s) N 0
 ) fun _ =>
 if (decide (1 ≤ s.size)) = true then (
  some (decide (s.size ≤ 24))
 ) else (
  some false
 )
def Q5q (N:Nat) (a0:ByteArray):(Nat × Int) → Option ((Nat × Int) ⊕ Int):=fun (z,s) =>
 if (decide (z < a0.size)) = true then (
  Qa (a0[z]?) fun a6 =>
  Qa (Q32 N ((a6.toNat:Nat):Int)) fun a7 =>
  gd ((!a7) = false) <|
  Qa (a0[z]?) fun a1 =>
  gd (-9223372036854775808 ≤ 9223372036854775807 - (IntKind.wrap .i64 (IntKind.wrap .u8 (((a1.toNat:Nat):Int) - 48))) ∧ 9223372036854775807 - (IntKind.wrap .i64 (IntKind.wrap .u8 (((a1.toNat:Nat):Int) - 48))) ≤ 9223372036854775807) <|
  gd ((decide (s > (IntKind.wrap .i64 (Int.tdiv (9223372036854775807 - (IntKind.wrap .i64 (IntKind.wrap .u8 (((a1.toNat:Nat):Int) - 48)))) 10)))) = false) <|
  gd (-9223372036854775808 ≤ 10 * s ∧ 10 * s ≤ 9223372036854775807) <|
  gd (-9223372036854775808 ≤ (10 * s) + (IntKind.wrap .i64 (IntKind.wrap .u8 (((a1.toNat:Nat):Int) - 48))) ∧ (10 * s) + (IntKind.wrap .i64 (IntKind.wrap .u8 (((a1.toNat:Nat):Int) - 48))) ≤ 9223372036854775807) <|
  gd (z + 1 ≤ 9223372036854775807) <|
  some (.inl (z + 1,((10 * s) + (IntKind.wrap .i64 (IntKind.wrap .u8 (((a1.toNat:Nat):Int) - 48))))))
 ) else (
  some (.inr s)
 )
def Q2S (N:Nat) (z:ByteArray):Option (Int) :=
 Qa (
  Q1g (Q5q N z) N (0,0)
 ) fun s =>
 some s
def Q72 (_:Nat):Option (Unit) :=
 some ()
def Q5O (N:Nat) (a0:ByteArray):Int → Option (Int ⊕ Int):=fun s =>
 gd ((decide (s < ((a0.size:Nat):Int))) = true) <|
 gd (0 ≤ s) <|
 Qa (a0[s.toNat]?) fun z =>
 Qa (Q32 N ((z.toNat:Nat):Int)) fun a1 =>
 if a1 = true then (
  gd (-9223372036854775808 ≤ s + 1 ∧ s + 1 ≤ 9223372036854775807) <|
  some (.inl (s + 1))
 ) else (
  some (.inr s)
 )
def Q7O (_:Nat) (z:Int) (s:ByteArray) (a0:ByteArray) (a5:Nat):Option (Bool) :=
 if (decide ((z + ((s.size:Nat):Int)) ≤ ((a0.size:Nat):Int))) = true then (
  gd (0 ≤ z) <|
  gd (0 ≤ z + ((s.size:Nat):Int)) <|
  gd (z.toNat ≤ (z + ((s.size:Nat):Int)).toNat ∧ (z + ((s.size:Nat):Int)).toNat ≤ a0.size) <|
  Qa (lit1[a5]?) fun a6 =>
  some ((a0.extract z.toNat ((z + ((s.size:Nat):Int)).toNat)).toList == a6.toList)
 ) else (
  some false
 )
def Q5P (N:Nat) (a1:Int) (a0:ByteArray):Nat → Option (Nat ⊕ (Nat × ByteArray × Int)):=fun s =>
 gd ((decide (s < lit1.length)) = true) <|
 Qa (lit1[s]?) fun z =>
 gd (-9223372036854775808 ≤ a1 + ((z.size:Nat):Int) ∧ a1 + ((z.size:Nat):Int) ≤ 9223372036854775807) <|
 Qa (Q7O N a1 z a0 s
 ) fun a5 =>
 if a5 = true then (
  Qa (lit1[s]?) fun a6 =>
  some (.inr (6,a6,(a1 + ((z.size:Nat):Int))))
 ) else (
  gd (s + 1 ≤ 9223372036854775807) <|
  some (.inl (s + 1))
 )
def Q73 (N:Nat) (a0:ByteArray) (z:Int):Option (Nat × ByteArray × Int) :=
 gd (0 ≤ z) <|
 Qa (a0[z.toNat]?) fun a9 =>
 Qa (Q5Y N ((a9.toNat:Nat):Int)) fun aD =>
 if aD = true then (
  Qa (Q5Z N a0 z) fun a5 =>
  gd (0 ≤ z) <|
  gd (0 ≤ a5) <|
  gd (z.toNat ≤ a5.toNat ∧ a5.toNat ≤ a0.size) <|
  gd (-9223372036854775808 ≤ a5 - z ∧ a5 - z ≤ 9223372036854775807) <|
  gd ((decide ((a5 - z) > 24)) = false) <|
  Qa (
   Qa (Q7k N (a0.extract z.toNat a5.toNat)) fun aE =>
   if aE = true then (
    some 1
   ) else (
    some 2
   )
  ) fun a7 =>
  some (a7,a0.extract z.toNat a5.toNat,a5)
 ) else (
  Qa (
   if (a9.toNat == 63) = true then (
    some true
   ) else (
    some (a9.toNat == 39)
   )
  ) fun aA =>
  if aA = true then (
   gd (-9223372036854775808 ≤ z + 1 ∧ z + 1 ≤ 9223372036854775807) <|
   Qa (Q5Z N a0 (z + 1)) fun a8 =>
   gd (-9223372036854775808 ≤ z + 1 ∧ z + 1 ≤ 9223372036854775807) <|
   gd (0 ≤ z + 1) <|
   gd (0 ≤ a8) <|
   gd ((z + 1).toNat ≤ a8.toNat ∧ a8.toNat ≤ a0.size) <|
   gd ((a9.toNat == 39) = false) <|
   Qa (Q2m N (a0.extract ((z + 1).toNat) a8.toNat)) fun aF =>
   gd ((!aF) = false) <|
   some (3,a0.extract ((z + 1).toNat) a8.toNat,a8)
  ) else (
   Qa (Q32 N ((a9.toNat:Nat):Int)) fun aG =>
   if aG = true then (
    Qa (
     Q1g (Q5O N a0) N z
    ) fun s =>
    gd (0 ≤ z) <|
    gd (0 ≤ s) <|
    gd (z.toNat ≤ s.toNat ∧ s.toNat ≤ a0.size) <|
    Qa (Q2S N (a0.extract z.toNat s.toNat)) fun _ =>
    gd ((!(!((a0.extract z.toNat s.toNat).toList == (⟨#[]⟩ : ByteArray).toList))) = false) <|
    gd ((decide (s < ((a0.size:Nat):Int))) = true) <|
    gd (0 ≤ s) <|
    Qa (a0[s.toNat]?) fun aB =>
    Qa (Q6A N ((aB.toNat:Nat):Int)) fun aC =>
    gd ((aC) = false) <|
    gd (0 ≤ z) <|
    gd (0 ≤ s) <|
    gd (z.toNat ≤ s.toNat ∧ s.toNat ≤ a0.size) <|
    some (4,a0.extract z.toNat s.toNat,s)
   ) else (
    Qa (Q72 N) fun _ =>
    Q1g (Q5P N z a0) N 0
   )
  )
 )
def Q5r (N:Nat) (a0:ByteArray):(Int × (List Q18)) → Option ((Int × (List Q18)) ⊕ (List Q18)):=fun (s,z) =>
 if (decide (s < ((a0.size:Nat):Int))) = true then (
  gd (0 ≤ s) <|
  Qa (a0[s.toNat]?) fun a8 =>
  gd ((a8.toNat == 9) = false) <|
  gd (0 ≤ s) <|
  Qa (a0[s.toNat]?) fun a9 =>
  gd ((a9.toNat == 10) = false) <|
  gd (0 ≤ s) <|
  Qa (a0[s.toNat]?) fun aA =>
  gd ((aA.toNat == 13) = false) <|
  gd (0 ≤ s) <|
  Qa (a0[s.toNat]?) fun aB =>
  if (aB.toNat == 32) = true then (
   gd (-9223372036854775808 ≤ s + 1 ∧ s + 1 ≤ 9223372036854775807) <|
   some (.inl (s + 1,z))
  ) else (
   gd (0 ≤ s) <|
   Qa (a0[s.toNat]?) fun aC =>
   gd ((aC.toNat == 35) = false) <|
   Qa (Q73 N a0 s) fun (a1,a5,a7) =>
   gd (z.length + ([(⟨(((a1:Nat):Int)),a5,s⟩ : Q18)]).length ≤ 4398046511104) <|
   some (.inl (a7,(z ++ ([(⟨(((a1:Nat):Int)),a5,s⟩ : Q18)]))))
  )
 ) else (
  some (.inr z)
 )
def Q6z (N:Nat) (z:ByteArray):Option (List Q18) :=
 gd ((decide (16384 < z.size)) = false) <|
 Qa (
  Q1g (Q5r N z) N (0,[])
 ) fun s =>
 gd (s.length + ([(⟨7,(⟨#[]⟩ : ByteArray),(((z.size:Nat):Int))⟩ : Q18)]).length ≤ 4398046511104) <|
 some (s ++ ([(⟨7,(⟨#[]⟩ : ByteArray),(((z.size:Nat):Int))⟩ : Q18)]))
def Q1b (_:Nat) (l0:List Q18) (z:Int) (_:Bool):Option (Int × ByteArray × Int) :=
 gd (0 ≤ z) <|
 Qa (l0[z.toNat]?) fun s =>
 some (s.kind,s.text,s.at_)
def Q11 (N:Nat) (l0:List Q18) (a1:Int) (a2:Bool) (a3:ByteArray):Option (Bool) :=
 Qa (Q1b N l0 a1 a2) fun (s,z,_) =>
 gd ((!a2) = true) <|
 if (s == 6) = true then (
  some (z.toList == a3.toList)
 ) else (
  if (s == 1) = true then (
   some (z.toList == a3.toList)
  ) else (
   some false
  )
 )
def Q1K (_:Nat) (s:List Q18) (z:Int) (a2:Bool):Option (Unit) :=
 gd ((!a2) = true) <|
 gd (-9223372036854775808 ≤ ((s.length:Nat):Int) - 1 ∧ ((s.length:Nat):Int) - 1 ≤ 9223372036854775807) <|
 gd ((decide (z < (((s.length:Nat):Int) - 1))) = true) <|
 gd (-9223372036854775808 ≤ z + 1 ∧ z + 1 ≤ 9223372036854775807) <|
 some ()
def Q1E (N:Nat) (l0:List Q18) (a1:Int) (a2:Bool) (a3:Int) (_:Int):Option (ByteArray × Int) :=
 Qa (Q1b N l0 a1 a2) fun (s,z,a0) =>
 gd ((s != a3) = false) <|
 Qa (Q1K N l0 a1 a2) fun _ =>
 some (z,a0)
def Q1m (N:Nat) (s:List Q18) (z:Int) (a2:Bool) (a3:ByteArray):Option (Unit) :=
 Qa (Q11 N s z a2 a3) fun v6 =>
 gd ((!v6) = false) <|
 Qa (Q1K N s z a2) fun _ =>
 some ()
def Q5a (N:Nat) (l0:List Q18) (a1:Int) (a2:Bool):Option (Int × ByteArray × Int) :=
 Qa (Q1b N l0 a1 a2) fun (s,_,_) =>
 Qa (Q11 N l0 a1 a2 (⟨#[95]⟩ : ByteArray)) fun v9 =>
 gd ((v9) = false) <|
 Qa (Q11 N l0 a1 a2 (⟨#[45]⟩ : ByteArray)) fun a9 =>
 gd ((a9) = false) <|
 if (s == 3) = true then (
  Qa (Q1E N l0 a1 a2 3 13) fun (z,a0) =>
  some (13,z,a0)
 ) else (
  gd ((s == 5) = false) <|
  Qa (Q1E N l0 a1 a2 4 14) fun (a5,a6) =>
  some (14,a5,a6)
 )
def Q3Y (N:Nat) (l0:List Q18) (a1:Int) (a2:Bool):Option (Int × ByteArray × Int) :=
 Qa (Q1b N l0 a1 a2) fun (s,_,_) =>
 if (s == 4) = true then (
  Qa (Q1E N l0 a1 a2 4 14) fun (z,a0) =>
  some (14,z,a0)
 ) else (
  gd ((s == 5) = false) <|
  gd ((s == 3) = true) <|
  Qa (Q1E N l0 a1 a2 3 13) fun (a5,a6) =>
  some (13,a5,a6)
 )
def Q5R (_:Nat) (l1:List ByteArray) (a0:ByteArray):Nat → Option (Nat ⊕ (Unit ⊕ Bool)):=fun s =>
 if (decide (s < l1.length)) = true then (
  Qa (l1[s]?) fun z =>
  if (z.toList == a0.toList) = true then (
   some (.inr (.inr true))
  ) else (
   gd (s + 1 ≤ 9223372036854775807) <|
   some (.inl (s + 1))
  )
 ) else (
  some (.inr (.inl ()))
 )
def Q76 (N:Nat) (s:ByteArray) (z:List ByteArray):Option (Bool) :=
 Q2J (
  Q1g (Q5R N z s) N 0
 ) fun _ =>
 some false
def Q3J (N:Nat) (l0:List Q18) (a1:Int) (a2:Bool) (a3:Int):Option (Bool) :=
 Qa (Q1b N l0 a1 a2) fun (s,z,_) =>
 gd ((a2) = false) <|
 gd ((s != 6) = false) <|
 gd (0 ≤ a3) <|
 Qa (([[(⟨#[111,114]⟩ : ByteArray)],[(⟨#[97,110,100]⟩ : ByteArray)],[(⟨#[61]⟩ : ByteArray),(⟨#[33,61]⟩ : ByteArray),(⟨#[60]⟩ : ByteArray),(⟨#[60,61]⟩ : ByteArray),(⟨#[62]⟩ : ByteArray),(⟨#[62,61]⟩ : ByteArray)],[(⟨#[43]⟩ : ByteArray),(⟨#[45]⟩ : ByteArray)],[(⟨#[42]⟩ : ByteArray)]])[a3.toNat]?) fun a0 =>
 Qa (Q76 N z a0) fun a5 =>
 some a5
def Q3X (N:Nat) (l0:List Q18) (a2:Bool) (a3:Int) (rc:(List Q18) → Int → Bool → Int → Option (Int × ByteArray × Int × (List Qd) × Int)) (a6:Int):(Int × ByteArray × Int × (List Qd) × Int) → Option ((Int × ByteArray × Int × (List Qd) × Int) ⊕ (Int × ByteArray × Int × (List Qd) × Int)):=fun (a0,a1,a5,z,s) =>
 Qa (Q3J N l0 s a2 a3) fun aE =>
 if aE = true then (
  Qa (Q1b N l0 s a2) fun (_,a7,_) =>
  Qa (Q1K N l0 s a2) fun _ =>
  gd (-9223372036854775808 ≤ a3 + 1 ∧ a3 + 1 ≤ 9223372036854775807) <|
  Qa (rc l0 (s + 1) a2 (a3 + 1)) fun (a8,a9,aA,aB,aC) =>
  gd ((a3 == 2) = false) <|
  some (.inl (16,a7,a6,[(⟨a0,a1,0,a5,z⟩ : Qd),(⟨a8,a9,0,aA,aB⟩ : Qd)],aC))
 ) else (
  some (.inr (a0,a1,a5,z,s))
 )
def Q4e (N:Nat) (rc:(List Q18) → Int → Bool → Int → Option (Int × ByteArray × Int × (List Qd) × Int)) (l0:List Q18) (a1:Int) (a2:Bool) (a3:Int):Option (Int × ByteArray × Int × (List Qd) × Int) :=
 gd ((a2) = false) <|
 Qa (Q1b N l0 a1 a2) fun (_,_,a7) =>
 if (a3 == 5) = true then (
  Qa (Q11 N l0 a1 a2 (⟨#[45]⟩ : ByteArray)) fun aK =>
  gd ((aK) = false) <|
  Qa (Q11 N l0 a1 a2 (⟨#[110,111,116]⟩ : ByteArray)) fun aL =>
  gd ((aL) = false) <|
  Qa (Q3Y N l0 a1 a2) fun (a8,a9,aA) =>
  some (a8,a9,aA,[],a1 + 1)
 ) else (
  gd (-9223372036854775808 ≤ a3 + 1 ∧ a3 + 1 ≤ 9223372036854775807) <|
  Qa (rc l0 a1 a2 (a3 + 1)) fun (aB,aC,aD,aE,aF) =>
  Qa (
   Q1g (Q3X N l0 a2 a3 rc a7) N (aB,aC,aD,aE,aF)
  ) fun (a0,a5,a6,s,z) =>
  some (a0,a5,a6,s,z)
 )
def Q3k:Nat → (List Q18) → Int → Bool → Int → Option (Int × ByteArray × Int × (List Qd) × Int)
 | 0=>fun _=>fun _=>fun _=>fun _=>none
 | N + 1=>Q4e N (Q3k N)
def Q6r (N:Nat) (z:List Qd) (l0:List Q18) (a0:Int) (a2:Bool) (a3:Int):Option ((List Qd) × Int) :=
 Qa (
  if (decide (0 < z.length)) = true then (
   Qa (Q1m N l0 a0 a2 (⟨#[44]⟩ : ByteArray)) fun _ =>
   some (a0 + 1)
  ) else (
   some a0
  )
 ) fun s =>
 if (a3 == 0) = true then (
  Qa (Q1E N l0 s a2 2 3) fun (a1,a5) =>
  gd (z.length + ([(⟨3,a1,0,a5,[]⟩ : Qd)]).length ≤ 2199023255552) <|
  some ((z ++ ([(⟨3,a1,0,a5,[]⟩ : Qd)])),s + 1)
 ) else (
  if (a3 == 1) = true then (
   Qa (Q5a N l0 s a2) fun (a6,a7,a8) =>
   gd (z.length + ([(⟨a6,a7,0,a8,[]⟩ : Qd)]).length ≤ 2199023255552) <|
   some ((z ++ ([(⟨a6,a7,0,a8,[]⟩ : Qd)])),s + 1)
  ) else (
   Qa (Q3k N l0 s a2 0) fun (a9,aA,aB,aC,aD) =>
   gd (z.length + ([(⟨a9,aA,0,aB,aC⟩ : Qd)]).length ≤ 2199023255552) <|
   some ((z ++ ([(⟨a9,aA,0,aB,aC⟩ : Qd)])),aD)
  )
 )
def Q4f (N:Nat) (a2:Bool) (l0:List Q18) (a3:Int):(Bool × (List Qd) × Int) → Option ((Bool × (List Qd) × Int) ⊕ ((List Qd) × Int)):=fun (a6,a0,z) =>
 Qa (
  if a6 = true then (
   some (!a2)
  ) else (
   some false
  )
 ) fun a5 =>
 if a5 = true then (
  Qa (Q6r N a0 l0 z a2 a3
  ) fun (a1,s) =>
  Qa (Q11 N l0 s a2 (⟨#[44]⟩ : ByteArray)) fun a7 =>
  some (.inl (a7,a1,s))
 ) else (
  some (.inr (a0,z))
 )
def Q2N (N:Nat) (l0:List Q18) (a1:Int) (a2:Bool) (a3:Int):Option ((List Qd) × Int) :=
 Qa (Q1m N l0 a1 a2 (⟨#[40]⟩ : ByteArray)) fun _ =>
 Qa (
  Qa (Q11 N l0 (a1 + 1) a2 (⟨#[41]⟩ : ByteArray)) fun a6 =>
  Q1g (Q4f N a2 l0 a3) N (!a6,[],a1 + 1)
 ) fun (z,s) =>
 Qa (Q1m N l0 s a2 (⟨#[41]⟩ : ByteArray)) fun _ =>
 some (z,s + 1)
def Q4M (N:Nat) (l0:List Q18) (a1:Int) (a2:Bool):Option (ByteArray × Int × (List Qd) × Int) :=
 Qa (Q1b N l0 a1 a2) fun (_,_,a7) =>
 Qa (Q11 N l0 a1 a2 (⟨#[116,101,115,116]⟩ : ByteArray)) fun a8 =>
 gd ((a8) = false) <|
 Qa (Q11 N l0 a1 a2 (⟨#[110,111,116]⟩ : ByteArray)) fun a9 =>
 gd ((a9) = false) <|
 Qa (Q1E N l0 a1 a2 2 5) fun (z,_) =>
 Qa (Q2N N l0 (a1 + 1) a2 1) fun (a0,s) =>
 Qa (Q1m N l0 s a2 (⟨#[59]⟩ : ByteArray)) fun _ =>
 some (z,a7,a0,s + 1)
def Q4E (N:Nat) (l0:List Q18) (a1:Int) (a2:Bool):Option (Int) :=
 Qa (Q1b N l0 a1 a2) fun (_,s,_) =>
 Qa (Q2S N s) fun v9 =>
 Qa (Q1b N l0 a1 a2) fun (z,_,_) =>
 gd ((z != 4) = false) <|
 gd ((!(!(s.toList == (⟨#[]⟩ : ByteArray).toList))) = false) <|
 gd ((decide (v9 ≥ 2147483648)) = false) <|
 Qa (Q1K N l0 a1 a2) fun _ =>
 some v9
def Q6q (N:Nat) (z:List Q18) (s:Int) (a2:Bool):Option (Nat × ByteArray × Int × (List Qd) × Int) :=
 Qa (Q11 N z s a2 (⟨#[97,115,115,101,114,116]⟩ : ByteArray)) fun a7 =>
 if a7 = true then (
  Qa (Q1K N z s a2) fun _ =>
  Qa (Q1E N z (s + 1) a2 2 8) fun (a0,_) =>
  Qa (Q2N N z ((s + 1) + 1) a2 2) fun (a5,a6) =>
  some (8,a0,0,a5,a6)
 ) else (
  Qa (Q11 N z s a2 (⟨#[114,101,116,114,97,99,116]⟩ : ByteArray)) fun a9 =>
  gd ((a9) = true) <|
  Qa (Q1K N z s a2) fun _ =>
  Qa (Q4E N z (s + 1) a2) fun aA =>
  some (9,(⟨#[]⟩ : ByteArray),aA,[],(s + 1) + 1)
 )
def Q59 (N:Nat) (l0:List Q18) (a1:Int) (a2:Bool):Option (Nat × ByteArray × Int × Int × (List Qd) × Int) :=
 Qa (Q1b N l0 a1 a2) fun (_,_,a7) =>
 Qa (Q6q N l0 a1 a2
 ) fun (a0,a5,a6,z,s) =>
 Qa (Q1m N l0 s a2 (⟨#[59]⟩ : ByteArray)) fun _ =>
 some (a0,a5,a6,a7,z,s + 1)
def Q3V (N:Nat) (a2:Bool) (l0:List Q18):((List Qd) × Int) → Option (((List Qd) × Int) ⊕ ((List Qd) × Int)):=fun (s,z) =>
 gd ((!a2) = true) <|
 Qa (Q11 N l0 z a2 (⟨#[61,62]⟩ : ByteArray)) fun a7 =>
 if (!a7) = true then (
  Qa (Q4M N l0 z a2) fun (a0,a1,a5,a6) =>
  gd (s.length + ([(⟨5,a0,0,a1,a5⟩ : Qd)]).length ≤ 2199023255552) <|
  some (.inl ((s ++ ([(⟨5,a0,0,a1,a5⟩ : Qd)])),a6))
 ) else (
  some (.inr (s,z))
 )
def Q3W (N:Nat) (a2:Bool) (l0:List Q18):((List Qd) × Int) → Option (((List Qd) × Int) ⊕ ((List Qd) × Int)):=fun (s,z) =>
 gd ((!a2) = true) <|
 Qa (Q11 N l0 z a2 (⟨#[125]⟩ : ByteArray)) fun a9 =>
 if (!a9) = true then (
  Qa (Q59 N l0 z a2) fun (a0,a1,a5,a6,a7,a8) =>
  gd (s.length + ([(⟨(((a0:Nat):Int)),a1,a5,a6,a7⟩ : Qd)]).length ≤ 2199023255552) <|
  some (.inl ((s ++ ([(⟨(((a0:Nat):Int)),a1,a5,a6,a7⟩ : Qd)])),a8))
 ) else (
  some (.inr (s,z))
 )
def Q4N (N:Nat) (l0:List Q18) (a1:Int) (a2:Bool):Option (Nat × ByteArray × Int × (List Qd) × Int) :=
 Qa (Q1b N l0 a1 a2) fun (_,_,a9) =>
 Qa (Q11 N l0 a1 a2 (⟨#[102,97,99,116]⟩ : ByteArray)) fun aD =>
 if aD = true then (
  Qa (Q1K N l0 a1 a2) fun _ =>
  Qa (Q1E N l0 (a1 + 1) a2 2 2) fun (aA,_) =>
  Qa (Q2N N l0 ((a1 + 1) + 1) a2 0) fun (aB,a7) =>
  Qa (Q1m N l0 a7 a2 (⟨#[59]⟩ : ByteArray)) fun _ =>
  some (2,aA,a9,aB,a7 + 1)
 ) else (
  Qa (Q1m N l0 a1 a2 (⟨#[114,117,108,101]⟩ : ByteArray)) fun _ =>
  Qa (Q1E N l0 (a1 + 1) a2 2 4) fun (aC,_) =>
  Qa (Q11 N l0 ((a1 + 1) + 1) a2 (⟨#[115,97,108,105,101,110,99,101]⟩ : ByteArray)) fun aG =>
  gd ((aG) = false) <|
  Qa (Q1m N l0 ((a1 + 1) + 1) a2 (⟨#[123]⟩ : ByteArray)) fun _ =>
  Qa (
   Q1g (Q3V N a2 l0) N ([],((a1 + 1) + 1) + 1)
  ) fun (a0,s) =>
  Qa (Q1m N l0 s a2 (⟨#[61,62]⟩ : ByteArray)) fun _ =>
  Qa (
   Q1g (Q3W N a2 l0) N (a0,s + 1)
  ) fun (a5,z) =>
  Qa (Q1m N l0 z a2 (⟨#[125]⟩ : ByteArray)) fun _ =>
  some (4,aC,a9,a5,z + 1)
 )
def Q6g (_:Nat) (l4:List Qd) (a5:Int) (rc:Int → ByteArray → Int → Int → (List Qd) → Int → Option (Unit)):Nat → Option (Nat ⊕ Unit):=fun s =>
 if (decide (s < l4.length)) = true then (
  Qa (l4[s]?) fun z =>
  gd (-9223372036854775808 ≤ a5 + 1 ∧ a5 + 1 ≤ 9223372036854775807) <|
  Qa (rc z.kind z.text z.num z.at_ z.kids (a5 + 1)) fun _ =>
  gd (s + 1 ≤ 9223372036854775807) <|
  some (.inl (s + 1))
 ) else (
  some (.inr ())
 )
def Q6H (N:Nat) (rc:Int → ByteArray → Int → Int → (List Qd) → Int → Option (Unit)) (_:Int) (_:ByteArray) (_:Int) (_:Int) (z:List Qd) (s:Int):Option (Unit) :=
 gd ((decide (s ≥ 30)) = false) <|
 Qa (
  Q1g (Q6g N z s rc) N 0
 ) fun _ =>
 some ()
def Q5I:Nat → Int → ByteArray → Int → Int → (List Qd) → Int → Option (Unit)
 | 0=>fun _=>fun _=>fun _=>fun _=>fun _=>fun _=>none
 | N + 1=>Q6H N (Q5I N)
def Q5S (_:Nat) (l4:List Qd) (rc:Int → ByteArray → Int → Int → (List Qd) → Option (Nat)):(Nat × Nat) → Option ((Nat × Nat) ⊕ Nat):=fun (s,z) =>
 if (decide (s < l4.length)) = true then (
  Qa (l4[s]?) fun a0 =>
  Qa (rc a0.kind a0.text a0.num a0.at_ a0.kids) fun a1 =>
  gd (z + a1 ≤ 9223372036854775807) <|
  gd (s + 1 ≤ 9223372036854775807) <|
  some (.inl (s + 1,z + a1))
 ) else (
  some (.inr z)
 )
def Q6f (N:Nat) (rc:Int → ByteArray → Int → Int → (List Qd) → Option (Nat)) (_:Int) (_:ByteArray) (_:Int) (_:Int) (z:List Qd):Option (Nat) :=
 Qa (
  Q1g (Q5S N z rc) N (0,1)
 ) fun s =>
 some s
def Q5m:Nat → Int → ByteArray → Int → Int → (List Qd) → Option (Nat)
 | 0=>fun _=>fun _=>fun _=>fun _=>fun _=>none
 | N + 1=>Q6f N (Q5m N)
def Q58 (N:Nat) (a9:List Q18):((List Qd) × Int) → Option (((List Qd) × Int) ⊕ ((List Qd) × Int)):=fun (s,z) =>
 Qa (Q1b N a9 z false) fun (a7,_,_) =>
 if (a7 != 7) = true then (
  Qa (Q4N N a9 z false) fun (a0,a1,a5,a6,a8) =>
  gd (s.length + ([(⟨(((a0:Nat):Int)),a1,0,a5,a6⟩ : Qd)]).length ≤ 2199023255552) <|
  some (.inl ((s ++ ([(⟨(((a0:Nat):Int)),a1,0,a5,a6⟩ : Qd)])),a8))
 ) else (
  some (.inr (s,z))
 )
def Q6e (N:Nat) (a0:ByteArray):Option (List Qd) :=
 Qa (Q6z N a0) fun a1 =>
 Qa (
  Q1g (Q58 N a1) N ([],0)
 ) fun (s,_) =>
 gd ((false) = false) <|
 Qa (Q5I N 1 (⟨#[]⟩ : ByteArray) 0 0 s 0) fun _ =>
 Qa (Q5m N 1 (⟨#[]⟩ : ByteArray) 0 0 s) fun a5 =>
 gd ((decide (4096 < a5)) = false) <|
 some s
def Q5Q (_:Nat) (l1:List ByteArray) (a0:ByteArray):Nat → Option (Nat ⊕ (Unit ⊕ Bool)):=fun s =>
 if (decide (s < l1.length)) = true then (
  Qa (l1[s]?) fun z =>
  if (z.toList == a0.toList) = true then (
   some (.inr (.inr true))
  ) else (
   gd (s + 1 ≤ 9223372036854775807) <|
   some (.inl (s + 1))
  )
 ) else (
  some (.inr (.inl ()))
 )
def Q5l (N:Nat) (s:ByteArray) (z:List ByteArray):Option (Bool) :=
 Q2J (
  Q1g (Q5Q N z s) N 0
 ) fun _ =>
 some false
def Q2M (N:Nat) (s:ByteArray):Option (Bool) :=
 Qa (Q2m N s) fun z =>
 gd ((z) = true) <|
 Qa (Q5k N) fun _ =>
 Qa (Q5l N s [(⟨#[102,97,99,116]⟩ : ByteArray),(⟨#[114,117,108,101]⟩ : ByteArray),(⟨#[115,97,108,105,101,110,99,101]⟩ : ByteArray),(⟨#[110,111,116]⟩ : ByteArray),(⟨#[116,101,115,116]⟩ : ByteArray),(⟨#[97,115,115,101,114,116]⟩ : ByteArray),(⟨#[114,101,116,114,97,99,116]⟩ : ByteArray),(⟨#[115,97,121]⟩ : ByteArray),(⟨#[104,97,108,116]⟩ : ByteArray),(⟨#[97,110,100]⟩ : ByteArray),(⟨#[111,114]⟩ : ByteArray)]) fun v8 =>
 some (!v8)
def Q7l (_:Nat) (s:Int):Option (Bool) :=
 if (s == 5) = true then (
  some true
 ) else (
  gd ((s == 6) = false) <|
  some (s == 7)
 )
def Q6G (N:Nat) (s:ByteArray):Option (Unit) :=
 gd ((!(s.toList == (⟨#[]⟩ : ByteArray).toList)) = true) <|
 Qa (s[0]?) fun z =>
 gd ((z.toNat == 45) = false) <|
 Qa (Q2S N s) fun _ =>
 some ()
def Q7K (N:Nat) (s:ByteArray):Option (Bool) :=
 Qa (Q5l N s [(⟨#[111,114]⟩ : ByteArray),(⟨#[97,110,100]⟩ : ByteArray),(⟨#[61]⟩ : ByteArray),(⟨#[33,61]⟩ : ByteArray),(⟨#[60]⟩ : ByteArray),(⟨#[60,61]⟩ : ByteArray),(⟨#[62]⟩ : ByteArray),(⟨#[62,61]⟩ : ByteArray),(⟨#[43]⟩ : ByteArray),(⟨#[45]⟩ : ByteArray),(⟨#[42]⟩ : ByteArray)]) fun z =>
 some z
def Q57 (N:Nat) (l0:List Qd):Nat → Option (Nat ⊕ Nat):=fun s =>
 gd ((decide (s < l0.length)) = true) <|
 Qa (l0[s]?) fun z =>
 Qa (Q7l N z.kind) fun a0 =>
 if a0 = true then (
  gd (s + 1 ≤ 9223372036854775807) <|
  some (.inl (s + 1))
 ) else (
  some (.inr s)
 )
def Q6d (N:Nat) (rc:(List Qd) → Int → Int → (List Int) → Option (Unit)) (z:List Qd):Option (Unit) :=
 Qa (
  Q1g (Q57 N z) N 0
 ) fun s =>
 Qa (rc z 0 ((s:Nat):Int) [5,6,7]) fun _ =>
 Qa (rc z ((s:Nat):Int) ((z.length:Nat):Int) [8,9,10,11]) fun _ =>
 some ()
def Q79 (_:Nat) (z:List Qd) (s:Nat):Option (Unit) :=
 Qa (z[s]?) fun a0 =>
 if (a0.kind == 14) = true then (
  Qa (z[s]?) fun a1 =>
  gd ((!(a1.text.toList == (⟨#[]⟩ : ByteArray).toList)) = true) <|
  Qa (z[s]?) fun a5 =>
  Qa (a5.text[0]?) fun a6 =>
  gd ((a6.toNat == 45) = false) <|
  some ()
 ) else (
  some ()
 )
def Q4L (N:Nat) (z:List Qd):Nat → Option (Nat ⊕ Unit):=fun s =>
 if (decide (s < z.length)) = true then (
  Qa (Q79 N z s
  ) fun _ =>
  gd (s + 1 ≤ 9223372036854775807) <|
  some (.inl (s + 1))
 ) else (
  some (.inr ())
 )
def Q49 (N:Nat) (rc:(List Qd) → Int → Int → (List Int) → Option (Unit)) (s:List Qd):Option (Unit) :=
 Qa (
  Q1g (Q4L N s) N 0
 ) fun _ =>
 Qa (rc s 0 ((s.length:Nat):Int) [13,14,15,16]) fun _ =>
 some ()
def Q6c (N:Nat) (rc:(List Qd) → Int → Int → (List Int) → Option (Unit)) (s:Int) (a1:ByteArray) (a2:Int) (a3:Int) (z:List Qd):Option (Bool) :=
 Qa (
  gd ((decide (a3 < 0)) = false) <|
  if (a2 != 0) = true then (
   gd ((s != 4) = true) <|
   gd ((s != 9) = false) <|
   some ()
  ) else (
   some ()
  )
 ) fun _ =>
 if (s == 2) = true then (
  Qa (Q2M N a1) fun aA =>
  gd ((aA) = true) <|
  Qa (rc z 0 ((z.length:Nat):Int) [3]) fun _ =>
  some true
 ) else (
  if (s == 3) = true then (
   Qa (Q2M N a1) fun aB =>
   gd ((aB) = true) <|
   some (z.length == 0)
  ) else (
   if (s == 4) = true then (
    Qa (Q2M N a1) fun aC =>
    gd ((aC) = true) <|
    gd ((decide (a2 ≥ -2147483647)) = true) <|
    gd ((decide (a2 ≤ 2147483647)) = true) <|
    Qa (Q6d N rc z) fun _ =>
    some true
   ) else (
    Qa (
     if (s == 5) = true then (
      some (s == 5)
     ) else (
      some (s == 6)
     )
    ) fun a7 =>
    if a7 = true then (
     Qa (Q2M N a1) fun aD =>
     gd ((aD) = true) <|
     Qa (rc z 0 ((z.length:Nat):Int) [12,13,14,15]) fun _ =>
     some true
    ) else (
     gd ((s == 7) = false) <|
     if (s == 8) = true then (
      Qa (Q2M N a1) fun aE =>
      gd ((aE) = true) <|
      Qa (Q49 N rc z) fun _ =>
      some true
     ) else (
      if (s == 9) = true then (
       gd ((a1.toList == (⟨#[]⟩ : ByteArray).toList) = true) <|
       gd ((decide (a2 ≥ 0)) = true) <|
       gd ((decide (a2 ≤ 2147483647)) = true) <|
       some (z.length == 0)
      ) else (
       gd ((s == 10) = false) <|
       gd ((s == 11) = false) <|
       gd ((s == 12) = false) <|
       Qa (
        if (s == 13) = true then (
         some (s == 13)
        ) else (
         some (s == 15)
        )
       ) fun a5 =>
       if a5 = true then (
        Qa (Q2m N a1) fun a8 =>
        gd ((a8) = true) <|
        some (z.length == 0)
       ) else (
        if (s == 14) = true then (
         Qa (Q6G N a1) fun _ =>
         gd ((!(a1.toList == (⟨#[]⟩ : ByteArray).toList)) = true) <|
         some (z.length == 0)
        ) else (
         gd ((s == 16) = true) <|
         gd ((z.length == 1) = false) <|
         gd ((z.length == 2) = true) <|
         Qa (Q7K N a1) fun a9 =>
         gd ((a9) = true) <|
         Qa (Q49 N rc z) fun _ =>
         some true
        )
       )
      )
     )
    )
   )
  )
 )
def Q6F (_:Nat) (l3:List Int) (a1:Int) (l0:List Qd):(Nat × Bool) → Option ((Nat × Bool) ⊕ Bool):=fun (s,z) =>
 if (decide (s < l3.length)) = true then (
  Qa (
   if z = true then (
    some true
   ) else (
    gd (0 ≤ a1) <|
    Qa (l0[a1.toNat]?) fun a5 =>
    Qa (l3[s]?) fun a6 =>
    some (a5.kind == a6)
   )
  ) fun a0 =>
  gd (s + 1 ≤ 9223372036854775807) <|
  some (.inl (s + 1,a0))
 ) else (
  some (.inr z)
 )
def Q6E (N:Nat) (a2:Int) (l3:List Int) (l0:List Qd) (rc:(List Qd) → Int → Int → (List Int) → Option (Unit)):Int → Option (Int ⊕ Unit):=fun s =>
 if (decide (s < a2)) = true then (
  Qa (
   Q1g (Q6F N l3 s l0) N (0,false)
  ) fun a0 =>
  gd ((!a0) = false) <|
  gd (0 ≤ s) <|
  Qa (l0[s.toNat]?) fun z =>
  Qa (Q6c N rc z.kind z.text z.num z.at_ z.kids) fun a1 =>
  gd ((!a1) = false) <|
  gd (-9223372036854775808 ≤ s + 1 ∧ s + 1 ≤ 9223372036854775807) <|
  some (.inl (s + 1))
 ) else (
  some (.inr ())
 )
def Q75 (N:Nat) (rc:(List Qd) → Int → Int → (List Int) → Option (Unit)) (s:List Qd) (z:Int) (a2:Int) (l3:List Int):Option (Unit) :=
 Qa (
  Q1g (Q6E N a2 l3 s rc) N z
 ) fun _ =>
 some ()
def Q60:Nat → (List Qd) → Int → Int → (List Int) → Option (Unit)
 | 0=>fun _=>fun _=>fun _=>fun _=>none
 | N + 1=>Q75 N (Q60 N)
def Q6a (_:Nat) (l4:List Qd) (rc:Int → ByteArray → Int → Int → (List Qd) → Option (Nat)):(Nat × Nat) → Option ((Nat × Nat) ⊕ Nat):=fun (s,a0) =>
 if (decide (s < l4.length)) = true then (
  Qa (l4[s]?) fun z =>
  Qa (rc z.kind z.text z.num z.at_ z.kids) fun a1 =>
  gd (s + 1 ≤ 9223372036854775807) <|
  some (.inl (s + 1,max a0 a1))
 ) else (
  some (.inr a0)
 )
def Q6C (N:Nat) (rc:Int → ByteArray → Int → Int → (List Qd) → Option (Nat)) (_:Int) (_:ByteArray) (_:Int) (_:Int) (z:List Qd):Option (Nat) :=
 Qa (
  Q1g (Q6a N z rc) N (0,0)
 ) fun s =>
 gd (s + 1 ≤ 9223372036854775807) <|
 some (s + 1)
def Q5G:Nat → Int → ByteArray → Int → Int → (List Qd) → Option (Nat)
 | 0=>fun _=>fun _=>fun _=>fun _=>fun _=>none
 | N + 1=>Q6C N (Q5G N)
def Q6b (_:Nat) (l4:List Qd) (rc:Int → ByteArray → Int → Int → (List Qd) → Option (Nat)):(Nat × Nat) → Option ((Nat × Nat) ⊕ Nat):=fun (s,z) =>
 if (decide (s < l4.length)) = true then (
  Qa (l4[s]?) fun a0 =>
  Qa (rc a0.kind a0.text a0.num a0.at_ a0.kids) fun a1 =>
  gd (z + a1 ≤ 9223372036854775807) <|
  gd (s + 1 ≤ 9223372036854775807) <|
  some (.inl (s + 1,z + a1))
 ) else (
  some (.inr z)
 )
def Q6D (N:Nat) (rc:Int → ByteArray → Int → Int → (List Qd) → Option (Nat)) (_:Int) (_:ByteArray) (_:Int) (_:Int) (z:List Qd):Option (Nat) :=
 Qa (
  Q1g (Q6b N z rc) N (0,1)
 ) fun s =>
 some s
def Q5H:Nat → Int → ByteArray → Int → Int → (List Qd) → Option (Nat)
 | 0=>fun _=>fun _=>fun _=>fun _=>fun _=>none
 | N + 1=>Q6D N (Q5H N)
def Q74 (N:Nat) (z:Int) (a1:ByteArray) (a2:Int) (a3:Int) (s:List Qd):Option (Bool) :=
 gd ((z != 1) = false) <|
 gd ((!(a1.toList == (⟨#[]⟩ : ByteArray).toList)) = false) <|
 gd ((a2 != 0) = false) <|
 gd ((decide (a3 < 0)) = false) <|
 Qa (Q60 N s 0 ((s.length:Nat):Int) [2,4]) fun _ =>
 Qa (Q5G N z a1 a2 a3 s) fun a6 =>
 gd ((decide (a6 ≤ 30)) = true) <|
 Qa (Q5H N z a1 a2 a3 s) fun a7 =>
 some (decide (a7 ≤ 4096))
def Q3y (_:Nat) (z:List Qk) (_:List Qh) (_:List ByteArray) (_:Int) (_:Int) (_:Int) (a6:ByteArray):Option (Int) :=
 if (decide (0 < z.length)) = true then (
  Qa (z[0]?) fun s =>
  gd ((s.name.toList == a6.toList) = true) <|
  some 0
 ) else (
  some (-1)
 )
def Q1h (_:Nat) (_:List Qk) (_:List Qh) (_:List ByteArray) (_:Int) (_:Int) (_:Int) (s:Bool) (_:Int) (_:Int) (_:ByteArray) (_:Int) (_:Int) (_:List Qd):Option (Unit) :=
 gd ((s) = false) <|
 some ()
def Q43 (N:Nat) (a0:Nat) (a6:Qd) (s:List Qk) (l1:List Qh) (l2:List ByteArray) (a3:Int) (a4:Int) (a5:Int):Nat → Option (Nat ⊕ Unit):=fun z =>
 if (decide (z < a0)) = true then (
  Qa (a6.kids[z]?) fun a7 =>
  Qa (a6.kids[a0]?) fun a8 =>
  Qa (a6.kids[a0]?) fun a1 =>
  Qa (Q1h N s l1 l2 a3 a4 a5 (a7.text.toList == a8.text.toList) 210 a1.kind a1.text a1.num a1.at_ a1.kids) fun _ =>
  gd (z + 1 ≤ 9223372036854775807) <|
  some (.inl (z + 1))
 ) else (
  some (.inr ())
 )
def Q42 (N:Nat) (a0:Qd) (s:List Qk) (l1:List Qh) (l2:List ByteArray) (a3:Int) (a4:Int) (a5:Int):Nat → Option (Nat ⊕ Unit):=fun z =>
 if (decide (z < a0.kids.length)) = true then (
  Qa (
   Q1g (Q43 N z a0 s l1 l2 a3 a4 a5) N 0
  ) fun _ =>
  gd (z + 1 ≤ 9223372036854775807) <|
  some (.inl (z + 1))
 ) else (
  some (.inr ())
 )
def Q6i (N:Nat) (a8:List Qd) (a0:Nat) (s:List Qk) (l1:List Qh) (l2:List ByteArray) (a3:Int) (a4:Int) (a5:Int):Option (List Qk) :=
 Qa (a8[a0]?) fun z =>
 if (z.kind != 2) = true then (
  some s
 ) else (
  Qa (Q3y N s l1 l2 a3 a4 a5 z.text) fun a9 =>
  Qa (Q1h N s l1 l2 a3 a4 a5 (decide (a9 ≥ 0)) 210 z.kind z.text z.num z.at_ z.kids) fun _ =>
  gd ((decide (32 ≤ s.length)) = false) <|
  Qa (Q1h N s l1 l2 a3 a4 a5 (decide (6 < z.kids.length)) 204 z.kind z.text z.num z.at_ z.kids) fun _ =>
  Qa (
   Q1g (Q42 N z s l1 l2 a3 a4 a5) N 0
  ) fun _ =>
  gd (s.length + ([(⟨z.text,(((z.kids.length:Nat):Int))⟩ : Qk)]).length ≤ 5864062014805) <|
  some (s ++ ([(⟨z.text,(((z.kids.length:Nat):Int))⟩ : Qk)]))
 )
def Q41 (N:Nat) (a1:List Qd) (l1:List Qh) (l2:List ByteArray) (a3:Int) (a4:Int) (a5:Int):(Nat × (List Qk)) → Option ((Nat × (List Qk)) ⊕ (List Qk)):=fun (a0,s) =>
 if (decide (a0 < a1.length)) = true then (
  Qa (Q6i N a1 a0 s l1 l2 a3 a4 a5
  ) fun z =>
  gd (a0 + 1 ≤ 9223372036854775807) <|
  some (.inl (a0 + 1,z))
 ) else (
  some (.inr s)
 )
def Q4O (N:Nat) (z:List Qk) (l1:List Qh) (l2:List ByteArray) (a3:Int) (a4:Int) (a5:Int) (_:Int) (_:ByteArray) (_:Int) (_:Int) (s:List Qd):Option (List Qk) :=
 Q1g (Q41 N s l1 l2 a3 a4 a5) N (0,z)
def Q7n (_:Nat) (s:Int) (_:ByteArray) (_:Int) (_:Int) (_:List Qd):Option (Bool) :=
 if (s == 5) = true then (
  some true
 ) else (
  gd ((s == 6) = false) <|
  some (s == 7)
 )
def Q3n (N:Nat) (l0:List Qk) (l1:List Qh) (l2:List ByteArray) (a3:Int) (a4:Int) (a5:Int) (a6:Int) (a7:ByteArray) (a8:Int) (a9:Int) (s:List Qd):Option (Int) :=
 Qa (Q3y N l0 l1 l2 a3 a4 a5 a7) fun z =>
 Qa (Q1h N l0 l1 l2 a3 a4 a5 (decide (z < 0)) 211 a6 a7 a8 a9 s) fun _ =>
 gd ((decide (z ≥ 0)) = true) <|
 gd (0 ≤ z) <|
 Qa (l0[z.toNat]?) fun aD =>
 Qa (Q1h N l0 l1 l2 a3 a4 a5 (aD.fields != ((s.length:Nat):Int)) 212 a6 a7 a8 a9 s) fun _ =>
 some z
def Q3Z (_:Nat) (l2:List ByteArray) (a6:ByteArray):Nat → Option (Nat ⊕ (Unit ⊕ Int)):=fun s =>
 if (decide (s < l2.length)) = true then (
  Qa (l2[s]?) fun z =>
  if (z.toList == a6.toList) = true then (
   some (.inr (.inr ((s:Nat):Int)))
  ) else (
   gd (s + 1 ≤ 9223372036854775807) <|
   some (.inl (s + 1))
  )
 ) else (
  some (.inr (.inl ()))
 )
def Q3l (N:Nat) (_:List Qk) (_:List Qh) (s:List ByteArray) (_:Int) (_:Int) (_:Int) (z:ByteArray):Option (Int) :=
 Q2J (
  Q1g (Q3Z N s z) N 0
 ) fun _ =>
 some (-1)
def Q2v (_:Nat) (_:Int):Option (Unit) :=
 some ()
def Q4a (N:Nat) (a0:Int) (a1:ByteArray) (_:Int) (_:Int) (_:List Qd):Option (Int) :=
 gd ((a0 == 15) = false) <|
 Qa (a1[0]?) fun z =>
 gd ((z.toNat == 45) = false) <|
 Qa (Q2S N a1) fun s =>
 Qa (Q2v N s) fun _ =>
 some s
def Q6s (N:Nat) (z:Qd) (l0:List Qk) (l1:List Qh) (s:List ByteArray) (a3:Int) (a4:Int) (a5:Int) (a8:Bool):Option (Nat × Int × Nat × Int × (List ByteArray)) :=
 gd ((z.kind == 12) = false) <|
 if (z.kind == 13) = true then (
  Qa (Q3l N l0 l1 s a3 a4 a5 z.text) fun a0 =>
  if (decide (a0 < 0)) = true then (
   Qa (Q1h N l0 l1 s a3 a4 a5 (!a8) 213 z.kind z.text z.num z.at_ z.kids) fun _ =>
   Qa (Q1h N l0 l1 s a3 a4 a5 (decide (16 ≤ s.length)) 204 z.kind z.text z.num z.at_ z.kids) fun _ =>
   gd (([] : List ByteArray).length + s.length ≤ 8796093022208) <|
   gd (s.length + [z.text].length ≤ 8796093022208) <|
   some (2,((s.length:Nat):Int),0,0,s ++ [z.text])
  ) else (
   some (3,a0,0,0,s)
  )
 ) else (
  Qa (Q4a N z.kind z.text z.num z.at_ z.kids) fun a9 =>
  some (4,0,1,a9,s)
 )
def Q4g (N:Nat) (aB:List Qd) (a4:Int) (l0:List Qk) (l1:List Qh) (a3:Int) (a5:Int) (aC:Bool):(Nat × (List Q4D) × (List ByteArray)) → Option ((Nat × (List Q4D) × (List ByteArray)) ⊕ ((List Q4D) × (List ByteArray))):=fun (a9,a7,s) =>
 Qa (
  if (decide (a9 < aB.length)) = true then (
   some (a4 == 0)
  ) else (
   some false
  )
 ) fun aA =>
 if aA = true then (
  Qa (aB[a9]?) fun aD =>
  Qa (Q6s N aD l0 l1 s a3 a4 a5 aC
  ) fun (z,a0,a1,a6,a8) =>
  gd (a7.length + ([(⟨(((z:Nat):Int)),a0,(⟨(((a1:Nat):Int)),a6,(⟨#[]⟩ : ByteArray)⟩ : V)⟩ : Q4D)]).length ≤ 2932031007402) <|
  gd (a9 + 1 ≤ 9223372036854775807) <|
  some (.inl (a9 + 1,(a7 ++ ([(⟨(((z:Nat):Int)),a0,(⟨(((a1:Nat):Int)),a6,(⟨#[]⟩ : ByteArray)⟩ : V)⟩ : Q4D)])),a8))
 ) else (
  some (.inr (a7,s))
 )
def Q5b (N:Nat) (l0:List Qk) (l1:List Qh) (l2:List ByteArray) (a3:Int) (a4:Int) (a5:Int) (_:Int) (_:ByteArray) (_:Int) (_:Int) (a0:List Qd) (a1:Bool):Option ((List Q4D) × (List ByteArray)) :=
 Qa (
  Q1g (Q4g N a0 a4 l0 l1 a3 a5 a1) N (0,[],l2)
 ) fun (z,s) =>
 some (z,s)
def Q77 (_:Nat) (a0:ByteArray) (a1:Int):Option (Int) :=
 gd ((a1 == 1) = false) <|
 gd ((decide (0 < (([(⟨#[43]⟩ : ByteArray),(⟨#[45]⟩ : ByteArray),(⟨#[42]⟩ : ByteArray),(⟨#[61]⟩ : ByteArray),(⟨#[33,61]⟩ : ByteArray),(⟨#[60]⟩ : ByteArray),(⟨#[60,61]⟩ : ByteArray),(⟨#[97,110,100]⟩ : ByteArray),(⟨#[111,114]⟩ : ByteArray)]).length))) = true) <|
 Qa (([(⟨#[43]⟩ : ByteArray),(⟨#[45]⟩ : ByteArray),(⟨#[42]⟩ : ByteArray),(⟨#[61]⟩ : ByteArray),(⟨#[33,61]⟩ : ByteArray),(⟨#[60]⟩ : ByteArray),(⟨#[60,61]⟩ : ByteArray),(⟨#[97,110,100]⟩ : ByteArray),(⟨#[111,114]⟩ : ByteArray)])[0]?) fun s =>
 gd ((s.toList == a0.toList) = true) <|
 Qa (([1,2,3,5,6,7,8,9,10] : List Int)[0]?) fun z =>
 some z
def Q4h (N:Nat) (rc:(List Qk) → (List Qh) → (List ByteArray) → Int → Int → Int → (List Qd) → Option (List Qm)) (l0:List Qk) (l1:List Qh) (l2:List ByteArray) (a3:Int) (a4:Int) (a5:Int) (a6:Int) (a7:ByteArray) (a8:Int) (a9:Int) (s:List Qd):Option (Nat × Nat × Int × Int × Int × (List Qm)) :=
 Qa (
  if (a6 == 14) = true then (
   some (a6 == 14)
  ) else (
   some (a6 == 15)
  )
 ) fun z =>
 if z = true then (
  Qa (Q4a N a6 a7 a8 a9 s) fun aF =>
  some (1,1,aF,0,0,[])
 ) else (
  if (a6 == 13) = true then (
   Qa (Q3l N l0 l1 l2 a3 a4 a5 a7) fun a1 =>
   Qa (Q1h N l0 l1 l2 a3 a4 a5 (decide (a1 < 0)) 213 a6 a7 a8 a9 s) fun _ =>
   some (2,0,0,a1,0,[])
  ) else (
   Qa (Q77 N a7 ((s.length:Nat):Int)) fun aG =>
   Qa (rc l0 l1 l2 a3 a4 a5 s) fun aH =>
   some (3,0,0,0,aG,aH)
  )
 )
def Q40 (N:Nat) (l6:List Qd) (rc:(List Qk) → (List Qh) → (List ByteArray) → Int → Int → Int → (List Qd) → Option (List Qm)) (l0:List Qk) (l1:List Qh) (l2:List ByteArray) (a3:Int) (a4:Int) (a5:Int):(Nat × (List Qm)) → Option ((Nat × (List Qm)) ⊕ (List Qm)):=fun (z,s) =>
 if (decide (z < l6.length)) = true then (
  Qa (l6[z]?) fun a0 =>
  Qa (Q4h N rc l0 l1 l2 a3 a4 a5 a0.kind a0.text a0.num a0.at_ a0.kids) fun (a1,a6,a7,a8,a9,aA) =>
  gd (s.length + ([(⟨(((a1:Nat):Int)),(⟨(((a6:Nat):Int)),a7,(⟨#[]⟩ : ByteArray)⟩ : V),a8,a9,aA⟩ : Qm)]).length ≤ 1759218604441) <|
  gd (z + 1 ≤ 9223372036854775807) <|
  some (.inl (z + 1,(s ++ ([(⟨(((a1:Nat):Int)),(⟨(((a6:Nat):Int)),a7,(⟨#[]⟩ : ByteArray)⟩ : V),a8,a9,aA⟩ : Qm)]))))
 ) else (
  some (.inr s)
 )
def Q4i (N:Nat) (rc:(List Qk) → (List Qh) → (List ByteArray) → Int → Int → Int → (List Qd) → Option (List Qm)) (z:List Qk) (l1:List Qh) (l2:List ByteArray) (a3:Int) (a4:Int) (a5:Int) (l6:List Qd):Option (List Qm) :=
 Qa (
  Q1g (Q40 N l6 rc z l1 l2 a3 a4 a5) N (0,[])
 ) fun s =>
 some s
def Q3m:Nat → (List Qk) → (List Qh) → (List ByteArray) → Int → Int → Int → (List Qd) → Option (List Qm)
 | 0=>fun _=>fun _=>fun _=>fun _=>fun _=>fun _=>fun _=>none
 | N + 1=>Q4i N (Q3m N)
def Q5J (N:Nat) (z:Int) (l0:List Qk) (l1:List Qh) (l2:List ByteArray) (a3:Int) (a4:Int) (a5:Int) (a7:ByteArray) (s:Int) (a8:Int) (a0:List Qd) (l9:List QK) (a1:List Q17):Option ((List QK) × (List Q17) × (List ByteArray) × Int) :=
 if (z == 5) = true then (
  Qa (Q3n N l0 l1 l2 a3 a4 a5 z a7 s a8 a0) fun aE =>
  Qa (Q5b N l0 l1 l2 a3 a4 a5 z a7 s a8 a0 true) fun (a6,aA) =>
  gd (l9.length + ([(⟨1,aE,a6,(⟨0,(⟨0,0,(⟨#[]⟩ : ByteArray)⟩ : V),0,0,[]⟩ : Qm)⟩ : QK)]).length ≤ 1172812402961) <|
  gd (-9223372036854775808 ≤ a3 + 1 ∧ a3 + 1 ≤ 9223372036854775807) <|
  some ((l9 ++ ([(⟨1,aE,a6,(⟨0,(⟨0,0,(⟨#[]⟩ : ByteArray)⟩ : V),0,0,[]⟩ : Qm)⟩ : QK)])),a1,aA,a3 + 1)
 ) else (
  gd ((z == 6) = false) <|
  gd ((z == 7) = false) <|
  if (z == 8) = true then (
   Qa (Q3n N l0 l1 l2 a3 a4 a5 z a7 s a8 a0) fun aF =>
   Qa (Q3m N l0 l1 l2 a3 a4 a5 a0) fun aG =>
   gd (a1.length + ([(⟨1,aF,0,aG⟩ : Q17)]).length ≤ 2932031007402) <|
   some (l9,(a1 ++ ([(⟨1,aF,0,aG⟩ : Q17)])),l2,a3)
  ) else (
   gd ((z == 9) = true) <|
   gd ((decide (s < 1)) = false) <|
   Qa (Q1h N l0 l1 l2 a3 a4 a5 (decide (s > a3)) 214 z a7 s a8 a0) fun _ =>
   gd (-9223372036854775808 ≤ s - 1 ∧ s - 1 ≤ 9223372036854775807) <|
   gd (a1.length + ([(⟨2,0,s - 1,[]⟩ : Q17)]).length ≤ 2932031007402) <|
   some (l9,(a1 ++ ([(⟨2,0,s - 1,[]⟩ : Q17)])),l2,a3)
  )
 )
def Q4j (N:Nat) (l0:List Qk) (l1:List Qh) (l2:List ByteArray) (a3:Int) (a4:Int) (a5:Int) (_:ByteArray) (_:Int) (_:Int) (l9:List QK) (a9:List Q17) (aA:Int) (aB:ByteArray) (aC:Int) (aD:Int) (aE:List Qd):Option ((List QK) × (List Q17) × (List ByteArray) × Int) :=
 Qa (Q5J N aA l0 l1 l2 a3 a4 a5 aB aC aD aE l9 a9
 ) fun (z,a0,s,a1) =>
 some (z,a0,s,a1)
def Q4k (N:Nat) (a5:List Qd):(Nat × Nat) → Option ((Nat × Nat) ⊕ Nat):=fun (s,z) =>
 if (decide (s < a5.length)) = true then (
  Qa (
   Qa (a5[s]?) fun a0 =>
   Qa (Q7n N a0.kind a0.text a0.num a0.at_ a0.kids) fun a6 =>
   if a6 = true then (
    gd (z + 1 ≤ 9223372036854775807) <|
    some (z + 1)
   ) else (
    some z
   )
  ) fun a1 =>
  gd (s + 1 ≤ 9223372036854775807) <|
  some (.inl (s + 1,a1))
 ) else (
  some (.inr z)
 )
def Q4l (N:Nat) (aF:List Qd) (a4:Int) (l0:List Qk) (l1:List Qh) (a5:Int) (a7:ByteArray) (a8:Int):(Nat × (List QK) × (List Q17) × (List ByteArray) × Int) → Option ((Nat × (List QK) × (List Q17) × (List ByteArray) × Int) ⊕ ((List QK) × (List Q17) × (List ByteArray) × Int)):=fun (a9,s,z,a0,a1) =>
 Qa (
  if (decide (a9 < aF.length)) = true then (
   some (a4 == 0)
  ) else (
   some false
  )
 ) fun aA =>
 if aA = true then (
  Qa (aF[a9]?) fun a6 =>
  Qa (Q4j N l0 l1 a0 a1 a4 a5 a7 a8 0 s z a6.kind a6.text a6.num a6.at_ a6.kids) fun (aB,aC,aD,aE) =>
  gd (a9 + 1 ≤ 9223372036854775807) <|
  some (.inl (a9 + 1,aB,aC,aD,aE))
 ) else (
  some (.inr (s,z,a0,a1))
 )
def Q5c (N:Nat) (l0:List Qk) (l1:List Qh) (l2:List ByteArray) (a3:Int) (a4:Int) (a5:Int) (a6:Int) (a7:ByteArray) (a8:Int) (a9:Int) (aA:List Qd):Option ((List Qh) × (List ByteArray) × Int) :=
 gd ((decide (0 < l1.length)) = false) <|
 Qa (
  Q1g (Q4k N aA) N (0,0)
 ) fun a1 =>
 gd ((decide (a8 < -1000)) = false) <|
 Qa (Q1h N l0 l1 l2 a3 a4 a5 (decide (a8 > 1000)) 2 a6 a7 a8 a9 aA) fun _ =>
 gd ((decide (64 ≤ l1.length)) = false) <|
 gd ((decide (8 < a1)) = false) <|
 gd (-9223372036854775808 ≤ ((aA.length:Nat):Int) - ((a1:Nat):Int) ∧ ((aA.length:Nat):Int) - ((a1:Nat):Int) ≤ 9223372036854775807) <|
 Qa (Q1h N l0 l1 l2 a3 a4 a5 (decide ((((aA.length:Nat):Int) - ((a1:Nat):Int)) > 8)) 204 a6 a7 a8 a9 aA) fun _ =>
 Qa (
  Q1g (Q4l N aA a4 l0 l1 a5 a7 a8) N (0,[],[],[],0)
 ) fun (z,a0,s,aB) =>
 gd (l1.length + ([(⟨a7,a8,(((s.length:Nat):Int)),z,a0⟩ : Qh)]).length ≤ 1759218604441) <|
 some ((l1 ++ ([(⟨a7,a8,(((s.length:Nat):Int)),z,a0⟩ : Qh)])),s,aB)
def Q6h (N:Nat) (l4:List Qd) (aE:List Qk):(Nat × (List Qh) × (List ByteArray) × Int) → Option ((Nat × (List Qh) × (List ByteArray) × Int) ⊕ ((List Qh) × (List ByteArray) × Int)):=fun (a1,s,z,a0) =>
 Qa (
  if (decide (a1 < l4.length)) = true then (
   some true
  ) else (
   some false
  )
 ) fun a9 =>
 if a9 = true then (
  Qa (
   Qa (l4[a1]?) fun aF =>
   if (aF.kind == 4) = true then (
    Qa (l4[a1]?) fun a8 =>
    Qa (Q5c N aE s z a0 0 0 a8.kind a8.text a8.num a8.at_ a8.kids) fun (aA,aB,aC) =>
    some (aA,aB,aC)
   ) else (
    some (s,z,a0)
   )
  ) fun (a5,a6,a7) =>
  gd (a1 + 1 ≤ 9223372036854775807) <|
  some (.inl (a1 + 1,a5,a6,a7))
 ) else (
  some (.inr (s,z,a0))
 )
def Q7m (N:Nat) (a0:Int) (a1:ByteArray) (a2:Int) (a3:Int) (l4:List Qd):Option ((List Qk) × (List Qh)) :=
 Qa (Q74 N a0 a1 a2 a3 l4) fun v7 =>
 gd ((!v7) = false) <|
 Qa (Q4O N [] [] [] 0 0 0 a0 a1 a2 a3 l4) fun a6 =>
 Qa (
  Q1g (Q6h N l4 a6) N (0,[],[],0)
 ) fun (s,_,_) =>
 some (a6,s)
def Q6I (N:Nat) (a0:ByteArray):Option ((List Qk) × (List Qh)) :=
 Qa (Q6e N a0) fun v8 =>
 Qa (Q7m N 1 (⟨#[]⟩ : ByteArray) 0 0 v8) fun (s,z) =>
 some (s,z)
def Q4u (N:Nat):Option ((List Qk) × (List Qh)) :=
 Qa (Q6I N (⟨#[102,97,99,116,32,112,40,97,44,32,98,41,59,32,114,117,108,101,32,114,32,123,32,112,40,63,120,44,32,49,41,59,32,112,40,63,120,44,32,63,121,41,59,32,61,62,32,97,115,115,101,114,116,32,112,40,63,121,44,32,63,120,32,43,32,49,41,59,32,114,101,116,114,97,99,116,32,50,59,32,125]⟩ : ByteArray)) fun (s,z) =>
 some (s,z)
def Q3f (_:Nat) (_:Int) (_:Int) (_:Int):Option (Unit) :=
 some ()
def Q8L (_:Nat) (s:ByteArray):Option (Bool) :=
 if (!(s.toList == (⟨#[]⟩ : ByteArray).toList)) = true then (
  if (decide (s.size ≤ 24)) = true then (
   Qa (s[0]?) fun z =>
   if (decide ((Lib.indexByte (⟨#[97,98,99,100,101,102,103,104,105,106,107,108,109,110,111,112,113,114,115,116,117,118,119,120,121,122]⟩ : ByteArray).data.toList (((z.toNat:Nat):Int)).toNat.toUInt8) ≥ 0)) = true then (
    gd (s.size ≤ 9223372036854775807) <|
    some ((⟨(Lib.trimS s.data.toList (⟨#[97,98,99,100,101,102,103,104,105,106,107,108,109,110,111,112,113,114,115,116,117,118,119,120,121,122,48,49,50,51,52,53,54,55,56,57,95]⟩ : ByteArray).data.toList).toArray⟩ : ByteArray).toList == (⟨#[]⟩ : ByteArray).toList)
   ) else (
    some false
   )
  ) else (
   some false
  )
 ) else (
  some false
 )
def Q7P (N:Nat) (z:ByteArray):Option (Bool) :=
 Qa (Q8L N z
 ) fun s =>
 some s
def Q23 (N:Nat) (z:Int) (a1:Int) (a2:ByteArray):Option (Bool) :=
 if (z == 1) = true then (
  some (a2.toList == (⟨#[]⟩ : ByteArray).toList)
 ) else (
  if (z == 2) = true then (
   if (a1 == 0) = true then (
    Qa (Q7P N a2) fun s =>
    some s
   ) else (
    some false
   )
  ) else (
   some false
  )
 )
def Q6W (N:Nat) (s:ByteArray):Option (Bool) :=
 Qa (Q23 N 2 0 s) fun z =>
 some z
def Q5y (_:Nat) (_:ByteArray) (_:Int) (_:ByteArray):Option (Unit) :=
 some ()
def Q2R (N:Nat) (l0:List Qk) (a1:ByteArray):Nat → Option (Nat ⊕ (Unit ⊕ Int)):=fun s =>
 if (decide (s < l0.length)) = true then (
  Qa (l0[s]?) fun z =>
  Qa (Q5y N z.name z.fields a1) fun _ =>
  if (z.name.toList == a1.toList) = true then (
   some (.inr (.inr ((s:Nat):Int)))
  ) else (
   gd (s + 1 ≤ 9223372036854775807) <|
   some (.inl (s + 1))
  )
 ) else (
  some (.inr (.inl ()))
 )
def Q4z (N:Nat) (s:List Qk) (z:ByteArray):Option (Int) :=
 Q2J (
  Q1g (Q2R N s z) N 0
 ) fun _ =>
 some (-1)
def Q50 (N:Nat) (z:List Qk) (_:List Qh) (_:Int) (_:Int) (a4:ByteArray):Option (Int) :=
 Qa (Q4z N z a4) fun s =>
 some s
def Q5z (_:Nat) (_:ByteArray) (_:Int) (_:Int) (_:List QK) (_:List Q17) (_:ByteArray):Option (Unit) :=
 some ()
def Q2Q (N:Nat) (l0:List Qh) (a1:ByteArray):Nat → Option (Nat ⊕ (Unit ⊕ Int)):=fun s =>
 if (decide (s < l0.length)) = true then (
  Qa (l0[s]?) fun z =>
  Qa (Q5z N z.name z.salience z.vars z.conds z.acts a1) fun _ =>
  if (z.name.toList == a1.toList) = true then (
   some (.inr (.inr ((s:Nat):Int)))
  ) else (
   gd (s + 1 ≤ 9223372036854775807) <|
   some (.inl (s + 1))
  )
 ) else (
  some (.inr (.inl ()))
 )
def Q4y (N:Nat) (s:List Qh) (z:ByteArray):Option (Int) :=
 Q2J (
  Q1g (Q2Q N s z) N 0
 ) fun _ =>
 some (-1)
def Q51 (N:Nat) (_:List Qk) (z:List Qh) (_:Int) (_:Int) (a4:ByteArray):Option (Int) :=
 Qa (Q4y N z a4) fun s =>
 some s
def Q3T (_:Nat) (z:List Qk) (_:List Qh) (_:Int) (_:Int) (a4:Int) (a5:Int):Option (Bool) :=
 if (decide (a4 ≥ 0)) = true then (
  if (decide (a4 < ((z.length:Nat):Int))) = true then (
   gd (0 ≤ a4) <|
   Qa (z[a4.toNat]?) fun s =>
   some (s.fields == a5)
  ) else (
   some false
  )
 ) else (
  some false
 )
def Q8K (_:Nat) (a7:Bool) (a8:Bool) (s:Bool) (z:Int) (l6:List Qm) (a4:Int) (a1:Int) (a2:Int) (a3:ByteArray):Option (Bool) :=
 if a7 = true then (
  if a8 = true then (
   if s = true then (
    some true
   ) else (
    if (z == 0) = true then (
     some (l6.length == 0)
    ) else (
     some false
    )
   )
  ) else (
   if (a4 == 0) = true then (
    if s = true then (
     some true
    ) else (
     if (z == 0) = true then (
      some (l6.length == 0)
     ) else (
      some false
     )
    )
   ) else (
    some false
   )
  )
 ) else (
  if (decide ((⟨a1,a2,a3⟩ : V) = (⟨0,0,(⟨#[]⟩ : ByteArray)⟩ : V))) = true then (
   if a8 = true then (
    if s = true then (
     some true
    ) else (
     if (z == 0) = true then (
      some (l6.length == 0)
     ) else (
      some false
     )
    )
   ) else (
    if (a4 == 0) = true then (
     if s = true then (
      some true
     ) else (
      if (z == 0) = true then (
       some (l6.length == 0)
      ) else (
       some false
      )
     )
    ) else (
     some false
    )
   )
  ) else (
   some false
  )
 )
def Q4S (N:Nat) (_:Int) (z:Int) (a2:Int) (a3:ByteArray) (a4:Int) (a5:Int) (l6:List Qm) (a7:Bool) (a8:Bool) (a9:Bool):Option (Bool) :=
 Qa (Q8K N a7 a8 a9 a5 l6 a4 z a2 a3
 ) fun s =>
 some s
def Q66 (N:Nat) (_:List Qk) (_:List Qh) (a2:Int) (_:Int) (a4:Int) (s:Int) (z:Int) (a7:Int) (a8:ByteArray) (a9:Bool):Option (Bool × Int) :=
 if (a4 == 1) = true then (
  if (s == 0) = true then (
   some ((decide ((⟨z,a7,a8⟩ : V) = (⟨0,0,(⟨#[]⟩ : ByteArray)⟩ : V))),a2)
  ) else (
   some (false,a2)
  )
 ) else (
  if (a4 == 2) = true then (
   gd (-9223372036854775808 ≤ a2 + 1 ∧ a2 + 1 ≤ 9223372036854775807) <|
   if a9 = true then (
    gd (-9223372036854775808 ≤ (a2 + 1) - 1 ∧ (a2 + 1) - 1 ≤ 9223372036854775807) <|
    if (s == ((a2 + 1) - 1)) = true then (
     some ((decide ((⟨z,a7,a8⟩ : V) = (⟨0,0,(⟨#[]⟩ : ByteArray)⟩ : V))),a2 + 1)
    ) else (
     some (false,a2 + 1)
    )
   ) else (
    some (false,a2 + 1)
   )
  ) else (
   if (a4 == 3) = true then (
    if (decide (s ≥ 0)) = true then (
     if (decide (s < a2)) = true then (
      some ((decide ((⟨z,a7,a8⟩ : V) = (⟨0,0,(⟨#[]⟩ : ByteArray)⟩ : V))),a2)
     ) else (
      some (false,a2)
     )
    ) else (
     some (false,a2)
    )
   ) else (
    if (a4 == 4) = true then (
     if (s == 0) = true then (
      Qa (Q23 N z a7 a8) fun aA =>
      some (aA,a2)
     ) else (
      some (false,a2)
     )
    ) else (
     some (false,a2)
    )
   )
  )
 )
def Q4t (_:Nat) (rc:(List Qk) → (List Qh) → Int → Int → Int → Int → Int → ByteArray → Int → Int → (List Qm) → Option (Bool)) (z:Int) (a1:Int) (a2:Int) (a3:ByteArray) (a4:Int) (a5:Int) (l6:List Qm) (l7:List Qk) (l8:List Qh) (a9:Int) (s:Int):Option (Bool) :=
 Qa (rc l7 l8 a9 s z a1 a2 a3 a4 a5 l6) fun v6 =>
 some (!v6)
def Q2u (N:Nat) (l0:List Qm) (rc:(List Qk) → (List Qh) → Int → Int → Int → Int → Int → ByteArray → Int → Int → (List Qm) → Option (Bool)) (l1:List Qk) (l2:List Qh) (a3:Int) (a4:Int):Nat → Option (Nat ⊕ (Unit ⊕ Int)):=fun z =>
 if (decide (z < l0.length)) = true then (
  Qa (l0[z]?) fun a0 =>
  Qa (Q4t N rc a0.kind a0.value.k a0.value.n a0.value.s a0.var a0.op a0.kids l1 l2 a3 a4) fun a1 =>
  if a1 = true then (
   some (.inr (.inr ((z:Nat):Int)))
  ) else (
   gd (z + 1 ≤ 9223372036854775807) <|
   some (.inl (z + 1))
  )
 ) else (
  some (.inr (.inl ()))
 )
def Q3C (N:Nat) (rc:(List Qk) → (List Qh) → Int → Int → Int → Int → Int → ByteArray → Int → Int → (List Qm) → Option (Bool)) (s:List Qm) (z:List Qk) (l2:List Qh) (a3:Int) (a4:Int):Option (Int) :=
 Q2J (
  Q1g (Q2u N s rc z l2 a3 a4) N 0
 ) fun _ =>
 some (-1)
def Q2Z (N:Nat) (rc:(List Qk) → (List Qh) → Int → Int → Int → Int → Int → ByteArray → Int → Int → (List Qm) → Option (Bool)) (s:List Qm) (z:List Qk) (l2:List Qh) (a3:Int) (a4:Int):Option (Bool) :=
 Qa (Q3C N rc s z l2 a3 a4) fun v7 =>
 some (decide (v7 ≥ 0))
def Q3O (N:Nat) (rc:(List Qk) → (List Qh) → Int → Int → Int → Int → Int → ByteArray → Int → Int → (List Qm) → Option (Bool)) (s:List Qk) (z:List Qh) (a2:Int) (a3:Int) (l4:List Qm):Option (Bool) :=
 Qa (Q2Z N rc l4 s z a2 a3) fun v7 =>
 some (!v7)
def Q5C (_:Nat) (z:Int):Option (Nat) :=
 Qa (
  if (z == 4) = true then (
   some true
  ) else (
   some (z == 11)
  )
 ) fun s =>
 if s = true then (
  some 1
 ) else (
  some 2
 )
def Q7i (N:Nat) (a4:Int) (a5:Int) (a6:Int) (a7:ByteArray) (a8:Int) (a9:Int) (s:List Qm) (z:Nat) (rc:(List Qk) → (List Qh) → Int → Int → Int → Int → Int → ByteArray → Int → Int → (List Qm) → Option (Bool)) (l0:List Qk) (l1:List Qh) (a2:Int) (a3:Int):Option (Bool) :=
 Qa (Q4S N a4 a5 a6 a7 a8 a9 s false false true) fun a1 =>
 if a1 = true then (
  if (decide (a9 ≥ 1)) = true then (
   if (decide (a9 ≤ 11)) = true then (
    if (s.length == z) = true then (
     Qa (Q3O N rc l0 l1 a2 a3 s) fun aA =>
     some aA
    ) else (
     some false
    )
   ) else (
    some false
   )
  ) else (
   some false
  )
 ) else (
  some false
 )
def Q4I (N:Nat) (rc:(List Qk) → (List Qh) → Int → Int → Int → Int → Int → ByteArray → Int → Int → (List Qm) → Option (Bool)) (l0:List Qk) (l1:List Qh) (a2:Int) (a3:Int) (a4:Int) (a5:Int) (a6:Int) (a7:ByteArray) (a8:Int) (a9:Int) (s:List Qm):Option (Bool) :=
 if (a4 == 1) = true then (
  Qa (Q4S N a4 a5 a6 a7 a8 a9 s true false false) fun aE =>
  if aE = true then (
   Qa (Q23 N a5 a6 a7) fun aF =>
   some aF
  ) else (
   some false
  )
 ) else (
  if (a4 == 2) = true then (
   Qa (Q4S N a4 a5 a6 a7 a8 a9 s false true false) fun aG =>
   if aG = true then (
    if (decide (a8 ≥ 0)) = true then (
     some (decide (a8 < a2))
    ) else (
     some false
    )
   ) else (
    some false
   )
  ) else (
   if (a4 == 3) = true then (
    Qa (Q5C N a9
    ) fun z =>
    Qa (Q7i N a4 a5 a6 a7 a8 a9 s z rc l0 l1 a2 a3
    ) fun a0 =>
    some a0
   ) else (
    some false
   )
  )
 )
def Q2Y:Nat → (List Qk) → (List Qh) → Int → Int → Int → Int → Int → ByteArray → Int → Int → (List Qm) → Option (Bool)
 | 0=>fun _=>fun _=>fun _=>fun _=>fun _=>fun _=>fun _=>fun _=>fun _=>fun _=>fun _=>none
 | N + 1=>Q4I N (Q2Y N)
def Q5B (N:Nat) (l0:List Qk) (l1:List Qh) (a2:Int) (a3:Int) (a5:Int) (l6:List Q4D) (a7:Int) (a8:Int) (a9:Int) (s:ByteArray) (z:Int) (a0:Int) (a1:List Qm):Option (Bool) :=
 Qa (Q3T N l0 l1 a2 a3 a5 ((l6.length:Nat):Int)) fun a6 =>
 if (!a6) = true then (
  some true
 ) else (
  if (a7 != 0) = true then (
   some true
  ) else (
   Qa (Q4S N a7 a8 a9 s z a0 a1 false false false) fun aA =>
   some (!aA)
  )
 )
def Q2K (N:Nat) (l6:List Q4D) (l0:List Qk) (l1:List Qh) (a3:Int) (a4:Int):(Nat × Int) → Option ((Nat × Int) ⊕ (Int ⊕ (Bool × Int × Int))):=fun (z,a0) =>
 if (decide (z < l6.length)) = true then (
  Qa (l6[z]?) fun a1 =>
  Qa (Q66 N l0 l1 a0 a3 a1.k a1.var a1.v.k a1.v.n a1.v.s (a4 == 1)) fun (a6,a5) =>
  if (!a6) = true then (
   some (.inr (.inr (false,a5,a3)))
  ) else (
   gd (z + 1 ≤ 9223372036854775807) <|
   some (.inl (z + 1,a5))
  )
 ) else (
  some (.inr (.inl a0))
 )
def Q5A (N:Nat) (l0:List Qk) (l1:List Qh) (a2:Int) (a3:Int) (a4:Int) (a5:Int) (l6:List Q4D) (a7:Int) (a8:Int) (a9:Int) (a6:ByteArray) (aA:Int) (aB:Int) (aC:List Qm):Option (Bool × Int × Int) :=
 Qa (
  if (a4 == 1) = true then (
   some (a4 == 1)
  ) else (
   some (a4 == 2)
  )
 ) fun a1 =>
 if a1 = true then (
  Qa (Q5B N l0 l1 a2 a3 a5 l6 a7 a8 a9 a6 aA aB aC
  ) fun a0 =>
  if a0 = true then (
   some (false,a2,a3)
  ) else (
   Q2J (
    Q1g (Q2K N l6 l0 l1 a3 a4) N (0,a2)
   ) fun z =>
   Qa (
    if (a4 == 1) = true then (
     gd (-9223372036854775808 ≤ a3 + 1 ∧ a3 + 1 ≤ 9223372036854775807) <|
     some (a3 + 1)
    ) else (
     some a3
    )
   ) fun s =>
   some (true,z,s)
  )
 ) else (
  if (a4 == 3) = true then (
   if (a5 == 0) = true then (
    if (l6.length == 0) = true then (
     Qa (Q2Y N l0 l1 a2 a3 a7 a8 a9 a6 aA aB aC) fun aG =>
     some (aG,a2,a3)
    ) else (
     some (false,a2,a3)
    )
   ) else (
    some (false,a2,a3)
   )
  ) else (
   some (false,a2,a3)
  )
 )
def Q5D (N:Nat) (z:Int) (a1:Int) (a2:Int) (a3:ByteArray) (a4:Int) (a5:Int) (l6:List Qm) (l7:List Qk) (l8:List Qh) (a9:Int) (s:Int):Option (Bool) :=
 Qa (Q2Y N l7 l8 a9 s z a1 a2 a3 a4 a5 l6) fun v6 =>
 some (!v6)
def Q2O (N:Nat) (l0:List Qm) (l1:List Qk) (l2:List Qh) (a3:Int) (a4:Int):Nat → Option (Nat ⊕ (Unit ⊕ Int)):=fun z =>
 if (decide (z < l0.length)) = true then (
  Qa (l0[z]?) fun a0 =>
  Qa (Q5D N a0.kind a0.value.k a0.value.n a0.value.s a0.var a0.op a0.kids l1 l2 a3 a4) fun a1 =>
  if a1 = true then (
   some (.inr (.inr ((z:Nat):Int)))
  ) else (
   gd (z + 1 ≤ 9223372036854775807) <|
   some (.inl (z + 1))
  )
 ) else (
  some (.inr (.inl ()))
 )
def Q4w (N:Nat) (s:List Qm) (z:List Qk) (l2:List Qh) (a3:Int) (a4:Int):Option (Int) :=
 Q2J (
  Q1g (Q2O N s z l2 a3 a4) N 0
 ) fun _ =>
 some (-1)
def Q3A (N:Nat) (s:List Qm) (z:List Qk) (l2:List Qh) (a3:Int) (a4:Int):Option (Bool) :=
 Qa (Q4w N s z l2 a3 a4) fun v7 =>
 some (decide (v7 ≥ 0))
def Q3S (N:Nat) (s:List Qk) (z:List Qh) (a2:Int) (a3:Int) (l4:List Qm):Option (Bool) :=
 Qa (Q3A N l4 s z a2 a3) fun v7 =>
 some (!v7)
def Q7H (_:Nat) (z:Int) (l7:List Qm) (s:Int) (a3:Int):Option (Bool) :=
 if (z == 0) = true then (
  if (l7.length == 0) = true then (
   if (decide (s ≥ 0)) = true then (
    some (decide (s < a3))
   ) else (
    some false
   )
  ) else (
   some false
  )
 ) else (
  some false
 )
def Q7I (N:Nat) (a5:Int) (a6:Int) (z:List Qm) (l0:List Qk) (l1:List Qh) (a2:Int) (a3:Int):Option (Bool) :=
 if (a5 == 0) = true then (
  if (a6 == 0) = true then (
   if (decide (0 < z.length)) = true then (
    Qa (Q3S N l0 l1 a2 a3 z) fun s =>
    some s
   ) else (
    some false
   )
  ) else (
   some false
  )
 ) else (
  some false
 )
def Q7J (_:Nat) (a4:Int) (s:Int) (z:Int) (l7:List Qm):Option (Bool) :=
 if (a4 == 4) = true then (
  if (s == 0) = true then (
   if (z == 0) = true then (
    some (l7.length == 0)
   ) else (
    some false
   )
  ) else (
   some false
  )
 ) else (
  some false
 )
def Q65 (N:Nat) (l0:List Qk) (l1:List Qh) (a2:Int) (a3:Int) (a4:Int) (a5:Int) (a6:Int) (l7:List Qm):Option (Bool) :=
 if (a4 == 1) = true then (
  if (a6 == 0) = true then (
   Qa (Q3T N l0 l1 a2 a3 a5 ((l7.length:Nat):Int)) fun aB =>
   if aB = true then (
    Qa (Q3S N l0 l1 a2 a3 l7) fun aC =>
    some aC
   ) else (
    some false
   )
  ) else (
   some false
  )
 ) else (
  if (a4 == 2) = true then (
   Qa (Q7H N a5 l7 a6 a3
   ) fun s =>
   some s
  ) else (
   if (a4 == 3) = true then (
    Qa (Q7I N a5 a6 l7 l0 l1 a2 a3
    ) fun z =>
    some z
   ) else (
    Qa (Q7J N a4 a5 a6 l7
    ) fun a0 =>
    some a0
   )
  )
 )
def Q5E (N:Nat) (s:Int) (z:Int) (a2:Int) (l3:List Qm) (l4:List Qk) (l5:List Qh) (a6:Int) (a7:Int):Option (Bool) :=
 Qa (Q65 N l4 l5 a6 a7 s z a2 l3) fun v6 =>
 some (!v6)
def Q2V (N:Nat) (l0:List Q17) (l1:List Qk) (l2:List Qh) (a3:Int) (a4:Int):Nat → Option (Nat ⊕ (Unit ⊕ Int)):=fun s =>
 if (decide (s < l0.length)) = true then (
  Qa (l0[s]?) fun z =>
  Qa (Q5E N z.kind z.type z.which z.exprs l1 l2 a3 a4) fun a0 =>
  if a0 = true then (
   some (.inr (.inr ((s:Nat):Int)))
  ) else (
   gd (s + 1 ≤ 9223372036854775807) <|
   some (.inl (s + 1))
  )
 ) else (
  some (.inr (.inl ()))
 )
def Q4P (N:Nat) (s:List Q17) (z:List Qk) (l2:List Qh) (a3:Int) (a4:Int):Option (Int) :=
 Q2J (
  Q1g (Q2V N s z l2 a3 a4) N 0
 ) fun _ =>
 some (-1)
def Q3L (N:Nat) (s:List Q17) (z:List Qk) (l2:List Qh) (a3:Int) (a4:Int):Option (Bool) :=
 Qa (Q4P N s z l2 a3 a4) fun v7 =>
 some (decide (v7 ≥ 0))
def Q5i (N:Nat) (a4:ByteArray) (z:Int) (l7:List QK) (l8:List Q17):Option (Bool) :=
 Qa (Q6W N a4) fun s =>
 if (!s) = true then (
  some true
 ) else (
  if (decide (z < -1000)) = true then (
   some true
  ) else (
   if (decide (z > 1000)) = true then (
    some true
   ) else (
    if (decide (8 < l7.length)) = true then (
     some true
    ) else (
     some (decide (8 < l8.length))
    )
   )
  )
 )
def Q2D (N:Nat) (l7:List QK) (l0:List Qk) (l1:List Qh):(Nat × Int × Int) → Option ((Nat × Int × Int) ⊕ ((Int × Int) ⊕ (Bool × Int × Int))):=fun (a5,z,a0) =>
 if (decide (a5 < l7.length)) = true then (
  Qa (l7[a5]?) fun a1 =>
  Qa (Q5A N l0 l1 z a0 a1.kind a1.type a1.args a1.test.kind a1.test.value.k a1.test.value.n a1.test.value.s a1.test.var a1.test.op a1.test.kids) fun (a8,a6,a7) =>
  if (!a8) = true then (
   some (.inr (.inr (false,a6,a7)))
  ) else (
   gd (a5 + 1 ≤ 9223372036854775807) <|
   some (.inl (a5 + 1,a6,a7))
  )
 ) else (
  some (.inr (.inl (z,a0)))
 )
def Q52 (N:Nat) (l0:List Qk) (l1:List Qh) (_:Int) (_:Int) (a4:ByteArray) (a5:Int) (a6:Int) (l7:List QK) (l8:List Q17):Option (Bool × Int × Int) :=
 Qa (Q5i N a4 a5 l7 l8
 ) fun a0 =>
 if a0 = true then (
  some (false,0,0)
 ) else (
  Q2J (
   Q1g (Q2D N l7 l0 l1) N (0,0,0)
  ) fun (s,z) =>
  if (a6 == s) = true then (
   if (decide (s ≤ 16)) = true then (
    Qa (Q3L N l8 l0 l1 s z) fun a1 =>
    some (!a1,s,z)
   ) else (
    some (false,s,z)
   )
  ) else (
   some (false,s,z)
  )
 )
def Q7z (N:Nat) (s:Qk) (l0:List Qk) (l1:List Qh) (z:Nat):Option (Bool) :=
 Qa (Q6W N s.name) fun a0 =>
 if (!a0) = true then (
  some true
 ) else (
  if (decide (s.fields < 0)) = true then (
   some true
  ) else (
   if (decide (s.fields > 6)) = true then (
    some true
   ) else (
    Qa (Q50 N l0 l1 0 0 s.name) fun a1 =>
    some (a1 != ((z:Nat):Int))
   )
  )
 )
def Q4W (N:Nat) (l0:List Qk) (l1:List Qh):Nat → Option (Nat ⊕ (Unit ⊕ Bool)):=fun s =>
 if (decide (s < l0.length)) = true then (
  Qa (l0[s]?) fun a1 =>
  Qa (Q7z N a1 l0 l1 s
  ) fun z =>
  if z = true then (
   some (.inr (.inr false))
  ) else (
   gd (s + 1 ≤ 9223372036854775807) <|
   some (.inl (s + 1))
  )
 ) else (
  some (.inr (.inl ()))
 )
def Q4X (N:Nat) (l1:List Qh) (l0:List Qk):(Nat × Int × Int) → Option ((Nat × Int × Int) ⊕ (Unit ⊕ Bool)):=fun (s,z,a0) =>
 if (decide (s < l1.length)) = true then (
  Qa (l1[s]?) fun a1 =>
  Qa (
   Qa (Q51 N l0 l1 z a0 a1.name) fun aC =>
   if (aC != ((s:Nat):Int)) = true then (
    some (z,a0,true)
   ) else (
    Qa (Q52 N l0 l1 z a0 a1.name a1.salience a1.vars a1.conds a1.acts) fun (a8,a9,aA) =>
    some (a9,aA,!a8)
   )
  ) fun (a5,a6,a7) =>
  if a7 = true then (
   some (.inr (.inr false))
  ) else (
   gd (s + 1 ≤ 9223372036854775807) <|
   some (.inl (s + 1,a5,a6))
  )
 ) else (
  some (.inr (.inl ()))
 )
def Q6V (N:Nat) (z:List Qk) (l1:List Qh):Option (Bool) :=
 Qa (
  if (decide (32 < z.length)) = true then (
   some true
  ) else (
   some (decide (64 < l1.length))
  )
 ) fun s =>
 if s = true then (
  some false
 ) else (
  Q2J (
   Q1g (Q4W N z l1) N 0
  ) fun _ =>
  Q2J (
   Q1g (Q4X N l1 z) N (0,0,0)
  ) fun _ =>
  some true
 )
def Q7U (N:Nat) (s:Int) (z:Int) (a2:ByteArray):Option (Bool) :=
 Qa (Q23 N s z a2) fun v4 =>
 some (!v4)
def Q2G (N:Nat) (l0:List V):Nat → Option (Nat ⊕ (Unit ⊕ Int)):=fun z =>
 if (decide (z < l0.length)) = true then (
  Qa (l0[z]?) fun a0 =>
  Qa (Q7U N a0.k a0.n a0.s) fun a1 =>
  if a1 = true then (
   some (.inr (.inr ((z:Nat):Int)))
  ) else (
   gd (z + 1 ≤ 9223372036854775807) <|
   some (.inl (z + 1))
  )
 ) else (
  some (.inr (.inl ()))
 )
def Q4b (N:Nat) (s:List V):Option (Int) :=
 Q2J (
  Q1g (Q2G N s) N 0
 ) fun _ =>
 some (-1)
def Q3o (N:Nat) (s:List V):Option (Bool) :=
 Qa (Q4b N s) fun z =>
 some (decide (z ≥ 0))
def Q7B (N:Nat) (s:QE) (z:Int) (l0:List Qk):Option (Bool) :=
 if (decide (s.id ≤ z)) = true then (
  some true
 ) else (
  if (decide (s.id > 1099511627776)) = true then (
   some true
  ) else (
   if (decide (s.ty < 0)) = true then (
    some true
   ) else (
    if (decide (s.ty ≥ ((l0.length:Nat):Int))) = true then (
     some true
    ) else (
     gd (0 ≤ s.ty) <|
     Qa (l0[s.ty.toNat]?) fun a0 =>
     if (((s.args.length:Nat):Int) != a0.fields) = true then (
      some true
     ) else (
      Qa (Q3o N s.args) fun a1 =>
      some a1
     )
    )
   )
  )
 )
def Q3U (N:Nat) (l2:List QE) (l0:List Qk):(Nat × Int) → Option ((Nat × Int) ⊕ (Unit ⊕ Bool)):=fun (s,a0) =>
 if (decide (s < l2.length)) = true then (
  Qa (l2[s]?) fun a1 =>
  Qa (Q7B N a1 a0 l0
  ) fun z =>
  if z = true then (
   some (.inr (.inr false))
  ) else (
   gd (s + 1 ≤ 9223372036854775807) <|
   some (.inl (s + 1,a1.id))
  )
 ) else (
  some (.inr (.inl ()))
 )
def Q6X (N:Nat) (s:List Qk) (_:List Qh) (z:List QE):Option (Bool) :=
 Q2J (
  Q1g (Q3U N z s) N (0,0)
 ) fun _ =>
 some true
def Q46 (_:Nat) (s:Int):Option ((List Bool) × (List V)) :=
 Qa (
  if (decide (s < 0)) = true then (
   some true
  ) else (
   some (decide (s > 16))
  )
 ) fun z =>
 if z = true then (
  some ([],[])
 ) else (
  gd (0 ≤ s) <|
  gd (s.toNat ≤ 140737488355328) <|
  gd (0 ≤ s) <|
  gd (s.toNat ≤ 4398046511104) <|
  some (List.replicate s.toNat false,(List.replicate s.toNat (⟨0,0,(⟨#[]⟩ : ByteArray)⟩ : V)))
 )
def Q7A (_:Nat) (s:Int) (z:List Int) (_:List V) (l3:List Qu):Option (Unit) :=
 gd (l3.length + ([(⟨s,z⟩ : Qu)]).length ≤ 4398046511104) <|
 some ()
def Q8Y (N:Nat) (s:List Int) (z:List V) (l2:List Qu) (a3:Int):Option (Unit) :=
 gd (s.length ≤ 17592186044416) <|
 gd (z.length ≤ 4398046511104) <|
 Qa (Q7A N a3 s z l2) fun _ =>
 some ()
def Q83 (N:Nat) (s:Int) (z:Int) (a2:ByteArray):Option (Int × Int × ByteArray × Nat) :=
 Qa (Q23 N s z a2) fun v5 =>
 if (!v5) = true then (
  some (0,0,(⟨#[]⟩ : ByteArray),2)
 ) else (
  some (s,z,a2,0)
 )
def Q8W (N:Nat) (_:Int) (a1:Int) (a2:Int) (a3:ByteArray) (_:Int) (_:Int) (_:List Qm):Option (Int × Int × ByteArray × Nat) :=
 Qa (Q83 N a1 a2 a3) fun (s,z,a6,a7) =>
 some (s,z,a6,a7)
def Q8X (N:Nat) (_:Int) (_:Int) (_:Int) (_:ByteArray) (a4:Int) (_:Int) (_:List Qm) (l7:List V):Option (Int × Int × ByteArray × Nat) :=
 Qa (
  if (decide (a4 < 0)) = true then (
   some true
  ) else (
   some (decide (a4 ≥ ((l7.length:Nat):Int)))
  )
 ) fun z =>
 if z = true then (
  some (0,0,(⟨#[]⟩ : ByteArray),2)
 ) else (
  gd (0 ≤ a4) <|
  Qa (l7[a4.toNat]?) fun a6 =>
  Qa (Q83 N a6.k a6.n a6.s) fun (a7,a8,a9,aA) =>
  some (a7,a8,a9,aA)
 )
def Q7o (_:Nat) (_:Int):Option (Unit) :=
 some ()
def Q5T (N:Nat) (s:Bool):Option (Int) :=
 if s = true then (
  Qa (Q7o N 1) fun _ =>
  some 1
 ) else (
  Qa (Q7o N 0) fun _ =>
  some 0
 )
def Q37 (_:Nat) (s:Int):Option (Unit ⊕ (Unit ⊕ (Unit ⊕ (Unit ⊕ (Unit ⊕ (Unit ⊕ (Unit ⊕ (Unit ⊕ (Unit ⊕ Unit))))))))) :=
 if (s == 1) = true then (
 some (.inl ())
 ) else (
 if (s == 2) = true then (
 some (.inr (.inl ()))
 ) else (
 if (s == 3) = true then (
 some (.inr (.inr (.inl ())))
 ) else (
 if (s == 4) = true then (
 some (.inr (.inr (.inr (.inl ()))))
 ) else (
 if (s == 7) = true then (
 some (.inr (.inr (.inr (.inr (.inl ())))))
 ) else (
 if (s == 8) = true then (
 some (.inr (.inr (.inr (.inr (.inr (.inl ()))))))
 ) else (
 if (s == 9) = true then (
 some (.inr (.inr (.inr (.inr (.inr (.inr (.inl ())))))))
 ) else (
 if (s == 10) = true then (
 some (.inr (.inr (.inr (.inr (.inr (.inr (.inr (.inl ()))))))))
 ) else (
 if (s == 11) = true then (
 some (.inr (.inr (.inr (.inr (.inr (.inr (.inr (.inr (.inl ())))))))))
 ) else (
 some (.inr (.inr (.inr (.inr (.inr (.inr (.inr (.inr (.inr ())))))))))
 )))))))))
def Q9R (_:Nat) (_:Int) (_:Int):Option (Unit) :=
 some ()
def Q9S (_:Nat) (_:Int) (_:Int):Option (Unit) :=
 some ()
def Q4F (_:Nat) (a0:Int) (a1:Int):Option (Int × Bool) :=
 Qa (
  if (decide (a0 < 0)) = true then (
   some (IntKind.wrap .u64 (0 - (IntKind.wrap .u64 a0)))
  ) else (
   some (IntKind.wrap .u64 a0)
  )
 ) fun s =>
 Qa (
  if (decide (a1 < 0)) = true then (
   some (IntKind.wrap .u64 (0 - (IntKind.wrap .u64 a1)))
  ) else (
   some (IntKind.wrap .u64 a1)
  )
 ) fun z =>
 gd (0 ≤ s ∧ s < 18446744073709551616) <|
 gd (0 ≤ z ∧ z < 18446744073709551616) <|
 if ((decide (a0 < 0)) != (decide (a1 < 0))) = true then (
  if (((s.toNat * z.toNat / 18446744073709551616:Nat):Int) == 0) = true then (
   some ((IntKind.wrap .i64 (IntKind.wrap .u64 (0 - ((s.toNat * z.toNat % 18446744073709551616:Nat):Int)))),(decide (((s.toNat * z.toNat % 18446744073709551616:Nat):Int) ≤ 9223372036854775808)))
  ) else (
   some ((IntKind.wrap .i64 (IntKind.wrap .u64 (0 - ((s.toNat * z.toNat % 18446744073709551616:Nat):Int)))),false)
  )
 ) else (
  if (((s.toNat * z.toNat / 18446744073709551616:Nat):Int) == 0) = true then (
   some ((IntKind.wrap .i64 ((s.toNat * z.toNat % 18446744073709551616:Nat):Int)),(decide (((s.toNat * z.toNat % 18446744073709551616:Nat):Int) < 9223372036854775808)))
  ) else (
   some ((IntKind.wrap .i64 ((s.toNat * z.toNat % 18446744073709551616:Nat):Int)),false)
  )
 )
def Q9T (_:Nat) (_:Int) (_:Int):Option (Unit) :=
 some ()
def Q1W (N:Nat) (s:Bool):Option (Int) :=
 Qa (Q5T N s) fun z =>
 some z
def Q8j (N:Nat) (z:Int) (a1:Int):Option (Int) :=
 Qa (Q1W N (decide (z < a1))) fun s =>
 some s
def Q8k (N:Nat) (z:Int) (a1:Int):Option (Int) :=
 Qa (Q1W N (decide (z ≤ a1))) fun s =>
 some s
def Q8l (N:Nat) (z:Int) (a1:Int):Option (Int) :=
 if (z != 0) = true then (
  Qa (Q1W N (a1 != 0)) fun s =>
  some s
 ) else (
  Qa (Q1W N false) fun s =>
  some s
 )
def Q8m (N:Nat) (z:Int) (a1:Int):Option (Int) :=
 if (z != 0) = true then (
  Qa (Q1W N true) fun s =>
  some s
 ) else (
  Qa (Q1W N (a1 != 0)) fun s =>
  some s
 )
def Q8n (N:Nat) (z:Int) (_:Int):Option (Int) :=
 Qa (Q1W N (z == 0)) fun s =>
 some s
def Q6Y (_:Nat) (z:Int):Option (Nat) :=
 Qa (
  if (z == 4) = true then (
   some true
  ) else (
   some (z == 11)
  )
 ) fun s =>
 if s = true then (
  some 1
 ) else (
  some 2
 )
def Q4U (N:Nat) (l1:List V) (a0:Nat) (a1:Bool):Option (Bool ⊕ ((Nat × Bool) ⊕ (Bool ⊕ (Nat × Int × Nat)))) :=
 Qa (l1[a0]?) fun z =>
 Qa (Q23 N z.k z.n z.s) fun a5 =>
 if (!a5) = true then (
  some (.inr (.inr (.inr (0,0,2))))
 ) else (
  if a1 = true then (
   some (.inl true)
  ) else (
   some (.inl (z.k == 2))
  )
 )
def Q29 (N:Nat) (l1:List V):(Nat × Bool) → Option ((Nat × Bool) ⊕ (Bool ⊕ (Nat × Int × Nat))):=fun (s,z) =>
 if (decide (s < l1.length)) = true then (
  Q2J (Q4U N l1 s z
  ) fun a0 =>
  gd (s + 1 ≤ 9223372036854775807) <|
  some (.inl (s + 1,a0))
 ) else (
  some (.inr (.inl z))
 )
def Q1e (N:Nat) (a0:Int) (s:V) (z:V):Option (Int × Bool) :=
 Qa (Q37 N a0) fun
 | .inl _=>(
 Qa (Q9R N s.n z.n) fun _ =>
 some (IntKind.wrap .i64 (s.n + z.n),(decide ((IntKind.wrap .i64 (s.n + z.n)) < s.n)) == (decide (z.n < 0)))
 )
 | .inr (.inl _)=>(
 Qa (Q9S N s.n z.n) fun _ =>
 some (IntKind.wrap .i64 (s.n - z.n),(decide ((IntKind.wrap .i64 (s.n - z.n)) > s.n)) == (decide (z.n < 0)))
 )
 | .inr (.inr (.inl _))=>(
 Qa (Q4F N s.n z.n) fun (a5,a6) =>
 some (a5,a6)
 )
 | .inr (.inr (.inr (.inl _)))=>(
 Qa (Q9T N s.n z.n) fun _ =>
 some (IntKind.wrap .i64 (0 - s.n),s.n != -9223372036854775808)
 )
 | .inr (.inr (.inr (.inr (.inl _))))=>(
 Qa (Q8j N s.n z.n) fun a1 =>
 some (a1,true)
 )
 | .inr (.inr (.inr (.inr (.inr (.inl _)))))=>(
 Qa (Q8k N s.n z.n) fun a1 =>
 some (a1,true)
 )
 | .inr (.inr (.inr (.inr (.inr (.inr (.inl _))))))=>(
 Qa (Q8l N s.n z.n) fun a1 =>
 some (a1,true)
 )
 | .inr (.inr (.inr (.inr (.inr (.inr (.inr (.inl _)))))))=>(
 Qa (Q8m N s.n z.n) fun a1 =>
 some (a1,true)
 )
 | .inr (.inr (.inr (.inr (.inr (.inr (.inr (.inr (.inl _))))))))=>(
 Qa (Q8n N s.n z.n) fun a1 =>
 some (a1,true)
 )
 | .inr (.inr (.inr (.inr (.inr (.inr (.inr (.inr (.inr _))))))))=>(
 none
 )
def Q2W (N:Nat) (a0:Int) (l1:List V):Option (Nat × Int × Nat) :=
 Qa (Q6Y N a0
 ) fun s =>
 Qa (
  if (decide (a0 < 1)) = true then (
   some true
  ) else (
   if (decide (a0 > 11)) = true then (
    some true
   ) else (
    some (l1.length != s)
   )
  )
 ) fun a1 =>
 if a1 = true then (
  some (0,0,2)
 ) else (
  Q2J (
   Q1g (Q29 N l1) N (0,false)
  ) fun a6 =>
  Qa (l1[0]?) fun a7 =>
  gd (-9223372036854775808 ≤ ((s:Nat):Int) - 1 ∧ ((s:Nat):Int) - 1 ≤ 9223372036854775807) <|
  gd (0 ≤ ((s:Nat):Int) - 1) <|
  Qa (l1[(((s:Nat):Int) - 1).toNat]?) fun a8 =>
  if (a0 == 5) = true then (
   Qa (Q5T N (decide (a7 = a8))) fun aB =>
   some (1,aB,0)
  ) else (
   if (a0 == 6) = true then (
    Qa (Q5T N (!decide (a7 = a8))) fun aC =>
    some (1,aC,0)
   ) else (
    if a6 = true then (
     some (0,0,301)
    ) else (
     Qa (Q1e N a0 a7 a8
     ) fun (z,a5) =>
     if (!a5) = true then (
      some (0,0,300)
     ) else (
      Qa (Q7o N z) fun _ =>
      some (1,z,0)
     )
    )
   )
  )
 )
def Q4Y (_:Nat) (l1:List Qm) (rc:Int → Int → Int → ByteArray → Int → Int → (List Qm) → (List V) → Option (Int × Int × ByteArray × Nat)) (l0:List V):(Nat × (List V)) → Option ((Nat × (List V)) ⊕ ((List V) ⊕ ((List V) × Nat))):=fun (z,a0) =>
 if (decide (z < l1.length)) = true then (
  Qa (l1[z]?) fun a1 =>
  Qa (rc a1.kind a1.value.k a1.value.n a1.value.s a1.var a1.op a1.kids l0) fun (a5,a6,a7,a8) =>
  if (a8 != 0) = true then (
   some (.inr (.inr ([],a8)))
  ) else (
   gd (a0.length + ([(⟨a5,a6,a7⟩ : V)]).length ≤ 4398046511104) <|
   gd (z + 1 ≤ 9223372036854775807) <|
   some (.inl (z + 1,(a0 ++ ([(⟨a5,a6,a7⟩ : V)]))))
  )
 ) else (
  some (.inr (.inl a0))
 )
def Q7N (N:Nat) (rc:Int → Int → Int → ByteArray → Int → Int → (List Qm) → (List V) → Option (Int × Int × ByteArray × Nat)) (z:List V) (l1:List Qm):Option ((List V) × Nat) :=
 Q2J (
  Q1g (Q4Y N l1 rc z) N (0,[])
 ) fun s =>
 some (s,0)
def Q67 (N:Nat) (rc:Int → Int → Int → ByteArray → Int → Int → (List Qm) → (List V) → Option (Int × Int × ByteArray × Nat)) (l0:List V) (_:Int) (_:Int) (_:Int) (_:ByteArray) (_:Int) (a6:Int) (l7:List Qm):Option (Nat × Int × Nat) :=
 Qa (Q7N N rc l0 l7) fun (z,s) =>
 if (s != 0) = true then (
  some (0,0,s)
 ) else (
  Qa (Q2W N a6 z) fun (a0,a7,a8) =>
  some (a0,a7,a8)
 )
def Q4T (N:Nat) (rc:Int → Int → Int → ByteArray → Int → Int → (List Qm) → (List V) → Option (Int × Int × ByteArray × Nat)) (a0:Int) (a1:Int) (a2:Int) (a3:ByteArray) (a4:Int) (a5:Int) (l6:List Qm) (l7:List V):Option (Int × Int × ByteArray × Nat) :=
 if (a0 == 1) = true then (
 Qa (Q8W N a0 a1 a2 a3 a4 a5 l6) fun (s,z,a6,a7) =>
 some (s,z,a6,a7)
 ) else (
 if (a0 == 2) = true then (
 Qa (Q8X N a0 a1 a2 a3 a4 a5 l6 l7) fun (s,z,a6,a7) =>
 some (s,z,a6,a7)
 ) else (
 if (a0 == 3) = true then (
 Qa (Q67 N rc l7 a0 a1 a2 a3 a4 a5 l6) fun (s,z,a6) =>
 some (((s:Nat):Int),z,(⟨#[]⟩ : ByteArray),a6)
 ) else (
 if (!false) = true then (
  some (0,0,(⟨#[]⟩ : ByteArray),2)
 ) else (
  none
 )
 )))
def Q2d:Nat → Int → Int → Int → ByteArray → Int → Int → (List Qm) → (List V) → Option (Int × Int × ByteArray × Nat)
 | 0=>fun _=>fun _=>fun _=>fun _=>fun _=>fun _=>fun _=>fun _=>none
 | N + 1=>Q4T N (Q2d N)
def Q2E (_:Nat) (l0:List Bool) (l1:List V):Nat → Option (Nat ⊕ (Unit ⊕ Bool)):=fun s =>
 if (decide (s < l0.length)) = true then (
  Qa (l0[s]?) fun a0 =>
  Qa (
   if (!a0) = true then (
    Qa (l1[s]?) fun a1 =>
    some (!decide (a1 = (⟨0,0,(⟨#[]⟩ : ByteArray)⟩ : V)))
   ) else (
    some false
   )
  ) fun z =>
  if z = true then (
   some (.inr (.inr false))
  ) else (
   gd (s + 1 ≤ 9223372036854775807) <|
   some (.inl (s + 1))
  )
 ) else (
  some (.inr (.inl ()))
 )
def Q54 (N:Nat) (s:List Bool) (z:List V):Option (Bool) :=
 if (s.length != z.length) = true then (
  some false
 ) else (
  Q2J (
   Q1g (Q2E N s z) N 0
  ) fun _ =>
  some true
 )
def Q9G (_:Nat) (s:List Bool) (z:List V):Option (Unit) :=
 gd (s.length ≤ 140737488355328) <|
 gd (z.length ≤ 4398046511104) <|
 some ()
def Q47 (_:Nat) (s:Bool) (a3:Int) (z:List Bool) (l1:List V) (a7:Int) (a8:Int) (a9:ByteArray):Option ((List Bool) × (List V)) :=
 if s = true then (
  gd (0 ≤ a3) <|
  Qa (z[a3.toNat]?) fun _ =>
  gd (0 ≤ a3) <|
  Qa (l1[a3.toNat]?) fun _ =>
  some (z.set a3.toNat true,(l1.set a3.toNat (⟨a7,a8,a9⟩ : V)))
 ) else (
  some (z,l1)
 )
def Q3P (N:Nat) (l0:List Bool) (l1:List V) (a2:Int) (a3:Int) (a4:Int) (a5:Int) (a6:ByteArray) (a7:Int) (a8:Int) (a9:ByteArray):Option (Bool × (List Bool) × (List V)) :=
 Qa (
  if (decide (a3 ≥ 0)) = true then (
   some (decide (a3 < ((l0.length:Nat):Int)))
  ) else (
   some false
  )
 ) fun s =>
 if (a2 == 1) = true then (
  some (true,l0,l1)
 ) else (
  if (a2 == 4) = true then (
   some ((decide ((⟨a4,a5,a6⟩ : V) = (⟨a7,a8,a9⟩ : V))),l0,l1)
  ) else (
   if (a2 == 3) = true then (
    if s = true then (
     gd (0 ≤ a3) <|
     Qa (l0[a3.toNat]?) fun aE =>
     if aE = true then (
      gd (0 ≤ a3) <|
      Qa (l1[a3.toNat]?) fun aF =>
      some ((decide (aF = (⟨a7,a8,a9⟩ : V))),l0,l1)
     ) else (
      some (false,l0,l1)
     )
    ) else (
     some (false,l0,l1)
    )
   ) else (
    if (a2 == 2) = true then (
     Qa (Q47 N s a3 l0 l1 a7 a8 a9
     ) fun (z,a0) =>
     some (s,z,a0)
    ) else (
     some (false,l0,l1)
    )
   )
  )
 )
def Q6x (N:Nat) (s:Bool) (a1:Int) (z:Int) (l2:List Q4D) (a0:List V) (a5:List Bool) (a6:List V):Option (Bool) :=
 if (!s) = true then (
  some true
 ) else (
  if (a1 != z) = true then (
   some true
  ) else (
   if (l2.length != a0.length) = true then (
    some true
   ) else (
    Qa (Q54 N a5 a6) fun a7 =>
    some (!a7)
   )
  )
 )
def Q3d (N:Nat) (l2:List Q4D) (aA:List V):(Nat × (List Bool) × (List V)) → Option ((Nat × (List Bool) × (List V)) ⊕ (((List Bool) × (List V)) ⊕ ((List Bool) × (List V) × Bool))):=fun (z,a0,a1) =>
 if (decide (z < l2.length)) = true then (
  Qa (l2[z]?) fun a5 =>
  Qa (aA[z]?) fun a6 =>
  Qa (Q3P N a0 a1 a5.k a5.var a5.v.k a5.v.n a5.v.s a6.k a6.n a6.s) fun (a7,a8,a9) =>
  if (!a7) = true then (
   some (.inr (.inr ([],[],false)))
  ) else (
   gd (z + 1 ≤ 9223372036854775807) <|
   some (.inl (z + 1,a8,a9))
  )
 ) else (
  some (.inr (.inl (a0,a1)))
 )
def Q3H (N:Nat) (a0:Int) (a1:Int) (l2:List Q4D) (_:Int) (_:Int) (_:Int) (_:ByteArray) (_:Int) (_:Int) (_:List Qm) (_:Int) (aE:Int) (aD:List V) (aA:List Bool) (aB:List V):Option ((List Bool) × (List V) × Bool) :=
 Qa (
  if (a0 == 1) = true then (
   some true
  ) else (
   some (a0 == 2)
  )
 ) fun aC =>
 Qa (Q6x N aC a1 aE l2 aD aA aB
 ) fun a9 =>
 if a9 = true then (
  some ([],[],false)
 ) else (
  Qa (Q9G N aA aB) fun _ =>
  Q2J (
   Q1g (Q3d N l2 aD) N (0,aA,aB)
  ) fun (s,z) =>
  some (s,z,true)
 )
def Q7C (N:Nat) (a0:Int) (a1:Int) (l2:List V) (a3:Int) (a4:Int) (l5:List Q4D) (a6:Int) (a7:Int) (a8:Int) (a9:ByteArray) (z:Int) (a5:Int) (aA:List Qm) (aB:List Bool) (aC:List V):Option (Bool) :=
 Qa (Q3H N a3 a4 l5 a6 a7 a8 a9 z a5 aA a0 a1 l2 aB aC) fun (_,_,s) =>
 some s
def Q2P (N:Nat) (l0:List QE) (a1:Int) (a2:Int) (l3:List Q4D) (a4:Int) (a5:Int) (a6:Int) (a7:ByteArray) (a8:Int) (a9:Int) (a0:List Qm) (aA:List Bool) (aB:List V):Nat → Option (Nat ⊕ (Unit ⊕ Int)):=fun s =>
 if (decide (s < l0.length)) = true then (
  Qa (l0[s]?) fun z =>
  Qa (Q7C N z.id z.ty z.args a1 a2 l3 a4 a5 a6 a7 a8 a9 a0 aA aB) fun aC =>
  if aC = true then (
   some (.inr (.inr ((s:Nat):Int)))
  ) else (
   gd (s + 1 ≤ 9223372036854775807) <|
   some (.inl (s + 1))
  )
 ) else (
  some (.inr (.inl ()))
 )
def Q4x (N:Nat) (l0:List QE) (a1:Int) (a2:Int) (l3:List Q4D) (a4:Int) (a5:Int) (a6:Int) (a7:ByteArray) (a8:Int) (a9:Int) (s:List Qm) (z:List Bool) (a0:List V):Option (Int) :=
 Q2J (
  Q1g (Q2P N l0 a1 a2 l3 a4 a5 a6 a7 a8 a9 s z a0) N 0
 ) fun _ =>
 some (-1)
def Q3B (N:Nat) (l0:List QE) (a1:Int) (a2:Int) (l3:List Q4D) (a4:Int) (a5:Int) (a6:Int) (a7:ByteArray) (a8:Int) (a9:Int) (s:List Qm) (z:List Bool) (a0:List V):Option (Bool) :=
 Qa (Q4x N l0 a1 a2 l3 a4 a5 a6 a7 a8 a9 s z a0) fun v7 =>
 some (decide (v7 ≥ 0))
def Q55 (N:Nat) (a0:Int) (a1:Int) (l2:List Q4D) (a3:Int) (a4:Int) (a5:Int) (a6:ByteArray) (a7:Int) (a8:Int) (l9:List Qm) (s:List Bool) (z:List V) (a9:List QE):Option (Bool) :=
 Qa (Q3B N a9 a0 a1 l2 a3 a4 a5 a6 a7 a8 l9 s z) fun v9 =>
 some v9
def Q5F (_:Nat) (z:Int) (s:Int):Option (Int ⊕ ((Int × (List Qu)) ⊕ Unit)) :=
 if (decide (z > 0)) = true then (
  gd (-9223372036854775808 ≤ s - 1 ∧ s - 1 ≤ 9223372036854775807) <|
  if (decide ((s - 1) < 0)) = true then (
   some (.inr (.inr ()))
  ) else (
   some (.inl (s - 1))
  )
 ) else (
  some (.inl s)
 )
def Q4d (N:Nat) (l7:List QE) (aC:Nat) (a0:QK) (l0:List Bool) (l1:List V) (a5:List Bool) (a6:List V) (a7:List Int) (a1:Int) (z:List Qu) (l8:List Int) (aD:Int) (rc:(List Bool) → (List V) → ByteArray → Int → Int → (List QK) → (List Q17) → (List QE) → (List Int) → Int → (List Qu) → Int → Int → Option ((Int × (List Qu)) ⊕ Unit)) (a2:ByteArray) (a3:Int) (a4:Int) (l5:List QK) (l6:List Q17) (aF:Int):Option (((List Bool) × (List V) × (List Int) × Int × (List Qu)) ⊕ ((Nat × (List Bool) × (List V) × (List Int) × Int × (List Qu)) ⊕ (((List Bool) × (List V) × (List Int) × Int × (List Qu)) ⊕ ((Int × (List Qu)) ⊕ Unit)))) :=
 Qa (l7[aC]?) fun a8 =>
 Qa (Q3H N a0.kind a0.type a0.args a0.test.kind a0.test.value.k a0.test.value.n a0.test.value.s a0.test.var a0.test.op a0.test.kids a8.id a8.ty a8.args l0 l1) fun (a9,aA,aE) =>
 if (!aE) = true then (
  some (.inl (a5,a6,a7,a1,z))
 ) else (
  gd (l8.length ≤ l8.length ∧ l8.length ≤ l8.length) <|
  gd ((l8.take l8.length).length + ([a8.id] : List Int).length ≤ 17592186044416) <|
  gd (-9223372036854775808 ≤ aD + 1 ∧ aD + 1 ≤ 9223372036854775807) <|
  Qa (rc a9 aA a2 a3 a4 l5 l6 l7 ((l8.take l8.length) ++ [a8.id]) a1 z aF (aD + 1)) fun
  | .inl (v107,v107_1)=>(
  some (.inl (a9,aA,(l8.take l8.length) ++ [a8.id],v107,v107_1))
  )
  | .inr _=>(
  some (.inr (.inr (.inr (.inr ()))))
  )
 )
def Q21 (N:Nat) (l7:List QE) (aC:QK) (l0:List Bool) (l1:List V) (l8:List Int) (aD:Int) (rc:(List Bool) → (List V) → ByteArray → Int → Int → (List QK) → (List Q17) → (List QE) → (List Int) → Int → (List Qu) → Int → Int → Option ((Int × (List Qu)) ⊕ Unit)) (a2:ByteArray) (a3:Int) (a4:Int) (l5:List QK) (l6:List Q17) (aE:Int):(Nat × (List Bool) × (List V) × (List Int) × Int × (List Qu)) → Option ((Nat × (List Bool) × (List V) × (List Int) × Int × (List Qu)) ⊕ (((List Bool) × (List V) × (List Int) × Int × (List Qu)) ⊕ ((Int × (List Qu)) ⊕ Unit))):=fun (a6,a0,a1,a5,a7,s) =>
 if (decide (a6 < l7.length)) = true then (
  Q2J (Q4d N l7 a6 aC l0 l1 a0 a1 a5 a7 s l8 aD rc a2 a3 a4 l5 l6 aE
  ) fun (a8,a9,aA,aB,z) =>
  gd (a6 + 1 ≤ 9223372036854775807) <|
  some (.inl (a6 + 1,a8,a9,aA,aB,z))
 ) else (
  some (.inr (.inl (a0,a1,a5,a7,s)))
 )
def Q2o (N:Nat) (rc:(List Bool) → (List V) → ByteArray → Int → Int → (List QK) → (List Q17) → (List QE) → (List Int) → Int → (List Qu) → Int → Int → Option ((Int × (List Qu)) ⊕ Unit)) (l0:List Bool) (l1:List V) (a2:ByteArray) (a3:Int) (a4:Int) (l5:List QK) (l6:List Q17) (l7:List QE) (l8:List Int) (a9:Int) (a6:List Qu) (a8:Int) (a5:Int):Option ((Int × (List Qu)) ⊕ Unit) :=
 Q2J (Q5F N a5 a9
 ) fun z =>
 if (a5 == ((l5.length:Nat):Int)) = true then (
  Qa (Q8Y N l8 l1 a6 a8) fun _ =>
  some (.inl (z,(a6 ++ [(⟨a8,l8⟩ : Qu)])))
 ) else (
  gd (0 ≤ a5) <|
  Qa (l5[a5.toNat]?) fun a1 =>
  if (a1.kind == 3) = true then (
   Qa (Q2d N a1.test.kind a1.test.value.k a1.test.value.n a1.test.value.s a1.test.var a1.test.op a1.test.kids l1) fun (aB,aC,_,aD) =>
   Qa (
    if (aD == 0) = true then (
     if (aB == 1) = true then (
      some (aC != 0)
     ) else (
      some false
     )
    ) else (
     some false
    )
   ) fun aA =>
   if aA = true then (
    gd (-9223372036854775808 ≤ a5 + 1 ∧ a5 + 1 ≤ 9223372036854775807) <|
    Qa (rc l0 l1 a2 a3 a4 l5 l6 l7 l8 z a6 a8 (a5 + 1)) fun
    | .inl (v145,v145_1)=>(
    some (.inl (v145,v145_1))
    )
    | .inr _=>(
    some (.inr ())
    )
   ) else (
    some (.inl (z,a6))
   )
  ) else (
   if (a1.kind == 2) = true then (
    Qa (Q55 N a1.kind a1.type a1.args a1.test.kind a1.test.value.k a1.test.value.n a1.test.value.s a1.test.var a1.test.op a1.test.kids l0 l1 l7) fun aL =>
    if (!aL) = true then (
     gd (-9223372036854775808 ≤ a5 + 1 ∧ a5 + 1 ≤ 9223372036854775807) <|
     Qa (rc l0 l1 a2 a3 a4 l5 l6 l7 l8 z a6 a8 (a5 + 1)) fun
     | .inl (v162,v162_1)=>(
     some (.inl (v162,v162_1))
     )
     | .inr _=>(
     some (.inr ())
     )
    ) else (
     some (.inl (z,a6))
    )
   ) else (
    Q2J (
     Q1g (Q21 N l7 a1 l0 l1 l8 a5 rc a2 a3 a4 l5 l6 a8) N (0,l0,l1,l8,z,a6)
    ) fun (_,_,_,a7,a0) =>
    some (.inl (a7,a0))
   )
  )
 )
def Q2e:Nat → (List Bool) → (List V) → ByteArray → Int → Int → (List QK) → (List Q17) → (List QE) → (List Int) → Int → (List Qu) → Int → Int → Option ((Int × (List Qu)) ⊕ Unit)
 | 0=>fun _=>fun _=>fun _=>fun _=>fun _=>fun _=>fun _=>fun _=>fun _=>fun _=>fun _=>fun _=>fun _=>none
 | N + 1=>Q2o N (Q2e N)
def Q3w (N:Nat) (l1:List Qh) (l2:List QE):(Nat × Int × (List Qu)) → Option ((Nat × Int × (List Qu)) ⊕ ((List Qu) ⊕ (Unit ⊕ (List Qu)))):=fun (z,a6,s) =>
 if (decide (z < l1.length)) = true then (
  Qa (l1[z]?) fun a0 =>
  Qa (Q46 N a0.vars) fun (a1,a5) =>
  Qa (Q2e N a1 a5 a0.name a0.salience a0.vars a0.conds a0.acts l2 ([] : List Int) a6 s ((z:Nat):Int) 0) fun
  | .inl (v33,v33_1)=>(
  gd (z + 1 ≤ 9223372036854775807) <|
  some (.inl (z + 1,v33,v33_1))
  )
  | .inr _=>(
  some (.inr (.inr (.inl ())))
  )
 ) else (
  some (.inr (.inl s))
 )
def Q7j (N:Nat) (_:List Qk) (z:List Qh) (l2:List QE) (l3:List Qu):Option (Unit ⊕ (List Qu)) :=
 Q2J (
  Q1g (Q3w N z l2) N (0,4096,l3)
 ) fun s =>
 some (.inr s)
def Q53 (N:Nat) (z:List Qk) (l1:List Qh) (l2:List QE):Option ((List Qu) × Nat) :=
 Qa (
  Qa (Q6V N z l1) fun v9 =>
  if (!v9) = true then (
   some true
  ) else (
   Qa (Q6X N z l1 l2) fun a1 =>
   some (!a1)
  )
 ) fun s =>
 if s = true then (
  some ([],2)
 ) else (
  Qa (Q7j N z l1 l2 []) fun
  | .inl _=>(
  some ([],204)
  )
  | .inr v20=>(
  some (v20,0)
  )
 )
def Q7T (_:Nat) (_:Int):Option (Unit) :=
 some ()
def Q8h (N:Nat) (z:Int) (s:Int):Option (Int) :=
 Qa (Q7T N z) fun _ =>
 Qa (Q7T N s) fun _ =>
 if (z != z) = true then (
  if (s != s) = true then (
   some 0
  ) else (
   some (-1)
  )
 ) else (
  if (s != s) = true then (
   some 1
  ) else (
   if (decide (z < s)) = true then (
    some (-1)
   ) else (
    if (decide (z > s)) = true then (
     some 1
    ) else (
     some 0
    )
   )
  )
 )
def Q8i (N:Nat) (s:Int) (_:Int) (_:List V) (a3:Int):Option (Int) :=
 Qa (Q8h N s a3) fun z =>
 some z
def Q3z (N:Nat) (l0:List QE) (a1:Int):(Int × Int) → Option ((Int × Int) ⊕ Int):=fun (s,z) =>
 if (decide (z < s)) = true then (
  gd (-9223372036854775808 ≤ z + s ∧ z + s ≤ 9223372036854775807) <|
  gd (0 ≤ IntKind.wrap .i64 (Int.fdiv (IntKind.wrap .u64 (z + s)) (2 ^ (1)))) <|
  Qa (l0[(IntKind.wrap .i64 (Int.fdiv (IntKind.wrap .u64 (z + s)) (2 ^ (1)))).toNat]?) fun a0 =>
  Qa (Q8i N a0.id a0.ty a0.args a1) fun a5 =>
  if (decide (a5 < 0)) = true then (
   gd (-9223372036854775808 ≤ (IntKind.wrap .i64 (Int.fdiv (IntKind.wrap .u64 (z + s)) (2 ^ (1)))) + 1 ∧ (IntKind.wrap .i64 (Int.fdiv (IntKind.wrap .u64 (z + s)) (2 ^ (1)))) + 1 ≤ 9223372036854775807) <|
   some (.inl (s,(IntKind.wrap .i64 (Int.fdiv (IntKind.wrap .u64 (z + s)) (2 ^ (1)))) + 1))
  ) else (
   some (.inl (IntKind.wrap .i64 (Int.fdiv (IntKind.wrap .u64 (z + s)) (2 ^ (1))),z))
  )
 ) else (
  some (.inr z)
 )
def Q4m (N:Nat) (l0:List QE) (a1:Int):Option (Int × Bool) :=
 Qa (
  Q1g (Q3z N l0 a1) N (((l0.length:Nat):Int),0)
 ) fun s =>
 if (decide (s < ((l0.length:Nat):Int))) = true then (
  gd (0 ≤ s) <|
  Qa (l0[s.toNat]?) fun z =>
  Qa (Q8i N z.id z.ty z.args a1) fun a5 =>
  some (s,a5 == 0)
 ) else (
  some (s,false)
 )
def QbM (N:Nat) (l0:List Qk) (s:List Qh) (l4:List QE) (a2:Int):Option (Bool) :=
 Qa (Q6V N l0 s) fun z =>
 if (!z) = true then (
  some true
 ) else (
  Qa (Q6X N l0 s l4) fun a0 =>
  if (!a0) = true then (
   some true
  ) else (
   if (decide (a2 < 0)) = true then (
    some true
   ) else (
    some (decide (a2 ≥ ((s.length:Nat):Int)))
   )
  )
 )
def QbN (N:Nat) (aI:Qh) (a8:Nat) (a0:List V) (a5:Nat) (a1:List Bool) (l4:List QE) (l3:List Int):Option ((Nat × (List Bool) × (List V)) ⊕ ((Nat × Nat × (List Bool) × (List V)) ⊕ ((Nat × (List Bool) × (List V)) ⊕ ((List V) × Bool)))) :=
 Qa (aI.conds[a8]?) fun z =>
 if (z.kind == 3) = true then (
  Qa (Q2d N z.test.kind z.test.value.k z.test.value.n z.test.value.s z.test.var z.test.op z.test.kids a0) fun (a9,aA,_,aB) =>
  Qa (
   if (aB != 0) = true then (
    some true
   ) else (
    if (a9 != 1) = true then (
     some true
    ) else (
     some (aA == 0)
    )
   )
  ) fun a6 =>
  if a6 = true then (
   some (.inr (.inr (.inr ([],false))))
  ) else (
   some (.inl (a5,a1,a0))
  )
 ) else (
  if (z.kind == 2) = true then (
   Qa (Q55 N z.kind z.type z.args z.test.kind z.test.value.k z.test.value.n z.test.value.s z.test.var z.test.op z.test.kids a1 a0 l4) fun aH =>
   if aH = true then (
    some (.inr (.inr (.inr ([],false))))
   ) else (
    some (.inl (a5,a1,a0))
   )
  ) else (
   if (decide (l3.length ≤ a5)) = true then (
    some (.inr (.inr (.inr ([],false))))
   ) else (
    Qa (l3[a5]?) fun aL =>
    Qa (Q4m N l4 aL) fun (a7,aC) =>
    if (!aC) = true then (
     some (.inr (.inr (.inr ([],false))))
    ) else (
     gd (0 ≤ a7) <|
     Qa (l4[a7.toNat]?) fun aD =>
     Qa (Q3H N z.kind z.type z.args z.test.kind z.test.value.k z.test.value.n z.test.value.s z.test.var z.test.op z.test.kids aD.id aD.ty aD.args a1 a0) fun (aE,aF,aG) =>
     if (!aG) = true then (
      some (.inr (.inr (.inr ([],false))))
     ) else (
      gd (a5 + 1 ≤ 9223372036854775807) <|
      some (.inl (a5 + 1,aE,aF))
     )
    )
   )
  )
 )
def Q9p (N:Nat) (a8:Qh) (l4:List QE) (l3:List Int):(Nat × Nat × (List Bool) × (List V)) → Option ((Nat × Nat × (List Bool) × (List V)) ⊕ ((Nat × (List Bool) × (List V)) ⊕ ((List V) × Bool))):=fun (a0,a6,s,z) =>
 if (decide (a0 < a8.conds.length)) = true then (
  Q2J (QbN N a8 a0 z a6 s l4 l3
  ) fun (a7,a1,a5) =>
  gd (a0 + 1 ≤ 9223372036854775807) <|
  some (.inl (a0 + 1,a7,a1,a5))
 ) else (
  some (.inr (.inl (a6,s,z)))
 )
def Qbj (N:Nat) (l0:List Qk) (l1:List Qh) (a2:Int) (l3:List Int) (l4:List QE):Option ((List V) × Bool) :=
 Qa (QbM N l0 l1 l4 a2
 ) fun z =>
 if z = true then (
  some ([],false)
 ) else (
  gd (0 ≤ a2) <|
  Qa (l1[a2.toNat]?) fun a7 =>
  Qa (Q46 N a7.vars) fun (a5,a6) =>
  Q2J (
   Q1g (Q9p N a7 l4 l3) N (0,0,a5,a6)
  ) fun (a0,_,s) =>
  if (decide (a0 < l3.length)) = true then (
   some ([],false)
  ) else (
   some (s,true)
  )
 )
def Q5j (N:Nat):Option (Bool) :=
 Qa (Q4u N) fun (a7,a8) =>
 Qa (Q3f N 1 1 1) fun _ =>
 Qa (Q3f N 2 1 2) fun _ =>
 Qa (Q53 N a7 a8 [(⟨1,0,[(⟨1,1,(⟨#[]⟩ : ByteArray)⟩ : V),(⟨1,1,(⟨#[]⟩ : ByteArray)⟩ : V)]⟩ : QE),(⟨2,0,[(⟨1,1,(⟨#[]⟩ : ByteArray)⟩ : V),(⟨1,2,(⟨#[]⟩ : ByteArray)⟩ : V)]⟩ : QE)]) fun (s,a0) =>
 gd ((a0 != 0) = false) <|
 gd ((s.length != 2) = false) <|
 Qa (s[1]?) fun aA =>
 gd ((aA.ids.length != 2) = false) <|
 Qa (s[1]?) fun aB =>
 Qa (aB.ids[1]?) fun aC =>
 gd ((aC != 2) = false) <|
 Qa (Q4u N) fun (a1,a5) =>
 Qa (s[1]?) fun a9 =>
 Qa (Q3f N 1 1 1) fun _ =>
 Qa (Q3f N 2 1 2) fun _ =>
 Qa (Qbj N a1 a5 a9.rule a9.ids [(⟨1,0,[(⟨1,1,(⟨#[]⟩ : ByteArray)⟩ : V),(⟨1,1,(⟨#[]⟩ : ByteArray)⟩ : V)]⟩ : QE),(⟨2,0,[(⟨1,1,(⟨#[]⟩ : ByteArray)⟩ : V),(⟨1,2,(⟨#[]⟩ : ByteArray)⟩ : V)]⟩ : QE)]) fun (z,a6) =>
 gd ((a6) = true) <|
 gd ((z.length == 2) = true) <|
 Qa (z[0]?) fun aD =>
 gd ((aD.n == 1) = true) <|
 Qa (z[1]?) fun aE =>
 some (aE.n == 2)
def Q22 (_:Nat) (l0:List Qm) (a1:Int) (rc:(List Qm) → Int → Option (Int)):(Nat × Int) → Option ((Nat × Int) ⊕ Int):=fun (z,s) =>
 Qa (
  if (decide (z < l0.length)) = true then (
   some (decide (s ≤ a1))
  ) else (
   some false
  )
 ) fun a0 =>
 if a0 = true then (
  gd (-9223372036854775808 ≤ s + 1 ∧ s + 1 ≤ 9223372036854775807) <|
  Qa (l0[z]?) fun a7 =>
  gd (-9223372036854775808 ≤ a1 - s ∧ a1 - s ≤ 9223372036854775807) <|
  gd (-9223372036854775808 ≤ (a1 - s) - 1 ∧ (a1 - s) - 1 ≤ 9223372036854775807) <|
  Qa (rc a7.kids ((a1 - s) - 1)) fun a5 =>
  gd (-9223372036854775808 ≤ (s + 1) + a5 ∧ (s + 1) + a5 ≤ 9223372036854775807) <|
  gd (z + 1 ≤ 9223372036854775807) <|
  some (.inl (z + 1,(s + 1) + a5))
 ) else (
  some (.inr s)
 )
def Q2q (N:Nat) (rc:(List Qm) → Int → Option (Int)) (l0:List Qm) (z:Int):Option (Int) :=
 Qa (
  Q1g (Q22 N l0 z rc) N (0,0)
 ) fun s =>
 gd (-9223372036854775808 ≤ z + 1 ∧ z + 1 ≤ 9223372036854775807) <|
 some (minI s (z + 1))
def Q1Q:Nat → (List Qm) → Int → Option (Int)
 | 0=>fun _=>fun _=>none
 | N + 1=>Q2q N (Q1Q N)
def Q2y (N:Nat) (a5:Qh):(Nat × Int) → Option ((Nat × Int) ⊕ Int):=fun (z,s) =>
 Qa (
  if (decide (z < a5.conds.length)) = true then (
   some (decide (s < 400))
  ) else (
   some false
  )
 ) fun a1 =>
 if a1 = true then (
  Qa (a5.conds[z]?) fun a0 =>
  gd (-9223372036854775808 ≤ s + ((a0.args.length:Nat):Int) ∧ s + ((a0.args.length:Nat):Int) ≤ 9223372036854775807) <|
  Qa (a5.conds[z]?) fun a7 =>
  Qa (Q1Q N [a7.test] 400) fun a6 =>
  gd (-9223372036854775808 ≤ (s + ((a0.args.length:Nat):Int)) + a6 ∧ (s + ((a0.args.length:Nat):Int)) + a6 ≤ 9223372036854775807) <|
  gd (z + 1 ≤ 9223372036854775807) <|
  some (.inl (z + 1,((s + ((a0.args.length:Nat):Int)) + a6)))
 ) else (
  some (.inr s)
 )
def Q2z (N:Nat) (a5:Qh):(Nat × Int) → Option ((Nat × Int) ⊕ Int):=fun (z,s) =>
 Qa (
  if (decide (z < a5.acts.length)) = true then (
   some (decide (s < 400))
  ) else (
   some false
  )
 ) fun a0 =>
 if a0 = true then (
  Qa (a5.acts[z]?) fun a6 =>
  Qa (Q1Q N a6.exprs 400) fun a1 =>
  gd (-9223372036854775808 ≤ s + a1 ∧ s + a1 ≤ 9223372036854775807) <|
  gd (z + 1 ≤ 9223372036854775807) <|
  some (.inl (z + 1,s + a1))
 ) else (
  some (.inr s)
 )
def Q5N (N:Nat) (l1:List Qh) (a1:Nat) (z:Int):Option (Int) :=
 Qa (l1[a1]?) fun s =>
 gd (-9223372036854775808 ≤ z + ((s.conds.length:Nat):Int) ∧ z + ((s.conds.length:Nat):Int) ≤ 9223372036854775807) <|
 gd (-9223372036854775808 ≤ (z + ((s.conds.length:Nat):Int)) + ((s.acts.length:Nat):Int) ∧ (z + ((s.conds.length:Nat):Int)) + ((s.acts.length:Nat):Int) ≤ 9223372036854775807) <|
 Qa (
  Q1g (Q2y N s) N (0,((z + ((s.conds.length:Nat):Int)) + ((s.acts.length:Nat):Int)))
 ) fun a0 =>
 Q1g (Q2z N s) N (0,a0)
def Q2x (N:Nat) (l1:List Qh):(Nat × Int) → Option ((Nat × Int) ⊕ Int):=fun (s,z) =>
 Qa (
  if (decide (s < l1.length)) = true then (
   some (decide (z < 400))
  ) else (
   some false
  )
 ) fun a0 =>
 if a0 = true then (
  Qa (Q5N N l1 s z
  ) fun a1 =>
  gd (s + 1 ≤ 9223372036854775807) <|
  some (.inl (s + 1,a1))
 ) else (
  some (.inr z)
 )
def Q2B (_:Nat) (l2:List QE) (a0:Nat):Nat → Option (Nat ⊕ (Unit ⊕ (Nat ⊕ (Unit ⊕ Bool)))):=fun z =>
 Qa (l2[a0]?) fun a1 =>
 if (decide (z < a1.args.length)) = true then (
  Qa (l2[a0]?) fun a5 =>
  Qa (a5.args[z]?) fun a6 =>
  if (decide (100 < a6.s.size)) = true then (
   some (.inr (.inr (.inr (.inr false))))
  ) else (
   gd (z + 1 ≤ 9223372036854775807) <|
   some (.inl (z + 1))
  )
 ) else (
  some (.inr (.inl ()))
 )
def Q2A (N:Nat) (l2:List QE):Nat → Option (Nat ⊕ (Unit ⊕ Bool)):=fun s =>
 if (decide (s < l2.length)) = true then (
  Q2J (
   Qa (l2[s]?) fun z =>
   if (decide (20 < z.args.length)) = true then (
    some (.inr (.inr (.inr false)))
   ) else (
    Q1g (Q2B N l2 s) N 0
   )
  ) fun _ =>
  gd (s + 1 ≤ 9223372036854775807) <|
  some (.inl (s + 1))
 ) else (
  some (.inr (.inl ()))
 )
def Q3Q (N:Nat) (l0:List Qk) (z:List Qh) (l2:List QE):Option (Bool) :=
 gd (l0.length + z.length ≤ 9223372036854775807) <|
 Qa (
  Q1g (Q2x N z) N (0,((l0.length + z.length:Nat):Int))
 ) fun s =>
 Q2J (
  Q1g (Q2A N l2) N 0
 ) fun _ =>
 if (decide (s < 400)) = true then (
  some (decide (l2.length ≤ 40))
 ) else (
  some false
 )
def Q56 (_:Nat) (a0:Int) (s:Int):Option (Int) :=
 if (decide (s < 1)) = true then (
  some 0
 ) else (
  gd (s ≠ 0) <|
  Qa (
   if (decide ((Int.tmod a0 s) < 0)) = true then (
    gd (-9223372036854775808 ≤ (Int.tmod a0 s) + s ∧ (Int.tmod a0 s) + s ≤ 9223372036854775807) <|
    some ((Int.tmod a0 s) + s)
   ) else (
    some (Int.tmod a0 s)
   )
  ) fun z =>
  some z
 )
def Q2U (_:Nat) (l0:List Int) (l1:List Int):Nat → Option (Nat ⊕ (Unit ⊕ Bool)):=fun s =>
 if (decide (s < l0.length)) = true then (
  Qa (l0[s]?) fun z =>
  Qa (l1[s]?) fun a0 =>
  if (z != a0) = true then (
   some (.inr (.inr false))
  ) else (
   gd (s + 1 ≤ 9223372036854775807) <|
   some (.inl (s + 1))
  )
 ) else (
  some (.inr (.inl ()))
 )
def Q3x (N:Nat) (s:List Int) (z:List Int):Option (Bool) :=
 if (s.length != z.length) = true then (
  some false
 ) else (
  Q2J (
   Q1g (Q2U N s z) N 0
  ) fun _ =>
  some true
 )
def Q3e (N:Nat) (z:Int) (l1:List Int) (a2:Int) (l3:List Int):Option (Bool) :=
 if (z == a2) = true then (
  Qa (Q3x N l1 l3) fun s =>
  some s
 ) else (
  some false
 )
def Q2F (N:Nat) (l0:List Qu) (l1:List Qu):Nat → Option (Nat ⊕ (Unit ⊕ Bool)):=fun s =>
 if (decide (s < l0.length)) = true then (
  Qa (l0[s]?) fun z =>
  Qa (l1[s]?) fun a0 =>
  Qa (Q3e N z.rule z.ids a0.rule a0.ids) fun a1 =>
  if (!a1) = true then (
   some (.inr (.inr false))
  ) else (
   gd (s + 1 ≤ 9223372036854775807) <|
   some (.inl (s + 1))
  )
 ) else (
  some (.inr (.inl ()))
 )
def Q34 (N:Nat) (s:List Qu) (z:List Qu):Option (Bool) :=
 if (s.length != z.length) = true then (
  some false
 ) else (
  Q2J (
   Q1g (Q2F N s z) N 0
  ) fun _ =>
  some true
 )
def Q1U (_:Nat) (a0:List Qu) (a6:Int):(Nat × (List Qu)) → Option ((Nat × (List Qu)) ⊕ (List Qu)):=fun (z,s) =>
 if (decide (z < a0.length)) = true then (
  Qa (
   Qa (a0[z]?) fun a7 =>
   if (a7.rule == a6) = true then (
    Qa (a0[z]?) fun a5 =>
    gd (s.length + ([(⟨0,a5.ids⟩ : Qu)]).length ≤ 4398046511104) <|
    some (s ++ ([(⟨0,a5.ids⟩ : Qu)]))
   ) else (
    some s
   )
  ) fun a1 =>
  gd (z + 1 ≤ 9223372036854775807) <|
  some (.inl (z + 1,a1))
 ) else (
  some (.inr s)
 )
def Q2L (N:Nat) (l0:List Qk) (l1:List Qh) (l2:List QE) (a3:Int):Option (Bool) :=
 Qa (Q5j N) fun aB =>
 if (!aB) = true then (
  some false
 ) else (
  Qa (
   Qa (Q3Q N l0 l1 l2) fun aC =>
   if (!aC) = true then (
    some true
   ) else (
    some (l1.length == 0)
   )
  ) fun z =>
  if z = true then (
   some true
  ) else (
   Qa (Q53 N l0 l1 l2) fun (a0,a1) =>
   if (a1 != 0) = true then (
    some true
   ) else (
    Qa (Q56 N a3 ((l1.length:Nat):Int)) fun a5 =>
    gd (0 ≤ a5) <|
    Qa (l1[a5.toNat]?) fun aD =>
    Qa (Q53 N l0 [aD] l2) fun (a6,a7) =>
    Qa (
     Q1g (Q1U N a0 a5) N (0,[])
    ) fun s =>
    if (a7 == 0) = true then (
     Qa (Q34 N s a6) fun aE =>
     some aE
    ) else (
     some false
    )
   )
  )
 )
def Q3R (N:Nat) (z:Int) (a1:Int) (a2:ByteArray):Option (Bool) :=
 if (z == 1) = true then (
  some (a2.toList == (⟨#[]⟩ : ByteArray).toList)
 ) else (
  if (z == 2) = true then (
   if (a1 == 0) = true then (
    Qa (Q2m N a2) fun s =>
    some s
   ) else (
    some false
   )
  ) else (
   some false
  )
 )
def Q27 (N:Nat) (s:Bool):Option (Int) :=
 if s = true then (
  Qa (Q2v N 1) fun _ =>
  some 1
 ) else (
  Qa (Q2v N 0) fun _ =>
  some 0
 )
def Q6y (_:Nat) (s:Int) (z:Int):Option (Bool) :=
 if (decide (s > 0)) = true then (
  gd (-9223372036854775808 ≤ 9223372036854775807 - s ∧ 9223372036854775807 - s ≤ 9223372036854775807) <|
  if (decide (z > (9223372036854775807 - s))) = true then (
   some true
  ) else (
   if (decide (s < 0)) = true then (
    gd (-9223372036854775808 ≤ -9223372036854775808 - s ∧ -9223372036854775808 - s ≤ 9223372036854775807) <|
    some (decide (z < (-9223372036854775808 - s)))
   ) else (
    some false
   )
  )
 ) else (
  if (decide (s < 0)) = true then (
   gd (-9223372036854775808 ≤ -9223372036854775808 - s ∧ -9223372036854775808 - s ≤ 9223372036854775807) <|
   some (decide (z < (-9223372036854775808 - s)))
  ) else (
   some false
  )
 )
def Q5X (N:Nat) (z:Int) (a1:Int):Option (Int × Bool) :=
 Qa (Q6y N a1 z
 ) fun s =>
 if s = true then (
  some (0,false)
 ) else (
  gd (-9223372036854775808 ≤ z + a1 ∧ z + a1 ≤ 9223372036854775807) <|
  some (z + a1,true)
 )
def Q68 (_:Nat) (a0:Int) (z:Int):Option (Int × Bool) :=
 Qa (
  if (a0 == 0) = true then (
   some true
  ) else (
   some (z == 0)
  )
 ) fun s =>
 if s = true then (
  some (0,true)
 ) else (
  if (a0 == -1) = true then (
   some (IntKind.wrap .i64 (0 - z),z != -9223372036854775808)
  ) else (
   if (z == -1) = true then (
    some (IntKind.wrap .i64 (0 - a0),a0 != -9223372036854775808)
   ) else (
    gd (z ≠ 0) <|
    some (IntKind.wrap .i64 (a0 * z),(IntKind.wrap .i64 (Int.tdiv (IntKind.wrap .i64 (a0 * z)) z)) == a0)
   )
  )
 )
def Q1S (N:Nat) (a0:Int) (s:Int) (a2:Int):Option (Int × Bool) :=
 if (a0 == 1) = true then (
  Qa (Q5X N s a2) fun (z,a5) =>
  some (z,a5)
 ) else (
  if (a0 == 2) = true then (
   if (a2 == -9223372036854775808) = true then (
    some (IntKind.wrap .i64 (s - a2),decide (s < 0))
   ) else (
    Qa (Q5X N s (IntKind.wrap .i64 (0 - a2))) fun (a6,a7) =>
    some (a6,a7)
   )
  ) else (
   if (a0 == 3) = true then (
    Qa (Q68 N s a2) fun (a8,a9) =>
    some (a8,a9)
   ) else (
    some (IntKind.wrap .i64 (0 - s),s != -9223372036854775808)
   )
  )
 )
def Q6Z (_:Nat) (z:Int):Option (Nat) :=
 Qa (
  if (z == 4) = true then (
   some true
  ) else (
   some (z == 11)
  )
 ) fun s =>
 if s = true then (
  some 1
 ) else (
  some 2
 )
def Q70 (N:Nat) (l1:List V) (z:Nat) (a1:Bool):Option (Bool ⊕ ((Nat × Bool) ⊕ (Bool ⊕ (Nat × Int × Nat)))) :=
 Qa (l1[z]?) fun a0 =>
 Qa (Q3R N a0.k a0.n a0.s) fun a5 =>
 if (!a5) = true then (
  some (.inr (.inr (.inr (0,0,2))))
 ) else (
  if a1 = true then (
   some (.inl true)
  ) else (
   Qa (l1[z]?) fun a6 =>
   some (.inl (a6.k == 2))
  )
 )
def Q71 (N:Nat) (l1:List V):(Nat × Bool) → Option ((Nat × Bool) ⊕ (Bool ⊕ (Nat × Int × Nat))):=fun (s,z) =>
 if (decide (s < l1.length)) = true then (
  Q2J (Q70 N l1 s z
  ) fun a0 =>
  gd (s + 1 ≤ 9223372036854775807) <|
  some (.inl (s + 1,a0))
 ) else (
  some (.inr (.inl z))
 )
def Q7Z (N:Nat) (a0:Int) (l1:List V):Option (Nat × Int × Nat) :=
 Qa (Q6Z N a0
 ) fun aC =>
 Qa (
  if (decide (a0 < 1)) = true then (
   some true
  ) else (
   if (decide (a0 > 11)) = true then (
    some true
   ) else (
    some (l1.length != aC)
   )
  )
 ) fun a8 =>
 if a8 = true then (
  some (0,0,2)
 ) else (
  Q2J (
   Q1g (Q71 N l1) N (0,false)
  ) fun aD =>
  Qa (l1[0]?) fun s =>
  gd (-9223372036854775808 ≤ ((l1.length:Nat):Int) - 1 ∧ ((l1.length:Nat):Int) - 1 ≤ 9223372036854775807) <|
  gd (0 ≤ ((l1.length:Nat):Int) - 1) <|
  Qa (l1[(((l1.length:Nat):Int) - 1).toNat]?) fun a1 =>
  Qa (
   if (a0 == 5) = true then (
    some true
   ) else (
    some (a0 == 6)
   )
  ) fun a9 =>
  if a9 = true then (
   Qa (Q27 N ((decide (s = a1)) == (a0 == 5))) fun aF =>
   some (1,aF,0)
  ) else (
   if aD = true then (
    some (0,0,301)
   ) else (
    if (a0 == 7) = true then (
     Qa (Q27 N (decide (s.n < a1.n))) fun aG =>
     some (1,aG,0)
    ) else (
     if (a0 == 8) = true then (
      Qa (Q27 N (decide (s.n ≤ a1.n))) fun aH =>
      some (1,aH,0)
     ) else (
      if (a0 == 9) = true then (
       if (s.n != 0) = true then (
        Qa (Q27 N (a1.n != 0)) fun a6 =>
        some (1,a6,0)
       ) else (
        Qa (Q27 N false) fun a6 =>
        some (1,a6,0)
       )
      ) else (
       if (a0 == 10) = true then (
        if (s.n != 0) = true then (
         Qa (Q27 N true) fun a7 =>
         some (1,a7,0)
        ) else (
         Qa (Q27 N (a1.n != 0)) fun a7 =>
         some (1,a7,0)
        )
       ) else (
        if (a0 == 11) = true then (
         Qa (Q27 N (s.n == 0)) fun aE =>
         some (1,aE,0)
        ) else (
         Qa (Q1S N a0 s.n a1.n) fun (z,aA) =>
         if (!aA) = true then (
          some (0,0,300)
         ) else (
          Qa (Q2v N z) fun _ =>
          some (1,z,0)
         )
        )
       )
      )
     )
    )
   )
  )
 )
def Q4v (_:Nat) (l6:List Qm) (rc:Int → Int → Int → ByteArray → Int → Int → (List Qm) → (List V) → Option (Int × Int × ByteArray × Nat)) (l7:List V):(Nat × (List V)) → Option ((Nat × (List V)) ⊕ ((List V) ⊕ ((Int × Int × ByteArray) ⊕ (Int × Int × ByteArray × Nat)))):=fun (a1,z) =>
 if (decide (a1 < l6.length)) = true then (
  Qa (l6[a1]?) fun a0 =>
  Qa (rc a0.kind a0.value.k a0.value.n a0.value.s a0.var a0.op a0.kids l7) fun (a5,a6,a7,a8) =>
  if (a8 != 0) = true then (
   some (.inr (.inr (.inr (0,0,(⟨#[]⟩ : ByteArray),a8))))
  ) else (
   gd (z.length + ([(⟨a5,a6,a7⟩ : V)]).length ≤ 4398046511104) <|
   gd (a1 + 1 ≤ 9223372036854775807) <|
   some (.inl (a1 + 1,(z ++ ([(⟨a5,a6,a7⟩ : V)]))))
  )
 ) else (
  some (.inr (.inl z))
 )
def Q84 (N:Nat) (a0:Int) (a1:Int) (a2:Int) (a3:ByteArray) (a4:Int) (l7:List V) (l6:List Qm) (rc:Int → Int → Int → ByteArray → Int → Int → (List Qm) → (List V) → Option (Int × Int × ByteArray × Nat)) (a5:Int):Option ((Int × Int × ByteArray) ⊕ (Int × Int × ByteArray × Nat)) :=
 if (a0 == 1) = true then (
  some (.inl (a1,a2,a3))
 ) else (
  if (a0 == 2) = true then (
   Qa (
    if (decide (a4 ≥ 0)) = true then (
     some (decide (a4 < ((l7.length:Nat):Int)))
    ) else (
     some false
    )
   ) fun a6 =>
   if a6 = true then (
    gd (0 ≤ a4) <|
    Qa (l7[a4.toNat]?) fun a7 =>
    some (.inl (a7.k,a7.n,a7.s))
   ) else (
    some (.inl (0,0,(⟨#[]⟩ : ByteArray)))
   )
  ) else (
   if (a0 == 3) = true then (
    Q2J (
     Q1g (Q4v N l6 rc l7) N (0,[])
    ) fun z =>
    Qa (Q7Z N a5 z) fun (a8,a9,aA) =>
    some (.inr (((a8:Nat):Int),a9,(⟨#[]⟩ : ByteArray),aA))
   ) else (
    some (.inl (0,0,(⟨#[]⟩ : ByteArray)))
   )
  )
 )
def Q6J (N:Nat) (rc:Int → Int → Int → ByteArray → Int → Int → (List Qm) → (List V) → Option (Int × Int × ByteArray × Nat)) (a0:Int) (a1:Int) (a2:Int) (a3:ByteArray) (a4:Int) (a5:Int) (l6:List Qm) (l7:List V):Option (Int × Int × ByteArray × Nat) :=
 Q2J (Q84 N a0 a1 a2 a3 a4 l7 l6 rc a5
 ) fun (s,z,a6) =>
 Qa (Q3R N s z a6) fun a7 =>
 if (!a7) = true then (
  some (0,0,(⟨#[]⟩ : ByteArray),2)
 ) else (
  some (s,z,a6,0)
 )
def Q5K:Nat → Int → Int → Int → ByteArray → Int → Int → (List Qm) → (List V) → Option (Int × Int × ByteArray × Nat)
 | 0=>fun _=>fun _=>fun _=>fun _=>fun _=>fun _=>fun _=>fun _=>none
 | N + 1=>Q6J N (Q5K N)
end Go.Proofs.YtbgodclhmgmcgaaGreatDoor
